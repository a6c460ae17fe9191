/- The entry of a slot; whether it is empty; the first one that is; patches. -/
import Derived.Test.YtbbkpmbepljhkaaSBucket
set_option linter.all false
namespace Go.Proofs.Ytbbkpmbepljhkaa
open Go Go.Esc

def slotB (b : List UInt8) (k : Nat) : List UInt8 := (b.drop (slotA k)).take 32
def nameB (b : List UInt8) (k : Nat) : List UInt8 := (b.drop (slotA k + 2)).take 25
def inoB (b : List UInt8) (k : Nat) : Int := fieldN b (slotA k) 2
abbrev Ent := List UInt8 × Int
def isE (b : List UInt8) (k : Nat) (s : List UInt8) : Bool := mayE s (inoB b k) && decide (entB s (inoB b k) = slotB b k)
def readE (b : List UInt8) (k : Nat) : Option Ent := (unpackB (nameB b k)).bind fun s => if isE b k s = true then some (s, inoB b k) else none
def entC : Option Ent → List Cell
  | none => [.s [], .i .i64 0]
  | some e => [.s e.1, .i .i64 e.2]

theorem slotB_length {b : List UInt8} {k : Nat} (hb : b.length = 256) (hk : k < 7) : (slotB b k).length = 32 := by simp [slotB, slotA, hb]; omega
theorem nameB_length {b : List UInt8} {k : Nat} (hb : b.length = 256) (hk : k < 7) : (nameB b k).length = 25 := by simp [nameB, slotA, hb]; omega
theorem unpackB_fine {l s : List UInt8} (h : unpackB l = some s) : fineName s = true := by
  unfold unpackB at h
  split at h
  · split at h
    · rename_i hc
      cases h; exact hc.1
    · cases h
  · cases h

def cpN (l : List UInt8) (i : Nat) : List UInt8 := l.take i ++ zeros (25 - i)
theorem cpN_length {l : List UInt8} {i : Nat} (hl : l.length = 25) (hi : i ≤ 25) : (cpN l i).length = 25 := by simp [cpN, zeros, hl]; omega
theorem cpN_set {l : List UInt8} {i : Nat} (hl : l.length = 25) (hi : i < 25) : (cpN l i).set i l[i] = cpN l (i + 1) := by
  unfold cpN
  have hlen : (List.take i l).length = i := by simp; omega
  rw [List.set_append_right _ _ (by omega), hlen, Nat.sub_self, List.take_succ_eq_append_getElem (by omega), List.append_assoc]
  refine congrArg (List.take i l ++ ·) ?_
  have e : 25 - i = (25 - (i + 1)) + 1 := by omega
  rw [e]
  unfold zeros
  rw [List.replicate_succ, List.set_cons_zero]; rfl
theorem cpN_all {l : List UInt8} (hl : l.length = 25) : cpN l 25 = l := by simp [cpN, zeros, List.take_of_length_le, hl]

theorem cut_slot {b : List UInt8} {k : Nat} : cutB b (slotA k : Nat) 32 = slotB b k := by
  unfold cutB slotB
  rw [if_pos (by omega)]
  simp

theorem at_slot {b : List UInt8} {k : Nat} (hk : k < 7) : ((atN b (slotA k : Nat) 2 : Nat) : Int) = inoB b k := by
  unfold atN inoB fieldN slotA
  rw [if_pos ⟨by omega, thereI_true.2 (by omega)⟩]
  simp only [Int.toNat_natCast]
  rfl

theorem read_loop {b : List UInt8} {k q : Nat} {g : Heap} (hb : b.length = 256) (hk : k < 7) : ∀ e i m : Nat, i + e = 25 → e < m →
    ∃ h', bucket_read_l0 q m (.c (.i .i64 (k : Int))) (.c (.p g.length 0)) (.c (.p (g.length + 1) 0)) (.c (.p (g.length + 2) 0)) (.c (.i .i64 (i : Int))) (g ++ [some (Row.mk (encB b) true), some (Row.mk [.s [], .i .i64 0] true), some (Row.mk (encB (cpN (nameB b k) i)) true)]) =
      some (.t [.a (entC (readE b k)), .c (.b (readE b k).isSome)], h')
  | e, i, 0, _, hm => by omega
  | 0, i, m + 1, hi, hm => by
    have e0 : i = 25 := by omega
    subst e0
    have hnl := nameB_length hb hk
    rw [cpN_all hnl]
    have c0 : ¬ ((25 : Nat) : Int) < 25 := by omega
    have hbl : (encB b).length = 256 := by rw [encB_length, hb]
    have hnc : (encB (nameB b k)).length = 25 := by rw [encB_length, hnl]
    have hU := fun h => unpack_eq hnl h
    have hF := fun h => bucket_first_eq (h := h) hk
    have hA := fun h => num_At_eq (h := h) hb (a := (slotA k : Nat)) (w := 2)
    rw [at_slot hk] at hA
    have ef : ∀ (s : List UInt8) (n : Int), afill [Cell.s [], .i .i64 0] [(0, 1, .c (.s s)), (1, 1, .c (.i .i64 n))] = some [.s s, .i .i64 n] := fun _ _ => rfl
    have ef0 : afill [Cell.s [], .i .i64 0] [] = some [.s [], .i .i64 0] := rfl
    rw [bucket_read_l0_eq]
    unfold readE
    cases hu : unpackB (nameB b k) with
    | none =>
      rw [hu] at hU
      simp only [Option.getD_none, Option.isSome_none, Bool.false_eq_true, if_false] at hU
      generalize inoB b k = n at *
      generalize encB (nameB b k) = z at *
      generalize encB b = y at *
      exact ⟨_, by simp only [afAddr_p, List.append_nil, if_true, if_false, bnd_some, mp_some, cnd_t, cnd_f, gd_no, gd_tt, gd_tf, gd_ft, gd_ff, alenS_s, alen_sl, alen_ns, abin_add, abin_sub, abin_mul, abin_eql, abin_neq, abin_lss, abin_leq, abin_gtr, abin_geq, abin_seql, abin_sneq, abin_slss, aun_not, aun_neg, agn_some, aeqN_nf, aeqN_f, aeqN_np, aeqN_p, anilc_p, aeqB_t, aeqB_f, aconv_i, apick_b, cond_true, cond_false, decide_true, decide_false, Bool.not_true, Bool.not_false, aext_t, ofPart_c, ofPart_a, part?_c, part?_a, cells?_c, cells?_a, tupN_2, tupN_3, Option.map_some, Option.some.injEq, List.getElem?_cons_zero, List.getElem?_cons_succ, not_true_eq_false, not_false_eq_true, quiet_same, bytesI_length, Option.join_some, List.append_assoc, List.cons_append, List.nil_append, List.length_append, List.length_cons, List.length_nil, Nat.zero_add, Nat.add_zero, rd_at, rd_at0, set_at, set_at0, List.set_cons_zero, List.set_cons_succ, ne_eq, decide_not, quiet_ext, newOk_some, List.cons_prefix_cons, List.nil_prefix, List.drop_succ_cons, List.drop_zero, List.all_cons, List.all_nil, Bool.and_true, true_and, and_true, aloadN_at, aloadN_at0, aload1_at, aload1_at0, astoreN_at, astoreN_at0, astore1_at, astore1_at0, aslA_at, aslA_at0, ldN_all, ld1_row, stN_all, st1_row, slr_all, Nat.reduceAdd, Nat.reduceMul, Nat.reduceLT, c0, hbl, hnc, hU, hF, hA, ef, ef0, Int.reduceEq, Option.bind_none, entC] <;> rfl⟩
    | some s =>
      rw [hu] at hU
      simp only [Option.getD_some, Option.isSome_some, if_true] at hU
      have hfs := (fineName_length (unpackB_fine hu)).2
      have hM := fun h => bucket_may_eq (s := s) (n := inoB b k) (h := h) (by omega)
      rw [Option.bind_some]
      unfold isE
      cases hm : mayE s (inoB b k) with
      | false =>
        rw [hm] at hM
        rw [Bool.false_and, if_neg (by simp)]
        generalize inoB b k = n at *
        generalize encB (nameB b k) = z at *
        generalize encB b = y at *
        exact ⟨_, by simp only [afAddr_p, List.append_nil, if_true, if_false, bnd_some, mp_some, cnd_t, cnd_f, gd_no, gd_tt, gd_tf, gd_ft, gd_ff, alenS_s, alen_sl, alen_ns, abin_add, abin_sub, abin_mul, abin_eql, abin_neq, abin_lss, abin_leq, abin_gtr, abin_geq, abin_seql, abin_sneq, abin_slss, aun_not, aun_neg, agn_some, aeqN_nf, aeqN_f, aeqN_np, aeqN_p, anilc_p, aeqB_t, aeqB_f, aconv_i, apick_b, cond_true, cond_false, decide_true, decide_false, Bool.not_true, Bool.not_false, aext_t, ofPart_c, ofPart_a, part?_c, part?_a, cells?_c, cells?_a, tupN_2, tupN_3, Option.map_some, Option.some.injEq, List.getElem?_cons_zero, List.getElem?_cons_succ, not_true_eq_false, not_false_eq_true, quiet_same, bytesI_length, Option.join_some, List.append_assoc, List.cons_append, List.nil_append, List.length_append, List.length_cons, List.length_nil, Nat.zero_add, Nat.add_zero, rd_at, rd_at0, set_at, set_at0, List.set_cons_zero, List.set_cons_succ, ne_eq, decide_not, quiet_ext, newOk_some, List.cons_prefix_cons, List.nil_prefix, List.drop_succ_cons, List.drop_zero, List.all_cons, List.all_nil, Bool.and_true, true_and, and_true, aloadN_at, aloadN_at0, aload1_at, aload1_at0, astoreN_at, astoreN_at0, astore1_at, astore1_at0, aslA_at, aslA_at0, ldN_all, ld1_row, stN_all, st1_row, slr_all, Nat.reduceAdd, Nat.reduceMul, Nat.reduceLT, c0, hbl, hnc, hU, hF, hA, ef, ef0, hM, Int.reduceEq, entC] <;> rfl⟩
      | true =>
        rw [hm] at hM
        rw [Bool.true_and]
        have hW := fun h => bucket_written_eq (s := s) (n := inoB b k) (h := h) (by omega)
        have hsl := slotB_length hb hk
        have hC := fun h => num_Cut_eq (h := h) hb (a := (slotA k : Nat)) (n := 32)
        rw [cut_slot, hsl] at hC
        have s1 := fun (c0 c1 c2 c3 : Option Row) => Has.str (l := entB s (inoB b k)) (Has.row (h := g ++ [c0, c1, c2, c3, some (Row.mk (encB (entB s (inoB b k))) true)]) (id := g.length + 4) (sz := 1) (n := 32) (rw := true) (by simp) (by rw [encB_length, entB_length]) (noX_encB _))
        have s2 := fun (c0 c1 c2 c3 c4 : Option Row) => Has.str (l := slotB b k) (Has.row (h := g ++ [c0, c1, c2, c3, c4, some (Row.mk (encB (slotB b k)) true)]) (id := g.length + 5) (sz := 1) (n := 32) (rw := true) (by simp) (by rw [encB_length, hsl]) (noX_encB _))
        by_cases ce : entB s (inoB b k) = slotB b k
        · rw [if_pos (decide_eq_true ce)]
          generalize entB s (inoB b k) = E at *
          generalize slotB b k = L at *
          generalize inoB b k = n at *
          subst ce
          generalize encB (nameB b k) = z at *
          generalize encB b = y at *
          exact ⟨_, by simp only [afAddr_p, List.append_nil, if_true, if_false, bnd_some, mp_some, cnd_t, cnd_f, gd_no, gd_tt, gd_tf, gd_ft, gd_ff, alenS_s, alen_sl, alen_ns, abin_add, abin_sub, abin_mul, abin_eql, abin_neq, abin_lss, abin_leq, abin_gtr, abin_geq, abin_seql, abin_sneq, abin_slss, aun_not, aun_neg, agn_some, aeqN_nf, aeqN_f, aeqN_np, aeqN_p, anilc_p, aeqB_t, aeqB_f, aconv_i, apick_b, cond_true, cond_false, decide_true, decide_false, Bool.not_true, Bool.not_false, aext_t, ofPart_c, ofPart_a, part?_c, part?_a, cells?_c, cells?_a, tupN_2, tupN_3, Option.map_some, Option.some.injEq, List.getElem?_cons_zero, List.getElem?_cons_succ, not_true_eq_false, not_false_eq_true, quiet_same, bytesI_length, Option.join_some, List.append_assoc, List.cons_append, List.nil_append, List.length_append, List.length_cons, List.length_nil, Nat.zero_add, Nat.add_zero, rd_at, rd_at0, set_at, set_at0, List.set_cons_zero, List.set_cons_succ, ne_eq, decide_not, quiet_ext, newOk_some, List.cons_prefix_cons, List.nil_prefix, List.drop_succ_cons, List.drop_zero, List.all_cons, List.all_nil, Bool.and_true, true_and, and_true, aloadN_at, aloadN_at0, aload1_at, aload1_at0, astoreN_at, astoreN_at0, astore1_at, astore1_at0, aslA_at, aslA_at0, ldN_all, ld1_row, stN_all, st1_row, slr_all, Nat.reduceAdd, Nat.reduceMul, Nat.reduceLT, c0, hbl, hnc, hU, hF, hA, ef, ef0, hM, hW, quiet4, s1, hC, quiet5, s2, eq_self, decide_true, Int.reduceEq, entC, Option.isSome_some] <;> rfl⟩
        · rw [if_neg (by rw [decide_eq_true_eq]; exact ce)]
          generalize entB s (inoB b k) = E at *
          generalize slotB b k = L at *
          generalize inoB b k = n at *
          generalize encB (nameB b k) = z at *
          generalize encB b = y at *
          exact ⟨_, by simp only [afAddr_p, List.append_nil, if_true, if_false, bnd_some, mp_some, cnd_t, cnd_f, gd_no, gd_tt, gd_tf, gd_ft, gd_ff, alenS_s, alen_sl, alen_ns, abin_add, abin_sub, abin_mul, abin_eql, abin_neq, abin_lss, abin_leq, abin_gtr, abin_geq, abin_seql, abin_sneq, abin_slss, aun_not, aun_neg, agn_some, aeqN_nf, aeqN_f, aeqN_np, aeqN_p, anilc_p, aeqB_t, aeqB_f, aconv_i, apick_b, cond_true, cond_false, decide_true, decide_false, Bool.not_true, Bool.not_false, aext_t, ofPart_c, ofPart_a, part?_c, part?_a, cells?_c, cells?_a, tupN_2, tupN_3, Option.map_some, Option.some.injEq, List.getElem?_cons_zero, List.getElem?_cons_succ, not_true_eq_false, not_false_eq_true, quiet_same, bytesI_length, Option.join_some, List.append_assoc, List.cons_append, List.nil_append, List.length_append, List.length_cons, List.length_nil, Nat.zero_add, Nat.add_zero, rd_at, rd_at0, set_at, set_at0, List.set_cons_zero, List.set_cons_succ, ne_eq, decide_not, quiet_ext, newOk_some, List.cons_prefix_cons, List.nil_prefix, List.drop_succ_cons, List.drop_zero, List.all_cons, List.all_nil, Bool.and_true, true_and, and_true, aloadN_at, aloadN_at0, aload1_at, aload1_at0, astoreN_at, astoreN_at0, astore1_at, astore1_at0, aslA_at, aslA_at0, ldN_all, ld1_row, stN_all, st1_row, slr_all, Nat.reduceAdd, Nat.reduceMul, Nat.reduceLT, c0, hbl, hnc, hU, hF, hA, ef, ef0, hM, hW, quiet4, s1, hC, quiet5, s2, ce, Int.reduceEq, entC, Option.isSome_none] <;> rfl⟩
  | e + 1, i, m + 1, hi, hm => by
    obtain ⟨h', ih⟩ := read_loop (q := q) (g := g) hb hk e (i + 1) m (by omega) (by omega)
    have hnl := nameB_length hb hk
    have c0 : (i : Int) < 25 := by omega
    have hF := fun h => bucket_first_eq (h := h) hk
    have hbl : (encB b).length = 256 := by rw [encB_length, hb]
    have hcl : (encB (cpN (nameB b k) i)).length = 25 := by rw [encB_length]; exact cpN_length hnl (by omega)
    have hlt : i < (encB (cpN (nameB b k) i)).length := by omega
    have w1 : IntKind.wrap .i64 (((slotA k : Nat) : Int) + 2) = ((slotA k + 2 : Nat) : Int) := by unfold slotA; rw [wrap_i64 (by omega) (by omega)]; omega
    have w2 : IntKind.wrap .i64 (((slotA k + 2 : Nat) : Int) + (i : Int)) = ((slotA k + 2 + i : Nat) : Int) := by unfold slotA; rw [wrap_i64 (by omega) (by omega)]; omega
    have hj : slotA k + 2 + i < 256 := by unfold slotA; omega
    have a1 : aiAddrA 256 1 (.c (.p g.length 0)) (.c (.i .i64 ((slotA k + 2 + i : Nat) : Int))) = some (.c (.p g.length (slotA k + 2 + i))) := by rw [iAddrA_of hj]; simp
    have a2 : aiAddrA 25 1 (.c (.p (g.length + 2) 0)) (.c (.i .i64 (i : Int))) = some (.c (.p (g.length + 2) i)) := by rw [iAddrA_of (by omega)]; simp
    have ei : (nameB b k)[i]'(by omega) = b[slotA k + 2 + i]'(by omega) := by simp [nameB]
    have l1 : (encB b)[slotA k + 2 + i]? = some (.i .u8 ((nameB b k)[i]'(by omega)).toNat) := by
      rw [ei]; simp [encB, hb, hj]
    have hs : (encB (cpN (nameB b k) i)).set i (.i .u8 ((nameB b k)[i]'(by omega)).toNat) = encB (cpN (nameB b k) (i + 1)) := by rw [encB_set, cpN_set hnl (by omega)]
    rw [bucket_read_l0_eq]
    refine ⟨h', ?_⟩
    generalize encB (cpN (nameB b k) (i + 1)) = z1 at *
    generalize encB (cpN (nameB b k) i) = z at *
    generalize encB b = y at *
    simp only [afAddr_p, List.append_nil, if_true, if_false, bnd_some, mp_some, cnd_t, cnd_f, gd_no, gd_tt, gd_tf, gd_ft, gd_ff, alenS_s, alen_sl, alen_ns, abin_add, abin_sub, abin_mul, abin_eql, abin_neq, abin_lss, abin_leq, abin_gtr, abin_geq, abin_seql, abin_sneq, abin_slss, aun_not, aun_neg, agn_some, aeqN_nf, aeqN_f, aeqN_np, aeqN_p, anilc_p, aeqB_t, aeqB_f, aconv_i, apick_b, cond_true, cond_false, decide_true, decide_false, Bool.not_true, Bool.not_false, aext_t, ofPart_c, ofPart_a, part?_c, part?_a, cells?_c, cells?_a, tupN_2, tupN_3, Option.map_some, Option.some.injEq, List.getElem?_cons_zero, List.getElem?_cons_succ, not_true_eq_false, not_false_eq_true, quiet_same, bytesI_length, Option.join_some, List.append_assoc, List.cons_append, List.nil_append, List.length_append, List.length_cons, List.length_nil, Nat.zero_add, Nat.add_zero, rd_at, rd_at0, set_at, set_at0, List.set_cons_zero, List.set_cons_succ, ne_eq, decide_not, quiet_ext, newOk_some, List.cons_prefix_cons, List.nil_prefix, List.drop_succ_cons, List.drop_zero, List.all_cons, List.all_nil, Bool.and_true, true_and, and_true, aloadN_at, aloadN_at0, aload1_at, aload1_at0, astoreN_at, astoreN_at0, astore1_at, astore1_at0, aslA_at, aslA_at0, ldN_all, ld1_row, stN_all, st1_row, slr_all, Nat.reduceAdd, Nat.reduceMul, Nat.reduceLT, c0, hF, w1, w2, a1, l1, a2, hlt, hs, wi_succ (show i + 1 < 9223372036854775808 by omega)]
    exact ih

end Go.Proofs.Ytbbkpmbepljhkaa
