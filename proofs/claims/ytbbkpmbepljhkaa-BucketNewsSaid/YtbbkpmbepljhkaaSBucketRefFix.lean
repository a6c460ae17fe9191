/- The document's slots, and its fixed bucket. -/
import Derived.Test.YtbbkpmbepljhkaaSBucketFixed
import Derived.Test.YtbbkpmbepljhkaaSBucketRef
set_option linter.all false
namespace Go.Proofs.Ytbbkpmbepljhkaa
open Go Go.Esc

theorem cut_name {b : List UInt8} {k : Nat} : cutB b ((slotA k + 2 : Nat) : Int) 25 = nameB b k := by
  unfold cutB nameB
  rw [if_pos (by omega), Int.toNat_natCast]
  rfl

theorem rmul {k : Nat} (hk : k < 7) : IntKind.wrap .i64 (32 * (k : Int)) = ((32 * k : Nat) : Int) := by rw [wrap_i64 (by omega) (by omega)]; omega
theorem radd {k : Nat} (hk : k < 7) : IntKind.wrap .i64 (32 + ((32 * k : Nat) : Int)) = ((slotA k : Nat) : Int) := by unfold slotA; rw [wrap_i64 (by omega) (by omega)]; omega
theorem radd2 {k : Nat} (hk : k < 7) : IntKind.wrap .i64 (34 + ((32 * k : Nat) : Int)) = ((slotA k + 2 : Nat) : Int) := by unfold slotA; rw [wrap_i64 (by omega) (by omega)]; omega

theorem ref18_Read_eq {v : Val} {nv k : Nat} {b : List UInt8} {h : Heap} (hv : Has h v 1 nv (encB b)) (hb : b.length = 256) (hk : k < 7) : S_escheatref18_Read [v, .c (.i .i64 (k : Int))] h = some (.t [.a (entC (readE b k)), .c (.b (readE b k).isSome)], h) := by
  have key : ∀ g, Has g v 1 nv (encB b) → ∃ g', R_escheatref18_Read 0 [v, .c (.i .i64 (k : Int))] g = some (.t [.a (entC (readE b k)), .c (.b (readE b k).isSome)], g') := by
    intro g hv
    have hnl := nameB_length hb hk
    have hsl := slotB_length hb hk
    have hC := fun l => ref01_Cut_eq (hv.more l) (a := ((slotA k + 2 : Nat) : Int)) (n := 25) (by unfold slotA; omega) (by omega)
    rw [cut_name, hnl] at hC
    have hU := fun (c0 : Option Row) => refUnpack_eq (v := .c (.sl (g.length + 1) 0 25 1)) (nv := 25) (l := nameB b k) (h := g ++ [c0, some (Row.mk (encB (nameB b k)) true)]) (Has.row (rw := true) (by simp) (by rw [encB_length, hnl]) (noX_encB _)) hnl
    have hA := fun l => ref01_At_eq (hv.more l) hb (a := (slotA k : Nat)) (w := 2)
    rw [at_slot hk] at hA
    have ef : ∀ (s : List UInt8) (n : Int), afill [Cell.s [], .i .i64 0] [(0, 1, .c (.s s)), (1, 1, .c (.i .i64 n))] = some [.s s, .i .i64 n] := fun _ _ => rfl
    have ef0 : afill [Cell.s [], .i .i64 0] [] = some [.s [], .i .i64 0] := rfl
    have w0 := rmul hk
    have w1 := radd hk
    have w2 := radd2 hk
    rw [R_escheatref18_Read_eq]
    unfold readE
    cases hu : unpackB (nameB b k) with
    | none =>
      rw [hu] at hU
      simp only [Option.getD_none, Option.isSome_none] at hU
      generalize inoB b k = n at *
      generalize encB (nameB b k) = z at *
      exact ⟨_, by simp only [afAddr_p, List.append_nil, if_true, if_false, bnd_some, mp_some, cnd_t, cnd_f, gd_no, gd_tt, gd_tf, gd_ft, gd_ff, alenS_s, alen_sl, alen_ns, abin_add, abin_sub, abin_mul, abin_eql, abin_neq, abin_lss, abin_leq, abin_gtr, abin_geq, abin_seql, abin_sneq, abin_slss, aun_not, aun_neg, agn_some, aeqN_nf, aeqN_f, aeqN_np, aeqN_p, anilc_p, aeqB_t, aeqB_f, aconv_i, apick_b, cond_true, cond_false, decide_true, decide_false, Bool.not_true, Bool.not_false, aext_t, ofPart_c, ofPart_a, part?_c, part?_a, cells?_c, cells?_a, tupN_2, tupN_3, Option.map_some, Option.some.injEq, List.getElem?_cons_zero, List.getElem?_cons_succ, not_true_eq_false, not_false_eq_true, quiet_same, bytesI_length, Option.join_some, List.append_assoc, List.cons_append, List.nil_append, List.length_append, List.length_cons, List.length_nil, Nat.zero_add, Nat.add_zero, rd_at, rd_at0, set_at, set_at0, List.set_cons_zero, List.set_cons_succ, ne_eq, decide_not, quiet_ext, newOk_some, List.cons_prefix_cons, List.nil_prefix, List.drop_succ_cons, List.drop_zero, List.all_cons, List.all_nil, Bool.and_true, true_and, and_true, aloadN_at, aloadN_at0, aload1_at, aload1_at0, astoreN_at, astoreN_at0, astore1_at, astore1_at0, aslA_at, aslA_at0, ldN_all, ld1_row, stN_all, st1_row, slr_all, Nat.reduceAdd, Nat.reduceMul, Nat.reduceLT, w0, w1, w2, hC, hU, hA, ef, ef0, Option.bind_none, entC, Option.isSome_none] <;> rfl⟩
    | some s =>
      rw [hu] at hU
      simp only [Option.getD_some, Option.isSome_some] at hU
      have hfs := (fineName_length (unpackB_fine hu)).2
      have hM := fun h => ref18_May_eq (s := s) (n := inoB b k) (h := h) (by omega)
      rw [Option.bind_some]
      unfold isE
      cases hm : mayE s (inoB b k) with
      | false =>
        rw [hm] at hM
        rw [Bool.false_and, if_neg (by simp)]
        generalize inoB b k = n at *
        generalize encB (nameB b k) = z at *
        exact ⟨_, by simp only [afAddr_p, List.append_nil, if_true, if_false, bnd_some, mp_some, cnd_t, cnd_f, gd_no, gd_tt, gd_tf, gd_ft, gd_ff, alenS_s, alen_sl, alen_ns, abin_add, abin_sub, abin_mul, abin_eql, abin_neq, abin_lss, abin_leq, abin_gtr, abin_geq, abin_seql, abin_sneq, abin_slss, aun_not, aun_neg, agn_some, aeqN_nf, aeqN_f, aeqN_np, aeqN_p, anilc_p, aeqB_t, aeqB_f, aconv_i, apick_b, cond_true, cond_false, decide_true, decide_false, Bool.not_true, Bool.not_false, aext_t, ofPart_c, ofPart_a, part?_c, part?_a, cells?_c, cells?_a, tupN_2, tupN_3, Option.map_some, Option.some.injEq, List.getElem?_cons_zero, List.getElem?_cons_succ, not_true_eq_false, not_false_eq_true, quiet_same, bytesI_length, Option.join_some, List.append_assoc, List.cons_append, List.nil_append, List.length_append, List.length_cons, List.length_nil, Nat.zero_add, Nat.add_zero, rd_at, rd_at0, set_at, set_at0, List.set_cons_zero, List.set_cons_succ, ne_eq, decide_not, quiet_ext, newOk_some, List.cons_prefix_cons, List.nil_prefix, List.drop_succ_cons, List.drop_zero, List.all_cons, List.all_nil, Bool.and_true, true_and, and_true, aloadN_at, aloadN_at0, aload1_at, aload1_at0, astoreN_at, astoreN_at0, astore1_at, astore1_at0, aslA_at, aslA_at0, ldN_all, ld1_row, stN_all, st1_row, slr_all, Nat.reduceAdd, Nat.reduceMul, Nat.reduceLT, w0, w1, w2, hC, hU, hA, ef, ef0, hM, entC, Option.isSome_none] <;> rfl⟩
      | true =>
        rw [hm] at hM
        rw [Bool.true_and]
        have hB := fun h => ref18_Bytes_eq (s := s) (n := inoB b k) (h := h) hm
        have hC2 := fun l => ref01_Cut_eq (hv.more l) (a := (slotA k : Nat)) (n := 32) (by unfold slotA; omega) (by omega)
        rw [cut_slot, hsl] at hC2
        have hS := fun (c0 c1 c2 : Option Row) => ref01_Same_eq (l := entB s (inoB b k)) (r := slotB b k) (h := g ++ [c0, c1, c2, some (Row.mk (encB (entB s (inoB b k))) true), some (Row.mk (encB (slotB b k)) true)]) (v := .c (.sl (g.length + 3) 0 32 1)) (u := .c (.sl (g.length + 4) 0 32 1)) (Has.row (rw := true) (by simp) (by rw [encB_length, entB_length]) (noX_encB _)) (Has.row (rw := true) (by simp) (by rw [encB_length, hsl]) (noX_encB _)) (by rw [entB_length]; omega)
        by_cases ce : entB s (inoB b k) = slotB b k
        · rw [if_pos (decide_eq_true ce)]
          rw [decide_eq_true ce] at hS
          generalize entB s (inoB b k) = E at *
          generalize slotB b k = L at *
          generalize inoB b k = n at *
          generalize encB (nameB b k) = z at *
          exact ⟨_, by simp only [afAddr_p, List.append_nil, if_true, if_false, bnd_some, mp_some, cnd_t, cnd_f, gd_no, gd_tt, gd_tf, gd_ft, gd_ff, alenS_s, alen_sl, alen_ns, abin_add, abin_sub, abin_mul, abin_eql, abin_neq, abin_lss, abin_leq, abin_gtr, abin_geq, abin_seql, abin_sneq, abin_slss, aun_not, aun_neg, agn_some, aeqN_nf, aeqN_f, aeqN_np, aeqN_p, anilc_p, aeqB_t, aeqB_f, aconv_i, apick_b, cond_true, cond_false, decide_true, decide_false, Bool.not_true, Bool.not_false, aext_t, ofPart_c, ofPart_a, part?_c, part?_a, cells?_c, cells?_a, tupN_2, tupN_3, Option.map_some, Option.some.injEq, List.getElem?_cons_zero, List.getElem?_cons_succ, not_true_eq_false, not_false_eq_true, quiet_same, bytesI_length, Option.join_some, List.append_assoc, List.cons_append, List.nil_append, List.length_append, List.length_cons, List.length_nil, Nat.zero_add, Nat.add_zero, rd_at, rd_at0, set_at, set_at0, List.set_cons_zero, List.set_cons_succ, ne_eq, decide_not, quiet_ext, newOk_some, List.cons_prefix_cons, List.nil_prefix, List.drop_succ_cons, List.drop_zero, List.all_cons, List.all_nil, Bool.and_true, true_and, and_true, aloadN_at, aloadN_at0, aload1_at, aload1_at0, astoreN_at, astoreN_at0, astore1_at, astore1_at0, aslA_at, aslA_at0, ldN_all, ld1_row, stN_all, st1_row, slr_all, Nat.reduceAdd, Nat.reduceMul, Nat.reduceLT, w0, w1, w2, hC, hU, hA, ef, ef0, hM, hB, hC2, hS, entC, Option.isSome_some] <;> rfl⟩
        · rw [if_neg (by rw [decide_eq_true_eq]; exact ce)]
          rw [decide_eq_false ce] at hS
          generalize entB s (inoB b k) = E at *
          generalize slotB b k = L at *
          generalize inoB b k = n at *
          generalize encB (nameB b k) = z at *
          exact ⟨_, by simp only [afAddr_p, List.append_nil, if_true, if_false, bnd_some, mp_some, cnd_t, cnd_f, gd_no, gd_tt, gd_tf, gd_ft, gd_ff, alenS_s, alen_sl, alen_ns, abin_add, abin_sub, abin_mul, abin_eql, abin_neq, abin_lss, abin_leq, abin_gtr, abin_geq, abin_seql, abin_sneq, abin_slss, aun_not, aun_neg, agn_some, aeqN_nf, aeqN_f, aeqN_np, aeqN_p, anilc_p, aeqB_t, aeqB_f, aconv_i, apick_b, cond_true, cond_false, decide_true, decide_false, Bool.not_true, Bool.not_false, aext_t, ofPart_c, ofPart_a, part?_c, part?_a, cells?_c, cells?_a, tupN_2, tupN_3, Option.map_some, Option.some.injEq, List.getElem?_cons_zero, List.getElem?_cons_succ, not_true_eq_false, not_false_eq_true, quiet_same, bytesI_length, Option.join_some, List.append_assoc, List.cons_append, List.nil_append, List.length_append, List.length_cons, List.length_nil, Nat.zero_add, Nat.add_zero, rd_at, rd_at0, set_at, set_at0, List.set_cons_zero, List.set_cons_succ, ne_eq, decide_not, quiet_ext, newOk_some, List.cons_prefix_cons, List.nil_prefix, List.drop_succ_cons, List.drop_zero, List.all_cons, List.all_nil, Bool.and_true, true_and, and_true, aloadN_at, aloadN_at0, aload1_at, aload1_at0, astoreN_at, astoreN_at0, astore1_at, astore1_at0, aslA_at, aslA_at0, ldN_all, ld1_row, stN_all, st1_row, slr_all, Nat.reduceAdd, Nat.reduceMul, Nat.reduceLT, w0, w1, w2, hC, hU, hA, ef, ef0, hM, hB, hC2, hS, entC, Option.isSome_none] <;> rfl⟩
  obtain ⟨g', e⟩ := key (ro h) hv.ro
  exact S_escheatref18_Read_flat e (by simp [Val.flat, entC_flat, Cell.flat])

def posI (o : Option Nat) : Int := match o with
  | some k => k
  | none => -1

theorem rfind_loop {v : Val} {nv q : Nat} {b nm : List UInt8} (hb : b.length = 256) : ∀ (e k m : Nat) (h : Heap), k + e = 7 → e < m → Has h v 1 nv (encB b) →
    ∃ h', escheatref18_Find_l0 q m v (.c (.s nm)) (.c (.i .i64 (k : Int))) h = some (.c (.i .i64 (posI ((findFrom b nm e k).map (·.1)))), h')
  | e, k, 0, h, _, hm, _ => by omega
  | 0, k, m + 1, h, hk, hm, hv => by
    have e0 : k = 7 := by omega
    subst e0
    have c0 : ¬ ((7 : Nat) : Int) < 7 := by omega
    rw [escheatref18_Find_l0_eq]
    exact ⟨_, by simp only [afAddr_p, List.append_nil, if_true, if_false, bnd_some, mp_some, cnd_t, cnd_f, gd_no, gd_tt, gd_tf, gd_ft, gd_ff, alenS_s, alen_sl, alen_ns, abin_add, abin_sub, abin_mul, abin_eql, abin_neq, abin_lss, abin_leq, abin_gtr, abin_geq, abin_seql, abin_sneq, abin_slss, aun_not, aun_neg, agn_some, aeqN_nf, aeqN_f, aeqN_np, aeqN_p, anilc_p, aeqB_t, aeqB_f, aconv_i, apick_b, cond_true, cond_false, decide_true, decide_false, Bool.not_true, Bool.not_false, aext_t, ofPart_c, ofPart_a, part?_c, part?_a, cells?_c, cells?_a, tupN_2, tupN_3, Option.map_some, Option.some.injEq, List.getElem?_cons_zero, List.getElem?_cons_succ, not_true_eq_false, not_false_eq_true, quiet_same, bytesI_length, Option.join_some, List.append_assoc, List.cons_append, List.nil_append, List.length_append, List.length_cons, List.length_nil, Nat.zero_add, Nat.add_zero, rd_at, rd_at0, set_at, set_at0, List.set_cons_zero, List.set_cons_succ, ne_eq, decide_not, quiet_ext, newOk_some, List.cons_prefix_cons, List.nil_prefix, List.drop_succ_cons, List.drop_zero, List.all_cons, List.all_nil, Bool.and_true, true_and, and_true, c0] <;> rfl⟩
  | e + 1, k, m + 1, h, hk, hm, hv => by
    have c0 : (k : Int) < 7 := by omega
    have hR := ref18_Read_eq (k := k) hv hb (by omega)
    have w1 := wi_succ (show k + 1 < 9223372036854775808 by omega)
    rw [escheatref18_Find_l0_eq]
    cases hx : readE b k with
    | none =>
      rw [hx] at hR
      rw [findFrom_none hx]
      obtain ⟨h', ih⟩ := rfind_loop (q := q) (nm := nm) hb e (k + 1) m (h ++ [some ⟨[.s [], .i .i64 0], true⟩]) (by omega) (by omega) (hv.more _)
      exact ⟨h', by simp only [afAddr_p, List.append_nil, if_true, if_false, bnd_some, mp_some, cnd_t, cnd_f, gd_no, gd_tt, gd_tf, gd_ft, gd_ff, alenS_s, alen_sl, alen_ns, abin_add, abin_sub, abin_mul, abin_eql, abin_neq, abin_lss, abin_leq, abin_gtr, abin_geq, abin_seql, abin_sneq, abin_slss, aun_not, aun_neg, agn_some, aeqN_nf, aeqN_f, aeqN_np, aeqN_p, anilc_p, aeqB_t, aeqB_f, aconv_i, apick_b, cond_true, cond_false, decide_true, decide_false, Bool.not_true, Bool.not_false, aext_t, ofPart_c, ofPart_a, part?_c, part?_a, cells?_c, cells?_a, tupN_2, tupN_3, Option.map_some, Option.some.injEq, List.getElem?_cons_zero, List.getElem?_cons_succ, not_true_eq_false, not_false_eq_true, quiet_same, bytesI_length, Option.join_some, List.append_assoc, List.cons_append, List.nil_append, List.length_append, List.length_cons, List.length_nil, Nat.zero_add, Nat.add_zero, rd_at, rd_at0, set_at, set_at0, List.set_cons_zero, List.set_cons_succ, ne_eq, decide_not, quiet_ext, newOk_some, List.cons_prefix_cons, List.nil_prefix, List.drop_succ_cons, List.drop_zero, List.all_cons, List.all_nil, Bool.and_true, true_and, and_true, aloadN_at, aloadN_at0, aload1_at, aload1_at0, astoreN_at, astoreN_at0, astore1_at, astore1_at0, aslA_at, aslA_at0, ldN_all, ld1_row, stN_all, st1_row, slr_all, Nat.reduceAdd, Nat.reduceMul, Nat.reduceLT, c0, hR, entC, Option.isSome_none, w1]; exact ih⟩
    | some x =>
      obtain ⟨s, n⟩ := x
      rw [hx] at hR
      by_cases ce : s = nm
      · subst ce
        rw [findFrom_hit hx]
        exact ⟨_, by simp only [afAddr_p, List.append_nil, if_true, if_false, bnd_some, mp_some, cnd_t, cnd_f, gd_no, gd_tt, gd_tf, gd_ft, gd_ff, alenS_s, alen_sl, alen_ns, abin_add, abin_sub, abin_mul, abin_eql, abin_neq, abin_lss, abin_leq, abin_gtr, abin_geq, abin_seql, abin_sneq, abin_slss, aun_not, aun_neg, agn_some, aeqN_nf, aeqN_f, aeqN_np, aeqN_p, anilc_p, aeqB_t, aeqB_f, aconv_i, apick_b, cond_true, cond_false, decide_true, decide_false, Bool.not_true, Bool.not_false, aext_t, ofPart_c, ofPart_a, part?_c, part?_a, cells?_c, cells?_a, tupN_2, tupN_3, Option.map_some, Option.some.injEq, List.getElem?_cons_zero, List.getElem?_cons_succ, not_true_eq_false, not_false_eq_true, quiet_same, bytesI_length, Option.join_some, List.append_assoc, List.cons_append, List.nil_append, List.length_append, List.length_cons, List.length_nil, Nat.zero_add, Nat.add_zero, rd_at, rd_at0, set_at, set_at0, List.set_cons_zero, List.set_cons_succ, ne_eq, decide_not, quiet_ext, newOk_some, List.cons_prefix_cons, List.nil_prefix, List.drop_succ_cons, List.drop_zero, List.all_cons, List.all_nil, Bool.and_true, true_and, and_true, aloadN_at, aloadN_at0, aload1_at, aload1_at0, astoreN_at, astoreN_at0, astore1_at, astore1_at0, aslA_at, aslA_at0, ldN_all, ld1_row, stN_all, st1_row, slr_all, Nat.reduceAdd, Nat.reduceMul, Nat.reduceLT, c0, hR, entC, Option.isSome_some] <;> rfl⟩
      · rw [findFrom_miss hx ce]
        obtain ⟨h', ih⟩ := rfind_loop (q := q) (nm := nm) hb e (k + 1) m (h ++ [some ⟨[.s s, .i .i64 n], true⟩]) (by omega) (by omega) (hv.more _)
        exact ⟨h', by simp only [afAddr_p, List.append_nil, if_true, if_false, bnd_some, mp_some, cnd_t, cnd_f, gd_no, gd_tt, gd_tf, gd_ft, gd_ff, alenS_s, alen_sl, alen_ns, abin_add, abin_sub, abin_mul, abin_eql, abin_neq, abin_lss, abin_leq, abin_gtr, abin_geq, abin_seql, abin_sneq, abin_slss, aun_not, aun_neg, agn_some, aeqN_nf, aeqN_f, aeqN_np, aeqN_p, anilc_p, aeqB_t, aeqB_f, aconv_i, apick_b, cond_true, cond_false, decide_true, decide_false, Bool.not_true, Bool.not_false, aext_t, ofPart_c, ofPart_a, part?_c, part?_a, cells?_c, cells?_a, tupN_2, tupN_3, Option.map_some, Option.some.injEq, List.getElem?_cons_zero, List.getElem?_cons_succ, not_true_eq_false, not_false_eq_true, quiet_same, bytesI_length, Option.join_some, List.append_assoc, List.cons_append, List.nil_append, List.length_append, List.length_cons, List.length_nil, Nat.zero_add, Nat.add_zero, rd_at, rd_at0, set_at, set_at0, List.set_cons_zero, List.set_cons_succ, ne_eq, decide_not, quiet_ext, newOk_some, List.cons_prefix_cons, List.nil_prefix, List.drop_succ_cons, List.drop_zero, List.all_cons, List.all_nil, Bool.and_true, true_and, and_true, aloadN_at, aloadN_at0, aload1_at, aload1_at0, astoreN_at, astoreN_at0, astore1_at, astore1_at0, aslA_at, aslA_at0, ldN_all, ld1_row, stN_all, st1_row, slr_all, Nat.reduceAdd, Nat.reduceMul, Nat.reduceLT, c0, hR, entC, Option.isSome_some, ce, w1]; exact ih⟩
theorem ref18_Find_eq {v : Val} {nv : Nat} {b nm : List UInt8} {h : Heap} (hv : Has h v 1 nv (encB b)) (hb : b.length = 256) : S_escheatref18_Find [v, .c (.s nm)] h = some (.c (.i .i64 (posI ((findX b nm).map (·.1)))), h) := by
  obtain ⟨h', e⟩ := rfind_loop (q := 8) (nm := nm) hb 7 0 8 (ro h) (by omega) (by omega) hv.ro
  exact S_escheatref18_Find_flat (n := 8) (by rw [R_escheatref18_Find_eq]; exact e) rfl

theorem ref18_Empty_eq {v : Val} {nv k : Nat} {b : List UInt8} {h : Heap} (hv : Has h v 1 nv (encB b)) (hb : b.length = 256) (hk : k < 7) : S_escheatref18_Empty [v, .c (.i .i64 (k : Int))] h = some (.c (.b (emptyB b k)), h) := by
  have key : ∀ g, Has g v 1 nv (encB b) → ∃ g', R_escheatref18_Empty 0 [v, .c (.i .i64 (k : Int))] g = some (.c (.b (emptyB b k)), g') := by
    intro g hv
    have hsl := slotB_length hb hk
    have hC2 := fun l => ref01_Cut_eq (hv.more l) (a := (slotA k : Nat)) (n := 32) (by unfold slotA; omega) (by omega)
    rw [cut_slot, hsl] at hC2
    have hn : amkn (.c (.i .i64 32)) (.c (.i .i64 32)) = some 32 := rfl
    have rz := rows_zero 32
    have hS := ref01_Same_eq (l := slotB b k) (r := zeros 32) (h := g ++ [some (Row.mk (encB (zeros 32)) true), some (Row.mk (encB (slotB b k)) true)]) (v := .c (.sl (g.length + 1) 0 32 1)) (u := .c (.sl g.length 0 32 1)) (Has.row (rw := true) (by simp) (by rw [encB_length, hsl]) (noX_encB _)) (Has.row (rw := true) (by simp) (by rw [encB_length, zeros_length]) (noX_encB _)) (by rw [hsl]; omega)
    have w0 := rmul hk
    have w1 := radd hk
    rw [R_escheatref18_Empty_eq]
    unfold emptyB
    generalize slotB b k = L at *
    generalize zeros 32 = z at *
    exact ⟨_, by simp only [afAddr_p, List.append_nil, if_true, if_false, bnd_some, mp_some, cnd_t, cnd_f, gd_no, gd_tt, gd_tf, gd_ft, gd_ff, alenS_s, alen_sl, alen_ns, abin_add, abin_sub, abin_mul, abin_eql, abin_neq, abin_lss, abin_leq, abin_gtr, abin_geq, abin_seql, abin_sneq, abin_slss, aun_not, aun_neg, agn_some, aeqN_nf, aeqN_f, aeqN_np, aeqN_p, anilc_p, aeqB_t, aeqB_f, aconv_i, apick_b, cond_true, cond_false, decide_true, decide_false, Bool.not_true, Bool.not_false, aext_t, ofPart_c, ofPart_a, part?_c, part?_a, cells?_c, cells?_a, tupN_2, tupN_3, Option.map_some, Option.some.injEq, List.getElem?_cons_zero, List.getElem?_cons_succ, not_true_eq_false, not_false_eq_true, quiet_same, bytesI_length, Option.join_some, List.append_assoc, List.cons_append, List.nil_append, List.length_append, List.length_cons, List.length_nil, Nat.zero_add, Nat.add_zero, rd_at, rd_at0, set_at, set_at0, List.set_cons_zero, List.set_cons_succ, ne_eq, decide_not, quiet_ext, newOk_some, List.cons_prefix_cons, List.nil_prefix, List.drop_succ_cons, List.drop_zero, List.all_cons, List.all_nil, Bool.and_true, true_and, and_true, aloadN_at, aloadN_at0, aload1_at, aload1_at0, astoreN_at, astoreN_at0, astore1_at, astore1_at0, aslA_at, aslA_at0, ldN_all, ld1_row, stN_all, st1_row, slr_all, Nat.reduceAdd, Nat.reduceMul, Nat.reduceLT, w0, w1, hC2, quiet1, hn, rz, hS] <;> rfl⟩
  obtain ⟨g', e⟩ := key (ro h) hv.ro
  exact S_escheatref18_Empty_flat e rfl

theorem rroom_loop {v : Val} {nv q : Nat} {b : List UInt8} {h : Heap} (hb : b.length = 256) (hv : Has h v 1 nv (encB b)) : ∀ (e k m : Nat), k + e = 7 → e < m →
    escheatref18_Room_l0 q m v (.c (.i .i64 (k : Int))) h = some (.c (.i .i64 (posI (roomFrom b e k))), h)
  | e, k, 0, _, hm => by omega
  | 0, k, m + 1, hk, hm => by
    have e0 : k = 7 := by omega
    subst e0
    have c0 : ¬ ((7 : Nat) : Int) < 7 := by omega
    rw [escheatref18_Room_l0_eq]
    simp only [afAddr_p, List.append_nil, if_true, if_false, bnd_some, mp_some, cnd_t, cnd_f, gd_no, gd_tt, gd_tf, gd_ft, gd_ff, alenS_s, alen_sl, alen_ns, abin_add, abin_sub, abin_mul, abin_eql, abin_neq, abin_lss, abin_leq, abin_gtr, abin_geq, abin_seql, abin_sneq, abin_slss, aun_not, aun_neg, agn_some, aeqN_nf, aeqN_f, aeqN_np, aeqN_p, anilc_p, aeqB_t, aeqB_f, aconv_i, apick_b, cond_true, cond_false, decide_true, decide_false, Bool.not_true, Bool.not_false, aext_t, ofPart_c, ofPart_a, part?_c, part?_a, cells?_c, cells?_a, tupN_2, tupN_3, Option.map_some, Option.some.injEq, List.getElem?_cons_zero, List.getElem?_cons_succ, not_true_eq_false, not_false_eq_true, quiet_same, bytesI_length, Option.join_some, List.append_assoc, List.cons_append, List.nil_append, List.length_append, List.length_cons, List.length_nil, Nat.zero_add, Nat.add_zero, rd_at, rd_at0, set_at, set_at0, List.set_cons_zero, List.set_cons_succ, ne_eq, decide_not, quiet_ext, newOk_some, List.cons_prefix_cons, List.nil_prefix, List.drop_succ_cons, List.drop_zero, List.all_cons, List.all_nil, Bool.and_true, true_and, and_true, c0] <;> rfl
  | e + 1, k, m + 1, hk, hm => by
    have ih := rroom_loop (q := q) hb hv e (k + 1) m (by omega) (by omega)
    have c0 : (k : Int) < 7 := by omega
    have hE := ref18_Empty_eq (k := k) hv hb (by omega)
    rw [escheatref18_Room_l0_eq, roomFrom]
    cases c : emptyB b k with
    | true =>
      rw [c] at hE
      simp only [afAddr_p, List.append_nil, if_true, if_false, bnd_some, mp_some, cnd_t, cnd_f, gd_no, gd_tt, gd_tf, gd_ft, gd_ff, alenS_s, alen_sl, alen_ns, abin_add, abin_sub, abin_mul, abin_eql, abin_neq, abin_lss, abin_leq, abin_gtr, abin_geq, abin_seql, abin_sneq, abin_slss, aun_not, aun_neg, agn_some, aeqN_nf, aeqN_f, aeqN_np, aeqN_p, anilc_p, aeqB_t, aeqB_f, aconv_i, apick_b, cond_true, cond_false, decide_true, decide_false, Bool.not_true, Bool.not_false, aext_t, ofPart_c, ofPart_a, part?_c, part?_a, cells?_c, cells?_a, tupN_2, tupN_3, Option.map_some, Option.some.injEq, List.getElem?_cons_zero, List.getElem?_cons_succ, not_true_eq_false, not_false_eq_true, quiet_same, bytesI_length, Option.join_some, List.append_assoc, List.cons_append, List.nil_append, List.length_append, List.length_cons, List.length_nil, Nat.zero_add, Nat.add_zero, rd_at, rd_at0, set_at, set_at0, List.set_cons_zero, List.set_cons_succ, ne_eq, decide_not, quiet_ext, newOk_some, List.cons_prefix_cons, List.nil_prefix, List.drop_succ_cons, List.drop_zero, List.all_cons, List.all_nil, Bool.and_true, true_and, and_true, aloadN_at, aloadN_at0, aload1_at, aload1_at0, astoreN_at, astoreN_at0, astore1_at, astore1_at0, aslA_at, aslA_at0, ldN_all, ld1_row, stN_all, st1_row, slr_all, Nat.reduceAdd, Nat.reduceMul, Nat.reduceLT, c0, hE] <;> rfl
    | false =>
      rw [c] at hE
      rw [cond_false]
      simp only [afAddr_p, List.append_nil, if_true, if_false, bnd_some, mp_some, cnd_t, cnd_f, gd_no, gd_tt, gd_tf, gd_ft, gd_ff, alenS_s, alen_sl, alen_ns, abin_add, abin_sub, abin_mul, abin_eql, abin_neq, abin_lss, abin_leq, abin_gtr, abin_geq, abin_seql, abin_sneq, abin_slss, aun_not, aun_neg, agn_some, aeqN_nf, aeqN_f, aeqN_np, aeqN_p, anilc_p, aeqB_t, aeqB_f, aconv_i, apick_b, cond_true, cond_false, decide_true, decide_false, Bool.not_true, Bool.not_false, aext_t, ofPart_c, ofPart_a, part?_c, part?_a, cells?_c, cells?_a, tupN_2, tupN_3, Option.map_some, Option.some.injEq, List.getElem?_cons_zero, List.getElem?_cons_succ, not_true_eq_false, not_false_eq_true, quiet_same, bytesI_length, Option.join_some, List.append_assoc, List.cons_append, List.nil_append, List.length_append, List.length_cons, List.length_nil, Nat.zero_add, Nat.add_zero, rd_at, rd_at0, set_at, set_at0, List.set_cons_zero, List.set_cons_succ, ne_eq, decide_not, quiet_ext, newOk_some, List.cons_prefix_cons, List.nil_prefix, List.drop_succ_cons, List.drop_zero, List.all_cons, List.all_nil, Bool.and_true, true_and, and_true, aloadN_at, aloadN_at0, aload1_at, aload1_at0, astoreN_at, astoreN_at0, astore1_at, astore1_at0, aslA_at, aslA_at0, ldN_all, ld1_row, stN_all, st1_row, slr_all, Nat.reduceAdd, Nat.reduceMul, Nat.reduceLT, c0, hE, wi_succ (show k + 1 < 9223372036854775808 by omega)]
      exact ih
theorem ref18_Room_eq {v : Val} {nv : Nat} {b : List UInt8} {h : Heap} (hv : Has h v 1 nv (encB b)) (hb : b.length = 256) : S_escheatref18_Room [v] h = some (.c (.i .i64 (posI (roomX b))), h) := by
  have e := rroom_loop (q := 8) hb hv.ro 7 0 8 (by omega) (by omega)
  exact S_escheatref18_Room_flat (n := 8) (h2 := ro h) (by rw [R_escheatref18_Room_eq]; exact e) rfl

theorem ref18_Head_eq {h : Heap} : S_escheatref18_Head [] h = some (.c (.sl h.length 0 256 1), h ++ [some ⟨encB hdB, true⟩]) := by
  have key : ∀ g, ∃ v g', R_escheatref18_Head 0 [] g = some (v, g') ∧ Out g.length g' v 1 256 (encB hdB) := by
    intro g
    have hn : amkn (.c (.i .i64 256)) (.c (.i .i64 256)) = some 256 := rfl
    have rz := rows_zero 256
    have ef : afill [Cell.i .u8 0, .i .u8 0, .i .u8 0, .i .u8 0] [(0, 1, .c (.i .u8 98)), (1, 1, .c (.i .u8 107)), (2, 1, .c (.i .u8 116)), (3, 1, .c (.i .u8 33))] = some (encB bktX) := rfl
    have hM : amark (g ++ [some (Row.mk [] true), some (Row.mk (encB (zeros 256)) true), some (Row.mk (encB bktX) true)]) (.c (.sl (g.length + 2) 0 4 1)) = some (.c (.sl (g.length + 2) 0 4 1)) := by simp [amark]
    have hL := ref01_Lay_eq (v := .c (.sl (g.length + 1) 0 256 1)) (u := .c (.sl (g.length + 2) 0 4 1)) (nv := 256) (nu := 4) (l := zeros 256) (data := bktX) (a := 0) (h := g ++ [some (Row.mk [] true), some (Row.mk (encB (zeros 256)) true), some (Row.mk (encB bktX) true)]) (Has.row (rw := true) (by simp) (by rw [encB_length, zeros_length]) (noX_encB _)) (Has.row (rw := true) (by simp) rfl (noX_encB _)) (by omega) (by rw [zeros_length]; omega)
    have el : layR (zeros 256) 0 bktX = hdB := by
      have h1 := layR_layB (l := zeros 256) (a := 0) (xs := bktX) (by rw [zeros_length]; decide)
      have h2 := of_pad (b := bktX) (by decide)
      unfold layI at h2
      rw [if_pos ⟨by omega, by omega⟩, List.take_of_length_le (by decide)] at h2
      exact h1.trans h2
    rw [el, zeros_length] at hL
    rw [R_escheatref18_Head_eq]
    refine ⟨.c (.sl (g.length + 3) 0 256 1), g ++ [some (Row.mk [] true), some (Row.mk (encB (zeros 256)) true), some (Row.mk (encB bktX) true), some (Row.mk (encB hdB) true)], ?_, by rw [encB_length, hdB_length], g.length + 3, rfl, by omega, by simp⟩
    generalize hdB = H at *
    generalize encB bktX = mg at *
    generalize zeros 256 = z at *
    simp only [afAddr_p, List.append_nil, if_true, if_false, bnd_some, mp_some, cnd_t, cnd_f, gd_no, gd_tt, gd_tf, gd_ft, gd_ff, alenS_s, alen_sl, alen_ns, abin_add, abin_sub, abin_mul, abin_eql, abin_neq, abin_lss, abin_leq, abin_gtr, abin_geq, abin_seql, abin_sneq, abin_slss, aun_not, aun_neg, agn_some, aeqN_nf, aeqN_f, aeqN_np, aeqN_p, anilc_p, aeqB_t, aeqB_f, aconv_i, apick_b, cond_true, cond_false, decide_true, decide_false, Bool.not_true, Bool.not_false, aext_t, ofPart_c, ofPart_a, part?_c, part?_a, cells?_c, cells?_a, tupN_2, tupN_3, Option.map_some, Option.some.injEq, List.getElem?_cons_zero, List.getElem?_cons_succ, not_true_eq_false, not_false_eq_true, quiet_same, bytesI_length, Option.join_some, List.append_assoc, List.cons_append, List.nil_append, List.length_append, List.length_cons, List.length_nil, Nat.zero_add, Nat.add_zero, rd_at, rd_at0, set_at, set_at0, List.set_cons_zero, List.set_cons_succ, ne_eq, decide_not, quiet_ext, newOk_some, List.cons_prefix_cons, List.nil_prefix, List.drop_succ_cons, List.drop_zero, List.all_cons, List.all_nil, Bool.and_true, true_and, and_true, aloadN_at, aloadN_at0, aload1_at, aload1_at0, astoreN_at, astoreN_at0, astore1_at, astore1_at0, aslA_at, aslA_at0, ldN_all, ld1_row, stN_all, st1_row, slr_all, Nat.reduceAdd, Nat.reduceMul, Nat.reduceLT, hn, rz, ef, hM, hL]
  obtain ⟨v, g', e, ho⟩ := key (ro h)
  exact S_escheatref18_Head_out e (by simpa [ro_length] using ho) (by simp)

/-! ### Fixed -/

theorem findFrom_some {b nm : List UInt8} : ∀ (e k : Nat) {x : Slt}, findFrom b nm e k = some x → readE b x.1 = some x.2 ∧ x.2.1 = nm
  | 0, k, x, h => by cases h
  | e + 1, k, x, h => by
    cases hx : readE b k with
    | none => rw [findFrom_none hx] at h; exact findFrom_some e (k + 1) h
    | some y =>
      obtain ⟨s, n⟩ := y
      by_cases c : s = nm
      · subst c
        rw [findFrom_hit hx] at h
        cases h; exact ⟨hx, rfl⟩
      · rw [findFrom_miss hx c] at h; exact findFrom_some e (k + 1) h

theorem slC_inj {o : Option Slt} {x : Slt} (h : slC o = slC (some x)) (hn : o = none → x.2.1 ≠ []) : o = some x := by
  cases o with
  | none =>
    have := hn rfl
    simp only [slC, List.cons.injEq, Cell.s.injEq] at h
    exact absurd h.2.1.symm this
  | some y =>
    obtain ⟨a, s, n⟩ := y
    obtain ⟨c, t, m⟩ := x
    simp only [slC, List.cons.injEq, Cell.s.injEq, Cell.i.injEq, true_and] at h
    obtain ⟨h1, h2, h3, _⟩ := h
    have : a = c := by omega
    rw [this, h2, h3]

theorem readE_fine {b : List UInt8} {k : Nat} {x : Ent} (hx : readE b k = some x) : fineName x.1 = true ∧ mayE x.1 x.2 = true := by
  unfold readE at hx
  cases hu : unpackB (nameB b k) with
  | none => rw [hu] at hx; cases hx
  | some s' =>
    rw [hu, Option.bind_some] at hx
    split at hx
    · rename_i hc
      cases hx
      unfold isE at hc
      rw [Bool.and_eq_true] at hc
      exact ⟨unpackB_fine hu, hc.1⟩
    · cases hx

theorem keeps_pos {b : List UInt8} {k : Nat} {x : Ent} (hx : readE b k = some x) : keepsK b k x = decide (posI ((findX b x.1).map (·.1)) = (k : Int)) := by
  unfold keepsK
  have hne : x.1 ≠ [] := by
    have := (fineName_length (readE_fine hx).1).1
    intro h; rw [h] at this; simp at this
  refine decide_eq_decide.2 ⟨fun h => ?_, fun h => ?_⟩
  · rw [slC_inj h fun _ => hne]; rfl
  · cases hf : findX b x.1 with
    | none => rw [hf] at h; simp [posI] at h
    | some y =>
      rw [hf] at h
      have hy := findFrom_some 7 0 hf
      have e1 : y.1 = k := by simp [posI] at h; omega
      rw [e1, hx] at hy
      have : y = (k, x) := by
        obtain ⟨a, z⟩ := y
        simp only at e1 hy
        rw [e1]
        cases hy.1; rfl
      rw [this]

theorem rfix_loop {v : Val} {nv q : Nat} {b : List UInt8} {B : Heap} (hb : b.length = 256) : ∀ (e k m : Nat) (h : Heap) (id : Nat) (cur : List UInt8), k + e = 7 → e < m → cur.length = 256 → Has h v 1 nv (encB b) → B.length ≤ id → B.length ≤ h.length → rd h id = some ⟨encB cur, true⟩ →
    ∃ w h', escheatref18_Fix_l0 q m v (.c (.sl id 0 256 1)) (.c (.i .i64 (k : Int))) h = some (w, h') ∧ Out B.length h' w 1 256 (encB (fixF b e k cur))
  | e, k, 0, h, id, cur, _, hm, _, _, _, _, _ => by omega
  | 0, k, m + 1, h, id, cur, hk, hm, hc, hv, hid, hBh, hr => by
    have e0 : k = 7 := by omega
    subst e0
    have c0 : ¬ ((7 : Nat) : Int) < 7 := by omega
    rw [escheatref18_Fix_l0_eq]
    refine ⟨.c (.sl id 0 256 1), h, by simp only [afAddr_p, List.append_nil, if_true, if_false, bnd_some, mp_some, cnd_t, cnd_f, gd_no, gd_tt, gd_tf, gd_ft, gd_ff, alenS_s, alen_sl, alen_ns, abin_add, abin_sub, abin_mul, abin_eql, abin_neq, abin_lss, abin_leq, abin_gtr, abin_geq, abin_seql, abin_sneq, abin_slss, aun_not, aun_neg, agn_some, aeqN_nf, aeqN_f, aeqN_np, aeqN_p, anilc_p, aeqB_t, aeqB_f, aconv_i, apick_b, cond_true, cond_false, decide_true, decide_false, Bool.not_true, Bool.not_false, aext_t, ofPart_c, ofPart_a, part?_c, part?_a, cells?_c, cells?_a, tupN_2, tupN_3, Option.map_some, Option.some.injEq, List.getElem?_cons_zero, List.getElem?_cons_succ, not_true_eq_false, not_false_eq_true, quiet_same, bytesI_length, Option.join_some, List.append_assoc, List.cons_append, List.nil_append, List.length_append, List.length_cons, List.length_nil, Nat.zero_add, Nat.add_zero, rd_at, rd_at0, set_at, set_at0, List.set_cons_zero, List.set_cons_succ, ne_eq, decide_not, quiet_ext, newOk_some, List.cons_prefix_cons, List.nil_prefix, List.drop_succ_cons, List.drop_zero, List.all_cons, List.all_nil, Bool.and_true, true_and, and_true, c0], ?_, id, rfl, hid, hr⟩
    rw [encB_length, fixF, hc]
  | e + 1, k, m + 1, h, id, cur, hk, hm, hc, hv, hid, hBh, hr => by
    have c0 : (k : Int) < 7 := by omega
    have hR := ref18_Read_eq (k := k) hv hb (by omega)
    have w1 := wi_succ (show k + 1 < 9223372036854775808 by omega)
    have w0 := rmul (show k < 7 by omega)
    have w2 := radd (show k < 7 by omega)
    rw [escheatref18_Fix_l0_eq, fixF]
    cases hx : readE b k with
    | none =>
      have ef : fixK b k cur = cur := by unfold fixK; rw [hx]
      rw [hx] at hR
      rw [ef]
      obtain ⟨w, h', f1, f2⟩ := rfix_loop (q := q) (B := B) hb e (k + 1) m (h ++ [some ⟨[.s [], .i .i64 0], true⟩]) id cur (by omega) (by omega) hc (hv.more _) hid (by simp; omega) (rd_append hr)
      exact ⟨w, h', by simp only [afAddr_p, List.append_nil, if_true, if_false, bnd_some, mp_some, cnd_t, cnd_f, gd_no, gd_tt, gd_tf, gd_ft, gd_ff, alenS_s, alen_sl, alen_ns, abin_add, abin_sub, abin_mul, abin_eql, abin_neq, abin_lss, abin_leq, abin_gtr, abin_geq, abin_seql, abin_sneq, abin_slss, aun_not, aun_neg, agn_some, aeqN_nf, aeqN_f, aeqN_np, aeqN_p, anilc_p, aeqB_t, aeqB_f, aconv_i, apick_b, cond_true, cond_false, decide_true, decide_false, Bool.not_true, Bool.not_false, aext_t, ofPart_c, ofPart_a, part?_c, part?_a, cells?_c, cells?_a, tupN_2, tupN_3, Option.map_some, Option.some.injEq, List.getElem?_cons_zero, List.getElem?_cons_succ, not_true_eq_false, not_false_eq_true, quiet_same, bytesI_length, Option.join_some, List.append_assoc, List.cons_append, List.nil_append, List.length_append, List.length_cons, List.length_nil, Nat.zero_add, Nat.add_zero, rd_at, rd_at0, set_at, set_at0, List.set_cons_zero, List.set_cons_succ, ne_eq, decide_not, quiet_ext, newOk_some, List.cons_prefix_cons, List.nil_prefix, List.drop_succ_cons, List.drop_zero, List.all_cons, List.all_nil, Bool.and_true, true_and, and_true, aloadN_at, aloadN_at0, aload1_at, aload1_at0, astoreN_at, astoreN_at0, astore1_at, astore1_at0, aslA_at, aslA_at0, ldN_all, ld1_row, stN_all, st1_row, slr_all, Nat.reduceAdd, Nat.reduceMul, Nat.reduceLT, c0, hR, entC, Option.isSome_none, escheatref18_Fix_j0_eq, w1]; exact f1, f2⟩
    | some x =>
      have hkp := keeps_pos hx
      obtain ⟨s, n⟩ := x
      have ef : fixK b k cur = bif keepsK b k (s, n) then layB cur (slotA k) (entB s n) else cur := by unfold fixK; rw [hx]
      have hm2 := (readE_fine hx).2
      rw [hx] at hR
      have hF := fun l => ref18_Find_eq (nm := s) (hv.more l) hb
      cases ck : keepsK b k (s, n) with
      | false =>
        rw [ck] at hkp ef
        have cp : ¬ posI ((findX b s).map (·.1)) = (k : Int) := by
          intro h; rw [decide_eq_true h] at hkp; cases hkp
        rw [cond_false] at ef
        rw [ef]
        generalize posI ((findX b s).map (·.1)) = p at *
        obtain ⟨w, h', f1, f2⟩ := rfix_loop (q := q) (B := B) hb e (k + 1) m (h ++ [some ⟨[.s s, .i .i64 n], true⟩]) id cur (by omega) (by omega) hc (hv.more _) hid (by simp; omega) (rd_append hr)
        exact ⟨w, h', by simp only [afAddr_p, List.append_nil, if_true, if_false, bnd_some, mp_some, cnd_t, cnd_f, gd_no, gd_tt, gd_tf, gd_ft, gd_ff, alenS_s, alen_sl, alen_ns, abin_add, abin_sub, abin_mul, abin_eql, abin_neq, abin_lss, abin_leq, abin_gtr, abin_geq, abin_seql, abin_sneq, abin_slss, aun_not, aun_neg, agn_some, aeqN_nf, aeqN_f, aeqN_np, aeqN_p, anilc_p, aeqB_t, aeqB_f, aconv_i, apick_b, cond_true, cond_false, decide_true, decide_false, Bool.not_true, Bool.not_false, aext_t, ofPart_c, ofPart_a, part?_c, part?_a, cells?_c, cells?_a, tupN_2, tupN_3, Option.map_some, Option.some.injEq, List.getElem?_cons_zero, List.getElem?_cons_succ, not_true_eq_false, not_false_eq_true, quiet_same, bytesI_length, Option.join_some, List.append_assoc, List.cons_append, List.nil_append, List.length_append, List.length_cons, List.length_nil, Nat.zero_add, Nat.add_zero, rd_at, rd_at0, set_at, set_at0, List.set_cons_zero, List.set_cons_succ, ne_eq, decide_not, quiet_ext, newOk_some, List.cons_prefix_cons, List.nil_prefix, List.drop_succ_cons, List.drop_zero, List.all_cons, List.all_nil, Bool.and_true, true_and, and_true, aloadN_at, aloadN_at0, aload1_at, aload1_at0, astoreN_at, astoreN_at0, astore1_at, astore1_at0, aslA_at, aslA_at0, ldN_all, ld1_row, stN_all, st1_row, slr_all, Nat.reduceAdd, Nat.reduceMul, Nat.reduceLT, c0, hR, entC, Option.isSome_some, hF, cp, escheatref18_Fix_j0_eq, w1]; exact f1, f2⟩
      | true =>
        rw [ck] at hkp ef
        have cp : posI ((findX b s).map (·.1)) = (k : Int) := by
          by_cases h : posI ((findX b s).map (·.1)) = (k : Int)
          · exact h
          · rw [decide_eq_false h] at hkp; cases hkp
        rw [cond_true] at ef
        rw [cp] at hF
        have hB := fun h => ref18_Bytes_eq (h := h) hm2
        have hL := ref01_Lay_eq (v := .c (.sl id 0 256 1)) (u := .c (.sl (h.length + 1) 0 32 1)) (nv := 256) (nu := 32) (l := cur) (data := entB s n) (a := (slotA k : Nat)) (h := h ++ [some (Row.mk [.s s, .i .i64 n] true), some (Row.mk (encB (entB s n)) true)]) (Has.row (rw := true) (rd_append hr) (by rw [encB_length, hc]) (noX_encB _)) (Has.row (rw := true) (by simp) (by rw [encB_length, entB_length]) (noX_encB _)) (by unfold slotA; omega) (by omega)
        rw [layR_layB (by rw [hc, entB_length]; unfold slotA; omega), ← ef] at hL
        have hfl := fixK_length (b := b) (k := k) (by omega) hc
        rw [hc] at hL
        obtain ⟨w, h', f1, f2⟩ := rfix_loop (q := q) (B := B) hb e (k + 1) m (h ++ [some (Row.mk [.s s, .i .i64 n] true), some (Row.mk (encB (entB s n)) true), some (Row.mk (encB (fixK b k cur)) true)]) (h.length + 2) (fixK b k cur) (by omega) (by omega) hfl (hv.more _) (by omega) (by simp; omega) (by simp)
        refine ⟨w, h', ?_, f2⟩
        generalize fixK b k cur = N at *
        generalize entB s n = E at *
        simp only [afAddr_p, List.append_nil, if_true, if_false, bnd_some, mp_some, cnd_t, cnd_f, gd_no, gd_tt, gd_tf, gd_ft, gd_ff, alenS_s, alen_sl, alen_ns, abin_add, abin_sub, abin_mul, abin_eql, abin_neq, abin_lss, abin_leq, abin_gtr, abin_geq, abin_seql, abin_sneq, abin_slss, aun_not, aun_neg, agn_some, aeqN_nf, aeqN_f, aeqN_np, aeqN_p, anilc_p, aeqB_t, aeqB_f, aconv_i, apick_b, cond_true, cond_false, decide_true, decide_false, Bool.not_true, Bool.not_false, aext_t, ofPart_c, ofPart_a, part?_c, part?_a, cells?_c, cells?_a, tupN_2, tupN_3, Option.map_some, Option.some.injEq, List.getElem?_cons_zero, List.getElem?_cons_succ, not_true_eq_false, not_false_eq_true, quiet_same, bytesI_length, Option.join_some, List.append_assoc, List.cons_append, List.nil_append, List.length_append, List.length_cons, List.length_nil, Nat.zero_add, Nat.add_zero, rd_at, rd_at0, set_at, set_at0, List.set_cons_zero, List.set_cons_succ, ne_eq, decide_not, quiet_ext, newOk_some, List.cons_prefix_cons, List.nil_prefix, List.drop_succ_cons, List.drop_zero, List.all_cons, List.all_nil, Bool.and_true, true_and, and_true, aloadN_at, aloadN_at0, aload1_at, aload1_at0, astoreN_at, astoreN_at0, astore1_at, astore1_at0, aslA_at, aslA_at0, ldN_all, ld1_row, stN_all, st1_row, slr_all, Nat.reduceAdd, Nat.reduceMul, Nat.reduceLT, c0, hR, entC, Option.isSome_some, hF, w0, w2, hB, hL, escheatref18_Fix_j0_eq, w1]
        exact f1

theorem ref18_Fix_eq {v : Val} {nv : Nat} {b : List UInt8} {h : Heap} (hv : Has h v 1 nv (encB b)) (hb : b.length = 256) : S_escheatref18_Fix [v] h = some (.c (.sl h.length 0 256 1), h ++ [some ⟨encB (fixX b), true⟩]) := by
  obtain ⟨w, h', e, ho⟩ := rfix_loop (q := 8) (B := ro h) hb 7 0 8 (ro h ++ [some (Row.mk [] true), some (Row.mk (encB hdB) true)]) ((ro h).length + 1) hdB (by omega) (by omega) hdB_length (hv.ro.more _) (by omega) (by simp) (by simp)
  refine S_escheatref18_Fix_out (n := 8) (v := w) (h2 := h') ?_ (by have h2 := ho; rw [ro_length] at h2; exact h2) (by simp)
  have hH := fun h => ref18_Head_eq (h := h)
  rw [R_escheatref18_Fix_eq]
  generalize hdB = H at *
  simp only [afAddr_p, List.append_nil, if_true, if_false, bnd_some, mp_some, cnd_t, cnd_f, gd_no, gd_tt, gd_tf, gd_ft, gd_ff, alenS_s, alen_sl, alen_ns, abin_add, abin_sub, abin_mul, abin_eql, abin_neq, abin_lss, abin_leq, abin_gtr, abin_geq, abin_seql, abin_sneq, abin_slss, aun_not, aun_neg, agn_some, aeqN_nf, aeqN_f, aeqN_np, aeqN_p, anilc_p, aeqB_t, aeqB_f, aconv_i, apick_b, cond_true, cond_false, decide_true, decide_false, Bool.not_true, Bool.not_false, aext_t, ofPart_c, ofPart_a, part?_c, part?_a, cells?_c, cells?_a, tupN_2, tupN_3, Option.map_some, Option.some.injEq, List.getElem?_cons_zero, List.getElem?_cons_succ, not_true_eq_false, not_false_eq_true, quiet_same, bytesI_length, Option.join_some, List.append_assoc, List.cons_append, List.nil_append, List.length_append, List.length_cons, List.length_nil, Nat.zero_add, Nat.add_zero, rd_at, rd_at0, set_at, set_at0, List.set_cons_zero, List.set_cons_succ, ne_eq, decide_not, quiet_ext, newOk_some, List.cons_prefix_cons, List.nil_prefix, List.drop_succ_cons, List.drop_zero, List.all_cons, List.all_nil, Bool.and_true, true_and, and_true, aloadN_at, aloadN_at0, aload1_at, aload1_at0, astoreN_at, astoreN_at0, astore1_at, astore1_at0, aslA_at, aslA_at0, ldN_all, ld1_row, stN_all, st1_row, slr_all, Nat.reduceAdd, Nat.reduceMul, Nat.reduceLT, hH]
  exact e

theorem ref18_Right_eq {v : Val} {nv : Nat} {b : List UInt8} {h : Heap} (hv : Has h v 1 nv (encB b)) (hb : b.length = 256) : S_escheatref18_Right [v] h = some (.c (.b (rightB b)), h) := by
  have key : ∀ g, Has g v 1 nv (encB b) → ∃ g', R_escheatref18_Right 0 [v] g = some (.c (.b (rightB b)), g') := by
    intro g hv
    have hF := ref18_Fix_eq hv hb
    have hS := ref01_Same_eq (l := fixX b) (r := b) (v := .c (.sl g.length 0 256 1)) (u := v) (nv := 256) (nu := nv) (h := g ++ [some (Row.mk (encB (fixX b)) true)]) (Has.row (rw := true) (by simp) (by rw [encB_length, fixX_length]) (noX_encB _)) (hv.more _) (by rw [fixX_length]; omega)
    rw [R_escheatref18_Right_eq]
    unfold rightB
    generalize fixX b = X at *
    exact ⟨_, by simp only [afAddr_p, List.append_nil, if_true, if_false, bnd_some, mp_some, cnd_t, cnd_f, gd_no, gd_tt, gd_tf, gd_ft, gd_ff, alenS_s, alen_sl, alen_ns, abin_add, abin_sub, abin_mul, abin_eql, abin_neq, abin_lss, abin_leq, abin_gtr, abin_geq, abin_seql, abin_sneq, abin_slss, aun_not, aun_neg, agn_some, aeqN_nf, aeqN_f, aeqN_np, aeqN_p, anilc_p, aeqB_t, aeqB_f, aconv_i, apick_b, cond_true, cond_false, decide_true, decide_false, Bool.not_true, Bool.not_false, aext_t, ofPart_c, ofPart_a, part?_c, part?_a, cells?_c, cells?_a, tupN_2, tupN_3, Option.map_some, Option.some.injEq, List.getElem?_cons_zero, List.getElem?_cons_succ, not_true_eq_false, not_false_eq_true, quiet_same, bytesI_length, Option.join_some, List.append_assoc, List.cons_append, List.nil_append, List.length_append, List.length_cons, List.length_nil, Nat.zero_add, Nat.add_zero, rd_at, rd_at0, set_at, set_at0, List.set_cons_zero, List.set_cons_succ, ne_eq, decide_not, quiet_ext, newOk_some, List.cons_prefix_cons, List.nil_prefix, List.drop_succ_cons, List.drop_zero, List.all_cons, List.all_nil, Bool.and_true, true_and, and_true, aloadN_at, aloadN_at0, aload1_at, aload1_at0, astoreN_at, astoreN_at0, astore1_at, astore1_at0, aslA_at, aslA_at0, ldN_all, ld1_row, stN_all, st1_row, slr_all, Nat.reduceAdd, Nat.reduceMul, Nat.reduceLT, hF, hS] <;> rfl⟩
  obtain ⟨g', e⟩ := key (ro h) hv.ro
  exact S_escheatref18_Right_flat e rfl

end Go.Proofs.Ytbbkpmbepljhkaa
