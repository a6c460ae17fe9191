/- An index as a block, and the index of a block. -/
import Derived.Test.YtbbkpmbepljhkaaSIndexTurn
import Derived.Test.YtbbkpmbepljhkaaSPad
set_option linter.all false
namespace Go.Proofs.Ytbbkpmbepljhkaa
open Go Go.Esc

def numB (d : List Int) : List UInt8 := (d.map (bytesI 2)).flatten
theorem numB_length {d : List Int} : (numB d).length = 2 * d.length := by
  induction d with
  | nil => rfl
  | cons x d ih => simp only [numB, List.map_cons, List.flatten_cons, List.length_append, bytesI_length, List.length_cons] at ih ⊢; omega
theorem numB_snoc {d : List Int} {x : Int} : numB (d ++ [x]) = numB d ++ bytesI 2 x := by simp [numB]

def magX : List UInt8 := [105, 100, 120, 33]
def idxH (d : Int) : List UInt8 := magX ++ bytesI 1 d ++ zeros 27
theorem idxH_length {d : Int} : (idxH d).length = 32 := by simp [idxH, magX]
def idxB (d : Int) (t : List Int) : List UInt8 := padB 256 (idxH d ++ numB t)
theorem idxB_length {d : Int} {t : List Int} (ht : t.length = 32) : (idxB d t).length = 256 := padB_length (by rw [List.length_append, idxH_length, numB_length]; omega)

theorem padB_zeros {n k : Nat} {l : List UInt8} (h : l.length + k ≤ n) : padB n (l ++ zeros k) = padB n l := by
  unfold padB zeros
  rw [List.append_assoc, List.replicate_append_replicate, List.length_append, List.length_replicate]
  congr 2; omega

def okX (d : Int) (t : List Int) : Bool := decide (0 ≤ d) && (decide (d ≤ 5) && t.all finI)

theorem put_loop {d : Int} {t : List Int} {g : Heap} {y : List Cell} {q : Nat} (ht : t.length = 32) (hyl : y.length = 33) : ∀ e i m : Nat, i + e = 32 → e < m →
    ∃ h', index_Put_l0 q m (.c (.p (g.length + 1) 0)) (.c (.p (g.length + 3) 0)) (.a (encI t)) (.c (.i .i64 (i : Int))) (g ++ [some (Row.mk y true), some (Row.mk (encB (zeros 256)) true), some (Row.mk (encB magX) true), some (Row.mk (encB (padB 256 (idxH d ++ numB (t.take i)))) true)]) =
      some (.t [.a (encB (bif (t.drop i).all finI then idxB d t else zeros 256)), .c (.i .i64 (bif (t.drop i).all finI then 0 else 1))], h')
  | e, i, 0, _, hm => by omega
  | 0, i, m + 1, hi, hm => by
    have e0 : i = 32 := by omega
    subst e0
    have c0 : ¬ ((32 : Nat) : Int) < 32 := by omega
    have hz : (encB (zeros 256)).length = 256 := by rw [encB_length]; exact zeros_length
    have hB : (encB (idxB d t)).length = 256 := by rw [encB_length]; exact idxB_length ht
    have eB : padB 256 (idxH d ++ numB t) = idxB d t := rfl
    rw [index_Put_l0_eq, List.take_of_length_le (by omega), List.drop_of_length_le (by omega), List.all_nil, cond_true, cond_true, eB]
    generalize idxB d t = B at *
    generalize encB magX = mg at *
    generalize zeros 256 = z at *
    exact ⟨_, by simp only [afAddr_p, List.append_nil, if_true, if_false, bnd_some, mp_some, cnd_t, cnd_f, gd_no, gd_tt, gd_tf, gd_ft, gd_ff, alenS_s, alen_sl, alen_ns, abin_add, abin_sub, abin_mul, abin_eql, abin_neq, abin_lss, abin_leq, abin_gtr, abin_geq, abin_seql, abin_sneq, abin_slss, aun_not, aun_neg, agn_some, aeqN_nf, aeqN_f, aeqN_np, aeqN_p, anilc_p, aeqB_t, aeqB_f, aconv_i, apick_b, cond_true, cond_false, decide_true, decide_false, Bool.not_true, Bool.not_false, aext_t, ofPart_c, ofPart_a, part?_c, part?_a, cells?_c, cells?_a, tupN_2, tupN_3, Option.map_some, Option.some.injEq, List.getElem?_cons_zero, List.getElem?_cons_succ, not_true_eq_false, not_false_eq_true, quiet_same, bytesI_length, Option.join_some, List.append_assoc, List.cons_append, List.nil_append, List.length_append, List.length_cons, List.length_nil, Nat.zero_add, Nat.add_zero, rd_at, rd_at0, set_at, set_at0, List.set_cons_zero, List.set_cons_succ, ne_eq, decide_not, quiet_ext, newOk_some, List.cons_prefix_cons, List.nil_prefix, List.drop_succ_cons, List.drop_zero, List.all_cons, List.all_nil, Bool.and_true, true_and, and_true, aloadN_at, aloadN_at0, aload1_at, aload1_at0, astoreN_at, astoreN_at0, astore1_at, astore1_at0, aslA_at, aslA_at0, ldN_all, ld1_row, stN_all, st1_row, slr_all, Nat.reduceAdd, Nat.reduceMul, Nat.reduceLT, c0, hz, hB] <;> rfl⟩
  | e + 1, i, m + 1, hi, hm => by
    obtain ⟨h', ih⟩ := put_loop (d := d) (g := g) (q := q) ht hyl e (i + 1) m (by omega) (by omega)
    have c0 : (i : Int) < 32 := by omega
    have hz : (encB (zeros 256)).length = 256 := by rw [encB_length]; exact zeros_length
    have haf : afill (List.replicate 256 (Cell.i .u8 0)) [] = some (List.replicate 256 (Cell.i .u8 0)) := rfl
    rw [zeros_enc] at haf
    have hx : aidxA1 32 (.a (encI t)) (.c (.i .i64 (i : Int))) = some (.c (.i .i64 t[i])) := by
      rw [idxA1_of (by omega), encI_get, List.getElem?_eq_getElem (by omega)]; rfl
    have hF := fun h => index_fine_eq (n := t[i]) (h := h)
    have hnl : (idxH d ++ numB (t.take i)).length = 32 + 2 * i := by rw [List.length_append, idxH_length, numB_length, List.length_take]; omega
    have hP0 : (padB 256 (idxH d ++ numB (t.take i))).length = 256 := padB_length (by omega)
    have hp : (encB (padB 256 (idxH d ++ numB (t.take i)))).length = 256 := by rw [encB_length, hP0]
    have hW := fun h => num_With_eq (h := h) (l := padB 256 (idxH d ++ numB (t.take i))) hP0 (a := ((32 + 2 * i : Nat) : Int)) (w := 2) (v := t[i])
    have ew := withB_pad (l := idxH d ++ numB (t.take i)) (a := 32 + 2 * i) (w := 2) (v := t[i]) (by omega) (by omega) (by omega) (by omega)
    rw [hnl, Nat.sub_self, show zeros 0 = [] from rfl, List.append_nil, List.append_assoc, ← numB_snoc, ← List.take_succ_eq_append_getElem (by omega)] at ew
    rw [show ((2 : Nat) : Int) = 2 from rfl] at ew
    rw [ew] at hW
    have hp2 : (encB (padB 256 (idxH d ++ numB (t.take (i + 1))))).length = 256 := by rw [encB_length, padB_length (by rw [List.length_append, idxH_length, numB_length, List.length_take]; omega)]
    have w1 : IntKind.wrap .i64 (2 * (i : Int)) = ((2 * i : Nat) : Int) := by rw [wrap_i64 (by omega) (by omega)]; omega
    have w2 : IntKind.wrap .i64 (32 + ((2 * i : Nat) : Int)) = ((32 + 2 * i : Nat) : Int) := by rw [wrap_i64 (by omega) (by omega)]; omega
    rw [index_Put_l0_eq, zeros_enc, List.drop_eq_getElem_cons (by omega : i < t.length), List.all_cons]
    generalize padB 256 (idxH d ++ numB (t.take (i + 1))) = P1 at *
    generalize padB 256 (idxH d ++ numB (t.take i)) = P0 at *
    generalize idxB d t = B at *
    generalize encB magX = mg at *
    generalize zeros 256 = z at *
    cases c : finI t[i] with
    | false =>
      rw [c] at hF
      rw [Bool.false_and, cond_false, cond_false]
      exact ⟨_, by simp only [afAddr_p, List.append_nil, if_true, if_false, bnd_some, mp_some, cnd_t, cnd_f, gd_no, gd_tt, gd_tf, gd_ft, gd_ff, alenS_s, alen_sl, alen_ns, abin_add, abin_sub, abin_mul, abin_eql, abin_neq, abin_lss, abin_leq, abin_gtr, abin_geq, abin_seql, abin_sneq, abin_slss, aun_not, aun_neg, agn_some, aeqN_nf, aeqN_f, aeqN_np, aeqN_p, anilc_p, aeqB_t, aeqB_f, aconv_i, apick_b, cond_true, cond_false, decide_true, decide_false, Bool.not_true, Bool.not_false, aext_t, ofPart_c, ofPart_a, part?_c, part?_a, cells?_c, cells?_a, tupN_2, tupN_3, Option.map_some, Option.some.injEq, List.getElem?_cons_zero, List.getElem?_cons_succ, not_true_eq_false, not_false_eq_true, quiet_same, bytesI_length, Option.join_some, List.append_assoc, List.cons_append, List.nil_append, List.length_append, List.length_cons, List.length_nil, Nat.zero_add, Nat.add_zero, rd_at, rd_at0, set_at, set_at0, List.set_cons_zero, List.set_cons_succ, ne_eq, decide_not, quiet_ext, newOk_some, List.cons_prefix_cons, List.nil_prefix, List.drop_succ_cons, List.drop_zero, List.all_cons, List.all_nil, Bool.and_true, true_and, and_true, aloadN_at, aloadN_at0, aload1_at, aload1_at0, astoreN_at, astoreN_at0, astore1_at, astore1_at0, aslA_at, aslA_at0, ldN_all, ld1_row, stN_all, st1_row, slr_all, Nat.reduceAdd, Nat.reduceMul, Nat.reduceLT, c0, hx, hF, haf, hz] <;> rfl⟩
    | true =>
      rw [c] at hF
      rw [Bool.true_and]
      refine ⟨h', ?_⟩
      simp only [afAddr_p, List.append_nil, if_true, if_false, bnd_some, mp_some, cnd_t, cnd_f, gd_no, gd_tt, gd_tf, gd_ft, gd_ff, alenS_s, alen_sl, alen_ns, abin_add, abin_sub, abin_mul, abin_eql, abin_neq, abin_lss, abin_leq, abin_gtr, abin_geq, abin_seql, abin_sneq, abin_slss, aun_not, aun_neg, agn_some, aeqN_nf, aeqN_f, aeqN_np, aeqN_p, anilc_p, aeqB_t, aeqB_f, aconv_i, apick_b, cond_true, cond_false, decide_true, decide_false, Bool.not_true, Bool.not_false, aext_t, ofPart_c, ofPart_a, part?_c, part?_a, cells?_c, cells?_a, tupN_2, tupN_3, Option.map_some, Option.some.injEq, List.getElem?_cons_zero, List.getElem?_cons_succ, not_true_eq_false, not_false_eq_true, quiet_same, bytesI_length, Option.join_some, List.append_assoc, List.cons_append, List.nil_append, List.length_append, List.length_cons, List.length_nil, Nat.zero_add, Nat.add_zero, rd_at, rd_at0, set_at, set_at0, List.set_cons_zero, List.set_cons_succ, ne_eq, decide_not, quiet_ext, newOk_some, List.cons_prefix_cons, List.nil_prefix, List.drop_succ_cons, List.drop_zero, List.all_cons, List.all_nil, Bool.and_true, true_and, and_true, aloadN_at, aloadN_at0, aload1_at, aload1_at0, astoreN_at, astoreN_at0, astore1_at, astore1_at0, aslA_at, aslA_at0, ldN_all, ld1_row, stN_all, st1_row, slr_all, Nat.reduceAdd, Nat.reduceMul, Nat.reduceLT, c0, hx, hF, hp, w1, w2, hW, hp2, wi_succ (show i + 1 < 9223372036854775808 by omega)]
      exact ih

theorem index_Put_eq {d : Int} {t : List Int} {h : Heap} (ht : t.length = 32) : S_index_Put [.a (encI (d :: t))] h = some (.t [.a (encB (bif okX d t then idxB d t else zeros 256)), .c (.i .i64 (bif okX d t then 0 else 1))], h) := by
  have key : ∀ N, 32 < N → ∀ g, ∃ g', R_index_Put N [.a (encI (d :: t))] g = some (.t [.a (encB (bif okX d t then idxB d t else zeros 256)), .c (.i .i64 (bif okX d t then 0 else 1))], g') := by
    intro N hN g
    have hB := encX_length (d := d) ht
    have hz : (encB (zeros 256)).length = 256 := by rw [encB_length]; exact zeros_length
    have hD := fun h => index_depth_eq (d := d) (t := t) (h := h)
    have l0 : (encI (d :: t))[0]? = some (.i .i64 d) := rfl
    have haf : afill (List.replicate 256 (Cell.i .u8 0)) [] = some (List.replicate 256 (Cell.i .u8 0)) := rfl
    rw [zeros_enc] at haf
    rw [R_index_Put_eq, zeros_enc]
    unfold okX
    by_cases c : 0 ≤ d ∧ d ≤ 5
    · rw [decide_eq_true c.1, decide_eq_true c.2, Bool.true_and, Bool.true_and]
      have hd := depX_of c.1 c.2
      rw [hd] at hD
      have ef : afill [Cell.i .u8 0, .i .u8 0, .i .u8 0, .i .u8 0] [(0, 1, .c (.i .u8 105)), (1, 1, .c (.i .u8 100)), (2, 1, .c (.i .u8 120)), (3, 1, .c (.i .u8 33))] = some (encB magX) := rfl
      have hO := num_Of_eq (data := magX) (v := .c (.sl (g.length + 2) 0 4 1)) (nv := 4) (h := g ++ [some (Row.mk (encI (d :: t)) true), some (Row.mk (encB (zeros 256)) true), some (Row.mk (encB magX) true), none]) (Has.row (rw := true) (by simp) rfl (noX_encB _)) (by decide)
      rw [of_pad (by decide)] at hO
      have hM : amark (g ++ [some (Row.mk (encI (d :: t)) true), some (Row.mk (encB (zeros 256)) true), some (Row.mk (encB magX) true), none]) (.c (.sl (g.length + 2) 0 4 1)) = some (.c (.sl (g.length + 2) 0 4 1)) := by simp [amark]
      have hW := fun h => num_With_eq (h := h) (l := padB 256 magX) (padB_length (by decide)) (a := 4) (w := 1) (v := d)
      have ew := withB_pad (l := magX) (a := 4) (w := 1) (v := d) (by decide) (by omega) (by omega) (by omega)
      have e5 : magX ++ zeros (4 - magX.length) ++ bytesI 1 d = magX ++ bytesI 1 d := rfl
      have e6 : padB 256 (magX ++ bytesI 1 d) = padB 256 (idxH d ++ numB (t.take 0)) := by
        rw [List.take_zero, show numB [] = [] from rfl, List.append_nil]
        exact (padB_zeros (by simp [magX])).symm
      rw [e5, e6] at ew
      rw [show ((4 : Nat) : Int) = 4 from rfl, show ((1 : Nat) : Int) = 1 from rfl] at ew
      rw [ew] at hW
      have hp2 : (encB (padB 256 (idxH d ++ numB (t.take 0)))).length = 256 := by rw [encB_length, padB_length (by rw [List.length_append, idxH_length, numB_length, List.length_take]; omega)]
      have e7 : aloadN (g ++ [some (Row.mk (encI (d :: t)) true), some (Row.mk (encB (zeros 256)) true), some (Row.mk (encB magX) true), some (Row.mk (encB (padB 256 (idxH d ++ numB (t.take 0)))) true)]) 32 (.c (.p g.length 1)) = some (.a (encI t)) := by
        rw [aloadN_at0]
        simp only [List.getElem?_cons_zero, Option.join_some, ldN, Option.bind_some]
        rw [if_pos ⟨by rw [hB]; omega, rfl⟩]
        have : (encI (d :: t)).drop 1 = encI t := rfl
        rw [this, List.take_of_length_le (by rw [encI_length]; omega)]
      obtain ⟨h', e⟩ := put_loop (d := d) (t := t) (g := g) (q := N) ht hB 32 0 N (by omega) hN
      rw [List.drop_zero] at e
      generalize padB 256 (idxH d ++ numB (t.take 0)) = P1 at *
      generalize padB 256 magX = P2 at *
      generalize idxB d t = B at *
      generalize encB magX = mg at *
      generalize zeros 256 = z at *
      generalize encI (d :: t) = y at *
      refine ⟨h', ?_⟩
      simp only [afAddr_p, List.append_nil, if_true, if_false, bnd_some, mp_some, cnd_t, cnd_f, gd_no, gd_tt, gd_tf, gd_ft, gd_ff, alenS_s, alen_sl, alen_ns, abin_add, abin_sub, abin_mul, abin_eql, abin_neq, abin_lss, abin_leq, abin_gtr, abin_geq, abin_seql, abin_sneq, abin_slss, aun_not, aun_neg, agn_some, aeqN_nf, aeqN_f, aeqN_np, aeqN_p, anilc_p, aeqB_t, aeqB_f, aconv_i, apick_b, cond_true, cond_false, decide_true, decide_false, Bool.not_true, Bool.not_false, aext_t, ofPart_c, ofPart_a, part?_c, part?_a, cells?_c, cells?_a, tupN_2, tupN_3, Option.map_some, Option.some.injEq, List.getElem?_cons_zero, List.getElem?_cons_succ, not_true_eq_false, not_false_eq_true, quiet_same, bytesI_length, Option.join_some, List.append_assoc, List.cons_append, List.nil_append, List.length_append, List.length_cons, List.length_nil, Nat.zero_add, Nat.add_zero, rd_at, rd_at0, set_at, set_at0, List.set_cons_zero, List.set_cons_succ, ne_eq, decide_not, quiet_ext, newOk_some, List.cons_prefix_cons, List.nil_prefix, List.drop_succ_cons, List.drop_zero, List.all_cons, List.all_nil, Bool.and_true, true_and, and_true, aloadN_at, aloadN_at0, aload1_at, aload1_at0, astoreN_at, astoreN_at0, astore1_at, astore1_at0, aslA_at, aslA_at0, ldN_all, ld1_row, stN_all, st1_row, slr_all, Nat.reduceAdd, Nat.reduceMul, Nat.reduceLT, hB, hz, l0, hD, ef, hM, hO, hW, hp2, e7, show g.length + 2 + 1 = g.length + 3 from rfl]
      exact e
    · have cd : ¬ d = ((depX d : Nat) : Int) := by unfold depX; omega
      have ec : (decide (0 ≤ d) && (decide (d ≤ 5) && t.all finI)) = false := by
        by_cases c1 : 0 ≤ d
        · rw [decide_eq_false (show ¬ d ≤ 5 by omega)]; simp
        · rw [decide_eq_false c1]; rfl
      rw [ec, cond_false, cond_false]
      generalize zeros 256 = z at *
      generalize encI (d :: t) = y at *
      exact ⟨_, by simp only [afAddr_p, List.append_nil, if_true, if_false, bnd_some, mp_some, cnd_t, cnd_f, gd_no, gd_tt, gd_tf, gd_ft, gd_ff, alenS_s, alen_sl, alen_ns, abin_add, abin_sub, abin_mul, abin_eql, abin_neq, abin_lss, abin_leq, abin_gtr, abin_geq, abin_seql, abin_sneq, abin_slss, aun_not, aun_neg, agn_some, aeqN_nf, aeqN_f, aeqN_np, aeqN_p, anilc_p, aeqB_t, aeqB_f, aconv_i, apick_b, cond_true, cond_false, decide_true, decide_false, Bool.not_true, Bool.not_false, aext_t, ofPart_c, ofPart_a, part?_c, part?_a, cells?_c, cells?_a, tupN_2, tupN_3, Option.map_some, Option.some.injEq, List.getElem?_cons_zero, List.getElem?_cons_succ, not_true_eq_false, not_false_eq_true, quiet_same, bytesI_length, Option.join_some, List.append_assoc, List.cons_append, List.nil_append, List.length_append, List.length_cons, List.length_nil, Nat.zero_add, Nat.add_zero, rd_at, rd_at0, set_at, set_at0, List.set_cons_zero, List.set_cons_succ, ne_eq, decide_not, quiet_ext, newOk_some, List.cons_prefix_cons, List.nil_prefix, List.drop_succ_cons, List.drop_zero, List.all_cons, List.all_nil, Bool.and_true, true_and, and_true, aloadN_at, aloadN_at0, aload1_at, aload1_at0, astoreN_at, astoreN_at0, astore1_at, astore1_at0, aslA_at, aslA_at0, ldN_all, ld1_row, stN_all, st1_row, slr_all, Nat.reduceAdd, Nat.reduceMul, Nat.reduceLT, hB, hz, l0, hD, cd, haf] <;> rfl⟩
  obtain ⟨g', e⟩ := key (h.length + 33) (by omega) (ro h)
  refine S_index_Put_flat e ?_
  cases okX d t <;> simp

/-! ### The index of a block -/

def getD (b : List UInt8) : Int := fieldN b 4 1
def fldX (b : List UInt8) (i : Nat) : Int := fieldN b (32 + 2 * i) 2
def getT (b : List UInt8) (n : Nat) : List Int := (List.range n).map (fldX b) ++ zI (32 - n)
theorem getT_length {b : List UInt8} {n : Nat} (hn : n ≤ 32) : (getT b n).length = 32 := by simp [getT, zI]; omega
theorem getT_succ {b : List UInt8} {k : Nat} (hk : k < 32) : getT b (k + 1) = (getT b k).set k (fldX b k) := by
  unfold getT
  have e : zI (32 - k) = 0 :: zI (32 - (k + 1)) := by
    unfold zI
    rw [show 32 - k = (32 - (k + 1)) + 1 by omega, List.replicate_succ]
  rw [e, List.set_append_right _ _ (by simp), List.range_succ, List.map_append, List.append_assoc]
  simp
theorem at_fld {b : List UInt8} {a w : Nat} (h : a + w ≤ 256) (hw : 1 ≤ w) (hw4 : w ≤ 4) : ((atN b (a : Int) w : Nat) : Int) = fieldN b a w := by
  unfold atN fieldN
  rw [if_pos ⟨by omega, thereI_true.2 (by omega)⟩]
  simp only [Int.toNat_natCast]

/-- Has it noughts behind its places? -/
def restX (t : List Int) (n e : Nat) : Bool := (List.range' n e).all fun i => decide (toX t i = 0)
def goodX (b : List UInt8) : Bool := okX (getD b) (getT b 32) && (decide (idxB (getD b) (getT b 32) = b) && restX (getT b 32) (manyX (getD b)) (32 - manyX (getD b)))

theorem get_l1 {b : List UInt8} {d : Int} {t : List Int} {ix iz q : Nat} {h : Heap} (ht : t.length = 32) (hx : rd h ix = some ⟨encI (d :: t), true⟩) (hz : rd h iz = some ⟨encI (0 :: zI 32), true⟩) : ∀ e i m : Nat, i + e = 32 → e < m →
    ∃ h', index_Get_l1 q m (.c (.p iz 0)) (.c (.p ix 0)) (.c (.i .i64 (i : Int))) h = some (.t [.a (encI (bif restX t i e then d :: t else 0 :: zI 32)), .c (.i .i64 (bif restX t i e then 0 else 14))], h')
  | e, i, 0, _, hm => by omega
  | 0, i, m + 1, hi, hm => by
    have e0 : i = 32 := by omega
    subst e0
    have c0 : ¬ ((32 : Nat) : Int) < 32 := by omega
    have hX := encX_length (d := d) ht
    have hZ : (encI (0 :: zI 32)).length = 33 := encX_length (d := 0) zI_length
    have s1 := loadAll (h := h) (id := ix) hx hX
    have s2 := storeAll (h := h) (id := iz) (xs := encI (d :: t)) hz hZ hX
    have s3 := loadAll (h := h.set iz (some ⟨encI (d :: t), true⟩)) (id := iz) (rd_set_same (rd_lt hz)) hX
    have er : restX t 32 0 = true := rfl
    rw [index_Get_l1_eq, er, cond_true, cond_true]
    generalize encI (d :: t) = y at *
    exact ⟨_, by simp only [afAddr_p, List.append_nil, if_true, if_false, bnd_some, mp_some, cnd_t, cnd_f, gd_no, gd_tt, gd_tf, gd_ft, gd_ff, alenS_s, alen_sl, alen_ns, abin_add, abin_sub, abin_mul, abin_eql, abin_neq, abin_lss, abin_leq, abin_gtr, abin_geq, abin_seql, abin_sneq, abin_slss, aun_not, aun_neg, agn_some, aeqN_nf, aeqN_f, aeqN_np, aeqN_p, anilc_p, aeqB_t, aeqB_f, aconv_i, apick_b, cond_true, cond_false, decide_true, decide_false, Bool.not_true, Bool.not_false, aext_t, ofPart_c, ofPart_a, part?_c, part?_a, cells?_c, cells?_a, tupN_2, tupN_3, Option.map_some, Option.some.injEq, List.getElem?_cons_zero, List.getElem?_cons_succ, not_true_eq_false, not_false_eq_true, quiet_same, bytesI_length, Option.join_some, List.append_assoc, List.cons_append, List.nil_append, List.length_append, List.length_cons, List.length_nil, Nat.zero_add, Nat.add_zero, rd_at, rd_at0, set_at, set_at0, List.set_cons_zero, List.set_cons_succ, ne_eq, decide_not, quiet_ext, newOk_some, List.cons_prefix_cons, List.nil_prefix, List.drop_succ_cons, List.drop_zero, List.all_cons, List.all_nil, Bool.and_true, true_and, and_true, c0, s1, s2, s3] <;> rfl⟩
  | e + 1, i, m + 1, hi, hm => by
    obtain ⟨h', ih⟩ := get_l1 (b := b) (q := q) ht hx hz e (i + 1) m (by omega) (by omega)
    have c0 : (i : Int) < 32 := by omega
    have hZ : (encI (0 :: zI 32)).length = 33 := encX_length (d := 0) zI_length
    have a1 := adX (id := ix) (i := i) (by omega)
    have l1 := ldX (h := h) (id := ix) hx ht (i := i) (by omega)
    have haf : afill (encI (0 :: zI 32)) [] = some (encI (0 :: zI 32)) := rfl
    have s2 := storeAll (h := h) (id := iz) (xs := encI (0 :: zI 32)) hz hZ hZ
    have s3 := loadAll (h := h.set iz (some ⟨encI (0 :: zI 32), true⟩)) (id := iz) (rd_set_same (rd_lt hz)) hZ
    have er : restX t i (e + 1) = (decide (toX t i = 0) && restX t (i + 1) e) := by unfold restX; rw [List.range'_succ, List.all_cons]
    rw [index_Get_l1_eq, er, zI_enc]
    by_cases c : toX t i = 0
    · rw [decide_eq_true c, Bool.true_and]
      rw [c] at l1
      generalize encI (0 :: zI 32) = z at *
      exact ⟨h', by simp only [afAddr_p, List.append_nil, if_true, if_false, bnd_some, mp_some, cnd_t, cnd_f, gd_no, gd_tt, gd_tf, gd_ft, gd_ff, alenS_s, alen_sl, alen_ns, abin_add, abin_sub, abin_mul, abin_eql, abin_neq, abin_lss, abin_leq, abin_gtr, abin_geq, abin_seql, abin_sneq, abin_slss, aun_not, aun_neg, agn_some, aeqN_nf, aeqN_f, aeqN_np, aeqN_p, anilc_p, aeqB_t, aeqB_f, aconv_i, apick_b, cond_true, cond_false, decide_true, decide_false, Bool.not_true, Bool.not_false, aext_t, ofPart_c, ofPart_a, part?_c, part?_a, cells?_c, cells?_a, tupN_2, tupN_3, Option.map_some, Option.some.injEq, List.getElem?_cons_zero, List.getElem?_cons_succ, not_true_eq_false, not_false_eq_true, quiet_same, bytesI_length, Option.join_some, List.append_assoc, List.cons_append, List.nil_append, List.length_append, List.length_cons, List.length_nil, Nat.zero_add, Nat.add_zero, rd_at, rd_at0, set_at, set_at0, List.set_cons_zero, List.set_cons_succ, ne_eq, decide_not, quiet_ext, newOk_some, List.cons_prefix_cons, List.nil_prefix, List.drop_succ_cons, List.drop_zero, List.all_cons, List.all_nil, Bool.and_true, true_and, and_true, c0, a1, l1, wi_succ (show i + 1 < 9223372036854775808 by omega)]; exact ih⟩
    · rw [decide_eq_false c, Bool.false_and, cond_false, cond_false]
      generalize encI (0 :: zI 32) = z at *
      exact ⟨_, by simp only [afAddr_p, List.append_nil, if_true, if_false, bnd_some, mp_some, cnd_t, cnd_f, gd_no, gd_tt, gd_tf, gd_ft, gd_ff, alenS_s, alen_sl, alen_ns, abin_add, abin_sub, abin_mul, abin_eql, abin_neq, abin_lss, abin_leq, abin_gtr, abin_geq, abin_seql, abin_sneq, abin_slss, aun_not, aun_neg, agn_some, aeqN_nf, aeqN_f, aeqN_np, aeqN_p, anilc_p, aeqB_t, aeqB_f, aconv_i, apick_b, cond_true, cond_false, decide_true, decide_false, Bool.not_true, Bool.not_false, aext_t, ofPart_c, ofPart_a, part?_c, part?_a, cells?_c, cells?_a, tupN_2, tupN_3, Option.map_some, Option.some.injEq, List.getElem?_cons_zero, List.getElem?_cons_succ, not_true_eq_false, not_false_eq_true, quiet_same, bytesI_length, Option.join_some, List.append_assoc, List.cons_append, List.nil_append, List.length_append, List.length_cons, List.length_nil, Nat.zero_add, Nat.add_zero, rd_at, rd_at0, set_at, set_at0, List.set_cons_zero, List.set_cons_succ, ne_eq, decide_not, quiet_ext, newOk_some, List.cons_prefix_cons, List.nil_prefix, List.drop_succ_cons, List.drop_zero, List.all_cons, List.all_nil, Bool.and_true, true_and, and_true, c0, a1, l1, c, haf, s2, s3] <;> rfl⟩

theorem get_l0 {b : List UInt8} {g : Heap} {q : Nat} (hb : b.length = 256) (hq : 32 < q) : ∀ e i m : Nat, i + e = 32 → e < m →
    ∃ h', index_Get_l0 q m (.c (.p g.length 0)) (.c (.p (g.length + 1) 0)) (.c (.p (g.length + 2) 0)) (.c (.i .i64 (i : Int))) (g ++ [some (Row.mk (encB b) true), some (Row.mk (encI (0 :: zI 32)) true), some (Row.mk (encI (getD b :: getT b i)) true)]) =
      some (.t [.a (encI (bif goodX b then getD b :: getT b 32 else 0 :: zI 32)), .c (.i .i64 (bif goodX b then 0 else 14))], h')
  | e, i, 0, _, hm => by omega
  | 0, i, m + 1, hi, hm => by
    have e0 : i = 32 := by omega
    subst e0
    have c0 : ¬ ((32 : Nat) : Int) < 32 := by omega
    have hB : (encB b).length = 256 := by rw [encB_length, hb]
    have ht := getT_length (b := b) (n := 32) (Nat.le_refl _)
    have hX := encX_length (d := getD b) ht
    have hZ : (encI (0 :: zI 32)).length = 33 := encX_length (d := 0) zI_length
    have hz0 : (List.replicate 256 (Cell.i .u8 0)).length = 256 := List.length_replicate
    have hP := fun h => index_Put_eq (d := getD b) (t := getT b 32) (h := h) ht
    have hM := fun h => index_many_eq (d := getD b) (h := h) ht
    have hm32 := manyX_le (getD b)
    have haf : afill (encI (0 :: zI 32)) [] = some (encI (0 :: zI 32)) := rfl
    unfold goodX
    rw [index_Get_l0_eq, zI_enc]
    cases co : okX (getD b) (getT b 32) with
    | false =>
      rw [co] at hP
      simp only [cond_false] at hP
      have hzz : (encB (zeros 256)).length = 256 := by rw [encB_length]; exact zeros_length
      rw [Bool.false_and, cond_false, cond_false]
      generalize encI (0 :: zI 32) = z at *
      generalize encI (getD b :: getT b 32) = y at *
      generalize List.replicate 256 (Cell.i .u8 0) = zz at *
      generalize zeros 256 = zzz at *
      exact ⟨_, by simp only [afAddr_p, List.append_nil, if_true, if_false, bnd_some, mp_some, cnd_t, cnd_f, gd_no, gd_tt, gd_tf, gd_ft, gd_ff, alenS_s, alen_sl, alen_ns, abin_add, abin_sub, abin_mul, abin_eql, abin_neq, abin_lss, abin_leq, abin_gtr, abin_geq, abin_seql, abin_sneq, abin_slss, aun_not, aun_neg, agn_some, aeqN_nf, aeqN_f, aeqN_np, aeqN_p, anilc_p, aeqB_t, aeqB_f, aconv_i, apick_b, cond_true, cond_false, decide_true, decide_false, Bool.not_true, Bool.not_false, aext_t, ofPart_c, ofPart_a, part?_c, part?_a, cells?_c, cells?_a, tupN_2, tupN_3, Option.map_some, Option.some.injEq, List.getElem?_cons_zero, List.getElem?_cons_succ, not_true_eq_false, not_false_eq_true, quiet_same, bytesI_length, Option.join_some, List.append_assoc, List.cons_append, List.nil_append, List.length_append, List.length_cons, List.length_nil, Nat.zero_add, Nat.add_zero, rd_at, rd_at0, set_at, set_at0, List.set_cons_zero, List.set_cons_succ, ne_eq, decide_not, quiet_ext, newOk_some, List.cons_prefix_cons, List.nil_prefix, List.drop_succ_cons, List.drop_zero, List.all_cons, List.all_nil, Bool.and_true, true_and, and_true, aloadN_at, aloadN_at0, aload1_at, aload1_at0, astoreN_at, astoreN_at0, astore1_at, astore1_at0, aslA_at, aslA_at0, ldN_all, ld1_row, stN_all, st1_row, slr_all, Nat.reduceAdd, Nat.reduceMul, Nat.reduceLT, c0, hX, hP, hz0, hzz, haf, hZ, show decide ((1 : Int) = 0) = false from rfl] <;> rfl⟩
    | true =>
      rw [co] at hP
      simp only [cond_true] at hP
      rw [Bool.true_and]
      have hil := idxB_length (d := getD b) ht
      have hI : (encB (idxB (getD b) (getT b 32))).length = 256 := by rw [encB_length, hil]
      have hE := aeq_t (n := 256) hil hb
      by_cases ce : idxB (getD b) (getT b 32) = b
      · rw [decide_eq_true ce, Bool.true_and]
        rw [decide_eq_true ce] at hE
        obtain ⟨h', e⟩ := get_l1 (b := b) (d := getD b) (t := getT b 32) (ix := g.length + 2) (iz := g.length + 1) (q := q) (h := g ++ [some (Row.mk (encB b) true), some (Row.mk (encI (0 :: zI 32)) true), some (Row.mk (encI (getD b :: getT b 32)) true), some (Row.mk (encB (idxB (getD b) (getT b 32))) true)]) ht (by simp) (by simp) (32 - manyX (getD b)) (manyX (getD b)) q (by omega) (by omega)
        refine ⟨h', ?_⟩
        generalize restX (getT b 32) (manyX (getD b)) (32 - manyX (getD b)) = R at *
        generalize idxB (getD b) (getT b 32) = I at *
        generalize getD b :: getT b 32 = Y at *
        generalize encI (0 :: zI 32) = z at *
        generalize List.replicate 256 (Cell.i .u8 0) = zz at *
        simp only [afAddr_p, List.append_nil, if_true, if_false, bnd_some, mp_some, cnd_t, cnd_f, gd_no, gd_tt, gd_tf, gd_ft, gd_ff, alenS_s, alen_sl, alen_ns, abin_add, abin_sub, abin_mul, abin_eql, abin_neq, abin_lss, abin_leq, abin_gtr, abin_geq, abin_seql, abin_sneq, abin_slss, aun_not, aun_neg, agn_some, aeqN_nf, aeqN_f, aeqN_np, aeqN_p, anilc_p, aeqB_t, aeqB_f, aconv_i, apick_b, cond_true, cond_false, decide_true, decide_false, Bool.not_true, Bool.not_false, aext_t, ofPart_c, ofPart_a, part?_c, part?_a, cells?_c, cells?_a, tupN_2, tupN_3, Option.map_some, Option.some.injEq, List.getElem?_cons_zero, List.getElem?_cons_succ, not_true_eq_false, not_false_eq_true, quiet_same, bytesI_length, Option.join_some, List.append_assoc, List.cons_append, List.nil_append, List.length_append, List.length_cons, List.length_nil, Nat.zero_add, Nat.add_zero, rd_at, rd_at0, set_at, set_at0, List.set_cons_zero, List.set_cons_succ, ne_eq, decide_not, quiet_ext, newOk_some, List.cons_prefix_cons, List.nil_prefix, List.drop_succ_cons, List.drop_zero, List.all_cons, List.all_nil, Bool.and_true, true_and, and_true, aloadN_at, aloadN_at0, aload1_at, aload1_at0, astoreN_at, astoreN_at0, astore1_at, astore1_at0, aslA_at, aslA_at0, ldN_all, ld1_row, stN_all, st1_row, slr_all, Nat.reduceAdd, Nat.reduceMul, Nat.reduceLT, c0, hX, hP, hz0, hI, hB, hE, hM]
        exact e
      · rw [decide_eq_false ce, Bool.false_and, cond_false, cond_false]
        rw [decide_eq_false ce] at hE
        generalize idxB (getD b) (getT b 32) = I at *
        generalize encI (0 :: zI 32) = z at *
        generalize encI (getD b :: getT b 32) = y at *
        generalize List.replicate 256 (Cell.i .u8 0) = zz at *
        exact ⟨_, by simp only [afAddr_p, List.append_nil, if_true, if_false, bnd_some, mp_some, cnd_t, cnd_f, gd_no, gd_tt, gd_tf, gd_ft, gd_ff, alenS_s, alen_sl, alen_ns, abin_add, abin_sub, abin_mul, abin_eql, abin_neq, abin_lss, abin_leq, abin_gtr, abin_geq, abin_seql, abin_sneq, abin_slss, aun_not, aun_neg, agn_some, aeqN_nf, aeqN_f, aeqN_np, aeqN_p, anilc_p, aeqB_t, aeqB_f, aconv_i, apick_b, cond_true, cond_false, decide_true, decide_false, Bool.not_true, Bool.not_false, aext_t, ofPart_c, ofPart_a, part?_c, part?_a, cells?_c, cells?_a, tupN_2, tupN_3, Option.map_some, Option.some.injEq, List.getElem?_cons_zero, List.getElem?_cons_succ, not_true_eq_false, not_false_eq_true, quiet_same, bytesI_length, Option.join_some, List.append_assoc, List.cons_append, List.nil_append, List.length_append, List.length_cons, List.length_nil, Nat.zero_add, Nat.add_zero, rd_at, rd_at0, set_at, set_at0, List.set_cons_zero, List.set_cons_succ, ne_eq, decide_not, quiet_ext, newOk_some, List.cons_prefix_cons, List.nil_prefix, List.drop_succ_cons, List.drop_zero, List.all_cons, List.all_nil, Bool.and_true, true_and, and_true, aloadN_at, aloadN_at0, aload1_at, aload1_at0, astoreN_at, astoreN_at0, astore1_at, astore1_at0, aslA_at, aslA_at0, ldN_all, ld1_row, stN_all, st1_row, slr_all, Nat.reduceAdd, Nat.reduceMul, Nat.reduceLT, c0, hX, hP, hz0, hI, hB, hE, haf, hZ] <;> rfl⟩
  | e + 1, i, m + 1, hi, hm => by
    obtain ⟨h', ih⟩ := get_l0 (g := g) (q := q) hb hq e (i + 1) m (by omega) (by omega)
    have c0 : (i : Int) < 32 := by omega
    have hB : (encB b).length = 256 := by rw [encB_length, hb]
    have ht := getT_length (b := b) (n := i) (by omega)
    have hX := encX_length (d := getD b) ht
    have hA := fun h => num_At_eq (h := h) hb (a := ((32 + 2 * i : Nat) : Int)) (w := 2)
    have ea := at_fld (b := b) (a := 32 + 2 * i) (w := 2) (by omega) (by omega) (by omega)
    rw [show ((2 : Nat) : Int) = 2 from rfl] at ea
    rw [ea] at hA
    have w1 : IntKind.wrap .i64 (2 * (i : Int)) = ((2 * i : Nat) : Int) := by rw [wrap_i64 (by omega) (by omega)]; omega
    have w2 : IntKind.wrap .i64 (32 + ((2 * i : Nat) : Int)) = ((32 + 2 * i : Nat) : Int) := by rw [wrap_i64 (by omega) (by omega)]; omega
    have a1 := adX (id := g.length + 2) (i := i) (by omega)
    have hs : (encI (getD b :: getT b i)).set (1 + i) (.i .i64 (fieldN b (32 + 2 * i) 2)) = encI (getD b :: getT b (i + 1)) := by rw [encX_set, getT_succ (by omega)]; rfl
    have hlt : 1 + i < (encI (getD b :: getT b i)).length := by rw [hX]; omega
    rw [index_Get_l0_eq]
    generalize goodX b = G at *
    generalize getD b :: getT b 32 = Y at *
    generalize encI (getD b :: getT b (i + 1)) = y1 at *
    generalize encI (getD b :: getT b i) = y at *
    generalize encI (0 :: zI 32) = z at *
    refine ⟨h', ?_⟩
    simp only [afAddr_p, List.append_nil, if_true, if_false, bnd_some, mp_some, cnd_t, cnd_f, gd_no, gd_tt, gd_tf, gd_ft, gd_ff, alenS_s, alen_sl, alen_ns, abin_add, abin_sub, abin_mul, abin_eql, abin_neq, abin_lss, abin_leq, abin_gtr, abin_geq, abin_seql, abin_sneq, abin_slss, aun_not, aun_neg, agn_some, aeqN_nf, aeqN_f, aeqN_np, aeqN_p, anilc_p, aeqB_t, aeqB_f, aconv_i, apick_b, cond_true, cond_false, decide_true, decide_false, Bool.not_true, Bool.not_false, aext_t, ofPart_c, ofPart_a, part?_c, part?_a, cells?_c, cells?_a, tupN_2, tupN_3, Option.map_some, Option.some.injEq, List.getElem?_cons_zero, List.getElem?_cons_succ, not_true_eq_false, not_false_eq_true, quiet_same, bytesI_length, Option.join_some, List.append_assoc, List.cons_append, List.nil_append, List.length_append, List.length_cons, List.length_nil, Nat.zero_add, Nat.add_zero, rd_at, rd_at0, set_at, set_at0, List.set_cons_zero, List.set_cons_succ, ne_eq, decide_not, quiet_ext, newOk_some, List.cons_prefix_cons, List.nil_prefix, List.drop_succ_cons, List.drop_zero, List.all_cons, List.all_nil, Bool.and_true, true_and, and_true, aloadN_at, aloadN_at0, aload1_at, aload1_at0, astoreN_at, astoreN_at0, astore1_at, astore1_at0, aslA_at, aslA_at0, ldN_all, ld1_row, stN_all, st1_row, slr_all, Nat.reduceAdd, Nat.reduceMul, Nat.reduceLT, c0, hB, w1, w2, hA, a1, hlt, hs, wi_succ (show i + 1 < 9223372036854775808 by omega)]
    exact ih

theorem index_Get_eq {b : List UInt8} {h : Heap} (hb : b.length = 256) : S_index_Get [.a (encB b)] h = some (.t [.a (encI (bif goodX b then getD b :: getT b 32 else 0 :: zI 32)), .c (.i .i64 (bif goodX b then 0 else 14))], h) := by
  have key : ∀ N, 32 < N → ∀ g, ∃ g', R_index_Get N [.a (encB b)] g = some (.t [.a (encI (bif goodX b then getD b :: getT b 32 else 0 :: zI 32)), .c (.i .i64 (bif goodX b then 0 else 14))], g') := by
    intro N hN g
    have hB : (encB b).length = 256 := by rw [encB_length, hb]
    have hZ : (encI (0 :: zI 32)).length = 33 := encX_length (d := 0) zI_length
    have hA := fun h => num_At_eq (h := h) hb (a := 4) (w := 1)
    have ea := at_fld (b := b) (a := 4) (w := 1) (by omega) (by omega) (by omega)
    rw [show ((4 : Nat) : Int) = 4 from rfl, show ((1 : Nat) : Int) = 1 from rfl] at ea
    rw [ea] at hA
    have ef : afill (encI (0 :: zI 32)) [(0, 1, .c (.i .i64 (fieldN b 4 1)))] = some (encI (getD b :: getT b 0)) := by
      have e1 : (0 + 1 ≤ (encI (0 :: zI 32)).length) := by rw [hZ]; omega
      simp only [afill, cells?]
      rw [if_pos ⟨rfl, e1⟩]
      rfl
    have hX := encX_length (d := getD b) (getT_length (b := b) (n := 0) (by omega))
    obtain ⟨h', e⟩ := get_l0 (g := g) (q := N) hb hN 32 0 N (by omega) hN
    rw [R_index_Get_eq, zI_enc]
    generalize goodX b = G at *
    generalize getD b :: getT b 32 = Y at *
    generalize encI (getD b :: getT b 0) = y at *
    generalize encI (0 :: zI 32) = z at *
    exact ⟨h', by simp only [afAddr_p, List.append_nil, if_true, if_false, bnd_some, mp_some, cnd_t, cnd_f, gd_no, gd_tt, gd_tf, gd_ft, gd_ff, alenS_s, alen_sl, alen_ns, abin_add, abin_sub, abin_mul, abin_eql, abin_neq, abin_lss, abin_leq, abin_gtr, abin_geq, abin_seql, abin_sneq, abin_slss, aun_not, aun_neg, agn_some, aeqN_nf, aeqN_f, aeqN_np, aeqN_p, anilc_p, aeqB_t, aeqB_f, aconv_i, apick_b, cond_true, cond_false, decide_true, decide_false, Bool.not_true, Bool.not_false, aext_t, ofPart_c, ofPart_a, part?_c, part?_a, cells?_c, cells?_a, tupN_2, tupN_3, Option.map_some, Option.some.injEq, List.getElem?_cons_zero, List.getElem?_cons_succ, not_true_eq_false, not_false_eq_true, quiet_same, bytesI_length, Option.join_some, List.append_assoc, List.cons_append, List.nil_append, List.length_append, List.length_cons, List.length_nil, Nat.zero_add, Nat.add_zero, rd_at, rd_at0, set_at, set_at0, List.set_cons_zero, List.set_cons_succ, ne_eq, decide_not, quiet_ext, newOk_some, List.cons_prefix_cons, List.nil_prefix, List.drop_succ_cons, List.drop_zero, List.all_cons, List.all_nil, Bool.and_true, true_and, and_true, aloadN_at, aloadN_at0, aload1_at, aload1_at0, astoreN_at, astoreN_at0, astore1_at, astore1_at0, aslA_at, aslA_at0, ldN_all, ld1_row, stN_all, st1_row, slr_all, Nat.reduceAdd, Nat.reduceMul, Nat.reduceLT, hB, hZ, hA, ef, hX]; exact e⟩
  obtain ⟨g', e⟩ := key (h.length + 33) (by omega) (ro h)
  refine S_index_Get_flat e ?_
  cases goodX b <;> simp

end Go.Proofs.Ytbbkpmbepljhkaa
