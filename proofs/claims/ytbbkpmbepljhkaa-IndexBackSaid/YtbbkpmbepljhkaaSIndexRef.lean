/- The document's answers of the chapter of indexes: depth, places, classes, buckets. -/
import Derived.Test.YtbbkpmbepljhkaaSIndexPlain
import Derived.Test.YtbbkpmbepljhkaaGEscheatref19
import Derived.Test.YtbbkpmbepljhkaaGEscheatref02
set_option linter.all false
namespace Go.Proofs.Ytbbkpmbepljhkaa
open Go Go.Esc

theorem ref19_Deep_eq {d : Int} {t : List Int} {h : Heap} : S_escheatref19_Deep [.a (encI (d :: t))] h = some (.c (.i .i64 (depX d : Nat)), h) := by
  have key : ∀ g, ∃ g', R_escheatref19_Deep 0 [.a (encI (d :: t))] g = some (.c (.i .i64 (depX d : Nat)), g') := by
    intro g
    have l0 : (encI (d :: t))[0]? = some (.i .i64 d) := rfl
    rw [R_escheatref19_Deep_eq]
    generalize encI (d :: t) = y at *
    by_cases c1 : d < 0
    · have e : ((depX d : Nat) : Int) = 0 := by unfold depX; omega
      rw [e]
      exact ⟨_, by simp only [afAddr_p, List.append_nil, if_true, if_false, bnd_some, mp_some, cnd_t, cnd_f, gd_no, gd_tt, gd_tf, gd_ft, gd_ff, alenS_s, alen_sl, alen_ns, abin_add, abin_sub, abin_mul, abin_eql, abin_neq, abin_lss, abin_leq, abin_gtr, abin_geq, abin_seql, abin_sneq, abin_slss, aun_not, aun_neg, agn_some, aeqN_nf, aeqN_f, aeqN_np, aeqN_p, anilc_p, aeqB_t, aeqB_f, aconv_i, apick_b, cond_true, cond_false, decide_true, decide_false, Bool.not_true, Bool.not_false, aext_t, ofPart_c, ofPart_a, part?_c, part?_a, cells?_c, cells?_a, tupN_2, tupN_3, Option.map_some, Option.some.injEq, List.getElem?_cons_zero, List.getElem?_cons_succ, not_true_eq_false, not_false_eq_true, quiet_same, bytesI_length, Option.join_some, List.append_assoc, List.cons_append, List.nil_append, List.length_append, List.length_cons, List.length_nil, Nat.zero_add, Nat.add_zero, rd_at, rd_at0, set_at, set_at0, List.set_cons_zero, List.set_cons_succ, ne_eq, decide_not, quiet_ext, newOk_some, List.cons_prefix_cons, List.nil_prefix, List.drop_succ_cons, List.drop_zero, List.all_cons, List.all_nil, Bool.and_true, true_and, and_true, aloadN_at, aloadN_at0, aload1_at, aload1_at0, astoreN_at, astoreN_at0, astore1_at, astore1_at0, aslA_at, aslA_at0, ldN_all, ld1_row, stN_all, st1_row, slr_all, Nat.reduceAdd, Nat.reduceMul, Nat.reduceLT, l0, c1] <;> rfl⟩
    · by_cases c2 : 5 < d
      · have e : ((depX d : Nat) : Int) = 5 := by unfold depX; omega
        rw [e]
        exact ⟨_, by simp only [afAddr_p, List.append_nil, if_true, if_false, bnd_some, mp_some, cnd_t, cnd_f, gd_no, gd_tt, gd_tf, gd_ft, gd_ff, alenS_s, alen_sl, alen_ns, abin_add, abin_sub, abin_mul, abin_eql, abin_neq, abin_lss, abin_leq, abin_gtr, abin_geq, abin_seql, abin_sneq, abin_slss, aun_not, aun_neg, agn_some, aeqN_nf, aeqN_f, aeqN_np, aeqN_p, anilc_p, aeqB_t, aeqB_f, aconv_i, apick_b, cond_true, cond_false, decide_true, decide_false, Bool.not_true, Bool.not_false, aext_t, ofPart_c, ofPart_a, part?_c, part?_a, cells?_c, cells?_a, tupN_2, tupN_3, Option.map_some, Option.some.injEq, List.getElem?_cons_zero, List.getElem?_cons_succ, not_true_eq_false, not_false_eq_true, quiet_same, bytesI_length, Option.join_some, List.append_assoc, List.cons_append, List.nil_append, List.length_append, List.length_cons, List.length_nil, Nat.zero_add, Nat.add_zero, rd_at, rd_at0, set_at, set_at0, List.set_cons_zero, List.set_cons_succ, ne_eq, decide_not, quiet_ext, newOk_some, List.cons_prefix_cons, List.nil_prefix, List.drop_succ_cons, List.drop_zero, List.all_cons, List.all_nil, Bool.and_true, true_and, and_true, aloadN_at, aloadN_at0, aload1_at, aload1_at0, astoreN_at, astoreN_at0, astore1_at, astore1_at0, aslA_at, aslA_at0, ldN_all, ld1_row, stN_all, st1_row, slr_all, Nat.reduceAdd, Nat.reduceMul, Nat.reduceLT, l0, c1, c2] <;> rfl⟩
      · rw [depX_of (by omega) (by omega)]
        exact ⟨_, by simp only [afAddr_p, List.append_nil, if_true, if_false, bnd_some, mp_some, cnd_t, cnd_f, gd_no, gd_tt, gd_tf, gd_ft, gd_ff, alenS_s, alen_sl, alen_ns, abin_add, abin_sub, abin_mul, abin_eql, abin_neq, abin_lss, abin_leq, abin_gtr, abin_geq, abin_seql, abin_sneq, abin_slss, aun_not, aun_neg, agn_some, aeqN_nf, aeqN_f, aeqN_np, aeqN_p, anilc_p, aeqB_t, aeqB_f, aconv_i, apick_b, cond_true, cond_false, decide_true, decide_false, Bool.not_true, Bool.not_false, aext_t, ofPart_c, ofPart_a, part?_c, part?_a, cells?_c, cells?_a, tupN_2, tupN_3, Option.map_some, Option.some.injEq, List.getElem?_cons_zero, List.getElem?_cons_succ, not_true_eq_false, not_false_eq_true, quiet_same, bytesI_length, Option.join_some, List.append_assoc, List.cons_append, List.nil_append, List.length_append, List.length_cons, List.length_nil, Nat.zero_add, Nat.add_zero, rd_at, rd_at0, set_at, set_at0, List.set_cons_zero, List.set_cons_succ, ne_eq, decide_not, quiet_ext, newOk_some, List.cons_prefix_cons, List.nil_prefix, List.drop_succ_cons, List.drop_zero, List.all_cons, List.all_nil, Bool.and_true, true_and, and_true, aloadN_at, aloadN_at0, aload1_at, aload1_at0, astoreN_at, astoreN_at0, astore1_at, astore1_at0, aslA_at, aslA_at0, ldN_all, ld1_row, stN_all, st1_row, slr_all, Nat.reduceAdd, Nat.reduceMul, Nat.reduceLT, l0, c1, c2] <;> rfl⟩
  obtain ⟨g', e⟩ := key (ro h)
  exact S_escheatref19_Deep_flat e rfl

theorem pow_loop {k q : Nat} {h : Heap} (hk : k ≤ 32) : ∀ e i m : Nat, i + e = k → e < m → escheatref19_Pow_l0 q m (.c (.i .i64 (k : Int))) (.c (.i .i64 ((2 ^ i : Nat) : Int))) (.c (.i .i64 (i : Int))) h = some (.c (.i .i64 ((2 ^ k : Nat) : Int)), h)
  | e, i, 0, _, hm => by omega
  | 0, i, m + 1, hi, hm => by
    have e0 : i = k := by omega
    subst e0
    have c0 : ¬ (i : Int) < i := by omega
    rw [escheatref19_Pow_l0_eq]
    simp only [afAddr_p, List.append_nil, if_true, if_false, bnd_some, mp_some, cnd_t, cnd_f, gd_no, gd_tt, gd_tf, gd_ft, gd_ff, alenS_s, alen_sl, alen_ns, abin_add, abin_sub, abin_mul, abin_eql, abin_neq, abin_lss, abin_leq, abin_gtr, abin_geq, abin_seql, abin_sneq, abin_slss, aun_not, aun_neg, agn_some, aeqN_nf, aeqN_f, aeqN_np, aeqN_p, anilc_p, aeqB_t, aeqB_f, aconv_i, apick_b, cond_true, cond_false, decide_true, decide_false, Bool.not_true, Bool.not_false, aext_t, ofPart_c, ofPart_a, part?_c, part?_a, cells?_c, cells?_a, tupN_2, tupN_3, Option.map_some, Option.some.injEq, List.getElem?_cons_zero, List.getElem?_cons_succ, not_true_eq_false, not_false_eq_true, quiet_same, bytesI_length, Option.join_some, List.append_assoc, List.cons_append, List.nil_append, List.length_append, List.length_cons, List.length_nil, Nat.zero_add, Nat.add_zero, rd_at, rd_at0, set_at, set_at0, List.set_cons_zero, List.set_cons_succ, ne_eq, decide_not, quiet_ext, newOk_some, List.cons_prefix_cons, List.nil_prefix, List.drop_succ_cons, List.drop_zero, List.all_cons, List.all_nil, Bool.and_true, true_and, and_true, c0]
  | e + 1, i, m + 1, hi, hm => by
    have ih := pow_loop (q := q) (h := h) hk e (i + 1) m (by omega) (by omega)
    have c0 : (i : Int) < k := by omega
    have hp : 2 ^ i ≤ 2 ^ 32 := Nat.pow_le_pow_right (by omega) (by omega)
    have w1 : IntKind.wrap .i64 (((2 ^ i : Nat) : Int) * 2) = ((2 ^ (i + 1) : Nat) : Int) := by
      rw [Nat.pow_succ]
      generalize 2 ^ i = y at hp ⊢
      rw [wrap_i64 (by omega) (by omega)]; omega
    rw [escheatref19_Pow_l0_eq]
    generalize ((2 ^ (i + 1) : Nat) : Int) = y1 at *
    generalize ((2 ^ i : Nat) : Int) = y at *
    simp only [afAddr_p, List.append_nil, if_true, if_false, bnd_some, mp_some, cnd_t, cnd_f, gd_no, gd_tt, gd_tf, gd_ft, gd_ff, alenS_s, alen_sl, alen_ns, abin_add, abin_sub, abin_mul, abin_eql, abin_neq, abin_lss, abin_leq, abin_gtr, abin_geq, abin_seql, abin_sneq, abin_slss, aun_not, aun_neg, agn_some, aeqN_nf, aeqN_f, aeqN_np, aeqN_p, anilc_p, aeqB_t, aeqB_f, aconv_i, apick_b, cond_true, cond_false, decide_true, decide_false, Bool.not_true, Bool.not_false, aext_t, ofPart_c, ofPart_a, part?_c, part?_a, cells?_c, cells?_a, tupN_2, tupN_3, Option.map_some, Option.some.injEq, List.getElem?_cons_zero, List.getElem?_cons_succ, not_true_eq_false, not_false_eq_true, quiet_same, bytesI_length, Option.join_some, List.append_assoc, List.cons_append, List.nil_append, List.length_append, List.length_cons, List.length_nil, Nat.zero_add, Nat.add_zero, rd_at, rd_at0, set_at, set_at0, List.set_cons_zero, List.set_cons_succ, ne_eq, decide_not, quiet_ext, newOk_some, List.cons_prefix_cons, List.nil_prefix, List.drop_succ_cons, List.drop_zero, List.all_cons, List.all_nil, Bool.and_true, true_and, and_true, c0, w1, wi_succ (show i + 1 < 9223372036854775808 by omega)]
    exact ih
theorem ref19_Pow_eq {k : Nat} {h : Heap} (hk : k ≤ 32) : S_escheatref19_Pow [.c (.i .i64 (k : Int))] h = some (.c (.i .i64 ((2 ^ k : Nat) : Int)), h) := by
  have e := pow_loop (q := k + 1) (h := ro h) hk k 0 (k + 1) (by omega) (by omega)
  exact S_escheatref19_Pow_flat (n := k + 1) (h2 := ro h) (by rw [R_escheatref19_Pow_eq]; exact e) rfl

theorem ref19_Powd_eq {d : Int} {h : Heap} : S_escheatref19_Pow [.c (.i .i64 (depX d : Nat))] h = some (.c (.i .i64 (manyX d : Nat)), h) := ref19_Pow_eq (by have := depX_le d; omega)

theorem ref19_Is_eq {i p b : Nat} {h : Heap} (hb : b ≤ 32) : S_escheatref19_Is [.c (.i .i64 (i : Int)), .c (.i .i64 (p : Int)), .c (.i .i64 (b : Int))] h = some (.c (.b (i % 2 ^ b == p % 2 ^ b)), h) := by
  have key : ∀ g, ∃ g', R_escheatref19_Is 0 [.c (.i .i64 (i : Int)), .c (.i .i64 (p : Int)), .c (.i .i64 (b : Int))] g = some (.c (.b (i % 2 ^ b == p % 2 ^ b)), g') := by
    intro g
    have hP := fun h => ref19_Pow_eq (k := b) (h := h) hb
    have hp0 : 0 < 2 ^ b := Nat.pow_pos (by omega)
    rw [R_escheatref19_Is_eq]
    generalize 2 ^ b = s at *
    have e1 : abin .rem (.c (.i .i64 (i : Int))) (.c (.i .i64 (s : Int))) = some (.c (.i .i64 ((i % s : Nat) : Int))) := by rw [rem_i (by omega) (by omega)]; simp
    have e2 : abin .rem (.c (.i .i64 (p : Int))) (.c (.i .i64 (s : Int))) = some (.c (.i .i64 ((p % s : Nat) : Int))) := by rw [rem_i (by omega) (by omega)]; simp
    have e3 : decide (((i % s : Nat) : Int) = ((p % s : Nat) : Int)) = (i % s == p % s) := by
      rw [Bool.eq_iff_iff, decide_eq_true_eq, beq_iff_eq]; omega
    generalize i % s = x at *
    generalize p % s = y at *
    exact ⟨_, by simp only [afAddr_p, List.append_nil, if_true, if_false, bnd_some, mp_some, cnd_t, cnd_f, gd_no, gd_tt, gd_tf, gd_ft, gd_ff, alenS_s, alen_sl, alen_ns, abin_add, abin_sub, abin_mul, abin_eql, abin_neq, abin_lss, abin_leq, abin_gtr, abin_geq, abin_seql, abin_sneq, abin_slss, aun_not, aun_neg, agn_some, aeqN_nf, aeqN_f, aeqN_np, aeqN_p, anilc_p, aeqB_t, aeqB_f, aconv_i, apick_b, cond_true, cond_false, decide_true, decide_false, Bool.not_true, Bool.not_false, aext_t, ofPart_c, ofPart_a, part?_c, part?_a, cells?_c, cells?_a, tupN_2, tupN_3, Option.map_some, Option.some.injEq, List.getElem?_cons_zero, List.getElem?_cons_succ, not_true_eq_false, not_false_eq_true, quiet_same, bytesI_length, Option.join_some, List.append_assoc, List.cons_append, List.nil_append, List.length_append, List.length_cons, List.length_nil, Nat.zero_add, Nat.add_zero, rd_at, rd_at0, set_at, set_at0, List.set_cons_zero, List.set_cons_succ, ne_eq, decide_not, quiet_ext, newOk_some, List.cons_prefix_cons, List.nil_prefix, List.drop_succ_cons, List.drop_zero, List.all_cons, List.all_nil, Bool.and_true, true_and, and_true, hP, e1, e2, e3] <;> rfl⟩
  obtain ⟨g', e⟩ := key (ro h)
  exact S_escheatref19_Is_flat e rfl

/-! ### Places -/

def clsL (n p b k : Nat) : List Nat := (List.range k).filter fun k => k % 2 ^ b == p % 2 ^ b
theorem clsL_succ {n p b k : Nat} : clsL n p b (k + 1) = clsL n p b k ++ (if (k % 2 ^ b == p % 2 ^ b) = true then [k] else []) := by
  unfold clsL
  rw [List.range_succ, List.filter_append, List.filter_cons]
  simp
theorem clsL_length (n p b k : Nat) : (clsL n p b k).length ≤ k := Nat.le_trans (List.length_filter_le _ _) (by simp)

theorem rplaces_loop {d : Int} {t : List Int} {g : Heap} {p b q : Nat} (ht : t.length = 32) (hb : b ≤ 32) : ∀ (e i m : Nat) (h : Heap) (id : Nat), i + e = manyX d → e < m → Low (g ++ [some (Row.mk (encI (d :: t)) true)]).length (g ++ [some (Row.mk (encI (d :: t)) true)]) h → (g ++ [some (Row.mk (encI (d :: t)) true)]).length ≤ id → rd h id = some ⟨encI (encN (clsL (manyX d) p b i)), true⟩ →
    ∃ v h', escheatref19_Places_l0 q m (.c (.i .i64 (p : Int))) (.c (.i .i64 (b : Int))) (.c (.p g.length 0)) (.c (.sl id 0 (clsL (manyX d) p b i).length 1)) (.c (.i .i64 (i : Int))) h = some (v, h') ∧ Out g.length h' v 1 (placesX (manyX d) p b).length (encI (encN (placesX (manyX d) p b)))
  | e, i, 0, h, id, _, hm, _, _, _ => by omega
  | 0, i, m + 1, h, id, hi, hm, hlow, hid, hr => by
    have e0 : i = manyX d := by omega
    subst e0
    have c0 : ¬ ((manyX d : Nat) : Int) < (manyX d : Nat) := by omega
    have hB := encX_length (d := d) ht
    have s1 := loadAll (h := h) (id := g.length) (cs := encI (d :: t)) (hlow.rd (by simp)) hB
    have hD := fun h => ref19_Deep_eq (d := d) (t := t) (h := h)
    have hP := fun h => ref19_Powd_eq (d := d) (h := h)
    rw [List.length_append] at hid
    rw [escheatref19_Places_l0_eq]
    generalize encI (d :: t) = y at *
    exact ⟨_, _, by simp only [afAddr_p, List.append_nil, if_true, if_false, bnd_some, mp_some, cnd_t, cnd_f, gd_no, gd_tt, gd_tf, gd_ft, gd_ff, alenS_s, alen_sl, alen_ns, abin_add, abin_sub, abin_mul, abin_eql, abin_neq, abin_lss, abin_leq, abin_gtr, abin_geq, abin_seql, abin_sneq, abin_slss, aun_not, aun_neg, agn_some, aeqN_nf, aeqN_f, aeqN_np, aeqN_p, anilc_p, aeqB_t, aeqB_f, aconv_i, apick_b, cond_true, cond_false, decide_true, decide_false, Bool.not_true, Bool.not_false, aext_t, ofPart_c, ofPart_a, part?_c, part?_a, cells?_c, cells?_a, tupN_2, tupN_3, Option.map_some, Option.some.injEq, List.getElem?_cons_zero, List.getElem?_cons_succ, not_true_eq_false, not_false_eq_true, quiet_same, bytesI_length, Option.join_some, List.append_assoc, List.cons_append, List.nil_append, List.length_append, List.length_cons, List.length_nil, Nat.zero_add, Nat.add_zero, rd_at, rd_at0, set_at, set_at0, List.set_cons_zero, List.set_cons_succ, ne_eq, decide_not, quiet_ext, newOk_some, List.cons_prefix_cons, List.nil_prefix, List.drop_succ_cons, List.drop_zero, List.all_cons, List.all_nil, Bool.and_true, true_and, and_true, s1, hD, hP, c0] <;> rfl, by rw [encI_length, encN_length]; show _ = (clsL (manyX d) p b (manyX d)).length * 1; unfold placesX clsL; omega, _, rfl, by omega, hr⟩
  | e + 1, i, m + 1, h, id, hi, hm, hlow, hid, hr => by
    have c0 : (i : Int) < (manyX d : Nat) := by omega
    have hm32 := manyX_le d
    have hB := encX_length (d := d) ht
    have s1 := loadAll (h := h) (id := g.length) (cs := encI (d :: t)) (hlow.rd (by simp)) hB
    have hD := fun h => ref19_Deep_eq (d := d) (t := t) (h := h)
    have hP := fun h => ref19_Powd_eq (d := d) (h := h)
    have hI := fun h => ref19_Is_eq (i := i) (p := p) (b := b) (h := h) hb
    have hul := clsL_length (manyX d) p b i
    have hu := clsL_succ (n := manyX d) (p := p) (b := b) (k := i)
    have w1 := wi_succ (show i + 1 < 9223372036854775808 by omega)
    rw [escheatref19_Places_l0_eq]
    cases c : (i % 2 ^ b == p % 2 ^ b) with
    | false =>
      rw [c] at hu hI
      simp only [Bool.false_eq_true, if_false, List.append_nil] at hu
      obtain ⟨v, h', f1, f2⟩ := rplaces_loop (q := q) ht hb e (i + 1) m h id (by omega) (by omega) hlow hid (by rw [hu]; exact hr)
      rw [hu] at f1
      refine ⟨v, h', ?_, f2⟩
      generalize encI (d :: t) = y at *
      simp only [afAddr_p, List.append_nil, if_true, if_false, bnd_some, mp_some, cnd_t, cnd_f, gd_no, gd_tt, gd_tf, gd_ft, gd_ff, alenS_s, alen_sl, alen_ns, abin_add, abin_sub, abin_mul, abin_eql, abin_neq, abin_lss, abin_leq, abin_gtr, abin_geq, abin_seql, abin_sneq, abin_slss, aun_not, aun_neg, agn_some, aeqN_nf, aeqN_f, aeqN_np, aeqN_p, anilc_p, aeqB_t, aeqB_f, aconv_i, apick_b, cond_true, cond_false, decide_true, decide_false, Bool.not_true, Bool.not_false, aext_t, ofPart_c, ofPart_a, part?_c, part?_a, cells?_c, cells?_a, tupN_2, tupN_3, Option.map_some, Option.some.injEq, List.getElem?_cons_zero, List.getElem?_cons_succ, not_true_eq_false, not_false_eq_true, quiet_same, bytesI_length, Option.join_some, List.append_assoc, List.cons_append, List.nil_append, List.length_append, List.length_cons, List.length_nil, Nat.zero_add, Nat.add_zero, rd_at, rd_at0, set_at, set_at0, List.set_cons_zero, List.set_cons_succ, ne_eq, decide_not, quiet_ext, newOk_some, List.cons_prefix_cons, List.nil_prefix, List.drop_succ_cons, List.drop_zero, List.all_cons, List.all_nil, Bool.and_true, true_and, and_true, s1, hD, hP, c0, hI, escheatref19_Places_j2_eq, w1]
      exact f1
    | true =>
      rw [c] at hu hI
      simp only [if_true] at hu
      obtain ⟨h1, b1, b2, b3, b4, b5⟩ := push (ys := [.i .i64 (i : Int)]) (sz := 1) (n := (clsL (manyX d) p b i).length) hlow hr (by rw [encI_length, encN_length]; omega) hid rfl (by omega) (by omega)
      have he : encI (encN (clsL (manyX d) p b i)) ++ [.i .i64 (i : Int)] = encI (encN (clsL (manyX d) p b (i + 1))) := by rw [hu]; simp [encI, encN]
      rw [he] at b2
      obtain ⟨v, h', f1, f2⟩ := rplaces_loop (q := q) ht hb e (i + 1) m h1 (h.length + 1) (by omega) (by omega) b3 b4 b2
      have hl1 : (clsL (manyX d) p b (i + 1)).length = (clsL (manyX d) p b i).length + 1 := by rw [hu]; simp
      rw [hl1] at f1
      have ef : afill [Cell.i .i64 0] [(0, 1, .c (.i .i64 (i : Int)))] = some [.i .i64 (i : Int)] := rfl
      refine ⟨v, h', ?_, f2⟩
      generalize encI (d :: t) = y at *
      simp only [afAddr_p, List.append_nil, if_true, if_false, bnd_some, mp_some, cnd_t, cnd_f, gd_no, gd_tt, gd_tf, gd_ft, gd_ff, alenS_s, alen_sl, alen_ns, abin_add, abin_sub, abin_mul, abin_eql, abin_neq, abin_lss, abin_leq, abin_gtr, abin_geq, abin_seql, abin_sneq, abin_slss, aun_not, aun_neg, agn_some, aeqN_nf, aeqN_f, aeqN_np, aeqN_p, anilc_p, aeqB_t, aeqB_f, aconv_i, apick_b, cond_true, cond_false, decide_true, decide_false, Bool.not_true, Bool.not_false, aext_t, ofPart_c, ofPart_a, part?_c, part?_a, cells?_c, cells?_a, tupN_2, tupN_3, Option.map_some, Option.some.injEq, List.getElem?_cons_zero, List.getElem?_cons_succ, not_true_eq_false, not_false_eq_true, quiet_same, bytesI_length, Option.join_some, List.append_assoc, List.cons_append, List.nil_append, List.length_append, List.length_cons, List.length_nil, Nat.zero_add, Nat.add_zero, rd_at, rd_at0, set_at, set_at0, List.set_cons_zero, List.set_cons_succ, ne_eq, decide_not, quiet_ext, newOk_some, List.cons_prefix_cons, List.nil_prefix, List.drop_succ_cons, List.drop_zero, List.all_cons, List.all_nil, Bool.and_true, true_and, and_true, s1, hD, hP, c0, hI, ef, b1, escheatref19_Places_j2_eq, w1]
      exact f1

theorem ref19_Places_eq {d : Int} {t : List Int} {p b : Int} {h : Heap} (ht : t.length = 32) :
    S_escheatref19_Places [.a (encI (d :: t)), .c (.i .i64 p), .c (.i .i64 b)] h = some (.c (.sl h.length 0 (plX d p b).length 1), h ++ [some ⟨encI (encN (plX d p b)), true⟩]) := by
  have key : ∀ N, 32 < N → ∀ g, ∃ v g', R_escheatref19_Places N [.a (encI (d :: t)), .c (.i .i64 p), .c (.i .i64 b)] g = some (v, g') ∧ Out g.length g' v 1 (plX d p b).length (encI (encN (plX d p b))) := by
    intro N hN g
    have hB := encX_length (d := d) ht
    have hD := fun h => ref19_Deep_eq (d := d) (t := t) (h := h)
    have hP := fun h => ref19_Powd_eq (d := d) (h := h)
    have hm32 := manyX_le d
    have hdl := depX_le d
    rw [R_escheatref19_Places_eq]
    unfold plX
    by_cases c1 : p < 0
    · rw [if_neg (by omega)]
      refine ⟨.c (.sl (g.length + 2) 0 0 1), g ++ [some (Row.mk (encI (d :: t)) true), some (Row.mk [] true), some (Row.mk [] true)], ?_, rfl, g.length + 2, rfl, by omega, by simp [encI, encN]⟩
      generalize encI (d :: t) = z at *
      simp only [afAddr_p, List.append_nil, if_true, if_false, bnd_some, mp_some, cnd_t, cnd_f, gd_no, gd_tt, gd_tf, gd_ft, gd_ff, alenS_s, alen_sl, alen_ns, abin_add, abin_sub, abin_mul, abin_eql, abin_neq, abin_lss, abin_leq, abin_gtr, abin_geq, abin_seql, abin_sneq, abin_slss, aun_not, aun_neg, agn_some, aeqN_nf, aeqN_f, aeqN_np, aeqN_p, anilc_p, aeqB_t, aeqB_f, aconv_i, apick_b, cond_true, cond_false, decide_true, decide_false, Bool.not_true, Bool.not_false, aext_t, ofPart_c, ofPart_a, part?_c, part?_a, cells?_c, cells?_a, tupN_2, tupN_3, Option.map_some, Option.some.injEq, List.getElem?_cons_zero, List.getElem?_cons_succ, not_true_eq_false, not_false_eq_true, quiet_same, bytesI_length, Option.join_some, List.append_assoc, List.cons_append, List.nil_append, List.length_append, List.length_cons, List.length_nil, Nat.zero_add, Nat.add_zero, rd_at, rd_at0, set_at, set_at0, List.set_cons_zero, List.set_cons_succ, ne_eq, decide_not, quiet_ext, newOk_some, List.cons_prefix_cons, List.nil_prefix, List.drop_succ_cons, List.drop_zero, List.all_cons, List.all_nil, Bool.and_true, true_and, and_true, c1]
    · by_cases c2 : ((manyX d : Nat) : Int) ≤ p
      · rw [if_neg (by omega)]
        refine ⟨.c (.sl (g.length + 2) 0 0 1), g ++ [some (Row.mk (encI (d :: t)) true), some (Row.mk [] true), some (Row.mk [] true)], ?_, rfl, g.length + 2, rfl, by omega, by simp [encI, encN]⟩
        generalize encI (d :: t) = z at *
        simp only [afAddr_p, List.append_nil, if_true, if_false, bnd_some, mp_some, cnd_t, cnd_f, gd_no, gd_tt, gd_tf, gd_ft, gd_ff, alenS_s, alen_sl, alen_ns, abin_add, abin_sub, abin_mul, abin_eql, abin_neq, abin_lss, abin_leq, abin_gtr, abin_geq, abin_seql, abin_sneq, abin_slss, aun_not, aun_neg, agn_some, aeqN_nf, aeqN_f, aeqN_np, aeqN_p, anilc_p, aeqB_t, aeqB_f, aconv_i, apick_b, cond_true, cond_false, decide_true, decide_false, Bool.not_true, Bool.not_false, aext_t, ofPart_c, ofPart_a, part?_c, part?_a, cells?_c, cells?_a, tupN_2, tupN_3, Option.map_some, Option.some.injEq, List.getElem?_cons_zero, List.getElem?_cons_succ, not_true_eq_false, not_false_eq_true, quiet_same, bytesI_length, Option.join_some, List.append_assoc, List.cons_append, List.nil_append, List.length_append, List.length_cons, List.length_nil, Nat.zero_add, Nat.add_zero, rd_at, rd_at0, set_at, set_at0, List.set_cons_zero, List.set_cons_succ, ne_eq, decide_not, quiet_ext, newOk_some, List.cons_prefix_cons, List.nil_prefix, List.drop_succ_cons, List.drop_zero, List.all_cons, List.all_nil, Bool.and_true, true_and, and_true, aloadN_at, aloadN_at0, aload1_at, aload1_at0, astoreN_at, astoreN_at0, astore1_at, astore1_at0, aslA_at, aslA_at0, ldN_all, ld1_row, stN_all, st1_row, slr_all, Nat.reduceAdd, Nat.reduceMul, Nat.reduceLT, hB, hD, hP, c1, c2]
      · rw [if_pos (by omega)]
        obtain ⟨p, rfl⟩ : ∃ n : Nat, p = n := ⟨p.toNat, by omega⟩
        rw [Int.toNat_natCast]
        have hbx := bX_le d b
        obtain ⟨v, g', f1, f2⟩ := rplaces_loop (g := g) (d := d) (t := t) (p := p) (b := bX d b) (q := N) ht (by omega) (manyX d) 0 N (g ++ [some (Row.mk (encI (d :: t)) true), some (Row.mk [] true), some (Row.mk [] true)]) (g.length + 2) (by omega) (by omega)
          (by have := (Low.refl (h := g ++ [some (Row.mk (encI (d :: t)) true)]) (Nat.le_refl _)).new [some ⟨[], true⟩, some ⟨[], true⟩]
              simpa using this) (by simp) (by simp [clsL, encI, encN])
        rw [show clsL (manyX d) p (bX d b) 0 = [] from rfl] at f1
        refine ⟨v, g', ?_, f2⟩
        by_cases c3 : b < 0
        · have eb : bX d b = 0 := by unfold bX; omega
          rw [eb] at f1
          have c4 : ¬ ((depX d : Nat) : Int) < 0 := by omega
          generalize encI (d :: t) = z at *
          simp only [afAddr_p, List.append_nil, if_true, if_false, bnd_some, mp_some, cnd_t, cnd_f, gd_no, gd_tt, gd_tf, gd_ft, gd_ff, alenS_s, alen_sl, alen_ns, abin_add, abin_sub, abin_mul, abin_eql, abin_neq, abin_lss, abin_leq, abin_gtr, abin_geq, abin_seql, abin_sneq, abin_slss, aun_not, aun_neg, agn_some, aeqN_nf, aeqN_f, aeqN_np, aeqN_p, anilc_p, aeqB_t, aeqB_f, aconv_i, apick_b, cond_true, cond_false, decide_true, decide_false, Bool.not_true, Bool.not_false, aext_t, ofPart_c, ofPart_a, part?_c, part?_a, cells?_c, cells?_a, tupN_2, tupN_3, Option.map_some, Option.some.injEq, List.getElem?_cons_zero, List.getElem?_cons_succ, not_true_eq_false, not_false_eq_true, quiet_same, bytesI_length, Option.join_some, List.append_assoc, List.cons_append, List.nil_append, List.length_append, List.length_cons, List.length_nil, Nat.zero_add, Nat.add_zero, rd_at, rd_at0, set_at, set_at0, List.set_cons_zero, List.set_cons_succ, ne_eq, decide_not, quiet_ext, newOk_some, List.cons_prefix_cons, List.nil_prefix, List.drop_succ_cons, List.drop_zero, List.all_cons, List.all_nil, Bool.and_true, true_and, and_true, aloadN_at, aloadN_at0, aload1_at, aload1_at0, astoreN_at, astoreN_at0, astore1_at, astore1_at0, aslA_at, aslA_at0, ldN_all, ld1_row, stN_all, st1_row, slr_all, Nat.reduceAdd, Nat.reduceMul, Nat.reduceLT, hB, hD, hP, c1, c2, c3, c4, escheatref19_Places_j0_eq, escheatref19_Places_j1_eq] at f1 ⊢
          exact f1
        · by_cases c4 : ((depX d : Nat) : Int) < b
          · have eb : bX d b = depX d := by unfold bX; omega
            rw [eb] at f1
            generalize encI (d :: t) = z at *
            simp only [afAddr_p, List.append_nil, if_true, if_false, bnd_some, mp_some, cnd_t, cnd_f, gd_no, gd_tt, gd_tf, gd_ft, gd_ff, alenS_s, alen_sl, alen_ns, abin_add, abin_sub, abin_mul, abin_eql, abin_neq, abin_lss, abin_leq, abin_gtr, abin_geq, abin_seql, abin_sneq, abin_slss, aun_not, aun_neg, agn_some, aeqN_nf, aeqN_f, aeqN_np, aeqN_p, anilc_p, aeqB_t, aeqB_f, aconv_i, apick_b, cond_true, cond_false, decide_true, decide_false, Bool.not_true, Bool.not_false, aext_t, ofPart_c, ofPart_a, part?_c, part?_a, cells?_c, cells?_a, tupN_2, tupN_3, Option.map_some, Option.some.injEq, List.getElem?_cons_zero, List.getElem?_cons_succ, not_true_eq_false, not_false_eq_true, quiet_same, bytesI_length, Option.join_some, List.append_assoc, List.cons_append, List.nil_append, List.length_append, List.length_cons, List.length_nil, Nat.zero_add, Nat.add_zero, rd_at, rd_at0, set_at, set_at0, List.set_cons_zero, List.set_cons_succ, ne_eq, decide_not, quiet_ext, newOk_some, List.cons_prefix_cons, List.nil_prefix, List.drop_succ_cons, List.drop_zero, List.all_cons, List.all_nil, Bool.and_true, true_and, and_true, aloadN_at, aloadN_at0, aload1_at, aload1_at0, astoreN_at, astoreN_at0, astore1_at, astore1_at0, aslA_at, aslA_at0, ldN_all, ld1_row, stN_all, st1_row, slr_all, Nat.reduceAdd, Nat.reduceMul, Nat.reduceLT, hB, hD, hP, c1, c2, c3, c4, escheatref19_Places_j0_eq, escheatref19_Places_j1_eq] at f1 ⊢
            exact f1
          · have eb : ((bX d b : Nat) : Int) = b := by unfold bX; omega
            rw [eb] at f1
            generalize encI (d :: t) = z at *
            simp only [afAddr_p, List.append_nil, if_true, if_false, bnd_some, mp_some, cnd_t, cnd_f, gd_no, gd_tt, gd_tf, gd_ft, gd_ff, alenS_s, alen_sl, alen_ns, abin_add, abin_sub, abin_mul, abin_eql, abin_neq, abin_lss, abin_leq, abin_gtr, abin_geq, abin_seql, abin_sneq, abin_slss, aun_not, aun_neg, agn_some, aeqN_nf, aeqN_f, aeqN_np, aeqN_p, anilc_p, aeqB_t, aeqB_f, aconv_i, apick_b, cond_true, cond_false, decide_true, decide_false, Bool.not_true, Bool.not_false, aext_t, ofPart_c, ofPart_a, part?_c, part?_a, cells?_c, cells?_a, tupN_2, tupN_3, Option.map_some, Option.some.injEq, List.getElem?_cons_zero, List.getElem?_cons_succ, not_true_eq_false, not_false_eq_true, quiet_same, bytesI_length, Option.join_some, List.append_assoc, List.cons_append, List.nil_append, List.length_append, List.length_cons, List.length_nil, Nat.zero_add, Nat.add_zero, rd_at, rd_at0, set_at, set_at0, List.set_cons_zero, List.set_cons_succ, ne_eq, decide_not, quiet_ext, newOk_some, List.cons_prefix_cons, List.nil_prefix, List.drop_succ_cons, List.drop_zero, List.all_cons, List.all_nil, Bool.and_true, true_and, and_true, aloadN_at, aloadN_at0, aload1_at, aload1_at0, astoreN_at, astoreN_at0, astore1_at, astore1_at0, aslA_at, aslA_at0, ldN_all, ld1_row, stN_all, st1_row, slr_all, Nat.reduceAdd, Nat.reduceMul, Nat.reduceLT, hB, hD, hP, c1, c2, c3, c4, escheatref19_Places_j0_eq, escheatref19_Places_j1_eq] at f1 ⊢
            exact f1
  obtain ⟨v, g', e, ho⟩ := key (h.length + 33) (by omega) (ro h)
  exact S_escheatref19_Places_out e (by simpa [ro_length] using ho) (by simp)

/-! ### Bits -/

def eachX (t : List Int) (p b k : Nat) : Bool := !(k % 2 ^ b == p % 2 ^ b) || decide (toX t k = toX t p)
theorem rall {n : Nat} {t : List Int} {p b : Nat} (h0 : toX t p ≠ 0) : (List.range n).all (eachX t p b) = allX n t p b := by
  rw [Bool.eq_iff_iff, allX_iff]
  simp only [List.all_eq_true, List.mem_range, eachX, Bool.or_eq_true, Bool.not_eq_true', beq_eq_false_iff_ne, ne_eq, decide_eq_true_eq]
  constructor
  · intro h
    refine ⟨h0, fun k hk hm => ?_⟩
    rcases h k hk with h | h
    · exact absurd hm h
    · exact h
  · intro h k hk
    by_cases hm : k % 2 ^ b = p % 2 ^ b
    · exact .inr (h.2 k hk hm)
    · exact .inl hm

theorem rbits_inner {d : Int} {t : List Int} {g : Heap} {p b n q m : Nat} (ht : t.length = 32) (hp : p < 32) (hn : n ≤ 32) (hb : b ≤ 5) : ∀ (e i m2 : Nat) (a : Bool), i + e = n → e < m2 →
    escheatref19_Bits_l1 q m m2 (.c (.i .i64 (p : Int))) (.c (.p g.length 0)) (.c (.i .i64 (n : Int))) (.c (.i .i64 (b : Int))) (.c (.b a)) (.c (.i .i64 (i : Int))) (g ++ [some (Row.mk (encI (d :: t)) true)]) =
      bif a && (List.range' i e).all (eachX t p b) then some (.c (.i .i64 (b : Int)), g ++ [some (Row.mk (encI (d :: t)) true)])
      else escheatref19_Bits_l0 q m (.c (.i .i64 (p : Int))) (.c (.p g.length 0)) (.c (.i .i64 (n : Int))) (.c (.i .i64 ((b + 1 : Nat) : Int))) (g ++ [some (Row.mk (encI (d :: t)) true)])
  | e, i, 0, a, _, hm => by omega
  | 0, i, m2 + 1, a, hi, hm => by
    have c0 : ¬ (i : Int) < n := by omega
    have w1 := wi_succ (show b + 1 < 9223372036854775808 by omega)
    rw [escheatref19_Bits_l1_eq, List.range'_zero, List.all_nil, Bool.and_true]
    cases a <;> simp only [afAddr_p, List.append_nil, if_true, if_false, bnd_some, mp_some, cnd_t, cnd_f, gd_no, gd_tt, gd_tf, gd_ft, gd_ff, alenS_s, alen_sl, alen_ns, abin_add, abin_sub, abin_mul, abin_eql, abin_neq, abin_lss, abin_leq, abin_gtr, abin_geq, abin_seql, abin_sneq, abin_slss, aun_not, aun_neg, agn_some, aeqN_nf, aeqN_f, aeqN_np, aeqN_p, anilc_p, aeqB_t, aeqB_f, aconv_i, apick_b, cond_true, cond_false, decide_true, decide_false, Bool.not_true, Bool.not_false, aext_t, ofPart_c, ofPart_a, part?_c, part?_a, cells?_c, cells?_a, tupN_2, tupN_3, Option.map_some, Option.some.injEq, List.getElem?_cons_zero, List.getElem?_cons_succ, not_true_eq_false, not_false_eq_true, quiet_same, bytesI_length, Option.join_some, List.append_assoc, List.cons_append, List.nil_append, List.length_append, List.length_cons, List.length_nil, Nat.zero_add, Nat.add_zero, rd_at, rd_at0, set_at, set_at0, List.set_cons_zero, List.set_cons_succ, ne_eq, decide_not, quiet_ext, newOk_some, List.cons_prefix_cons, List.nil_prefix, List.drop_succ_cons, List.drop_zero, List.all_cons, List.all_nil, Bool.and_true, true_and, and_true, c0, w1]
  | e + 1, i, m2 + 1, a, hi, hm => by
    have ih := fun a => rbits_inner (d := d) (g := g) (q := q) (m := m) ht hp hn hb e (i + 1) m2 a (by omega) (by omega)
    have c0 : (i : Int) < n := by omega
    have hI := fun h => ref19_Is_eq (i := i) (p := p) (b := b) (h := h) (by omega)
    have a1 := adX (id := g.length) (i := i) (by omega)
    have a2 := adX (id := g.length) (i := p) (by omega)
    have x1 := encX_get (d := d) (i := i) ht (by omega)
    have x2 := encX_get (d := d) (i := p) ht (by omega)
    have w1 := wi_succ (show i + 1 < 9223372036854775808 by omega)
    rw [escheatref19_Bits_l1_eq, List.range'_succ, List.all_cons]
    cases a with
    | false =>
      have ih := ih false
      rw [Bool.false_and, cond_false] at ih ⊢
      generalize encI (d :: t) = y at *
      simp only [afAddr_p, List.append_nil, if_true, if_false, bnd_some, mp_some, cnd_t, cnd_f, gd_no, gd_tt, gd_tf, gd_ft, gd_ff, alenS_s, alen_sl, alen_ns, abin_add, abin_sub, abin_mul, abin_eql, abin_neq, abin_lss, abin_leq, abin_gtr, abin_geq, abin_seql, abin_sneq, abin_slss, aun_not, aun_neg, agn_some, aeqN_nf, aeqN_f, aeqN_np, aeqN_p, anilc_p, aeqB_t, aeqB_f, aconv_i, apick_b, cond_true, cond_false, decide_true, decide_false, Bool.not_true, Bool.not_false, aext_t, ofPart_c, ofPart_a, part?_c, part?_a, cells?_c, cells?_a, tupN_2, tupN_3, Option.map_some, Option.some.injEq, List.getElem?_cons_zero, List.getElem?_cons_succ, not_true_eq_false, not_false_eq_true, quiet_same, bytesI_length, Option.join_some, List.append_assoc, List.cons_append, List.nil_append, List.length_append, List.length_cons, List.length_nil, Nat.zero_add, Nat.add_zero, rd_at, rd_at0, set_at, set_at0, List.set_cons_zero, List.set_cons_succ, ne_eq, decide_not, quiet_ext, newOk_some, List.cons_prefix_cons, List.nil_prefix, List.drop_succ_cons, List.drop_zero, List.all_cons, List.all_nil, Bool.and_true, true_and, and_true, c0, w1]
      exact ih
    | true =>
      rw [Bool.true_and]
      have ih := ih (eachX t p b i)
      rw [← ih]
      unfold eachX
      cases c : (i % 2 ^ b == p % 2 ^ b) with
      | false =>
        rw [c] at hI
        generalize encI (d :: t) = y at *
        simp only [afAddr_p, List.append_nil, if_true, if_false, bnd_some, mp_some, cnd_t, cnd_f, gd_no, gd_tt, gd_tf, gd_ft, gd_ff, alenS_s, alen_sl, alen_ns, abin_add, abin_sub, abin_mul, abin_eql, abin_neq, abin_lss, abin_leq, abin_gtr, abin_geq, abin_seql, abin_sneq, abin_slss, aun_not, aun_neg, agn_some, aeqN_nf, aeqN_f, aeqN_np, aeqN_p, anilc_p, aeqB_t, aeqB_f, aconv_i, apick_b, cond_true, cond_false, decide_true, decide_false, Bool.not_true, Bool.not_false, aext_t, ofPart_c, ofPart_a, part?_c, part?_a, cells?_c, cells?_a, tupN_2, tupN_3, Option.map_some, Option.some.injEq, List.getElem?_cons_zero, List.getElem?_cons_succ, not_true_eq_false, not_false_eq_true, quiet_same, bytesI_length, Option.join_some, List.append_assoc, List.cons_append, List.nil_append, List.length_append, List.length_cons, List.length_nil, Nat.zero_add, Nat.add_zero, rd_at, rd_at0, set_at, set_at0, List.set_cons_zero, List.set_cons_succ, ne_eq, decide_not, quiet_ext, newOk_some, List.cons_prefix_cons, List.nil_prefix, List.drop_succ_cons, List.drop_zero, List.all_cons, List.all_nil, Bool.and_true, true_and, and_true, aloadN_at, aloadN_at0, aload1_at, aload1_at0, astoreN_at, astoreN_at0, astore1_at, astore1_at0, aslA_at, aslA_at0, ldN_all, ld1_row, stN_all, st1_row, slr_all, Nat.reduceAdd, Nat.reduceMul, Nat.reduceLT, c0, hI, w1, Bool.true_or]
      | true =>
        rw [c] at hI
        generalize encI (d :: t) = y at *
        simp only [afAddr_p, List.append_nil, if_true, if_false, bnd_some, mp_some, cnd_t, cnd_f, gd_no, gd_tt, gd_tf, gd_ft, gd_ff, alenS_s, alen_sl, alen_ns, abin_add, abin_sub, abin_mul, abin_eql, abin_neq, abin_lss, abin_leq, abin_gtr, abin_geq, abin_seql, abin_sneq, abin_slss, aun_not, aun_neg, agn_some, aeqN_nf, aeqN_f, aeqN_np, aeqN_p, anilc_p, aeqB_t, aeqB_f, aconv_i, apick_b, cond_true, cond_false, decide_true, decide_false, Bool.not_true, Bool.not_false, aext_t, ofPart_c, ofPart_a, part?_c, part?_a, cells?_c, cells?_a, tupN_2, tupN_3, Option.map_some, Option.some.injEq, List.getElem?_cons_zero, List.getElem?_cons_succ, not_true_eq_false, not_false_eq_true, quiet_same, bytesI_length, Option.join_some, List.append_assoc, List.cons_append, List.nil_append, List.length_append, List.length_cons, List.length_nil, Nat.zero_add, Nat.add_zero, rd_at, rd_at0, set_at, set_at0, List.set_cons_zero, List.set_cons_succ, ne_eq, decide_not, quiet_ext, newOk_some, List.cons_prefix_cons, List.nil_prefix, List.drop_succ_cons, List.drop_zero, List.all_cons, List.all_nil, Bool.and_true, true_and, and_true, aloadN_at, aloadN_at0, aload1_at, aload1_at0, astoreN_at, astoreN_at0, astore1_at, astore1_at0, aslA_at, aslA_at0, ldN_all, ld1_row, stN_all, st1_row, slr_all, Nat.reduceAdd, Nat.reduceMul, Nat.reduceLT, c0, hI, a1, a2, x1, x2, w1, Bool.false_or]

theorem rbits_outer {d : Int} {t : List Int} {g : Heap} {p q : Nat} (ht : t.length = 32) (hp : p < manyX d) (hq : 32 < q) : ∀ (e b m : Nat), b + e = depX d → e < m →
    escheatref19_Bits_l0 q m (.c (.i .i64 (p : Int))) (.c (.p g.length 0)) (.c (.i .i64 (manyX d : Nat))) (.c (.i .i64 (b : Int))) (g ++ [some (Row.mk (encI (d :: t)) true)]) = some (.c (.i .i64 (bitsFrom (manyX d) t p b e : Nat)), g ++ [some (Row.mk (encI (d :: t)) true)])
  | e, b, 0, _, hm => by omega
  | 0, b, m + 1, hb, hm => by
    have e0 : b = depX d := by omega
    subst e0
    have c0 : ¬ ((depX d : Nat) : Int) < (depX d : Nat) := by omega
    have hB := encX_length (d := d) ht
    have hD := fun h => ref19_Deep_eq (d := d) (t := t) (h := h)
    rw [escheatref19_Bits_l0_eq, bitsFrom]
    generalize encI (d :: t) = y at *
    simp only [afAddr_p, List.append_nil, if_true, if_false, bnd_some, mp_some, cnd_t, cnd_f, gd_no, gd_tt, gd_tf, gd_ft, gd_ff, alenS_s, alen_sl, alen_ns, abin_add, abin_sub, abin_mul, abin_eql, abin_neq, abin_lss, abin_leq, abin_gtr, abin_geq, abin_seql, abin_sneq, abin_slss, aun_not, aun_neg, agn_some, aeqN_nf, aeqN_f, aeqN_np, aeqN_p, anilc_p, aeqB_t, aeqB_f, aconv_i, apick_b, cond_true, cond_false, decide_true, decide_false, Bool.not_true, Bool.not_false, aext_t, ofPart_c, ofPart_a, part?_c, part?_a, cells?_c, cells?_a, tupN_2, tupN_3, Option.map_some, Option.some.injEq, List.getElem?_cons_zero, List.getElem?_cons_succ, not_true_eq_false, not_false_eq_true, quiet_same, bytesI_length, Option.join_some, List.append_assoc, List.cons_append, List.nil_append, List.length_append, List.length_cons, List.length_nil, Nat.zero_add, Nat.add_zero, rd_at, rd_at0, set_at, set_at0, List.set_cons_zero, List.set_cons_succ, ne_eq, decide_not, quiet_ext, newOk_some, List.cons_prefix_cons, List.nil_prefix, List.drop_succ_cons, List.drop_zero, List.all_cons, List.all_nil, Bool.and_true, true_and, and_true, aloadN_at, aloadN_at0, aload1_at, aload1_at0, astoreN_at, astoreN_at0, astore1_at, astore1_at0, aslA_at, aslA_at0, ldN_all, ld1_row, stN_all, st1_row, slr_all, Nat.reduceAdd, Nat.reduceMul, Nat.reduceLT, c0, hB, hD]
  | e + 1, b, m + 1, hb, hm => by
    have hm32 := manyX_le d
    have hdl := depX_le d
    have c0 : (b : Int) < (depX d : Nat) := by omega
    have hB := encX_length (d := d) ht
    have hD := fun h => ref19_Deep_eq (d := d) (t := t) (h := h)
    have a2 := adX (id := g.length) (i := p) (by omega)
    have x2 := encX_get (d := d) (i := p) ht (by omega)
    rw [escheatref19_Bits_l0_eq]
    by_cases cz : toX t p = 0
    · rw [cz] at x2
      have hall : ∀ c, allX (manyX d) t p c = false := by intro c; unfold allX; rw [cz]; rfl
      have e1 : ∀ e b, b + e = depX d → bitsFrom (manyX d) t p b e = depX d := by
        intro e
        induction e with
        | zero => intro b h; unfold bitsFrom; omega
        | succ e ih => intro b h; unfold bitsFrom; rw [hall, cond_false]; exact ih (b + 1) (by omega)
      rw [e1 (e + 1) b (by omega)]
      generalize encI (d :: t) = y at *
      simp only [afAddr_p, List.append_nil, if_true, if_false, bnd_some, mp_some, cnd_t, cnd_f, gd_no, gd_tt, gd_tf, gd_ft, gd_ff, alenS_s, alen_sl, alen_ns, abin_add, abin_sub, abin_mul, abin_eql, abin_neq, abin_lss, abin_leq, abin_gtr, abin_geq, abin_seql, abin_sneq, abin_slss, aun_not, aun_neg, agn_some, aeqN_nf, aeqN_f, aeqN_np, aeqN_p, anilc_p, aeqB_t, aeqB_f, aconv_i, apick_b, cond_true, cond_false, decide_true, decide_false, Bool.not_true, Bool.not_false, aext_t, ofPart_c, ofPart_a, part?_c, part?_a, cells?_c, cells?_a, tupN_2, tupN_3, Option.map_some, Option.some.injEq, List.getElem?_cons_zero, List.getElem?_cons_succ, not_true_eq_false, not_false_eq_true, quiet_same, bytesI_length, Option.join_some, List.append_assoc, List.cons_append, List.nil_append, List.length_append, List.length_cons, List.length_nil, Nat.zero_add, Nat.add_zero, rd_at, rd_at0, set_at, set_at0, List.set_cons_zero, List.set_cons_succ, ne_eq, decide_not, quiet_ext, newOk_some, List.cons_prefix_cons, List.nil_prefix, List.drop_succ_cons, List.drop_zero, List.all_cons, List.all_nil, Bool.and_true, true_and, and_true, aloadN_at, aloadN_at0, aload1_at, aload1_at0, astoreN_at, astoreN_at0, astore1_at, astore1_at0, aslA_at, aslA_at0, ldN_all, ld1_row, stN_all, st1_row, slr_all, Nat.reduceAdd, Nat.reduceMul, Nat.reduceLT, c0, hB, hD, a2, x2]
    · have ih := rbits_outer (g := g) (q := q) ht hp hq e (b + 1) m (by omega) (by omega)
      have hI := rbits_inner (d := d) (g := g) (q := q) (m := m) ht (show p < 32 by omega) hm32 (show b ≤ 5 by omega) (manyX d) 0 q true (by omega) (by omega)
      rw [Bool.true_and, ← List.range_eq_range', rall cz] at hI
      rw [show (((0 : Nat) : Int)) = 0 from rfl] at hI
      rw [bitsFrom]
      cases ca : allX (manyX d) t p b with
      | true =>
        rw [ca, cond_true] at hI
        rw [cond_true]
        generalize encI (d :: t) = y at *
        simp only [afAddr_p, List.append_nil, if_true, if_false, bnd_some, mp_some, cnd_t, cnd_f, gd_no, gd_tt, gd_tf, gd_ft, gd_ff, alenS_s, alen_sl, alen_ns, abin_add, abin_sub, abin_mul, abin_eql, abin_neq, abin_lss, abin_leq, abin_gtr, abin_geq, abin_seql, abin_sneq, abin_slss, aun_not, aun_neg, agn_some, aeqN_nf, aeqN_f, aeqN_np, aeqN_p, anilc_p, aeqB_t, aeqB_f, aconv_i, apick_b, cond_true, cond_false, decide_true, decide_false, Bool.not_true, Bool.not_false, aext_t, ofPart_c, ofPart_a, part?_c, part?_a, cells?_c, cells?_a, tupN_2, tupN_3, Option.map_some, Option.some.injEq, List.getElem?_cons_zero, List.getElem?_cons_succ, not_true_eq_false, not_false_eq_true, quiet_same, bytesI_length, Option.join_some, List.append_assoc, List.cons_append, List.nil_append, List.length_append, List.length_cons, List.length_nil, Nat.zero_add, Nat.add_zero, rd_at, rd_at0, set_at, set_at0, List.set_cons_zero, List.set_cons_succ, ne_eq, decide_not, quiet_ext, newOk_some, List.cons_prefix_cons, List.nil_prefix, List.drop_succ_cons, List.drop_zero, List.all_cons, List.all_nil, Bool.and_true, true_and, and_true, aloadN_at, aloadN_at0, aload1_at, aload1_at0, astoreN_at, astoreN_at0, astore1_at, astore1_at0, aslA_at, aslA_at0, ldN_all, ld1_row, stN_all, st1_row, slr_all, Nat.reduceAdd, Nat.reduceMul, Nat.reduceLT, c0, hB, hD, a2, x2, cz]
        exact hI
      | false =>
        rw [ca, cond_false] at hI
        rw [cond_false, ← ih]
        generalize encI (d :: t) = y at *
        simp only [afAddr_p, List.append_nil, if_true, if_false, bnd_some, mp_some, cnd_t, cnd_f, gd_no, gd_tt, gd_tf, gd_ft, gd_ff, alenS_s, alen_sl, alen_ns, abin_add, abin_sub, abin_mul, abin_eql, abin_neq, abin_lss, abin_leq, abin_gtr, abin_geq, abin_seql, abin_sneq, abin_slss, aun_not, aun_neg, agn_some, aeqN_nf, aeqN_f, aeqN_np, aeqN_p, anilc_p, aeqB_t, aeqB_f, aconv_i, apick_b, cond_true, cond_false, decide_true, decide_false, Bool.not_true, Bool.not_false, aext_t, ofPart_c, ofPart_a, part?_c, part?_a, cells?_c, cells?_a, tupN_2, tupN_3, Option.map_some, Option.some.injEq, List.getElem?_cons_zero, List.getElem?_cons_succ, not_true_eq_false, not_false_eq_true, quiet_same, bytesI_length, Option.join_some, List.append_assoc, List.cons_append, List.nil_append, List.length_append, List.length_cons, List.length_nil, Nat.zero_add, Nat.add_zero, rd_at, rd_at0, set_at, set_at0, List.set_cons_zero, List.set_cons_succ, ne_eq, decide_not, quiet_ext, newOk_some, List.cons_prefix_cons, List.nil_prefix, List.drop_succ_cons, List.drop_zero, List.all_cons, List.all_nil, Bool.and_true, true_and, and_true, aloadN_at, aloadN_at0, aload1_at, aload1_at0, astoreN_at, astoreN_at0, astore1_at, astore1_at0, aslA_at, aslA_at0, ldN_all, ld1_row, stN_all, st1_row, slr_all, Nat.reduceAdd, Nat.reduceMul, Nat.reduceLT, c0, hB, hD, a2, x2, cz]
        exact hI

theorem ref19_Bits_eq {d : Int} {t : List Int} {p : Int} {h : Heap} (ht : t.length = 32) : S_escheatref19_Bits [.a (encI (d :: t)), .c (.i .i64 p)] h = some (.c (.i .i64 (bitX d t p : Nat)), h) := by
  have key : ∀ N, 32 < N → ∀ g, ∃ g', R_escheatref19_Bits N [.a (encI (d :: t)), .c (.i .i64 p)] g = some (.c (.i .i64 (bitX d t p : Nat)), g') := by
    intro N hN g
    have hB := encX_length (d := d) ht
    have hD := fun h => ref19_Deep_eq (d := d) (t := t) (h := h)
    have hP := fun h => ref19_Powd_eq (d := d) (h := h)
    have hdl := depX_le d
    rw [R_escheatref19_Bits_eq]
    unfold bitX
    by_cases c1 : p < 0
    · rw [if_neg (by omega)]
      generalize encI (d :: t) = z at *
      exact ⟨_, by simp only [afAddr_p, List.append_nil, if_true, if_false, bnd_some, mp_some, cnd_t, cnd_f, gd_no, gd_tt, gd_tf, gd_ft, gd_ff, alenS_s, alen_sl, alen_ns, abin_add, abin_sub, abin_mul, abin_eql, abin_neq, abin_lss, abin_leq, abin_gtr, abin_geq, abin_seql, abin_sneq, abin_slss, aun_not, aun_neg, agn_some, aeqN_nf, aeqN_f, aeqN_np, aeqN_p, anilc_p, aeqB_t, aeqB_f, aconv_i, apick_b, cond_true, cond_false, decide_true, decide_false, Bool.not_true, Bool.not_false, aext_t, ofPart_c, ofPart_a, part?_c, part?_a, cells?_c, cells?_a, tupN_2, tupN_3, Option.map_some, Option.some.injEq, List.getElem?_cons_zero, List.getElem?_cons_succ, not_true_eq_false, not_false_eq_true, quiet_same, bytesI_length, Option.join_some, List.append_assoc, List.cons_append, List.nil_append, List.length_append, List.length_cons, List.length_nil, Nat.zero_add, Nat.add_zero, rd_at, rd_at0, set_at, set_at0, List.set_cons_zero, List.set_cons_succ, ne_eq, decide_not, quiet_ext, newOk_some, List.cons_prefix_cons, List.nil_prefix, List.drop_succ_cons, List.drop_zero, List.all_cons, List.all_nil, Bool.and_true, true_and, and_true, aloadN_at, aloadN_at0, aload1_at, aload1_at0, astoreN_at, astoreN_at0, astore1_at, astore1_at0, aslA_at, aslA_at0, ldN_all, ld1_row, stN_all, st1_row, slr_all, Nat.reduceAdd, Nat.reduceMul, Nat.reduceLT, hB, hD, hP, c1] <;> rfl⟩
    · by_cases c2 : ((manyX d : Nat) : Int) ≤ p
      · rw [if_neg (by omega)]
        generalize encI (d :: t) = z at *
        exact ⟨_, by simp only [afAddr_p, List.append_nil, if_true, if_false, bnd_some, mp_some, cnd_t, cnd_f, gd_no, gd_tt, gd_tf, gd_ft, gd_ff, alenS_s, alen_sl, alen_ns, abin_add, abin_sub, abin_mul, abin_eql, abin_neq, abin_lss, abin_leq, abin_gtr, abin_geq, abin_seql, abin_sneq, abin_slss, aun_not, aun_neg, agn_some, aeqN_nf, aeqN_f, aeqN_np, aeqN_p, anilc_p, aeqB_t, aeqB_f, aconv_i, apick_b, cond_true, cond_false, decide_true, decide_false, Bool.not_true, Bool.not_false, aext_t, ofPart_c, ofPart_a, part?_c, part?_a, cells?_c, cells?_a, tupN_2, tupN_3, Option.map_some, Option.some.injEq, List.getElem?_cons_zero, List.getElem?_cons_succ, not_true_eq_false, not_false_eq_true, quiet_same, bytesI_length, Option.join_some, List.append_assoc, List.cons_append, List.nil_append, List.length_append, List.length_cons, List.length_nil, Nat.zero_add, Nat.add_zero, rd_at, rd_at0, set_at, set_at0, List.set_cons_zero, List.set_cons_succ, ne_eq, decide_not, quiet_ext, newOk_some, List.cons_prefix_cons, List.nil_prefix, List.drop_succ_cons, List.drop_zero, List.all_cons, List.all_nil, Bool.and_true, true_and, and_true, aloadN_at, aloadN_at0, aload1_at, aload1_at0, astoreN_at, astoreN_at0, astore1_at, astore1_at0, aslA_at, aslA_at0, ldN_all, ld1_row, stN_all, st1_row, slr_all, Nat.reduceAdd, Nat.reduceMul, Nat.reduceLT, hB, hD, hP, c1, c2] <;> rfl⟩
      · rw [if_pos (by omega)]
        obtain ⟨p, rfl⟩ : ∃ n : Nat, p = n := ⟨p.toNat, by omega⟩
        rw [Int.toNat_natCast]
        have e := rbits_outer (d := d) (g := g) (q := N) ht (show p < manyX d by omega) hN (depX d) 0 N (by omega) (by omega)
        unfold bitsX
        generalize encI (d :: t) = z at *
        exact ⟨_, by simp only [afAddr_p, List.append_nil, if_true, if_false, bnd_some, mp_some, cnd_t, cnd_f, gd_no, gd_tt, gd_tf, gd_ft, gd_ff, alenS_s, alen_sl, alen_ns, abin_add, abin_sub, abin_mul, abin_eql, abin_neq, abin_lss, abin_leq, abin_gtr, abin_geq, abin_seql, abin_sneq, abin_slss, aun_not, aun_neg, agn_some, aeqN_nf, aeqN_f, aeqN_np, aeqN_p, anilc_p, aeqB_t, aeqB_f, aconv_i, apick_b, cond_true, cond_false, decide_true, decide_false, Bool.not_true, Bool.not_false, aext_t, ofPart_c, ofPart_a, part?_c, part?_a, cells?_c, cells?_a, tupN_2, tupN_3, Option.map_some, Option.some.injEq, List.getElem?_cons_zero, List.getElem?_cons_succ, not_true_eq_false, not_false_eq_true, quiet_same, bytesI_length, Option.join_some, List.append_assoc, List.cons_append, List.nil_append, List.length_append, List.length_cons, List.length_nil, Nat.zero_add, Nat.add_zero, rd_at, rd_at0, set_at, set_at0, List.set_cons_zero, List.set_cons_succ, ne_eq, decide_not, quiet_ext, newOk_some, List.cons_prefix_cons, List.nil_prefix, List.drop_succ_cons, List.drop_zero, List.all_cons, List.all_nil, Bool.and_true, true_and, and_true, aloadN_at, aloadN_at0, aload1_at, aload1_at0, astoreN_at, astoreN_at0, astore1_at, astore1_at0, aslA_at, aslA_at0, ldN_all, ld1_row, stN_all, st1_row, slr_all, Nat.reduceAdd, Nat.reduceMul, Nat.reduceLT, hB, hD, hP, c1, c2]; exact e⟩
  obtain ⟨g', e⟩ := key (h.length + 33) (by omega) (ro h)
  exact S_escheatref19_Bits_flat e rfl

/-! ### Buckets -/

theorem in_loop {v : Val} {nv q : Nat} {l : List Int} {x : Int} {h : Heap} (hv : Has h v 1 nv (encI l)) (hn : l.length = nv) (h62 : nv < 9223372036854775808) : ∀ e i m : Nat, i + e = nv → e < m →
    escheatref09_In_l0 q m v (.c (.i .i64 x)) (.c (.i .i64 (i : Int))) h = some (.c (.b (decide (x ∈ l.drop i))), h)
  | e, i, 0, _, hm => by omega
  | 0, i, m + 1, hi, hm => by
    have e0 : i = nv := by omega
    subst e0
    have c0 : ¬ (i : Int) < i := by omega
    rw [escheatref09_In_l0_eq, List.drop_of_length_le (by omega)]
    simp only [afAddr_p, List.append_nil, if_true, if_false, bnd_some, mp_some, cnd_t, cnd_f, gd_no, gd_tt, gd_tf, gd_ft, gd_ff, alenS_s, alen_sl, alen_ns, abin_add, abin_sub, abin_mul, abin_eql, abin_neq, abin_lss, abin_leq, abin_gtr, abin_geq, abin_seql, abin_sneq, abin_slss, aun_not, aun_neg, agn_some, aeqN_nf, aeqN_f, aeqN_np, aeqN_p, anilc_p, aeqB_t, aeqB_f, aconv_i, apick_b, cond_true, cond_false, decide_true, decide_false, Bool.not_true, Bool.not_false, aext_t, ofPart_c, ofPart_a, part?_c, part?_a, cells?_c, cells?_a, tupN_2, tupN_3, Option.map_some, Option.some.injEq, List.getElem?_cons_zero, List.getElem?_cons_succ, not_true_eq_false, not_false_eq_true, quiet_same, bytesI_length, Option.join_some, List.append_assoc, List.cons_append, List.nil_append, List.length_append, List.length_cons, List.length_nil, Nat.zero_add, Nat.add_zero, rd_at, rd_at0, set_at, set_at0, List.set_cons_zero, List.set_cons_succ, ne_eq, decide_not, quiet_ext, newOk_some, List.cons_prefix_cons, List.nil_prefix, List.drop_succ_cons, List.drop_zero, List.all_cons, List.all_nil, Bool.and_true, true_and, and_true, hv.len, c0, List.not_mem_nil]
  | e + 1, i, m + 1, hi, hm => by
    have ih := in_loop (q := q) (x := x) hv hn h62 e (i + 1) m (by omega) (by omega)
    have hlen := hv.len
    have c0 : (i : Int) < nv := by omega
    obtain ⟨id, off, ev, hid, k1, k2⟩ := hv.sl (by omega)
    have hx := k1 i (.i .i64 l[i]) (by rw [encI_get, List.getElem?_eq_getElem (by omega)]; rfl)
    have eb : aiAddrL 1 v (.c (.i .i64 (i : Int))) = some (.c (.p id (off + i))) := by rw [ev, iAddrL_of (by omega)]; simp
    rw [escheatref09_In_l0_eq, List.drop_eq_getElem_cons (by omega : i < l.length)]
    by_cases c : l[i] = x
    · have : decide (x ∈ l[i] :: l.drop (i + 1)) = true := decide_eq_true (by rw [c]; exact List.mem_cons_self ..)
      rw [this]
      simp only [afAddr_p, List.append_nil, if_true, if_false, bnd_some, mp_some, cnd_t, cnd_f, gd_no, gd_tt, gd_tf, gd_ft, gd_ff, alenS_s, alen_sl, alen_ns, abin_add, abin_sub, abin_mul, abin_eql, abin_neq, abin_lss, abin_leq, abin_gtr, abin_geq, abin_seql, abin_sneq, abin_slss, aun_not, aun_neg, agn_some, aeqN_nf, aeqN_f, aeqN_np, aeqN_p, anilc_p, aeqB_t, aeqB_f, aconv_i, apick_b, cond_true, cond_false, decide_true, decide_false, Bool.not_true, Bool.not_false, aext_t, ofPart_c, ofPart_a, part?_c, part?_a, cells?_c, cells?_a, tupN_2, tupN_3, Option.map_some, Option.some.injEq, List.getElem?_cons_zero, List.getElem?_cons_succ, not_true_eq_false, not_false_eq_true, quiet_same, bytesI_length, Option.join_some, List.append_assoc, List.cons_append, List.nil_append, List.length_append, List.length_cons, List.length_nil, Nat.zero_add, Nat.add_zero, rd_at, rd_at0, set_at, set_at0, List.set_cons_zero, List.set_cons_succ, ne_eq, decide_not, quiet_ext, newOk_some, List.cons_prefix_cons, List.nil_prefix, List.drop_succ_cons, List.drop_zero, List.all_cons, List.all_nil, Bool.and_true, true_and, and_true, hlen, c0, eb, hx, c]
    · have : decide (x ∈ l[i] :: l.drop (i + 1)) = decide (x ∈ l.drop (i + 1)) := by
        refine decide_eq_decide.2 ?_
        rw [List.mem_cons]
        exact ⟨fun h => by rcases h with h | h; exact absurd h.symm c; exact h, fun h => .inr h⟩
      rw [this]
      simp only [afAddr_p, List.append_nil, if_true, if_false, bnd_some, mp_some, cnd_t, cnd_f, gd_no, gd_tt, gd_tf, gd_ft, gd_ff, alenS_s, alen_sl, alen_ns, abin_add, abin_sub, abin_mul, abin_eql, abin_neq, abin_lss, abin_leq, abin_gtr, abin_geq, abin_seql, abin_sneq, abin_slss, aun_not, aun_neg, agn_some, aeqN_nf, aeqN_f, aeqN_np, aeqN_p, anilc_p, aeqB_t, aeqB_f, aconv_i, apick_b, cond_true, cond_false, decide_true, decide_false, Bool.not_true, Bool.not_false, aext_t, ofPart_c, ofPart_a, part?_c, part?_a, cells?_c, cells?_a, tupN_2, tupN_3, Option.map_some, Option.some.injEq, List.getElem?_cons_zero, List.getElem?_cons_succ, not_true_eq_false, not_false_eq_true, quiet_same, bytesI_length, Option.join_some, List.append_assoc, List.cons_append, List.nil_append, List.length_append, List.length_cons, List.length_nil, Nat.zero_add, Nat.add_zero, rd_at, rd_at0, set_at, set_at0, List.set_cons_zero, List.set_cons_succ, ne_eq, decide_not, quiet_ext, newOk_some, List.cons_prefix_cons, List.nil_prefix, List.drop_succ_cons, List.drop_zero, List.all_cons, List.all_nil, Bool.and_true, true_and, and_true, hlen, c0, eb, hx, c, wi_succ (show i + 1 < 9223372036854775808 by omega)]
      exact ih
theorem ref09_In_eq {v : Val} {nv : Nat} {l : List Int} {x : Int} {h : Heap} (hv : Has h v 1 nv (encI l)) (h62 : nv < 9223372036854775808) : S_escheatref09_In [v, .c (.i .i64 x)] h = some (.c (.b (decide (x ∈ l))), h) := by
  have hn : l.length = nv := by simpa [encI_length] using hv.length
  have e := in_loop (q := nv + 1) (x := x) hv.ro hn h62 nv 0 (nv + 1) (by omega) (by omega)
  exact S_escheatref09_In_flat (n := nv + 1) (h2 := ro h) (by rw [R_escheatref09_In_eq]; exact e) rfl

theorem mem_bucL {t : List Int} {x : Int} (hx : x ≠ 0) : ∀ k, x ∈ bucL t k ↔ ∃ j, j < k ∧ toX t j = x
  | 0 => by simp [bucL]
  | k + 1 => by
    rw [bucL_succ, List.mem_append, mem_bucL hx k]
    constructor
    · rintro (⟨j, h1, h2⟩ | h)
      · exact ⟨j, by omega, h2⟩
      · split at h
        · simp at h; exact ⟨k, by omega, h.symm⟩
        · cases h
    · rintro ⟨j, h1, h2⟩
      by_cases c : ∃ j, j < k ∧ toX t j = x
      · exact .inl c
      · right
        have : j = k := by
          by_cases e : j = k
          · exact e
          · exact absurd ⟨j, by omega, h2⟩ c
        subst this
        have hb : bucOk t j = true := by
          unfold bucOk
          rw [Bool.and_eq_true]
          refine ⟨by rw [h2]; simp [hx], ?_⟩
          rw [firstX_iff]
          intro k hk he
          exact c ⟨k, hk, he.trans h2⟩
        rw [if_pos hb, h2]; simp
theorem in_bucL {t : List Int} {i : Nat} (h : toX t i ≠ 0) : decide (toX t i ∈ bucL t i) = !firstX t i := by
  cases c : firstX t i with
  | true =>
    rw [Bool.not_true, decide_eq_false]
    rw [mem_bucL h]
    rintro ⟨j, h1, h2⟩
    exact firstX_iff.1 c j h1 h2
  | false =>
    rw [Bool.not_false, decide_eq_true]
    rw [mem_bucL h]
    false_or_by_contra
    rename_i hn
    have : firstX t i = true := firstX_iff.2 fun k hk he => hn ⟨k, hk, he⟩
    rw [c] at this; cases this

theorem rbuckets_loop {d : Int} {t : List Int} {g : Heap} {q : Nat} (ht : t.length = 32) : ∀ (e i m : Nat) (h : Heap) (id : Nat), i + e = manyX d → e < m → Low (g ++ [some (Row.mk (encI (d :: t)) true)]).length (g ++ [some (Row.mk (encI (d :: t)) true)]) h → (g ++ [some (Row.mk (encI (d :: t)) true)]).length ≤ id → rd h id = some ⟨encI (bucL t i), true⟩ →
    ∃ v h', escheatref19_Buckets_l0 q m (.c (.p g.length 0)) (.c (.sl id 0 (bucL t i).length 1)) (.c (.i .i64 (i : Int))) h = some (v, h') ∧ Out g.length h' v 1 (bucL t (manyX d)).length (encI (bucL t (manyX d)))
  | e, i, 0, h, id, _, hm, _, _, _ => by omega
  | 0, i, m + 1, h, id, hi, hm, hlow, hid, hr => by
    have e0 : i = manyX d := by omega
    subst e0
    have c0 : ¬ ((manyX d : Nat) : Int) < (manyX d : Nat) := by omega
    have hB := encX_length (d := d) ht
    have s1 := loadAll (h := h) (id := g.length) (cs := encI (d :: t)) (hlow.rd (by simp)) hB
    have hD := fun h => ref19_Deep_eq (d := d) (t := t) (h := h)
    have hP := fun h => ref19_Powd_eq (d := d) (h := h)
    rw [List.length_append] at hid
    rw [escheatref19_Buckets_l0_eq]
    generalize encI (d :: t) = y at *
    exact ⟨_, _, by simp only [afAddr_p, List.append_nil, if_true, if_false, bnd_some, mp_some, cnd_t, cnd_f, gd_no, gd_tt, gd_tf, gd_ft, gd_ff, alenS_s, alen_sl, alen_ns, abin_add, abin_sub, abin_mul, abin_eql, abin_neq, abin_lss, abin_leq, abin_gtr, abin_geq, abin_seql, abin_sneq, abin_slss, aun_not, aun_neg, agn_some, aeqN_nf, aeqN_f, aeqN_np, aeqN_p, anilc_p, aeqB_t, aeqB_f, aconv_i, apick_b, cond_true, cond_false, decide_true, decide_false, Bool.not_true, Bool.not_false, aext_t, ofPart_c, ofPart_a, part?_c, part?_a, cells?_c, cells?_a, tupN_2, tupN_3, Option.map_some, Option.some.injEq, List.getElem?_cons_zero, List.getElem?_cons_succ, not_true_eq_false, not_false_eq_true, quiet_same, bytesI_length, Option.join_some, List.append_assoc, List.cons_append, List.nil_append, List.length_append, List.length_cons, List.length_nil, Nat.zero_add, Nat.add_zero, rd_at, rd_at0, set_at, set_at0, List.set_cons_zero, List.set_cons_succ, ne_eq, decide_not, quiet_ext, newOk_some, List.cons_prefix_cons, List.nil_prefix, List.drop_succ_cons, List.drop_zero, List.all_cons, List.all_nil, Bool.and_true, true_and, and_true, s1, hD, hP, c0] <;> rfl, by rw [encI_length]; omega, _, rfl, by omega, hr⟩
  | e + 1, i, m + 1, h, id, hi, hm, hlow, hid, hr => by
    have c0 : (i : Int) < (manyX d : Nat) := by omega
    have hm32 := manyX_le d
    have hB := encX_length (d := d) ht
    have hrd : rd h g.length = some ⟨encI (d :: t), true⟩ := hlow.rd (by simp)
    have s1 := loadAll (h := h) (id := g.length) (cs := encI (d :: t)) hrd hB
    have hD := fun h => ref19_Deep_eq (d := d) (t := t) (h := h)
    have hP := fun h => ref19_Powd_eq (d := d) (h := h)
    have a1 := adX (id := g.length) (i := i) (by omega)
    have l1 := ldX (h := h) (id := g.length) hrd ht (i := i) (by omega)
    have w1 := wi_succ (show i + 1 < 9223372036854775808 by omega)
    have hul := bucL_length t i
    have hIn := ref09_In_eq (x := toX t i) (Has.row (sz := 1) (n := (bucL t i).length) hr (by rw [encI_length]; omega) (noX_encI _)) (by omega)
    rw [escheatref19_Buckets_l0_eq]
    have skip : bucOk t i = false → ∃ v h', escheatref19_Buckets_l0 q m (.c (.p g.length 0)) (.c (.sl id 0 (bucL t i).length 1)) (.c (.i .i64 ((i + 1 : Nat) : Int))) h = some (v, h') ∧ Out g.length h' v 1 (bucL t (manyX d)).length (encI (bucL t (manyX d))) := by
      intro c
      have hu : bucL t (i + 1) = bucL t i := by rw [bucL_succ, c]; simp
      have := rbuckets_loop (d := d) (q := q) ht e (i + 1) m h id (by omega) (by omega) hlow hid (by rw [hu]; exact hr)
      rw [hu] at this; exact this
    by_cases cz : toX t i = 0
    · obtain ⟨v, h', f1, f2⟩ := skip (by unfold bucOk; rw [decide_eq_true cz]; rfl)
      rw [cz] at l1
      refine ⟨v, h', ?_, f2⟩
      generalize encI (d :: t) = z at *
      simp only [afAddr_p, List.append_nil, if_true, if_false, bnd_some, mp_some, cnd_t, cnd_f, gd_no, gd_tt, gd_tf, gd_ft, gd_ff, alenS_s, alen_sl, alen_ns, abin_add, abin_sub, abin_mul, abin_eql, abin_neq, abin_lss, abin_leq, abin_gtr, abin_geq, abin_seql, abin_sneq, abin_slss, aun_not, aun_neg, agn_some, aeqN_nf, aeqN_f, aeqN_np, aeqN_p, anilc_p, aeqB_t, aeqB_f, aconv_i, apick_b, cond_true, cond_false, decide_true, decide_false, Bool.not_true, Bool.not_false, aext_t, ofPart_c, ofPart_a, part?_c, part?_a, cells?_c, cells?_a, tupN_2, tupN_3, Option.map_some, Option.some.injEq, List.getElem?_cons_zero, List.getElem?_cons_succ, not_true_eq_false, not_false_eq_true, quiet_same, bytesI_length, Option.join_some, List.append_assoc, List.cons_append, List.nil_append, List.length_append, List.length_cons, List.length_nil, Nat.zero_add, Nat.add_zero, rd_at, rd_at0, set_at, set_at0, List.set_cons_zero, List.set_cons_succ, ne_eq, decide_not, quiet_ext, newOk_some, List.cons_prefix_cons, List.nil_prefix, List.drop_succ_cons, List.drop_zero, List.all_cons, List.all_nil, Bool.and_true, true_and, and_true, s1, hD, hP, c0, a1, l1, escheatref19_Buckets_j0_eq, w1]
      exact f1
    · rw [in_bucL cz] at hIn
      cases cs : firstX t i with
      | false =>
        obtain ⟨v, h', f1, f2⟩ := skip (by unfold bucOk; rw [cs, Bool.and_false])
        rw [cs] at hIn
        refine ⟨v, h', ?_, f2⟩
        generalize encI (d :: t) = z at *
        simp only [afAddr_p, List.append_nil, if_true, if_false, bnd_some, mp_some, cnd_t, cnd_f, gd_no, gd_tt, gd_tf, gd_ft, gd_ff, alenS_s, alen_sl, alen_ns, abin_add, abin_sub, abin_mul, abin_eql, abin_neq, abin_lss, abin_leq, abin_gtr, abin_geq, abin_seql, abin_sneq, abin_slss, aun_not, aun_neg, agn_some, aeqN_nf, aeqN_f, aeqN_np, aeqN_p, anilc_p, aeqB_t, aeqB_f, aconv_i, apick_b, cond_true, cond_false, decide_true, decide_false, Bool.not_true, Bool.not_false, aext_t, ofPart_c, ofPart_a, part?_c, part?_a, cells?_c, cells?_a, tupN_2, tupN_3, Option.map_some, Option.some.injEq, List.getElem?_cons_zero, List.getElem?_cons_succ, not_true_eq_false, not_false_eq_true, quiet_same, bytesI_length, Option.join_some, List.append_assoc, List.cons_append, List.nil_append, List.length_append, List.length_cons, List.length_nil, Nat.zero_add, Nat.add_zero, rd_at, rd_at0, set_at, set_at0, List.set_cons_zero, List.set_cons_succ, ne_eq, decide_not, quiet_ext, newOk_some, List.cons_prefix_cons, List.nil_prefix, List.drop_succ_cons, List.drop_zero, List.all_cons, List.all_nil, Bool.and_true, true_and, and_true, s1, hD, hP, c0, a1, l1, cz, hIn, escheatref19_Buckets_j0_eq, w1]
        exact f1
      | true =>
        rw [cs] at hIn
        have cb : bucOk t i = true := by unfold bucOk; rw [cs, decide_eq_false cz]; rfl
        have hu : bucL t (i + 1) = bucL t i ++ [toX t i] := by rw [bucL_succ, if_pos cb]
        obtain ⟨h1, b1, b2, b3, b4, b5⟩ := push (ys := [.i .i64 (toX t i)]) (sz := 1) (n := (bucL t i).length) hlow hr (by rw [encI_length]; omega) hid rfl (by omega) (by omega)
        have he : encI (bucL t i) ++ [.i .i64 (toX t i)] = encI (bucL t (i + 1)) := by rw [hu]; simp [encI]
        rw [he] at b2
        obtain ⟨v, h', f1, f2⟩ := rbuckets_loop (d := d) (q := q) ht e (i + 1) m h1 (h.length + 1) (by omega) (by omega) b3 b4 b2
        have hl1 : (bucL t (i + 1)).length = (bucL t i).length + 1 := by rw [hu]; simp
        rw [hl1] at f1
        have ef : afill [Cell.i .i64 0] [(0, 1, .c (.i .i64 (toX t i)))] = some [.i .i64 (toX t i)] := rfl
        refine ⟨v, h', ?_, f2⟩
        generalize encI (d :: t) = z at *
        simp only [afAddr_p, List.append_nil, if_true, if_false, bnd_some, mp_some, cnd_t, cnd_f, gd_no, gd_tt, gd_tf, gd_ft, gd_ff, alenS_s, alen_sl, alen_ns, abin_add, abin_sub, abin_mul, abin_eql, abin_neq, abin_lss, abin_leq, abin_gtr, abin_geq, abin_seql, abin_sneq, abin_slss, aun_not, aun_neg, agn_some, aeqN_nf, aeqN_f, aeqN_np, aeqN_p, anilc_p, aeqB_t, aeqB_f, aconv_i, apick_b, cond_true, cond_false, decide_true, decide_false, Bool.not_true, Bool.not_false, aext_t, ofPart_c, ofPart_a, part?_c, part?_a, cells?_c, cells?_a, tupN_2, tupN_3, Option.map_some, Option.some.injEq, List.getElem?_cons_zero, List.getElem?_cons_succ, not_true_eq_false, not_false_eq_true, quiet_same, bytesI_length, Option.join_some, List.append_assoc, List.cons_append, List.nil_append, List.length_append, List.length_cons, List.length_nil, Nat.zero_add, Nat.add_zero, rd_at, rd_at0, set_at, set_at0, List.set_cons_zero, List.set_cons_succ, ne_eq, decide_not, quiet_ext, newOk_some, List.cons_prefix_cons, List.nil_prefix, List.drop_succ_cons, List.drop_zero, List.all_cons, List.all_nil, Bool.and_true, true_and, and_true, s1, hD, hP, c0, a1, l1, cz, hIn, ef, b1, escheatref19_Buckets_j0_eq, w1]
        exact f1

theorem ref19_Buckets_eq {d : Int} {t : List Int} {h : Heap} (ht : t.length = 32) : S_escheatref19_Buckets [.a (encI (d :: t))] h = some (.c (.sl h.length 0 (bucL t (manyX d)).length 1), h ++ [some ⟨encI (bucL t (manyX d)), true⟩]) := by
  have key : ∀ N, 32 < N → ∀ g, ∃ v g', R_escheatref19_Buckets N [.a (encI (d :: t))] g = some (v, g') ∧ Out g.length g' v 1 (bucL t (manyX d)).length (encI (bucL t (manyX d))) := by
    intro N hN g
    have hm := manyX_le d
    obtain ⟨v, g', f1, f2⟩ := rbuckets_loop (g := g) (d := d) (q := N) ht (manyX d) 0 N (g ++ [some (Row.mk (encI (d :: t)) true), some (Row.mk [] true), some (Row.mk [] true)]) (g.length + 2) (by omega) (by omega)
      (by have := (Low.refl (h := g ++ [some (Row.mk (encI (d :: t)) true)]) (Nat.le_refl _)).new [some ⟨[], true⟩, some ⟨[], true⟩]
          simpa using this) (by simp) (by simp [bucL, encI])
    rw [show bucL t 0 = [] from rfl] at f1
    rw [R_escheatref19_Buckets_eq]
    refine ⟨v, g', ?_, f2⟩
    generalize encI (d :: t) = z at *
    simp only [afAddr_p, List.append_nil, if_true, if_false, bnd_some, mp_some, cnd_t, cnd_f, gd_no, gd_tt, gd_tf, gd_ft, gd_ff, alenS_s, alen_sl, alen_ns, abin_add, abin_sub, abin_mul, abin_eql, abin_neq, abin_lss, abin_leq, abin_gtr, abin_geq, abin_seql, abin_sneq, abin_slss, aun_not, aun_neg, agn_some, aeqN_nf, aeqN_f, aeqN_np, aeqN_p, anilc_p, aeqB_t, aeqB_f, aconv_i, apick_b, cond_true, cond_false, decide_true, decide_false, Bool.not_true, Bool.not_false, aext_t, ofPart_c, ofPart_a, part?_c, part?_a, cells?_c, cells?_a, tupN_2, tupN_3, Option.map_some, Option.some.injEq, List.getElem?_cons_zero, List.getElem?_cons_succ, not_true_eq_false, not_false_eq_true, quiet_same, bytesI_length, Option.join_some, List.append_assoc, List.cons_append, List.nil_append, List.length_append, List.length_cons, List.length_nil, Nat.zero_add, Nat.add_zero, rd_at, rd_at0, set_at, set_at0, List.set_cons_zero, List.set_cons_succ, ne_eq, decide_not, quiet_ext, newOk_some, List.cons_prefix_cons, List.nil_prefix, List.drop_succ_cons, List.drop_zero, List.all_cons, List.all_nil, Bool.and_true, true_and, and_true] at f1 ⊢
    exact f1
  obtain ⟨v, g', e, ho⟩ := key (h.length + 33) (by omega) (ro h)
  exact S_escheatref19_Buckets_out e (by simpa [ro_length] using ho) (by simp)

/-! ### The lowest bits, as the document has them -/

theorem rlow_loop {x k q : Nat} {b : Int} {h : Heap} (hx : x < 4294967296) (hk : (k : Int) = max 0 (min b 32)) : ∀ e i m : Nat, i + e = k → e < m →
    escheatref02_Low_l0 q m (.c (.i .u64 (x : Int))) (.c (.i .i64 b)) (.c (.i .u64 ((2 ^ i : Nat) : Int))) (.c (.i .i64 (i : Int))) h = some (.c (.i .i64 ((x % 2 ^ k : Nat) : Int)), h)
  | e, i, 0, _, hm => by omega
  | 0, i, m + 1, hi, hm => by
    have e0 : i = k := by omega
    subst e0
    have hp0 : 0 < 2 ^ i := Nat.pow_pos (by omega)
    have hm2 : x % 2 ^ i ≤ x := Nat.mod_le _ _
    rw [escheatref02_Low_l0_eq]
    generalize 2 ^ i = s at *
    have e1 : abin .rem (.c (.i .u64 (x : Int))) (.c (.i .u64 (s : Int))) = some (.c (.i .u64 ((x % s : Nat) : Int))) := by rw [rem_i (a := (x : Int)) (b := (s : Int)) (by omega) (by omega)]; simp
    have w1 : IntKind.wrap .i64 ((x % s : Nat) : Int) = ((x % s : Nat) : Int) := wrap_i64 (by omega) (by omega)
    generalize x % s = y at *
    by_cases c1 : (i : Int) < b
    · have c2 : ¬ (i : Int) < 32 := by omega
      simp only [afAddr_p, List.append_nil, if_true, if_false, bnd_some, mp_some, cnd_t, cnd_f, gd_no, gd_tt, gd_tf, gd_ft, gd_ff, alenS_s, alen_sl, alen_ns, abin_add, abin_sub, abin_mul, abin_eql, abin_neq, abin_lss, abin_leq, abin_gtr, abin_geq, abin_seql, abin_sneq, abin_slss, aun_not, aun_neg, agn_some, aeqN_nf, aeqN_f, aeqN_np, aeqN_p, anilc_p, aeqB_t, aeqB_f, aconv_i, apick_b, cond_true, cond_false, decide_true, decide_false, Bool.not_true, Bool.not_false, aext_t, ofPart_c, ofPart_a, part?_c, part?_a, cells?_c, cells?_a, tupN_2, tupN_3, Option.map_some, Option.some.injEq, List.getElem?_cons_zero, List.getElem?_cons_succ, not_true_eq_false, not_false_eq_true, quiet_same, bytesI_length, Option.join_some, List.append_assoc, List.cons_append, List.nil_append, List.length_append, List.length_cons, List.length_nil, Nat.zero_add, Nat.add_zero, rd_at, rd_at0, set_at, set_at0, List.set_cons_zero, List.set_cons_succ, ne_eq, decide_not, quiet_ext, newOk_some, List.cons_prefix_cons, List.nil_prefix, List.drop_succ_cons, List.drop_zero, List.all_cons, List.all_nil, Bool.and_true, true_and, and_true, c1, c2, e1, w1]
    · simp only [afAddr_p, List.append_nil, if_true, if_false, bnd_some, mp_some, cnd_t, cnd_f, gd_no, gd_tt, gd_tf, gd_ft, gd_ff, alenS_s, alen_sl, alen_ns, abin_add, abin_sub, abin_mul, abin_eql, abin_neq, abin_lss, abin_leq, abin_gtr, abin_geq, abin_seql, abin_sneq, abin_slss, aun_not, aun_neg, agn_some, aeqN_nf, aeqN_f, aeqN_np, aeqN_p, anilc_p, aeqB_t, aeqB_f, aconv_i, apick_b, cond_true, cond_false, decide_true, decide_false, Bool.not_true, Bool.not_false, aext_t, ofPart_c, ofPart_a, part?_c, part?_a, cells?_c, cells?_a, tupN_2, tupN_3, Option.map_some, Option.some.injEq, List.getElem?_cons_zero, List.getElem?_cons_succ, not_true_eq_false, not_false_eq_true, quiet_same, bytesI_length, Option.join_some, List.append_assoc, List.cons_append, List.nil_append, List.length_append, List.length_cons, List.length_nil, Nat.zero_add, Nat.add_zero, rd_at, rd_at0, set_at, set_at0, List.set_cons_zero, List.set_cons_succ, ne_eq, decide_not, quiet_ext, newOk_some, List.cons_prefix_cons, List.nil_prefix, List.drop_succ_cons, List.drop_zero, List.all_cons, List.all_nil, Bool.and_true, true_and, and_true, c1, e1, w1]
  | e + 1, i, m + 1, hi, hm => by
    have ih := rlow_loop (q := q) (h := h) hx hk e (i + 1) m (by omega) (by omega)
    have c1 : (i : Int) < b := by omega
    have c2 : (i : Int) < 32 := by omega
    have hp : 2 ^ i ≤ 2 ^ 32 := Nat.pow_le_pow_right (by omega) (by omega)
    have w1 : IntKind.wrap .u64 (((2 ^ i : Nat) : Int) * 2) = ((2 ^ (i + 1) : Nat) : Int) := by
      rw [Nat.pow_succ]
      generalize 2 ^ i = y at hp ⊢
      rw [wrap_u64 (by omega) (by omega)]; omega
    rw [escheatref02_Low_l0_eq]
    generalize ((2 ^ (i + 1) : Nat) : Int) = y1 at *
    generalize ((2 ^ i : Nat) : Int) = y at *
    simp only [afAddr_p, List.append_nil, if_true, if_false, bnd_some, mp_some, cnd_t, cnd_f, gd_no, gd_tt, gd_tf, gd_ft, gd_ff, alenS_s, alen_sl, alen_ns, abin_add, abin_sub, abin_mul, abin_eql, abin_neq, abin_lss, abin_leq, abin_gtr, abin_geq, abin_seql, abin_sneq, abin_slss, aun_not, aun_neg, agn_some, aeqN_nf, aeqN_f, aeqN_np, aeqN_p, anilc_p, aeqB_t, aeqB_f, aconv_i, apick_b, cond_true, cond_false, decide_true, decide_false, Bool.not_true, Bool.not_false, aext_t, ofPart_c, ofPart_a, part?_c, part?_a, cells?_c, cells?_a, tupN_2, tupN_3, Option.map_some, Option.some.injEq, List.getElem?_cons_zero, List.getElem?_cons_succ, not_true_eq_false, not_false_eq_true, quiet_same, bytesI_length, Option.join_some, List.append_assoc, List.cons_append, List.nil_append, List.length_append, List.length_cons, List.length_nil, Nat.zero_add, Nat.add_zero, rd_at, rd_at0, set_at, set_at0, List.set_cons_zero, List.set_cons_succ, ne_eq, decide_not, quiet_ext, newOk_some, List.cons_prefix_cons, List.nil_prefix, List.drop_succ_cons, List.drop_zero, List.all_cons, List.all_nil, Bool.and_true, true_and, and_true, c1, c2, w1, wi_succ (show i + 1 < 9223372036854775808 by omega)]
    exact ih
theorem ref02_Low_eq {x : Nat} {b : Int} {h : Heap} (hx : x < 4294967296) : S_escheatref02_Low [.c (.i .u64 (x : Int)), .c (.i .i64 b)] h = some (.c (.i .i64 (lowM x b : Nat)), h) := by
  have e := rlow_loop (q := 33) (b := b) (h := ro h) (k := (max 0 (min b 32)).toNat) hx (by omega) (max 0 (min b 32)).toNat 0 33 (by omega) (by omega)
  have e2 : x % 2 ^ (max 0 (min b 32)).toNat = lowM x b := by
    unfold lowM
    by_cases c1 : b < 1
    · have : (max 0 (min b 32)).toNat = 0 := by omega
      rw [if_pos c1, this]; simp [Nat.mod_one]
    · rw [if_neg c1]
      by_cases c2 : 32 ≤ b
      · have : (max 0 (min b 32)).toNat = 32 := by omega
        rw [if_pos c2, this]
        exact Nat.mod_eq_of_lt (by omega)
      · have : (max 0 (min b 32)).toNat = b.toNat := by omega
        rw [if_neg c2, this]
  rw [e2] at e
  exact S_escheatref02_Low_flat (n := 33) (h2 := ro h) (by rw [R_escheatref02_Low_eq]; exact e) rfl

end Go.Proofs.Ytbbkpmbepljhkaa
