/- The document's depth and classes of an index. -/
import Derived.Test.YtbbkpmbepljhkaaSIndexPlain
import Derived.Test.YtbbkpmbepljhkaaGEscheatref19
set_option linter.all false
namespace Go.Proofs.Ytbbkpmbepljhkaa
open Go Go.Esc

theorem ref19_Deep_eq {d : Int} {t : List Int} {h : Heap} : S_escheatref19_Deep [.a (encI (d :: t))] h = some (.c (.i .i64 (depX d : Nat)), h) := by
  have key : ∀ g, ∃ g', R_escheatref19_Deep 0 [.a (encI (d :: t))] g = some (.c (.i .i64 (depX d : Nat)), g') := by
    intro g
    have l0 : (encI (d :: t))[0]? = some (.i .i64 d) := rfl
    rw [R_escheatref19_Deep_eq]
    generalize encI (d :: t) = y at *
    by_cases c1 : d < 0
    · have e : ((depX d : Nat) : Int) = 0 := by unfold depX; omega
      rw [e]
      exact ⟨_, by simp only [afAddr_p, List.append_nil, if_true, if_false, bnd_some, mp_some, cnd_t, cnd_f, gd_no, gd_tt, gd_tf, gd_ft, gd_ff, alenS_s, alen_sl, alen_ns, abin_add, abin_sub, abin_mul, abin_eql, abin_neq, abin_lss, abin_leq, abin_gtr, abin_geq, abin_seql, abin_sneq, abin_slss, aun_not, aun_neg, agn_some, aeqN_nf, aeqN_f, aeqN_np, aeqN_p, anilc_p, aeqB_t, aeqB_f, aconv_i, apick_b, cond_true, cond_false, decide_true, decide_false, Bool.not_true, Bool.not_false, aext_t, ofPart_c, ofPart_a, part?_c, part?_a, cells?_c, cells?_a, tupN_2, tupN_3, Option.map_some, Option.some.injEq, List.getElem?_cons_zero, List.getElem?_cons_succ, not_true_eq_false, not_false_eq_true, quiet_same, bytesI_length, Option.join_some, List.append_assoc, List.cons_append, List.nil_append, List.length_append, List.length_cons, List.length_nil, Nat.zero_add, Nat.add_zero, rd_at, rd_at0, set_at, set_at0, List.set_cons_zero, List.set_cons_succ, ne_eq, decide_not, quiet_ext, newOk_some, List.cons_prefix_cons, List.nil_prefix, List.drop_succ_cons, List.drop_zero, List.all_cons, List.all_nil, Bool.and_true, true_and, and_true, aloadN_at, aloadN_at0, aload1_at, aload1_at0, astoreN_at, astoreN_at0, astore1_at, astore1_at0, aslA_at, aslA_at0, ldN_all, ld1_row, stN_all, st1_row, slr_all, Nat.reduceAdd, Nat.reduceMul, Nat.reduceLT, l0, c1] <;> rfl⟩
    · by_cases c2 : 5 < d
      · have e : ((depX d : Nat) : Int) = 5 := by unfold depX; omega
        rw [e]
        exact ⟨_, by simp only [afAddr_p, List.append_nil, if_true, if_false, bnd_some, mp_some, cnd_t, cnd_f, gd_no, gd_tt, gd_tf, gd_ft, gd_ff, alenS_s, alen_sl, alen_ns, abin_add, abin_sub, abin_mul, abin_eql, abin_neq, abin_lss, abin_leq, abin_gtr, abin_geq, abin_seql, abin_sneq, abin_slss, aun_not, aun_neg, agn_some, aeqN_nf, aeqN_f, aeqN_np, aeqN_p, anilc_p, aeqB_t, aeqB_f, aconv_i, apick_b, cond_true, cond_false, decide_true, decide_false, Bool.not_true, Bool.not_false, aext_t, ofPart_c, ofPart_a, part?_c, part?_a, cells?_c, cells?_a, tupN_2, tupN_3, Option.map_some, Option.some.injEq, List.getElem?_cons_zero, List.getElem?_cons_succ, not_true_eq_false, not_false_eq_true, quiet_same, bytesI_length, Option.join_some, List.append_assoc, List.cons_append, List.nil_append, List.length_append, List.length_cons, List.length_nil, Nat.zero_add, Nat.add_zero, rd_at, rd_at0, set_at, set_at0, List.set_cons_zero, List.set_cons_succ, ne_eq, decide_not, quiet_ext, newOk_some, List.cons_prefix_cons, List.nil_prefix, List.drop_succ_cons, List.drop_zero, List.all_cons, List.all_nil, Bool.and_true, true_and, and_true, aloadN_at, aloadN_at0, aload1_at, aload1_at0, astoreN_at, astoreN_at0, astore1_at, astore1_at0, aslA_at, aslA_at0, ldN_all, ld1_row, stN_all, st1_row, slr_all, Nat.reduceAdd, Nat.reduceMul, Nat.reduceLT, l0, c1, c2] <;> rfl⟩
      · rw [depX_of (by omega) (by omega)]
        exact ⟨_, by simp only [afAddr_p, List.append_nil, if_true, if_false, bnd_some, mp_some, cnd_t, cnd_f, gd_no, gd_tt, gd_tf, gd_ft, gd_ff, alenS_s, alen_sl, alen_ns, abin_add, abin_sub, abin_mul, abin_eql, abin_neq, abin_lss, abin_leq, abin_gtr, abin_geq, abin_seql, abin_sneq, abin_slss, aun_not, aun_neg, agn_some, aeqN_nf, aeqN_f, aeqN_np, aeqN_p, anilc_p, aeqB_t, aeqB_f, aconv_i, apick_b, cond_true, cond_false, decide_true, decide_false, Bool.not_true, Bool.not_false, aext_t, ofPart_c, ofPart_a, part?_c, part?_a, cells?_c, cells?_a, tupN_2, tupN_3, Option.map_some, Option.some.injEq, List.getElem?_cons_zero, List.getElem?_cons_succ, not_true_eq_false, not_false_eq_true, quiet_same, bytesI_length, Option.join_some, List.append_assoc, List.cons_append, List.nil_append, List.length_append, List.length_cons, List.length_nil, Nat.zero_add, Nat.add_zero, rd_at, rd_at0, set_at, set_at0, List.set_cons_zero, List.set_cons_succ, ne_eq, decide_not, quiet_ext, newOk_some, List.cons_prefix_cons, List.nil_prefix, List.drop_succ_cons, List.drop_zero, List.all_cons, List.all_nil, Bool.and_true, true_and, and_true, aloadN_at, aloadN_at0, aload1_at, aload1_at0, astoreN_at, astoreN_at0, astore1_at, astore1_at0, aslA_at, aslA_at0, ldN_all, ld1_row, stN_all, st1_row, slr_all, Nat.reduceAdd, Nat.reduceMul, Nat.reduceLT, l0, c1, c2] <;> rfl⟩
  obtain ⟨g', e⟩ := key (ro h)
  exact S_escheatref19_Deep_flat e rfl

theorem pow_loop {k q : Nat} {h : Heap} (hk : k ≤ 32) : ∀ e i m : Nat, i + e = k → e < m → escheatref19_Pow_l0 q m (.c (.i .i64 (k : Int))) (.c (.i .i64 ((2 ^ i : Nat) : Int))) (.c (.i .i64 (i : Int))) h = some (.c (.i .i64 ((2 ^ k : Nat) : Int)), h)
  | e, i, 0, _, hm => by omega
  | 0, i, m + 1, hi, hm => by
    have e0 : i = k := by omega
    subst e0
    have c0 : ¬ (i : Int) < i := by omega
    rw [escheatref19_Pow_l0_eq]
    simp only [afAddr_p, List.append_nil, if_true, if_false, bnd_some, mp_some, cnd_t, cnd_f, gd_no, gd_tt, gd_tf, gd_ft, gd_ff, alenS_s, alen_sl, alen_ns, abin_add, abin_sub, abin_mul, abin_eql, abin_neq, abin_lss, abin_leq, abin_gtr, abin_geq, abin_seql, abin_sneq, abin_slss, aun_not, aun_neg, agn_some, aeqN_nf, aeqN_f, aeqN_np, aeqN_p, anilc_p, aeqB_t, aeqB_f, aconv_i, apick_b, cond_true, cond_false, decide_true, decide_false, Bool.not_true, Bool.not_false, aext_t, ofPart_c, ofPart_a, part?_c, part?_a, cells?_c, cells?_a, tupN_2, tupN_3, Option.map_some, Option.some.injEq, List.getElem?_cons_zero, List.getElem?_cons_succ, not_true_eq_false, not_false_eq_true, quiet_same, bytesI_length, Option.join_some, List.append_assoc, List.cons_append, List.nil_append, List.length_append, List.length_cons, List.length_nil, Nat.zero_add, Nat.add_zero, rd_at, rd_at0, set_at, set_at0, List.set_cons_zero, List.set_cons_succ, ne_eq, decide_not, quiet_ext, newOk_some, List.cons_prefix_cons, List.nil_prefix, List.drop_succ_cons, List.drop_zero, List.all_cons, List.all_nil, Bool.and_true, true_and, and_true, c0]
  | e + 1, i, m + 1, hi, hm => by
    have ih := pow_loop (q := q) (h := h) hk e (i + 1) m (by omega) (by omega)
    have c0 : (i : Int) < k := by omega
    have hp : 2 ^ i ≤ 2 ^ 32 := Nat.pow_le_pow_right (by omega) (by omega)
    have w1 : IntKind.wrap .i64 (((2 ^ i : Nat) : Int) * 2) = ((2 ^ (i + 1) : Nat) : Int) := by
      rw [Nat.pow_succ]
      generalize 2 ^ i = y at hp ⊢
      rw [wrap_i64 (by omega) (by omega)]; omega
    rw [escheatref19_Pow_l0_eq]
    generalize ((2 ^ (i + 1) : Nat) : Int) = y1 at *
    generalize ((2 ^ i : Nat) : Int) = y at *
    simp only [afAddr_p, List.append_nil, if_true, if_false, bnd_some, mp_some, cnd_t, cnd_f, gd_no, gd_tt, gd_tf, gd_ft, gd_ff, alenS_s, alen_sl, alen_ns, abin_add, abin_sub, abin_mul, abin_eql, abin_neq, abin_lss, abin_leq, abin_gtr, abin_geq, abin_seql, abin_sneq, abin_slss, aun_not, aun_neg, agn_some, aeqN_nf, aeqN_f, aeqN_np, aeqN_p, anilc_p, aeqB_t, aeqB_f, aconv_i, apick_b, cond_true, cond_false, decide_true, decide_false, Bool.not_true, Bool.not_false, aext_t, ofPart_c, ofPart_a, part?_c, part?_a, cells?_c, cells?_a, tupN_2, tupN_3, Option.map_some, Option.some.injEq, List.getElem?_cons_zero, List.getElem?_cons_succ, not_true_eq_false, not_false_eq_true, quiet_same, bytesI_length, Option.join_some, List.append_assoc, List.cons_append, List.nil_append, List.length_append, List.length_cons, List.length_nil, Nat.zero_add, Nat.add_zero, rd_at, rd_at0, set_at, set_at0, List.set_cons_zero, List.set_cons_succ, ne_eq, decide_not, quiet_ext, newOk_some, List.cons_prefix_cons, List.nil_prefix, List.drop_succ_cons, List.drop_zero, List.all_cons, List.all_nil, Bool.and_true, true_and, and_true, c0, w1, wi_succ (show i + 1 < 9223372036854775808 by omega)]
    exact ih
theorem ref19_Pow_eq {k : Nat} {h : Heap} (hk : k ≤ 32) : S_escheatref19_Pow [.c (.i .i64 (k : Int))] h = some (.c (.i .i64 ((2 ^ k : Nat) : Int)), h) := by
  have e := pow_loop (q := k + 1) (h := ro h) hk k 0 (k + 1) (by omega) (by omega)
  exact S_escheatref19_Pow_flat (n := k + 1) (h2 := ro h) (by rw [R_escheatref19_Pow_eq]; exact e) rfl

theorem ref19_Powd_eq {d : Int} {h : Heap} : S_escheatref19_Pow [.c (.i .i64 (depX d : Nat))] h = some (.c (.i .i64 (manyX d : Nat)), h) := ref19_Pow_eq (by have := depX_le d; omega)

theorem ref19_Is_eq {i p b : Nat} {h : Heap} (hb : b ≤ 32) : S_escheatref19_Is [.c (.i .i64 (i : Int)), .c (.i .i64 (p : Int)), .c (.i .i64 (b : Int))] h = some (.c (.b (i % 2 ^ b == p % 2 ^ b)), h) := by
  have key : ∀ g, ∃ g', R_escheatref19_Is 0 [.c (.i .i64 (i : Int)), .c (.i .i64 (p : Int)), .c (.i .i64 (b : Int))] g = some (.c (.b (i % 2 ^ b == p % 2 ^ b)), g') := by
    intro g
    have hP := fun h => ref19_Pow_eq (k := b) (h := h) hb
    have hp0 : 0 < 2 ^ b := Nat.pow_pos (by omega)
    rw [R_escheatref19_Is_eq]
    generalize 2 ^ b = s at *
    have e1 : abin .rem (.c (.i .i64 (i : Int))) (.c (.i .i64 (s : Int))) = some (.c (.i .i64 ((i % s : Nat) : Int))) := by rw [rem_i (by omega) (by omega)]; simp
    have e2 : abin .rem (.c (.i .i64 (p : Int))) (.c (.i .i64 (s : Int))) = some (.c (.i .i64 ((p % s : Nat) : Int))) := by rw [rem_i (by omega) (by omega)]; simp
    have e3 : decide (((i % s : Nat) : Int) = ((p % s : Nat) : Int)) = (i % s == p % s) := by
      rw [Bool.eq_iff_iff, decide_eq_true_eq, beq_iff_eq]; omega
    generalize i % s = x at *
    generalize p % s = y at *
    exact ⟨_, by simp only [afAddr_p, List.append_nil, if_true, if_false, bnd_some, mp_some, cnd_t, cnd_f, gd_no, gd_tt, gd_tf, gd_ft, gd_ff, alenS_s, alen_sl, alen_ns, abin_add, abin_sub, abin_mul, abin_eql, abin_neq, abin_lss, abin_leq, abin_gtr, abin_geq, abin_seql, abin_sneq, abin_slss, aun_not, aun_neg, agn_some, aeqN_nf, aeqN_f, aeqN_np, aeqN_p, anilc_p, aeqB_t, aeqB_f, aconv_i, apick_b, cond_true, cond_false, decide_true, decide_false, Bool.not_true, Bool.not_false, aext_t, ofPart_c, ofPart_a, part?_c, part?_a, cells?_c, cells?_a, tupN_2, tupN_3, Option.map_some, Option.some.injEq, List.getElem?_cons_zero, List.getElem?_cons_succ, not_true_eq_false, not_false_eq_true, quiet_same, bytesI_length, Option.join_some, List.append_assoc, List.cons_append, List.nil_append, List.length_append, List.length_cons, List.length_nil, Nat.zero_add, Nat.add_zero, rd_at, rd_at0, set_at, set_at0, List.set_cons_zero, List.set_cons_succ, ne_eq, decide_not, quiet_ext, newOk_some, List.cons_prefix_cons, List.nil_prefix, List.drop_succ_cons, List.drop_zero, List.all_cons, List.all_nil, Bool.and_true, true_and, and_true, hP, e1, e2, e3] <;> rfl⟩
  obtain ⟨g', e⟩ := key (ro h)
  exact S_escheatref19_Is_flat e rfl

end Go.Proofs.Ytbbkpmbepljhkaa
