/- Some of a block's numbers are kept: the code's, and the document's. -/
import Derived.Test.YtbbkpmbepljhkaaSPointsPlain
import Derived.Test.YtbbkpmbepljhkaaGEscheatlaw20
set_option linter.all false
namespace Go.Proofs.Ytbbkpmbepljhkaa
open Go Go.Esc

theorem below_eq {e : Int} {h : Heap} : S_escheatlaw20_below [.c (.i .i64 e)] h = some (.c (.f 179 [(h.length, 0)]), h ++ [some ⟨[.i .i64 e], true⟩]) := by
  refine S_escheatlaw20_below_of (n := 0) ?_
  rw [R_escheatlaw20_below_eq]
  have e1 : amkf 179 [.c (.p h.length 0)] = some (.c (.f 179 [(h.length, 0)])) := rfl
  simp only [afAddr_p, List.append_nil, if_true, if_false, bnd_some, mp_some, cnd_t, cnd_f, gd_no, gd_tt, gd_tf, gd_ft, gd_ff, alenS_s, alen_sl, alen_ns, abin_add, abin_sub, abin_mul, abin_eql, abin_neq, abin_lss, abin_leq, abin_gtr, abin_geq, abin_seql, abin_sneq, abin_slss, aun_not, aun_neg, agn_some, aeqN_nf, aeqN_f, aeqN_np, aeqN_p, anilc_p, aeqB_t, aeqB_f, aconv_i, apick_b, cond_true, cond_false, decide_true, decide_false, Bool.not_true, Bool.not_false, aext_t, ofPart_c, ofPart_a, part?_c, part?_a, cells?_c, cells?_a, tupN_2, tupN_3, Option.map_some, Option.some.injEq, List.getElem?_cons_zero, List.getElem?_cons_succ, not_true_eq_false, not_false_eq_true, quiet_same, bytesI_length, Option.join_some, List.append_assoc, List.cons_append, List.nil_append, List.length_append, List.length_cons, List.length_nil, Nat.zero_add, Nat.add_zero, rd_at, rd_at0, set_at, set_at0, List.set_cons_zero, List.set_cons_succ, ne_eq, decide_not, quiet_ext, newOk_some, List.cons_prefix_cons, List.nil_prefix, List.drop_succ_cons, List.drop_zero, List.all_cons, List.all_nil, Bool.and_true, true_and, and_true, e1]

theorem below1_eq {k : Nat} {x e : Int} {r : Nat} {rw : Bool} {h : Heap} (hr : rd h r = some ⟨[.i .i64 e], rw⟩) : S_escheatlaw20_below_1 [.c (.i .i64 (k : Int)), .c (.i .i64 x), .c (.p r 0)] h = some (.c (.b (!killP e k x)), h) := by
  have key : ∀ g, aload1 g (.c (.p r 0)) = some (.c (.i .i64 e)) → ∃ g', R_escheatlaw20_below_1 0 [.c (.i .i64 (k : Int)), .c (.i .i64 x), .c (.p r 0)] g = some (.c (.b (!killP e k x)), g') := by
    intro g h1
    have e3 : abin .rem (.c (.i .i64 (k : Int))) (.c (.i .i64 3)) = some (.c (.i .i64 ((k % 3 : Nat) : Int))) := by rw [rem_i (a := (k : Int)) (b := 3) (by omega) (by omega)]; simp
    rw [R_escheatlaw20_below_1_eq]
    unfold killP
    rw [Bool.not_not]
    by_cases c : x < e
    · rw [decide_eq_true c, Bool.true_and]
      by_cases c2 : k % 3 = 2
      · have c3 : ((k % 3 : Nat) : Int) = 2 := by omega
        rw [decide_eq_true c2]
        exact ⟨_, by simp only [afAddr_p, List.append_nil, if_true, if_false, bnd_some, mp_some, cnd_t, cnd_f, gd_no, gd_tt, gd_tf, gd_ft, gd_ff, alenS_s, alen_sl, alen_ns, abin_add, abin_sub, abin_mul, abin_eql, abin_neq, abin_lss, abin_leq, abin_gtr, abin_geq, abin_seql, abin_sneq, abin_slss, aun_not, aun_neg, agn_some, aeqN_nf, aeqN_f, aeqN_np, aeqN_p, anilc_p, aeqB_t, aeqB_f, aconv_i, apick_b, cond_true, cond_false, decide_true, decide_false, Bool.not_true, Bool.not_false, aext_t, ofPart_c, ofPart_a, part?_c, part?_a, cells?_c, cells?_a, tupN_2, tupN_3, Option.map_some, Option.some.injEq, List.getElem?_cons_zero, List.getElem?_cons_succ, not_true_eq_false, not_false_eq_true, quiet_same, bytesI_length, Option.join_some, List.append_assoc, List.cons_append, List.nil_append, List.length_append, List.length_cons, List.length_nil, Nat.zero_add, Nat.add_zero, rd_at, rd_at0, set_at, set_at0, List.set_cons_zero, List.set_cons_succ, ne_eq, decide_not, quiet_ext, newOk_some, List.cons_prefix_cons, List.nil_prefix, List.drop_succ_cons, List.drop_zero, List.all_cons, List.all_nil, Bool.and_true, true_and, and_true, h1, c, e3, c3] <;> rfl⟩
      · have c3 : ¬ ((k % 3 : Nat) : Int) = 2 := by omega
        rw [decide_eq_false c2]
        exact ⟨_, by simp only [afAddr_p, List.append_nil, if_true, if_false, bnd_some, mp_some, cnd_t, cnd_f, gd_no, gd_tt, gd_tf, gd_ft, gd_ff, alenS_s, alen_sl, alen_ns, abin_add, abin_sub, abin_mul, abin_eql, abin_neq, abin_lss, abin_leq, abin_gtr, abin_geq, abin_seql, abin_sneq, abin_slss, aun_not, aun_neg, agn_some, aeqN_nf, aeqN_f, aeqN_np, aeqN_p, anilc_p, aeqB_t, aeqB_f, aconv_i, apick_b, cond_true, cond_false, decide_true, decide_false, Bool.not_true, Bool.not_false, aext_t, ofPart_c, ofPart_a, part?_c, part?_a, cells?_c, cells?_a, tupN_2, tupN_3, Option.map_some, Option.some.injEq, List.getElem?_cons_zero, List.getElem?_cons_succ, not_true_eq_false, not_false_eq_true, quiet_same, bytesI_length, Option.join_some, List.append_assoc, List.cons_append, List.nil_append, List.length_append, List.length_cons, List.length_nil, Nat.zero_add, Nat.add_zero, rd_at, rd_at0, set_at, set_at0, List.set_cons_zero, List.set_cons_succ, ne_eq, decide_not, quiet_ext, newOk_some, List.cons_prefix_cons, List.nil_prefix, List.drop_succ_cons, List.drop_zero, List.all_cons, List.all_nil, Bool.and_true, true_and, and_true, h1, c, e3, c3] <;> rfl⟩
    · rw [decide_eq_false c, Bool.false_and]
      exact ⟨_, by simp only [afAddr_p, List.append_nil, if_true, if_false, bnd_some, mp_some, cnd_t, cnd_f, gd_no, gd_tt, gd_tf, gd_ft, gd_ff, alenS_s, alen_sl, alen_ns, abin_add, abin_sub, abin_mul, abin_eql, abin_neq, abin_lss, abin_leq, abin_gtr, abin_geq, abin_seql, abin_sneq, abin_slss, aun_not, aun_neg, agn_some, aeqN_nf, aeqN_f, aeqN_np, aeqN_p, anilc_p, aeqB_t, aeqB_f, aconv_i, apick_b, cond_true, cond_false, decide_true, decide_false, Bool.not_true, Bool.not_false, aext_t, ofPart_c, ofPart_a, part?_c, part?_a, cells?_c, cells?_a, tupN_2, tupN_3, Option.map_some, Option.some.injEq, List.getElem?_cons_zero, List.getElem?_cons_succ, not_true_eq_false, not_false_eq_true, quiet_same, bytesI_length, Option.join_some, List.append_assoc, List.cons_append, List.nil_append, List.length_append, List.length_cons, List.length_nil, Nat.zero_add, Nat.add_zero, rd_at, rd_at0, set_at, set_at0, List.set_cons_zero, List.set_cons_succ, ne_eq, decide_not, quiet_ext, newOk_some, List.cons_prefix_cons, List.nil_prefix, List.drop_succ_cons, List.drop_zero, List.all_cons, List.all_nil, Bool.and_true, true_and, and_true, h1, c] <;> rfl⟩
  have h1 : aload1 (ro h) (.c (.p r 0)) = some (.c (.i .i64 e)) := load1_of (cs := [.i .i64 e]) (rw := false) (by rw [rd_ro, hr]; rfl) rfl rfl
  obtain ⟨g', e⟩ := key (ro h) h1
  exact S_escheatlaw20_below_1_flat e rfl

theorem keep_loop {b : List UInt8} {e : Int} {r q : Nat} {rw : Bool} {g : Heap} (hb : b.length = 256) (hr : rd g r = some ⟨[.i .i64 e], rw⟩) : ∀ f n m : Nat, n + f = 128 → f < m →
    ∃ h', points_Keep__below_1_l0 q m (.c (.f 179 [(r, 0)])) (.c (.p g.length 0)) (.c (.p (g.length + 1) 0)) (.c (.i .i64 (n : Int))) (g ++ [some (Row.mk (encB (keepB b e n)) true), some (Row.mk (encB (zeros 256)) true)]) = some (.a (encB (keepB b e 128)), h')
  | f, n, 0, _, hm => by omega
  | 0, n, m + 1, hn, hm => by
    have e0 : n = 128 := by omega
    subst e0
    have c0 : ¬ ((128 : Nat) : Int) < 128 := by omega
    have hK : (encB (keepB b e 128)).length = 256 := by rw [encB_length]; exact keepB_length hb 128 (Nat.le_refl _)
    have hz : (encB (zeros 256)).length = 256 := by rw [encB_length]; exact zeros_length
    rw [points_Keep__below_1_l0_eq]
    generalize zeros 256 = z at *
    exact ⟨_, by simp only [afAddr_p, List.append_nil, if_true, if_false, bnd_some, mp_some, cnd_t, cnd_f, gd_no, gd_tt, gd_tf, gd_ft, gd_ff, alenS_s, alen_sl, alen_ns, abin_add, abin_sub, abin_mul, abin_eql, abin_neq, abin_lss, abin_leq, abin_gtr, abin_geq, abin_seql, abin_sneq, abin_slss, aun_not, aun_neg, agn_some, aeqN_nf, aeqN_f, aeqN_np, aeqN_p, anilc_p, aeqB_t, aeqB_f, aconv_i, apick_b, cond_true, cond_false, decide_true, decide_false, Bool.not_true, Bool.not_false, aext_t, ofPart_c, ofPart_a, part?_c, part?_a, cells?_c, cells?_a, tupN_2, tupN_3, Option.map_some, Option.some.injEq, List.getElem?_cons_zero, List.getElem?_cons_succ, not_true_eq_false, not_false_eq_true, quiet_same, bytesI_length, Option.join_some, List.append_assoc, List.cons_append, List.nil_append, List.length_append, List.length_cons, List.length_nil, Nat.zero_add, Nat.add_zero, rd_at, rd_at0, set_at, set_at0, List.set_cons_zero, List.set_cons_succ, ne_eq, decide_not, quiet_ext, newOk_some, List.cons_prefix_cons, List.nil_prefix, List.drop_succ_cons, List.drop_zero, List.all_cons, List.all_nil, Bool.and_true, true_and, and_true, aloadN_at, aloadN_at0, aload1_at, aload1_at0, astoreN_at, astoreN_at0, astore1_at, astore1_at0, aslA_at, aslA_at0, ldN_all, ld1_row, stN_all, st1_row, slr_all, Nat.reduceAdd, Nat.reduceMul, Nat.reduceLT, c0, hK, hz] <;> rfl⟩
  | f + 1, n, m + 1, hn, hm => by
    obtain ⟨h', ih⟩ := keep_loop (q := q) hb hr f (n + 1) m (by omega) (by omega)
    have c0 : (n : Int) < 128 := by omega
    have hl := keepB_length (e := e) hb n (by omega)
    have hK : (encB (keepB b e n)).length = 256 := by rw [encB_length]; exact hl
    have hG := fun h => points_Get_at (h := h) hl (show n < 128 by omega)
    have hB := fun l => below1_eq (k := n) (x := ptP (keepB b e n) n) (h := g ++ l) (rd_append hr)
    have hcv : ∀ (k x : Val) (h : Heap), callv E_points_Keep__below_1 (.c (.f 179 [(r, 0)])) [k, x] h = S_escheatlaw20_below_1 [k, x, .c (.p r 0)] h := fun _ _ _ => Eq.trans rfl rfl
    have hW := fun h => num_With_eq (h := h) (l := keepB b e n) hl (a := ((2 * n : Nat) : Int)) (w := 2) (v := 0)
    rw [withB_pt (by omega)] at hW
    have hK2 : (encB (layB (keepB b e n) (2 * n) (bytesI 2 0))).length = 256 := by rw [encB_length, layB_length (by rw [hl, bytesI_length]; omega)]; exact hl
    have w1 := wi_succ (show n + 1 < 9223372036854775808 by omega)
    rw [keepB] at ih
    rw [points_Keep__below_1_l0_eq]
    generalize ptP (keepB b e n) n = x at *
    generalize layB (keepB b e n) (2 * n) (bytesI 2 0) = L at *
    generalize keepB b e n = K at *
    generalize zeros 256 = z at *
    by_cases cz : x = 0
    · rw [decide_eq_true cz, Bool.not_true, Bool.false_and, cond_false] at ih
      rw [cz] at hG
      exact ⟨h', by simp only [afAddr_p, List.append_nil, if_true, if_false, bnd_some, mp_some, cnd_t, cnd_f, gd_no, gd_tt, gd_tf, gd_ft, gd_ff, alenS_s, alen_sl, alen_ns, abin_add, abin_sub, abin_mul, abin_eql, abin_neq, abin_lss, abin_leq, abin_gtr, abin_geq, abin_seql, abin_sneq, abin_slss, aun_not, aun_neg, agn_some, aeqN_nf, aeqN_f, aeqN_np, aeqN_p, anilc_p, aeqB_t, aeqB_f, aconv_i, apick_b, cond_true, cond_false, decide_true, decide_false, Bool.not_true, Bool.not_false, aext_t, ofPart_c, ofPart_a, part?_c, part?_a, cells?_c, cells?_a, tupN_2, tupN_3, Option.map_some, Option.some.injEq, List.getElem?_cons_zero, List.getElem?_cons_succ, not_true_eq_false, not_false_eq_true, quiet_same, bytesI_length, Option.join_some, List.append_assoc, List.cons_append, List.nil_append, List.length_append, List.length_cons, List.length_nil, Nat.zero_add, Nat.add_zero, rd_at, rd_at0, set_at, set_at0, List.set_cons_zero, List.set_cons_succ, ne_eq, decide_not, quiet_ext, newOk_some, List.cons_prefix_cons, List.nil_prefix, List.drop_succ_cons, List.drop_zero, List.all_cons, List.all_nil, Bool.and_true, true_and, and_true, aloadN_at, aloadN_at0, aload1_at, aload1_at0, astoreN_at, astoreN_at0, astore1_at, astore1_at0, aslA_at, aslA_at0, ldN_all, ld1_row, stN_all, st1_row, slr_all, Nat.reduceAdd, Nat.reduceMul, Nat.reduceLT, c0, hK, hG, points_Keep__below_1_j0_eq, w1]; exact ih⟩
    · rw [decide_eq_false cz, Bool.not_false, Bool.true_and] at ih
      cases ck : killP e n x with
      | true =>
        rw [ck] at hB ih
        rw [cond_true] at ih
        exact ⟨h', by simp only [afAddr_p, List.append_nil, if_true, if_false, bnd_some, mp_some, cnd_t, cnd_f, gd_no, gd_tt, gd_tf, gd_ft, gd_ff, alenS_s, alen_sl, alen_ns, abin_add, abin_sub, abin_mul, abin_eql, abin_neq, abin_lss, abin_leq, abin_gtr, abin_geq, abin_seql, abin_sneq, abin_slss, aun_not, aun_neg, agn_some, aeqN_nf, aeqN_f, aeqN_np, aeqN_p, anilc_p, aeqB_t, aeqB_f, aconv_i, apick_b, cond_true, cond_false, decide_true, decide_false, Bool.not_true, Bool.not_false, aext_t, ofPart_c, ofPart_a, part?_c, part?_a, cells?_c, cells?_a, tupN_2, tupN_3, Option.map_some, Option.some.injEq, List.getElem?_cons_zero, List.getElem?_cons_succ, not_true_eq_false, not_false_eq_true, quiet_same, bytesI_length, Option.join_some, List.append_assoc, List.cons_append, List.nil_append, List.length_append, List.length_cons, List.length_nil, Nat.zero_add, Nat.add_zero, rd_at, rd_at0, set_at, set_at0, List.set_cons_zero, List.set_cons_succ, ne_eq, decide_not, quiet_ext, newOk_some, List.cons_prefix_cons, List.nil_prefix, List.drop_succ_cons, List.drop_zero, List.all_cons, List.all_nil, Bool.and_true, true_and, and_true, aloadN_at, aloadN_at0, aload1_at, aload1_at0, astoreN_at, astoreN_at0, astore1_at, astore1_at0, aslA_at, aslA_at0, ldN_all, ld1_row, stN_all, st1_row, slr_all, Nat.reduceAdd, Nat.reduceMul, Nat.reduceLT, c0, hK, hG, cz, hcv, hB, wi_two (show n < 128 by omega), hW, hK2, points_Keep__below_1_j0_eq, w1]; exact ih⟩
      | false =>
        rw [ck] at hB ih
        rw [cond_false] at ih
        exact ⟨h', by simp only [afAddr_p, List.append_nil, if_true, if_false, bnd_some, mp_some, cnd_t, cnd_f, gd_no, gd_tt, gd_tf, gd_ft, gd_ff, alenS_s, alen_sl, alen_ns, abin_add, abin_sub, abin_mul, abin_eql, abin_neq, abin_lss, abin_leq, abin_gtr, abin_geq, abin_seql, abin_sneq, abin_slss, aun_not, aun_neg, agn_some, aeqN_nf, aeqN_f, aeqN_np, aeqN_p, anilc_p, aeqB_t, aeqB_f, aconv_i, apick_b, cond_true, cond_false, decide_true, decide_false, Bool.not_true, Bool.not_false, aext_t, ofPart_c, ofPart_a, part?_c, part?_a, cells?_c, cells?_a, tupN_2, tupN_3, Option.map_some, Option.some.injEq, List.getElem?_cons_zero, List.getElem?_cons_succ, not_true_eq_false, not_false_eq_true, quiet_same, bytesI_length, Option.join_some, List.append_assoc, List.cons_append, List.nil_append, List.length_append, List.length_cons, List.length_nil, Nat.zero_add, Nat.add_zero, rd_at, rd_at0, set_at, set_at0, List.set_cons_zero, List.set_cons_succ, ne_eq, decide_not, quiet_ext, newOk_some, List.cons_prefix_cons, List.nil_prefix, List.drop_succ_cons, List.drop_zero, List.all_cons, List.all_nil, Bool.and_true, true_and, and_true, aloadN_at, aloadN_at0, aload1_at, aload1_at0, astoreN_at, astoreN_at0, astore1_at, astore1_at0, aslA_at, aslA_at0, ldN_all, ld1_row, stN_all, st1_row, slr_all, Nat.reduceAdd, Nat.reduceMul, Nat.reduceLT, c0, hK, hG, cz, hcv, hB, points_Keep__below_1_j0_eq, w1]; exact ih⟩

theorem points_Keep_eq {b : List UInt8} {e : Int} {r : Nat} {rw : Bool} {h : Heap} (hb : b.length = 256) (hr : rd h r = some ⟨[.i .i64 e], rw⟩) :
    S_points_Keep__below_1 [.a (encB b), .c (.f 179 [(r, 0)])] h = some (.a (encB (keepB b e 128)), h) := by
  have key : ∀ N, 128 < N → ∀ g, rd g r = some ⟨[.i .i64 e], false⟩ → ∃ g', R_points_Keep__below_1 N [.a (encB b), .c (.f 179 [(r, 0)])] g = some (.a (encB (keepB b e 128)), g') := by
    intro N hN g hr
    obtain ⟨h', ih⟩ := keep_loop (q := N) hb hr 128 0 N (by omega) hN
    rw [R_points_Keep__below_1_eq, zeros_enc]
    generalize zeros 256 = z at *
    exact ⟨h', by simp only [afAddr_p, List.append_nil, if_true, if_false, bnd_some, mp_some, cnd_t, cnd_f, gd_no, gd_tt, gd_tf, gd_ft, gd_ff, alenS_s, alen_sl, alen_ns, abin_add, abin_sub, abin_mul, abin_eql, abin_neq, abin_lss, abin_leq, abin_gtr, abin_geq, abin_seql, abin_sneq, abin_slss, aun_not, aun_neg, agn_some, aeqN_nf, aeqN_f, aeqN_np, aeqN_p, anilc_p, aeqB_t, aeqB_f, aconv_i, apick_b, cond_true, cond_false, decide_true, decide_false, Bool.not_true, Bool.not_false, aext_t, ofPart_c, ofPart_a, part?_c, part?_a, cells?_c, cells?_a, tupN_2, tupN_3, Option.map_some, Option.some.injEq, List.getElem?_cons_zero, List.getElem?_cons_succ, not_true_eq_false, not_false_eq_true, quiet_same, bytesI_length, Option.join_some, List.append_assoc, List.cons_append, List.nil_append, List.length_append, List.length_cons, List.length_nil, Nat.zero_add, Nat.add_zero, rd_at, rd_at0, set_at, set_at0, List.set_cons_zero, List.set_cons_succ, ne_eq, decide_not, quiet_ext, newOk_some, List.cons_prefix_cons, List.nil_prefix, List.drop_succ_cons, List.drop_zero, List.all_cons, List.all_nil, Bool.and_true, true_and, and_true, aloadN_at, aloadN_at0, aload1_at, aload1_at0, astoreN_at, astoreN_at0, astore1_at, astore1_at0, aslA_at, aslA_at0, ldN_all, ld1_row, stN_all, st1_row, slr_all, Nat.reduceAdd, Nat.reduceMul, Nat.reduceLT]; exact ih⟩
  obtain ⟨g', e⟩ := key (h.length + 129) (by omega) (ro h) (by rw [rd_ro, hr]; rfl)
  exact S_points_Keep__below_1_flat e (by simp)

end Go.Proofs.Ytbbkpmbepljhkaa
