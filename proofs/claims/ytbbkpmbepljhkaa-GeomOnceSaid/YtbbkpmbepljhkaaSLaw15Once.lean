/- The law that each inode stands in a place of its own answers true. -/
import Derived.Test.YtbbkpmbepljhkaaSLaw15
import Derived.Test.YtbbkpmbepljhkaaGEscheatlaw15GeomOnce
set_option linter.all false
namespace Go.Proofs.Ytbbkpmbepljhkaa
open Go Go.Esc

/-- Which places were seen. -/
def seenC (j : Nat) : List Cell := List.replicate 16 (.b false) ++ (List.replicate j (.b true) ++ List.replicate (4080 - j) (.b false))

theorem seenC_length {j : Nat} (hj : j ≤ 4080) : (seenC j).length = 4096 := by
  unfold seenC
  rw [List.length_append, List.length_append, List.length_replicate, List.length_replicate, List.length_replicate]; omega
theorem seenC_zero : seenC 0 = List.replicate 4096 (.b false) := by
  unfold seenC
  rw [List.replicate_zero, List.nil_append, Nat.sub_zero, List.replicate_append_replicate]
theorem seenC_get {j : Nat} (hj : j < 4080) : (seenC j)[16 + j]? = some (.b false) := by
  unfold seenC
  rw [List.getElem?_append_right (by rw [List.length_replicate]; omega), List.length_replicate, List.getElem?_append_right (by rw [List.length_replicate]; omega), List.length_replicate, List.getElem?_replicate, if_pos (by omega)]
theorem seenC_set {j : Nat} (hj : j < 4080) : (seenC j).set (16 + j) (.b true) = seenC (j + 1) := by
  unfold seenC
  rw [List.set_append_right _ _ (by rw [List.length_replicate]; omega), List.length_replicate, Nat.add_sub_cancel_left, List.set_append_right _ _ (by rw [List.length_replicate]; omega), List.length_replicate, Nat.sub_self]
  refine congrArg (List.replicate 16 (Cell.b false) ++ ·) ?_
  rw [show 4080 - j = (4080 - (j + 1)) + 1 by omega, List.replicate_succ, List.set_cons_zero, List.replicate_succ', List.append_assoc]; rfl

theorem geomOnce_l1 {b n m : Int} {s : List Cell} {g : Heap} {k : Nat} (hm : mayL b n = true) : ∀ d i q : Nat, i + d = b.toNat → d < q →
    ∃ h', escheatlaw15_GeomOnce_l1 k q (.c (.p g.length 0)) (.c (.i .i64 ((i - (datF b n).toNat : Nat) : Int))) (.c (.i .i64 i)) (g ++ [some ⟨layC b n m, true⟩, some ⟨s, true⟩]) = some (.c (.b true), h')
  | d, i, 0, _, hq => by omega
  | 0, i, q + 1, hi, hq => by
    have c' := mayL_true.1 hm
    have hr := datF_range (b := b) (n := n)
    have t : datF b n = 2 + n / 8 := by unfold datF tabF tabN; rw [hm]; rfl
    have e0 : ((i - (datF b n).toNat : Nat) : Int) = manyL b n := by unfold manyL; rw [hm]; simp only [cond_true]; omega
    have e1 : (i : Int) = b := by omega
    have c0 : ¬ b < b := by omega
    have e2 : (((datF b n).toNat : Nat) : Int) = datF b n := by omega
    have e3 : IntKind.wrap .i64 (manyL b n + datF b n) = b := by
      unfold manyL; rw [hm]; simp only [cond_true]
      rw [wrap_i64 (by omega) (by omega)]; omega
    have c1 : 1 ≤ manyL b n := by unfold manyL; rw [hm]; simp only [cond_true]; omega
    rw [escheatlaw15_GeomOnce_l1_eq, e0, e1]
    exact ⟨_, by simp only [afAddr_p, List.append_nil, if_true, if_false, bnd_some, mp_some, cnd_t, cnd_f, gd_no, gd_tt, gd_tf, gd_ft, gd_ff, alenS_s, alen_sl, alen_ns, abin_add, abin_sub, abin_mul, abin_eql, abin_neq, abin_lss, abin_leq, abin_gtr, abin_geq, abin_seql, abin_sneq, abin_slss, aun_not, aun_neg, aeqB_t, aeqB_f, aconv_i, apick_b, cond_true, cond_false, decide_true, decide_false, Bool.not_true, Bool.not_false, aext_t, ofPart_c, ofPart_a, part?_c, part?_a, cells?_c, cells?_a, tupN_2, tupN_3, Option.map_some, Option.some.injEq, List.getElem?_cons_zero, List.getElem?_cons_succ, not_true_eq_false, not_false_eq_true, quiet_same, bytesI_length, Option.join_some, List.append_assoc, List.cons_append, List.nil_append, List.length_append, List.length_cons, List.length_nil, Nat.zero_add, Nat.add_zero, rd_at, rd_at0, set_at, set_at0, List.set_cons_zero, List.set_cons_succ, ne_eq, decide_not, quiet_ext, newOk_some, List.cons_prefix_cons, List.nil_prefix, List.drop_succ_cons, List.drop_zero, List.all_cons, List.all_nil, Bool.and_true, true_and, and_true, aloadN_at, aloadN_at0, aload1_at, aload1_at0, astoreN_at, astoreN_at0, astore1_at, astore1_at0, aslA_at, aslA_at0, ldN_all, ld1_row, stN_all, st1_row, slr_all, Nat.reduceAdd, Nat.reduceMul, Nat.reduceLT, c0, geom_Many_eq, geom_Own_eq, e2, e3, c1, works15_eq] <;> rfl⟩
  | d + 1, i, q + 1, hi, hq => by
    have c' := mayL_true.1 hm
    obtain ⟨h', ih⟩ := geomOnce_l1 (m := m) (s := s) (g := g) (k := k) hm d (i + 1) q (by omega) (by omega)
    have hr := datF_range (b := b) (n := n)
    have c0 : (i : Int) < b := by omega
    rw [escheatlaw15_GeomOnce_l1_eq]
    cases c1 : isDatL b n i with
    | true =>
      obtain ⟨_, c2, c3⟩ := isDatL_true.1 c1
      have e1 : i + 1 - (datF b n).toNat = i - (datF b n).toNat + 1 := by omega
      rw [e1] at ih
      exact ⟨h', by simp only [afAddr_p, List.append_nil, if_true, if_false, bnd_some, mp_some, cnd_t, cnd_f, gd_no, gd_tt, gd_tf, gd_ft, gd_ff, alenS_s, alen_sl, alen_ns, abin_add, abin_sub, abin_mul, abin_eql, abin_neq, abin_lss, abin_leq, abin_gtr, abin_geq, abin_seql, abin_sneq, abin_slss, aun_not, aun_neg, aeqB_t, aeqB_f, aconv_i, apick_b, cond_true, cond_false, decide_true, decide_false, Bool.not_true, Bool.not_false, aext_t, ofPart_c, ofPart_a, part?_c, part?_a, cells?_c, cells?_a, tupN_2, tupN_3, Option.map_some, Option.some.injEq, List.getElem?_cons_zero, List.getElem?_cons_succ, not_true_eq_false, not_false_eq_true, quiet_same, bytesI_length, Option.join_some, List.append_assoc, List.cons_append, List.nil_append, List.length_append, List.length_cons, List.length_nil, Nat.zero_add, Nat.add_zero, rd_at, rd_at0, set_at, set_at0, List.set_cons_zero, List.set_cons_succ, ne_eq, decide_not, quiet_ext, newOk_some, List.cons_prefix_cons, List.nil_prefix, List.drop_succ_cons, List.drop_zero, List.all_cons, List.all_nil, Bool.and_true, true_and, and_true, aloadN_at, aloadN_at0, aload1_at, aload1_at0, astoreN_at, astoreN_at0, astore1_at, astore1_at0, aslA_at, aslA_at0, ldN_all, ld1_row, stN_all, st1_row, slr_all, Nat.reduceAdd, Nat.reduceMul, Nat.reduceLT, c0, geom_IsData_eq, c1, wi_succ (show i - (datF b n).toNat + 1 < 9223372036854775808 by omega), escheatlaw15_GeomOnce_j0_eq, wi_succ (show i + 1 < 9223372036854775808 by omega)]; exact ih⟩
    | false =>
      have hf : ¬ (mayL b n = true ∧ datF b n ≤ i ∧ i < b) := by rw [← isDatL_true, c1]; simp
      have e1 : i + 1 - (datF b n).toNat = i - (datF b n).toNat := by
        have : ¬ datF b n ≤ i := fun h => hf ⟨hm, h, c0⟩
        omega
      rw [e1] at ih
      exact ⟨h', by simp only [afAddr_p, List.append_nil, if_true, if_false, bnd_some, mp_some, cnd_t, cnd_f, gd_no, gd_tt, gd_tf, gd_ft, gd_ff, alenS_s, alen_sl, alen_ns, abin_add, abin_sub, abin_mul, abin_eql, abin_neq, abin_lss, abin_leq, abin_gtr, abin_geq, abin_seql, abin_sneq, abin_slss, aun_not, aun_neg, aeqB_t, aeqB_f, aconv_i, apick_b, cond_true, cond_false, decide_true, decide_false, Bool.not_true, Bool.not_false, aext_t, ofPart_c, ofPart_a, part?_c, part?_a, cells?_c, cells?_a, tupN_2, tupN_3, Option.map_some, Option.some.injEq, List.getElem?_cons_zero, List.getElem?_cons_succ, not_true_eq_false, not_false_eq_true, quiet_same, bytesI_length, Option.join_some, List.append_assoc, List.cons_append, List.nil_append, List.length_append, List.length_cons, List.length_nil, Nat.zero_add, Nat.add_zero, rd_at, rd_at0, set_at, set_at0, List.set_cons_zero, List.set_cons_succ, ne_eq, decide_not, quiet_ext, newOk_some, List.cons_prefix_cons, List.nil_prefix, List.drop_succ_cons, List.drop_zero, List.all_cons, List.all_nil, Bool.and_true, true_and, and_true, aloadN_at, aloadN_at0, aload1_at, aload1_at0, astoreN_at, astoreN_at0, astore1_at, astore1_at0, aslA_at, aslA_at0, ldN_all, ld1_row, stN_all, st1_row, slr_all, Nat.reduceAdd, Nat.reduceMul, Nat.reduceLT, c0, geom_IsData_eq, c1, escheatlaw15_GeomOnce_j0_eq, wi_succ (show i + 1 < 9223372036854775808 by omega)]; exact ih⟩

theorem geomOnce_l0 {b n m : Int} {g : Heap} {k : Nat} (hm : mayL b n = true) (hk : 512 < k) : ∀ d j q : Nat, j + d = n.toNat → d < q →
    ∃ h', escheatlaw15_GeomOnce_l0 k q (.c (.p g.length 0)) (.c (.p (g.length + 1) 0)) (.c (.i .i64 ((j + 1 : Nat) : Int))) (g ++ [some ⟨layC b n m, true⟩, some ⟨seenC j, true⟩]) = some (.c (.b true), h')
  | d, j, 0, _, hq => by omega
  | 0, j, q + 1, hi, hq => by
    have c' := mayL_true.1 hm
    obtain ⟨h', ih⟩ := geomOnce_l1 (m := m) (s := seenC j) (g := g) (k := k) hm b.toNat 0 k (by omega) (by omega)
    have c0 : ¬ ((j + 1 : Nat) : Int) ≤ n := by omega
    rw [show ((0 - (datF b n).toNat : Nat) : Int) = 0 by omega] at ih
    rw [escheatlaw15_GeomOnce_l0_eq]
    exact ⟨h', by simp only [afAddr_p, List.append_nil, if_true, if_false, bnd_some, mp_some, cnd_t, cnd_f, gd_no, gd_tt, gd_tf, gd_ft, gd_ff, alenS_s, alen_sl, alen_ns, abin_add, abin_sub, abin_mul, abin_eql, abin_neq, abin_lss, abin_leq, abin_gtr, abin_geq, abin_seql, abin_sneq, abin_slss, aun_not, aun_neg, aeqB_t, aeqB_f, aconv_i, apick_b, cond_true, cond_false, decide_true, decide_false, Bool.not_true, Bool.not_false, aext_t, ofPart_c, ofPart_a, part?_c, part?_a, cells?_c, cells?_a, tupN_2, tupN_3, Option.map_some, Option.some.injEq, List.getElem?_cons_zero, List.getElem?_cons_succ, not_true_eq_false, not_false_eq_true, quiet_same, bytesI_length, Option.join_some, List.append_assoc, List.cons_append, List.nil_append, List.length_append, List.length_cons, List.length_nil, Nat.zero_add, Nat.add_zero, rd_at, rd_at0, set_at, set_at0, List.set_cons_zero, List.set_cons_succ, ne_eq, decide_not, quiet_ext, newOk_some, List.cons_prefix_cons, List.nil_prefix, List.drop_succ_cons, List.drop_zero, List.all_cons, List.all_nil, Bool.and_true, true_and, and_true, aloadN_at, aloadN_at0, aload1_at, aload1_at0, astoreN_at, astoreN_at0, astore1_at, astore1_at0, aslA_at, aslA_at0, ldN_all, ld1_row, stN_all, st1_row, slr_all, Nat.reduceAdd, Nat.reduceMul, Nat.reduceLT, c0]; exact ih⟩
  | d + 1, j, q + 1, hi, hq => by
    have c' := mayL_true.1 hm
    obtain ⟨h', ih⟩ := geomOnce_l0 (m := m) (g := g) (k := k) hm hk d (j + 1) q (by omega) (by omega)
    have c0 : ((j + 1 : Nat) : Int) ≤ n := by omega
    have ci : isInoL b n ((j + 1 : Nat) : Int) = true := isInoL_true.2 ⟨hm, by omega, by omega⟩
    have t : datF b n = 2 + n / 8 := by unfold datF tabF tabN; rw [hm]; rfl
    have t1 : tabF b n = 2 := by unfold tabF; rw [hm]; rfl
    have t2 : tabN b n = n / 8 := by unfold tabN; rw [hm]; rfl
    have w1 : whereB b n ((j + 1 : Nat) : Int) = ((2 + j / 8 : Nat) : Int) := by unfold whereB; rw [ci]; simp only [cond_true]; omega
    have w2 : whereK b n ((j + 1 : Nat) : Int) = ((j % 8 : Nat) : Int) := by unfold whereK; rw [ci]; simp only [cond_true]; omega
    have d1 : ¬ ((2 + j / 8 : Nat) : Int) < 0 := by omega
    have d2 : ¬ b ≤ ((2 + j / 8 : Nat) : Int) := by omega
    have d3 : ¬ ((j % 8 : Nat) : Int) < 0 := by omega
    have d4 : ¬ 7 < ((j % 8 : Nat) : Int) := by omega
    have d5 : isDatL b n ((2 + j / 8 : Nat) : Int) = false := by
      cases c : isDatL b n ((2 + j / 8 : Nat) : Int) with
      | false => rfl
      | true => have := isDatL_true.1 c; omega
    have d6 : ¬ ((2 + j / 8 : Nat) : Int) = 1 := by omega
    have d7 : ¬ ((2 + j / 8 : Nat) : Int) = 0 := by omega
    have a1 : aiAddrA 512 8 (.c (.p (g.length + 1) 0)) (.c (.i .i64 ((2 + j / 8 : Nat) : Int))) = some (.c (.p (g.length + 1) ((2 + j / 8) * 8))) := by rw [iAddrA_of (by omega)]; simp
    have a2 : aiAddrA 8 1 (.c (.p (g.length + 1) ((2 + j / 8) * 8))) (.c (.i .i64 ((j % 8 : Nat) : Int))) = some (.c (.p (g.length + 1) (16 + j))) := by rw [iAddrA_of (by omega), show (2 + j / 8) * 8 + j % 8 * 1 = 16 + j by omega]
    have l1 := seenC_get (j := j) (by omega)
    have o1 : 16 + j < (seenC j).length := by rw [seenC_length (by omega)]; omega
    have s1 := seenC_set (j := j) (by omega)
    have hI := geom_Inode_eq (b := b) (n := n) (m := m) (no := ((2 + j / 8 : Nat) : Int)) (k := ((j % 8 : Nat) : Int)) (h := g ++ [some ⟨layC b n m, true⟩, some ⟨seenC (j + 1), true⟩]) (by omega)
    have ti : inoAt b n ((2 + j / 8 : Nat) : Int) ((j % 8 : Nat) : Int) = true := inoAt_true.2 ⟨by omega, by omega, by omega, by omega⟩
    have e1 : (((2 + j / 8 : Nat) : Int) - tabF b n) * 8 + ((j % 8 : Nat) : Int) + 1 = ((j + 1 : Nat) : Int) := by rw [t1]; omega
    rw [ti] at hI
    simp only [cond_true, e1] at hI
    rw [escheatlaw15_GeomOnce_l0_eq]
    exact ⟨h', by simp only [afAddr_p, List.append_nil, if_true, if_false, bnd_some, mp_some, cnd_t, cnd_f, gd_no, gd_tt, gd_tf, gd_ft, gd_ff, alenS_s, alen_sl, alen_ns, abin_add, abin_sub, abin_mul, abin_eql, abin_neq, abin_lss, abin_leq, abin_gtr, abin_geq, abin_seql, abin_sneq, abin_slss, aun_not, aun_neg, aeqB_t, aeqB_f, aconv_i, apick_b, cond_true, cond_false, decide_true, decide_false, Bool.not_true, Bool.not_false, aext_t, ofPart_c, ofPart_a, part?_c, part?_a, cells?_c, cells?_a, tupN_2, tupN_3, Option.map_some, Option.some.injEq, List.getElem?_cons_zero, List.getElem?_cons_succ, not_true_eq_false, not_false_eq_true, quiet_same, bytesI_length, Option.join_some, List.append_assoc, List.cons_append, List.nil_append, List.length_append, List.length_cons, List.length_nil, Nat.zero_add, Nat.add_zero, rd_at, rd_at0, set_at, set_at0, List.set_cons_zero, List.set_cons_succ, ne_eq, decide_not, quiet_ext, newOk_some, List.cons_prefix_cons, List.nil_prefix, List.drop_succ_cons, List.drop_zero, List.all_cons, List.all_nil, Bool.and_true, true_and, and_true, aloadN_at, aloadN_at0, aload1_at, aload1_at0, astoreN_at, astoreN_at0, astore1_at, astore1_at0, aslA_at, aslA_at0, ldN_all, ld1_row, stN_all, st1_row, slr_all, Nat.reduceAdd, Nat.reduceMul, Nat.reduceLT, c0, geom_Where_eq, w1, w2, ci, d1, d2, d3, d4, a1, a2, l1, geom_IsData_eq, d5, geom_Map_eq, d6, d7, o1, s1, hI, wi_succ (show j + 1 + 1 < 9223372036854775808 by omega)]; exact ih⟩

theorem geomOnce_eq {b n m : Int} (h : Heap) : S_escheatlaw15_GeomOnce [.a (layC b n m)] h = some (.c (.b true), h) := by
  have key : ∀ N, 512 < N → ∀ g, ∃ g', R_escheatlaw15_GeomOnce N [.a (layC b n m)] g = some (.c (.b true), g') := by
    intro N hN g
    rw [R_escheatlaw15_GeomOnce_eq]
    cases c : mayL b n with
    | true =>
      have c' := mayL_true.1 c
      obtain ⟨h', e⟩ := geomOnce_l0 (m := m) (g := g) (k := N) c hN n.toNat 0 N (by omega) (by omega)
      rw [seenC_zero, show ((0 + 1 : Nat) : Int) = 1 from rfl] at e
      generalize List.replicate 4096 (Cell.b false) = z at *
      exact ⟨h', by simp only [afAddr_p, List.append_nil, if_true, if_false, bnd_some, mp_some, cnd_t, cnd_f, gd_no, gd_tt, gd_tf, gd_ft, gd_ff, alenS_s, alen_sl, alen_ns, abin_add, abin_sub, abin_mul, abin_eql, abin_neq, abin_lss, abin_leq, abin_gtr, abin_geq, abin_seql, abin_sneq, abin_slss, aun_not, aun_neg, aeqB_t, aeqB_f, aconv_i, apick_b, cond_true, cond_false, decide_true, decide_false, Bool.not_true, Bool.not_false, aext_t, ofPart_c, ofPart_a, part?_c, part?_a, cells?_c, cells?_a, tupN_2, tupN_3, Option.map_some, Option.some.injEq, List.getElem?_cons_zero, List.getElem?_cons_succ, not_true_eq_false, not_false_eq_true, quiet_same, bytesI_length, Option.join_some, List.append_assoc, List.cons_append, List.nil_append, List.length_append, List.length_cons, List.length_nil, Nat.zero_add, Nat.add_zero, rd_at, rd_at0, set_at, set_at0, List.set_cons_zero, List.set_cons_succ, ne_eq, decide_not, quiet_ext, newOk_some, List.cons_prefix_cons, List.nil_prefix, List.drop_succ_cons, List.drop_zero, List.all_cons, List.all_nil, Bool.and_true, true_and, and_true, aloadN_at, aloadN_at0, aload1_at, aload1_at0, astoreN_at, astoreN_at0, astore1_at, astore1_at0, aslA_at, aslA_at0, ldN_all, ld1_row, stN_all, st1_row, slr_all, Nat.reduceAdd, Nat.reduceMul, Nat.reduceLT, ref14_May_eq, c]; exact e⟩
    | false => exact ⟨_, by simp only [afAddr_p, List.append_nil, if_true, if_false, bnd_some, mp_some, cnd_t, cnd_f, gd_no, gd_tt, gd_tf, gd_ft, gd_ff, alenS_s, alen_sl, alen_ns, abin_add, abin_sub, abin_mul, abin_eql, abin_neq, abin_lss, abin_leq, abin_gtr, abin_geq, abin_seql, abin_sneq, abin_slss, aun_not, aun_neg, aeqB_t, aeqB_f, aconv_i, apick_b, cond_true, cond_false, decide_true, decide_false, Bool.not_true, Bool.not_false, aext_t, ofPart_c, ofPart_a, part?_c, part?_a, cells?_c, cells?_a, tupN_2, tupN_3, Option.map_some, Option.some.injEq, List.getElem?_cons_zero, List.getElem?_cons_succ, not_true_eq_false, not_false_eq_true, quiet_same, bytesI_length, Option.join_some, List.append_assoc, List.cons_append, List.nil_append, List.length_append, List.length_cons, List.length_nil, Nat.zero_add, Nat.add_zero, rd_at, rd_at0, set_at, set_at0, List.set_cons_zero, List.set_cons_succ, ne_eq, decide_not, quiet_ext, newOk_some, List.cons_prefix_cons, List.nil_prefix, List.drop_succ_cons, List.drop_zero, List.all_cons, List.all_nil, Bool.and_true, true_and, and_true, aloadN_at, aloadN_at0, aload1_at, aload1_at0, astoreN_at, astoreN_at0, astore1_at, astore1_at0, aslA_at, aslA_at0, ldN_all, ld1_row, stN_all, st1_row, slr_all, Nat.reduceAdd, Nat.reduceMul, Nat.reduceLT, ref14_May_eq, c, works15_eq] <;> rfl⟩
  obtain ⟨g', e⟩ := key (512 + h.length + 1) (by omega) (ro h)
  exact S_escheatlaw15_GeomOnce_flat e rfl

end Go.Proofs.Ytbbkpmbepljhkaa
