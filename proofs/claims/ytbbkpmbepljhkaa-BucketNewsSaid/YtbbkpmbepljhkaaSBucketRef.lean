/- The document's entries. -/
import Derived.Test.YtbbkpmbepljhkaaSBucketSlot
import Derived.Test.YtbbkpmbepljhkaaSConv
import Derived.Test.YtbbkpmbepljhkaaGEscheatref18
set_option linter.all false
namespace Go.Proofs.Ytbbkpmbepljhkaa
open Go Go.Esc

theorem ref18_May_eq {s : List UInt8} {n : Int} {h : Heap} (hs : s.length < 9223372036854775807) : S_escheatref18_May [.a [.s s, .i .i64 n]] h = some (.c (.b (mayE s n)), h) := by
  have key : ∀ g, ∃ g', R_escheatref18_May 0 [.a [.s s, .i .i64 n]] g = some (.c (.b (mayE s n)), g') := by
    intro g
    have hC := fun h => right_eq hs h
    rw [R_escheatref18_May_eq]
    unfold mayE
    cases hf : fineName s with
    | false =>
      rw [hf] at hC
      exact ⟨_, by simp only [afAddr_p, List.append_nil, if_true, if_false, bnd_some, mp_some, cnd_t, cnd_f, gd_no, gd_tt, gd_tf, gd_ft, gd_ff, alenS_s, alen_sl, alen_ns, abin_add, abin_sub, abin_mul, abin_eql, abin_neq, abin_lss, abin_leq, abin_gtr, abin_geq, abin_seql, abin_sneq, abin_slss, aun_not, aun_neg, agn_some, aeqN_nf, aeqN_f, aeqN_np, aeqN_p, anilc_p, aeqB_t, aeqB_f, aconv_i, apick_b, cond_true, cond_false, decide_true, decide_false, Bool.not_true, Bool.not_false, aext_t, ofPart_c, ofPart_a, part?_c, part?_a, cells?_c, cells?_a, tupN_2, tupN_3, Option.map_some, Option.some.injEq, List.getElem?_cons_zero, List.getElem?_cons_succ, not_true_eq_false, not_false_eq_true, quiet_same, bytesI_length, Option.join_some, List.append_assoc, List.cons_append, List.nil_append, List.length_append, List.length_cons, List.length_nil, Nat.zero_add, Nat.add_zero, rd_at, rd_at0, set_at, set_at0, List.set_cons_zero, List.set_cons_succ, ne_eq, decide_not, quiet_ext, newOk_some, List.cons_prefix_cons, List.nil_prefix, List.drop_succ_cons, List.drop_zero, List.all_cons, List.all_nil, Bool.and_true, true_and, and_true, aloadN_at, aloadN_at0, aload1_at, aload1_at0, astoreN_at, astoreN_at0, astore1_at, astore1_at0, aslA_at, aslA_at0, ldN_all, ld1_row, stN_all, st1_row, slr_all, Nat.reduceAdd, Nat.reduceMul, Nat.reduceLT, hC] <;> rfl⟩
    | true =>
      rw [hf] at hC
      by_cases c1 : 1 ≤ n
      · by_cases c2 : n ≤ 128
        · rw [decide_eq_true c1, decide_eq_true c2]
          exact ⟨_, by simp only [afAddr_p, List.append_nil, if_true, if_false, bnd_some, mp_some, cnd_t, cnd_f, gd_no, gd_tt, gd_tf, gd_ft, gd_ff, alenS_s, alen_sl, alen_ns, abin_add, abin_sub, abin_mul, abin_eql, abin_neq, abin_lss, abin_leq, abin_gtr, abin_geq, abin_seql, abin_sneq, abin_slss, aun_not, aun_neg, agn_some, aeqN_nf, aeqN_f, aeqN_np, aeqN_p, anilc_p, aeqB_t, aeqB_f, aconv_i, apick_b, cond_true, cond_false, decide_true, decide_false, Bool.not_true, Bool.not_false, aext_t, ofPart_c, ofPart_a, part?_c, part?_a, cells?_c, cells?_a, tupN_2, tupN_3, Option.map_some, Option.some.injEq, List.getElem?_cons_zero, List.getElem?_cons_succ, not_true_eq_false, not_false_eq_true, quiet_same, bytesI_length, Option.join_some, List.append_assoc, List.cons_append, List.nil_append, List.length_append, List.length_cons, List.length_nil, Nat.zero_add, Nat.add_zero, rd_at, rd_at0, set_at, set_at0, List.set_cons_zero, List.set_cons_succ, ne_eq, decide_not, quiet_ext, newOk_some, List.cons_prefix_cons, List.nil_prefix, List.drop_succ_cons, List.drop_zero, List.all_cons, List.all_nil, Bool.and_true, true_and, and_true, aloadN_at, aloadN_at0, aload1_at, aload1_at0, astoreN_at, astoreN_at0, astore1_at, astore1_at0, aslA_at, aslA_at0, ldN_all, ld1_row, stN_all, st1_row, slr_all, Nat.reduceAdd, Nat.reduceMul, Nat.reduceLT, hC, c1, c2] <;> rfl⟩
        · rw [decide_eq_true c1, decide_eq_false c2]
          exact ⟨_, by simp only [afAddr_p, List.append_nil, if_true, if_false, bnd_some, mp_some, cnd_t, cnd_f, gd_no, gd_tt, gd_tf, gd_ft, gd_ff, alenS_s, alen_sl, alen_ns, abin_add, abin_sub, abin_mul, abin_eql, abin_neq, abin_lss, abin_leq, abin_gtr, abin_geq, abin_seql, abin_sneq, abin_slss, aun_not, aun_neg, agn_some, aeqN_nf, aeqN_f, aeqN_np, aeqN_p, anilc_p, aeqB_t, aeqB_f, aconv_i, apick_b, cond_true, cond_false, decide_true, decide_false, Bool.not_true, Bool.not_false, aext_t, ofPart_c, ofPart_a, part?_c, part?_a, cells?_c, cells?_a, tupN_2, tupN_3, Option.map_some, Option.some.injEq, List.getElem?_cons_zero, List.getElem?_cons_succ, not_true_eq_false, not_false_eq_true, quiet_same, bytesI_length, Option.join_some, List.append_assoc, List.cons_append, List.nil_append, List.length_append, List.length_cons, List.length_nil, Nat.zero_add, Nat.add_zero, rd_at, rd_at0, set_at, set_at0, List.set_cons_zero, List.set_cons_succ, ne_eq, decide_not, quiet_ext, newOk_some, List.cons_prefix_cons, List.nil_prefix, List.drop_succ_cons, List.drop_zero, List.all_cons, List.all_nil, Bool.and_true, true_and, and_true, aloadN_at, aloadN_at0, aload1_at, aload1_at0, astoreN_at, astoreN_at0, astore1_at, astore1_at0, aslA_at, aslA_at0, ldN_all, ld1_row, stN_all, st1_row, slr_all, Nat.reduceAdd, Nat.reduceMul, Nat.reduceLT, hC, c1, c2] <;> rfl⟩
      · rw [decide_eq_false c1]
        exact ⟨_, by simp only [afAddr_p, List.append_nil, if_true, if_false, bnd_some, mp_some, cnd_t, cnd_f, gd_no, gd_tt, gd_tf, gd_ft, gd_ff, alenS_s, alen_sl, alen_ns, abin_add, abin_sub, abin_mul, abin_eql, abin_neq, abin_lss, abin_leq, abin_gtr, abin_geq, abin_seql, abin_sneq, abin_slss, aun_not, aun_neg, agn_some, aeqN_nf, aeqN_f, aeqN_np, aeqN_p, anilc_p, aeqB_t, aeqB_f, aconv_i, apick_b, cond_true, cond_false, decide_true, decide_false, Bool.not_true, Bool.not_false, aext_t, ofPart_c, ofPart_a, part?_c, part?_a, cells?_c, cells?_a, tupN_2, tupN_3, Option.map_some, Option.some.injEq, List.getElem?_cons_zero, List.getElem?_cons_succ, not_true_eq_false, not_false_eq_true, quiet_same, bytesI_length, Option.join_some, List.append_assoc, List.cons_append, List.nil_append, List.length_append, List.length_cons, List.length_nil, Nat.zero_add, Nat.add_zero, rd_at, rd_at0, set_at, set_at0, List.set_cons_zero, List.set_cons_succ, ne_eq, decide_not, quiet_ext, newOk_some, List.cons_prefix_cons, List.nil_prefix, List.drop_succ_cons, List.drop_zero, List.all_cons, List.all_nil, Bool.and_true, true_and, and_true, aloadN_at, aloadN_at0, aload1_at, aload1_at0, astoreN_at, astoreN_at0, astore1_at, astore1_at0, aslA_at, aslA_at0, ldN_all, ld1_row, stN_all, st1_row, slr_all, Nat.reduceAdd, Nat.reduceMul, Nat.reduceLT, hC, c1] <;> rfl⟩
  obtain ⟨g', e⟩ := key (ro h)
  exact S_escheatref18_May_flat e rfl

theorem mayE_fine {s : List UInt8} {n : Int} (hm : mayE s n = true) : fineName s = true := by
  unfold mayE at hm
  simp only [Bool.and_eq_true] at hm
  exact hm.1

theorem ref18_Bytes_eq {s : List UInt8} {n : Int} {h : Heap} (hm : mayE s n = true) : S_escheatref18_Bytes [.a [.s s, .i .i64 n]] h = some (.c (.sl h.length 0 32 1), h ++ [some ⟨encB (entB s n), true⟩]) := by
  have hf := mayE_fine hm
  have hs := (fineName_length hf).2
  have ep : packN s s.length = packB s := by unfold packB; rw [hf, cond_true]
  have key : ∀ g, ∃ v g', R_escheatref18_Bytes 0 [.a [.s s, .i .i64 n]] g = some (v, g') ∧ Out g.length g' v 1 32 (encB (entB s n)) := by
    intro g
    have hB := fun h => bytes_conv (w := 2) (v := n) (h := h) (by omega)
    simp only [Int.cast_ofNat_Int] at hB
    have hP := fun h => refPack_eq hs h
    rw [ep] at hP
    have ef5 : afill [Cell.i .u8 0, .i .u8 0, .i .u8 0, .i .u8 0, .i .u8 0] [(0, 1, .c (.i .u8 0)), (1, 1, .c (.i .u8 0)), (2, 1, .c (.i .u8 0)), (3, 1, .c (.i .u8 0)), (4, 1, .c (.i .u8 0))] = some (encB [0, 0, 0, 0, 0]) := rfl
    have hpl : (encB (packB s)).length = 25 := by rw [encB_length]; exact packB_length
    have hA := app_of (h := g ++ [some (Row.mk [.s s, .i .i64 n] true), some (Row.mk [] true), some (Row.mk (encB (bytesI 2 n)) true), some (Row.mk (encB (packB s)) true)]) (id := g.length + 2) (jd := g.length + 3) (n := 2) (m := 25) (sz := 1) (cs := encB (bytesI 2 n)) (ys := encB (packB s)) (rw := true) (by simp) (by simp [encB_length]) (by simp) (by rw [hpl]) rfl (by omega) (by omega)
    simp only [List.length_append, List.length_cons, List.length_nil, Nat.zero_add, List.append_assoc, List.cons_append, List.nil_append, set_at, List.set_cons_succ, List.set_cons_zero, Nat.reduceAdd, ← encB_append] at hA
    have hl27 : (encB (bytesI 2 n ++ packB s)).length = 27 * 1 := by rw [encB_length, List.length_append, bytesI_length, packB_length]
    have hA2 := app_of (h := g ++ [some (Row.mk [.s s, .i .i64 n] true), some (Row.mk [] true), none, some (Row.mk (encB (packB s)) true), some (Row.mk (encB (bytesI 2 n ++ packB s)) true), some (Row.mk (encB [0, 0, 0, 0, 0]) true)]) (id := g.length + 4) (jd := g.length + 5) (n := 27) (m := 5) (sz := 1) (cs := encB (bytesI 2 n ++ packB s)) (ys := encB [0, 0, 0, 0, 0]) (rw := true) (by simp) hl27 (by simp) rfl rfl (by omega) (by omega)
    simp only [List.length_append, List.length_cons, List.length_nil, Nat.zero_add, List.append_assoc, List.cons_append, List.nil_append, set_at, List.set_cons_succ, List.set_cons_zero, Nat.reduceAdd, ← encB_append] at hA2
    rw [← List.append_assoc (bytesI 2 n), show bytesI 2 n ++ packB s ++ [0, 0, 0, 0, 0] = entB s n from rfl] at hA2
    rw [R_escheatref18_Bytes_eq]
    refine ⟨.c (.sl (g.length + 6) 0 32 1), g ++ [some (Row.mk [.s s, .i .i64 n] true), some (Row.mk [] true), none, some (Row.mk (encB (packB s)) true), none, some (Row.mk (encB [0, 0, 0, 0, 0]) true), some (Row.mk (encB (entB s n)) true)], ?_, by rw [encB_length, entB_length], g.length + 6, rfl, by omega, ?_⟩
    · generalize entB s n = E at *
      generalize bytesI 2 n ++ packB s = Q at *
      generalize encB [0, 0, 0, 0, 0] = F at *
      generalize encB (packB s) = P at *
      generalize encB (bytesI 2 n) = B2 at *
      simp only [afAddr_p, List.append_nil, if_true, if_false, bnd_some, mp_some, cnd_t, cnd_f, gd_no, gd_tt, gd_tf, gd_ft, gd_ff, alenS_s, alen_sl, alen_ns, abin_add, abin_sub, abin_mul, abin_eql, abin_neq, abin_lss, abin_leq, abin_gtr, abin_geq, abin_seql, abin_sneq, abin_slss, aun_not, aun_neg, agn_some, aeqN_nf, aeqN_f, aeqN_np, aeqN_p, anilc_p, aeqB_t, aeqB_f, aconv_i, apick_b, cond_true, cond_false, decide_true, decide_false, Bool.not_true, Bool.not_false, aext_t, ofPart_c, ofPart_a, part?_c, part?_a, cells?_c, cells?_a, tupN_2, tupN_3, Option.map_some, Option.some.injEq, List.getElem?_cons_zero, List.getElem?_cons_succ, not_true_eq_false, not_false_eq_true, quiet_same, bytesI_length, Option.join_some, List.append_assoc, List.cons_append, List.nil_append, List.length_append, List.length_cons, List.length_nil, Nat.zero_add, Nat.add_zero, rd_at, rd_at0, set_at, set_at0, List.set_cons_zero, List.set_cons_succ, ne_eq, decide_not, quiet_ext, newOk_some, List.cons_prefix_cons, List.nil_prefix, List.drop_succ_cons, List.drop_zero, List.all_cons, List.all_nil, Bool.and_true, true_and, and_true, aloadN_at, aloadN_at0, aload1_at, aload1_at0, astoreN_at, astoreN_at0, astore1_at, astore1_at0, aslA_at, aslA_at0, ldN_all, ld1_row, stN_all, st1_row, slr_all, Nat.reduceAdd, Nat.reduceMul, Nat.reduceLT, hB, quiet2, hP, hpl, hA, ef5, hA2]
    · simp
  obtain ⟨v, g', e, ho⟩ := key (ro h)
  exact S_escheatref18_Bytes_out e (by simpa [ro_length] using ho) (by simp)

end Go.Proofs.Ytbbkpmbepljhkaa
