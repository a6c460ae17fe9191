/- The law of a bucket that is fixed answers true. -/
import Derived.Test.YtbbkpmbepljhkaaSLaw18
import Derived.Test.YtbbkpmbepljhkaaSBucketKept
import Derived.Test.YtbbkpmbepljhkaaGEscheatlaw18BucketFixes
set_option linter.all false
namespace Go.Proofs.Ytbbkpmbepljhkaa
open Go Go.Esc

theorem bucketFixes_eq {b nm : List UInt8} (h : Heap) (hb : b.length = 256) : S_escheatlaw18_BucketFixes [.a (encB b), .c (.s nm)] h = some (.c (.b true), h) := by
  have key : ∀ g, ∃ g', R_escheatlaw18_BucketFixes 0 [.a (encB b), .c (.s nm)] g = some (.c (.b true), g') := by
    intro g
    have hbl : (encB b).length = 256 := by rw [encB_length, hb]
    have hxl : (encB (fixX b)).length = 256 := by rw [encB_length]; exact fixX_length
    have hz : (List.replicate 256 (Cell.i .u8 0)).length = 256 := List.length_replicate
    rw [R_escheatlaw18_BucketFixes_eq]
    by_cases c60 : (60 : Int) < nm.length
    · generalize List.replicate 256 (Cell.i .u8 0) = z at *
      exact ⟨_, by simp only [afAddr_p, List.append_nil, if_true, if_false, bnd_some, mp_some, cnd_t, cnd_f, gd_no, gd_tt, gd_tf, gd_ft, gd_ff, alenS_s, alen_sl, alen_ns, abin_add, abin_sub, abin_mul, abin_eql, abin_neq, abin_lss, abin_leq, abin_gtr, abin_geq, abin_seql, abin_sneq, abin_slss, aun_not, aun_neg, agn_some, aeqN_nf, aeqN_f, aeqN_np, aeqN_p, anilc_p, aeqB_t, aeqB_f, aconv_i, apick_b, cond_true, cond_false, decide_true, decide_false, Bool.not_true, Bool.not_false, aext_t, ofPart_c, ofPart_a, part?_c, part?_a, cells?_c, cells?_a, tupN_2, tupN_3, Option.map_some, Option.some.injEq, List.getElem?_cons_zero, List.getElem?_cons_succ, not_true_eq_false, not_false_eq_true, quiet_same, bytesI_length, Option.join_some, List.append_assoc, List.cons_append, List.nil_append, List.length_append, List.length_cons, List.length_nil, Nat.zero_add, Nat.add_zero, rd_at, rd_at0, set_at, set_at0, List.set_cons_zero, List.set_cons_succ, ne_eq, decide_not, quiet_ext, newOk_some, List.cons_prefix_cons, List.nil_prefix, List.drop_succ_cons, List.drop_zero, List.all_cons, List.all_nil, Bool.and_true, true_and, and_true, aloadN_at, aloadN_at0, aload1_at, aload1_at0, astoreN_at, astoreN_at0, astore1_at, astore1_at0, aslA_at, aslA_at0, ldN_all, ld1_row, stN_all, st1_row, slr_all, Nat.reduceAdd, Nat.reduceMul, Nat.reduceLT, c60, works18_eq] <;> rfl⟩
    have hF := fun h => bucket_Fix_eq (h := h) hb
    have hF2 := fun h => bucket_Fix_eq (b := fixX b) (h := h) fixX_length
    rw [fix_fix] at hF2
    have hR := fun h => bucket_Right_eq (b := fixX b) (h := h) fixX_length
    rw [right_fix] at hR
    have hN := fun h => bucket_Find_eq (b := b) (nm := nm) (h := h) hb
    have hN2 := fun h => bucket_Find_eq (b := fixX b) (nm := nm) (h := h) fixX_length
    rw [find_fix] at hN2
    have hSl := slC_length (o := findX b nm)
    have hq := aeq_slC (o := findX b nm) (p := findX b nm)
    rw [decide_eq_true rfl] at hq
    have hE : aeq false (List.replicate 256 (.i .u8)) (.a (encB (fixX b))) (.a (encB (fixX b))) = some (.c (.b true)) := by
      have hxl := fixX_length (b := b)
      simp only [aeq]
      rw [if_pos ⟨by rw [encB_sh, hxl], by rw [encB_sh, hxl]⟩]
      simp
    have hle : ((listX (fixX b)).length : Int) ≤ ((listX b).length : Int) := by have := list_fix (b := b); omega
    obtain ⟨v1, t1, hL1, hv1, ht1⟩ := bucket_List_eq (b := fixX b) (h := g ++ [some (Row.mk (encB b) true), some (Row.mk (encB b) true), some (Row.mk (encB (fixX b)) true), some (Row.mk (slC (findX b nm)) true), some (Row.mk (slC (findX b nm)) true)]) fixX_length
    have l1 := hv1.len
    rcases ht1 with rfl | rfl
    · obtain ⟨v2, t2, hL2, hv2, ht2⟩ := bucket_List_eq (b := b) (h := g ++ [some (Row.mk (encB b) true), some (Row.mk (encB b) true), some (Row.mk (encB (fixX b)) true), some (Row.mk (slC (findX b nm)) true), some (Row.mk (slC (findX b nm)) true)]) hb
      have l2 := hv2.len
      generalize (listX (fixX b)).length = n1 at *
      generalize (listX b).length = n2 at *
      rcases ht2 with rfl | rfl
      · simp only [List.append_nil] at hL1 hL2
        generalize slC (findX b nm) = S at *
        generalize (findX b nm).isSome = D at *
        generalize encB (fixX b) = x at *
        generalize encB b = y at *
        generalize List.replicate 256 (Cell.i .u8 0) = z at *
        cases D <;> exact ⟨_, by simp only [afAddr_p, List.append_nil, if_true, if_false, bnd_some, mp_some, cnd_t, cnd_f, gd_no, gd_tt, gd_tf, gd_ft, gd_ff, alenS_s, alen_sl, alen_ns, abin_add, abin_sub, abin_mul, abin_eql, abin_neq, abin_lss, abin_leq, abin_gtr, abin_geq, abin_seql, abin_sneq, abin_slss, aun_not, aun_neg, agn_some, aeqN_nf, aeqN_f, aeqN_np, aeqN_p, anilc_p, aeqB_t, aeqB_f, aconv_i, apick_b, cond_true, cond_false, decide_true, decide_false, Bool.not_true, Bool.not_false, aext_t, ofPart_c, ofPart_a, part?_c, part?_a, cells?_c, cells?_a, tupN_2, tupN_3, Option.map_some, Option.some.injEq, List.getElem?_cons_zero, List.getElem?_cons_succ, not_true_eq_false, not_false_eq_true, quiet_same, bytesI_length, Option.join_some, List.append_assoc, List.cons_append, List.nil_append, List.length_append, List.length_cons, List.length_nil, Nat.zero_add, Nat.add_zero, rd_at, rd_at0, set_at, set_at0, List.set_cons_zero, List.set_cons_succ, ne_eq, decide_not, quiet_ext, newOk_some, List.cons_prefix_cons, List.nil_prefix, List.drop_succ_cons, List.drop_zero, List.all_cons, List.all_nil, Bool.and_true, true_and, and_true, aloadN_at, aloadN_at0, aload1_at, aload1_at0, astoreN_at, astoreN_at0, astore1_at, astore1_at0, aslA_at, aslA_at0, ldN_all, ld1_row, stN_all, st1_row, slr_all, Nat.reduceAdd, Nat.reduceMul, Nat.reduceLT, c60, hbl, hz, hF, hxl, hN, hSl, hN2, hR, hF2, hE, hq, hL1, hL2, l1, l2, hle, works18_eq, beq_self_eq_true] <;> rfl⟩
      · simp only [List.append_nil, List.append_assoc, List.cons_append, List.nil_append] at hL1 hL2
        generalize slCs (listX b) = W at *
        generalize slC (findX b nm) = S at *
        generalize (findX b nm).isSome = D at *
        generalize encB (fixX b) = x at *
        generalize encB b = y at *
        generalize List.replicate 256 (Cell.i .u8 0) = z at *
        cases D <;> exact ⟨_, by simp only [afAddr_p, List.append_nil, if_true, if_false, bnd_some, mp_some, cnd_t, cnd_f, gd_no, gd_tt, gd_tf, gd_ft, gd_ff, alenS_s, alen_sl, alen_ns, abin_add, abin_sub, abin_mul, abin_eql, abin_neq, abin_lss, abin_leq, abin_gtr, abin_geq, abin_seql, abin_sneq, abin_slss, aun_not, aun_neg, agn_some, aeqN_nf, aeqN_f, aeqN_np, aeqN_p, anilc_p, aeqB_t, aeqB_f, aconv_i, apick_b, cond_true, cond_false, decide_true, decide_false, Bool.not_true, Bool.not_false, aext_t, ofPart_c, ofPart_a, part?_c, part?_a, cells?_c, cells?_a, tupN_2, tupN_3, Option.map_some, Option.some.injEq, List.getElem?_cons_zero, List.getElem?_cons_succ, not_true_eq_false, not_false_eq_true, quiet_same, bytesI_length, Option.join_some, List.append_assoc, List.cons_append, List.nil_append, List.length_append, List.length_cons, List.length_nil, Nat.zero_add, Nat.add_zero, rd_at, rd_at0, set_at, set_at0, List.set_cons_zero, List.set_cons_succ, ne_eq, decide_not, quiet_ext, newOk_some, List.cons_prefix_cons, List.nil_prefix, List.drop_succ_cons, List.drop_zero, List.all_cons, List.all_nil, Bool.and_true, true_and, and_true, aloadN_at, aloadN_at0, aload1_at, aload1_at0, astoreN_at, astoreN_at0, astore1_at, astore1_at0, aslA_at, aslA_at0, ldN_all, ld1_row, stN_all, st1_row, slr_all, Nat.reduceAdd, Nat.reduceMul, Nat.reduceLT, c60, hbl, hz, hF, hxl, hN, hSl, hN2, hR, hF2, hE, hq, hL1, hL2, quiet5, l1, l2, hle, works18_eq, beq_self_eq_true] <;> rfl⟩
    · obtain ⟨v2, t2, hL2, hv2, ht2⟩ := bucket_List_eq (b := b) (h := g ++ [some (Row.mk (encB b) true), some (Row.mk (encB b) true), some (Row.mk (encB (fixX b)) true), some (Row.mk (slC (findX b nm)) true), some (Row.mk (slC (findX b nm)) true), some (Row.mk (slCs (listX (fixX b))) true)]) hb
      have l2 := hv2.len
      generalize (listX (fixX b)).length = n1 at *
      generalize (listX b).length = n2 at *
      generalize slCs (listX (fixX b)) = W1 at *
      rcases ht2 with rfl | rfl
      · simp only [List.append_nil, List.append_assoc, List.cons_append, List.nil_append] at hL1 hL2
        generalize slC (findX b nm) = S at *
        generalize (findX b nm).isSome = D at *
        generalize encB (fixX b) = x at *
        generalize encB b = y at *
        generalize List.replicate 256 (Cell.i .u8 0) = z at *
        cases D <;> exact ⟨_, by simp only [afAddr_p, List.append_nil, if_true, if_false, bnd_some, mp_some, cnd_t, cnd_f, gd_no, gd_tt, gd_tf, gd_ft, gd_ff, alenS_s, alen_sl, alen_ns, abin_add, abin_sub, abin_mul, abin_eql, abin_neq, abin_lss, abin_leq, abin_gtr, abin_geq, abin_seql, abin_sneq, abin_slss, aun_not, aun_neg, agn_some, aeqN_nf, aeqN_f, aeqN_np, aeqN_p, anilc_p, aeqB_t, aeqB_f, aconv_i, apick_b, cond_true, cond_false, decide_true, decide_false, Bool.not_true, Bool.not_false, aext_t, ofPart_c, ofPart_a, part?_c, part?_a, cells?_c, cells?_a, tupN_2, tupN_3, Option.map_some, Option.some.injEq, List.getElem?_cons_zero, List.getElem?_cons_succ, not_true_eq_false, not_false_eq_true, quiet_same, bytesI_length, Option.join_some, List.append_assoc, List.cons_append, List.nil_append, List.length_append, List.length_cons, List.length_nil, Nat.zero_add, Nat.add_zero, rd_at, rd_at0, set_at, set_at0, List.set_cons_zero, List.set_cons_succ, ne_eq, decide_not, quiet_ext, newOk_some, List.cons_prefix_cons, List.nil_prefix, List.drop_succ_cons, List.drop_zero, List.all_cons, List.all_nil, Bool.and_true, true_and, and_true, aloadN_at, aloadN_at0, aload1_at, aload1_at0, astoreN_at, astoreN_at0, astore1_at, astore1_at0, aslA_at, aslA_at0, ldN_all, ld1_row, stN_all, st1_row, slr_all, Nat.reduceAdd, Nat.reduceMul, Nat.reduceLT, c60, hbl, hz, hF, hxl, hN, hSl, hN2, hR, hF2, hE, hq, hL1, hL2, quiet5, l1, l2, hle, works18_eq, beq_self_eq_true] <;> rfl⟩
      · simp only [List.append_assoc, List.cons_append, List.nil_append] at hL1 hL2
        generalize slCs (listX b) = W at *
        generalize slC (findX b nm) = S at *
        generalize (findX b nm).isSome = D at *
        generalize encB (fixX b) = x at *
        generalize encB b = y at *
        generalize List.replicate 256 (Cell.i .u8 0) = z at *
        cases D <;> exact ⟨_, by simp only [afAddr_p, List.append_nil, if_true, if_false, bnd_some, mp_some, cnd_t, cnd_f, gd_no, gd_tt, gd_tf, gd_ft, gd_ff, alenS_s, alen_sl, alen_ns, abin_add, abin_sub, abin_mul, abin_eql, abin_neq, abin_lss, abin_leq, abin_gtr, abin_geq, abin_seql, abin_sneq, abin_slss, aun_not, aun_neg, agn_some, aeqN_nf, aeqN_f, aeqN_np, aeqN_p, anilc_p, aeqB_t, aeqB_f, aconv_i, apick_b, cond_true, cond_false, decide_true, decide_false, Bool.not_true, Bool.not_false, aext_t, ofPart_c, ofPart_a, part?_c, part?_a, cells?_c, cells?_a, tupN_2, tupN_3, Option.map_some, Option.some.injEq, List.getElem?_cons_zero, List.getElem?_cons_succ, not_true_eq_false, not_false_eq_true, quiet_same, bytesI_length, Option.join_some, List.append_assoc, List.cons_append, List.nil_append, List.length_append, List.length_cons, List.length_nil, Nat.zero_add, Nat.add_zero, rd_at, rd_at0, set_at, set_at0, List.set_cons_zero, List.set_cons_succ, ne_eq, decide_not, quiet_ext, newOk_some, List.cons_prefix_cons, List.nil_prefix, List.drop_succ_cons, List.drop_zero, List.all_cons, List.all_nil, Bool.and_true, true_and, and_true, aloadN_at, aloadN_at0, aload1_at, aload1_at0, astoreN_at, astoreN_at0, astore1_at, astore1_at0, aslA_at, aslA_at0, ldN_all, ld1_row, stN_all, st1_row, slr_all, Nat.reduceAdd, Nat.reduceMul, Nat.reduceLT, c60, hbl, hz, hF, hxl, hN, hSl, hN2, hR, hF2, hE, hq, hL1, hL2, quiet5, quiet6, l1, l2, hle, works18_eq, beq_self_eq_true] <;> rfl⟩
  obtain ⟨g', e⟩ := key (ro h)
  exact S_escheatlaw18_BucketFixes_flat e rfl

end Go.Proofs.Ytbbkpmbepljhkaa
