/- The law that layouts have blocks of their own answers true. -/
import Derived.Test.YtbbkpmbepljhkaaSLaw14
import Derived.Test.YtbbkpmbepljhkaaGEscheatlaw14SuperApart
set_option linter.all false
namespace Go.Proofs.Ytbbkpmbepljhkaa
open Go Go.Esc

theorem field_sup {a w : Nat} {x y z : List UInt8} (hx : x.length = a) (hy : y.length = w) : fieldN (x ++ (y ++ z)) a w = ((le y : Nat) : Int) := by
  unfold fieldN
  rw [List.drop_left' hx, List.take_left' hy]

theorem le_small {w : Nat} {v : Int} (h0 : 0 ≤ v) (h1 : v < 256 ^ w) : ((le (bytesI w v) : Nat) : Int) = v := by
  rw [le_bytesI, Int.emod_eq_of_lt h0 h1]

/-- The layout is in its block. -/
theorem sup_fields {b n m : Int} (hb : mayL b n = true) (hm0 : 0 ≤ m) (hm1 : m < 18446744073709551616) : fieldN (supB b n m) 8 2 = b ∧ fieldN (supB b n m) 10 2 = n ∧ fieldN (supB b n m) 12 8 = m := by
  have c := mayL_true.1 hb
  have lm : magicB.length = 8 := rfl
  have e1 : supB b n m = magicB ++ (bytesI 2 b ++ (bytesI 2 n ++ bytesI 8 m ++ bytesI 4 (mixH (supH b n m) : Nat) ++ zeros (256 - (supH b n m ++ bytesI 4 (mixH (supH b n m) : Nat)).length))) := by
    unfold supB padB; simp only [supH, List.append_assoc]
  have e2 : supB b n m = (magicB ++ bytesI 2 b) ++ (bytesI 2 n ++ (bytesI 8 m ++ bytesI 4 (mixH (supH b n m) : Nat) ++ zeros (256 - (supH b n m ++ bytesI 4 (mixH (supH b n m) : Nat)).length))) := by
    unfold supB padB; simp only [supH, List.append_assoc]
  have e3 : supB b n m = (magicB ++ bytesI 2 b ++ bytesI 2 n) ++ (bytesI 8 m ++ (bytesI 4 (mixH (supH b n m) : Nat) ++ zeros (256 - (supH b n m ++ bytesI 4 (mixH (supH b n m) : Nat)).length))) := by
    unfold supB padB; simp only [supH, List.append_assoc]
  refine ⟨?_, ?_, ?_⟩
  · rw [e1, field_sup lm (by simp), le_small (by omega) (by omega)]
  · rw [e2, field_sup (by simp [lm]) (by simp), le_small (by omega) (by omega)]
  · rw [e3, field_sup (by simp [lm]) (by simp), le_small hm0 (by simpa using hm1)]

theorem superApart_eq {b n m b' n' m' : Int} (h : Heap) (hm0 : 0 ≤ m) (hm1 : m < 18446744073709551616) (hm0' : 0 ≤ m') (hm1' : m' < 18446744073709551616) : S_escheatlaw14_SuperApart [.a (layC b n m), .a (layC b' n' m')] h = some (.c (.b true), h) := by
  have key : ∀ g, ∃ g', R_escheatlaw14_SuperApart 0 [.a (layC b n m), .a (layC b' n' m')] g = some (.c (.b true), g') := by
    intro g
    have hp := fun h => super_Put_eq (b := b) (n := n) (m := m) (h := h) hm0 hm1
    have hp' := fun h => super_Put_eq (b := b') (n := n') (m := m') (h := h) hm0' hm1'
    have hB : (encB (supB b n m)).length = 256 := by rw [encB_length, supB_length]
    have hB' : (encB (supB b' n' m')).length = 256 := by rw [encB_length, supB_length]
    have hZ : (encB (zeros 256)).length = 256 := by rw [encB_length]; exact zeros_length
    have hz : (List.replicate 256 (Cell.i .u8 0)).length = 256 := List.length_replicate
    rw [R_escheatlaw14_SuperApart_eq]
    generalize List.replicate 256 (Cell.i .u8 0) = z at *
    cases c : mayL b n with
    | false =>
      simp only [c, cond_false] at hp
      cases c' : mayL b' n' with
      | false =>
        simp only [c', cond_false] at hp'
        generalize zeros 256 = zz at *
        exact ⟨_, by simp only [afAddr_p, List.append_nil, if_true, if_false, bnd_some, mp_some, cnd_t, cnd_f, gd_no, gd_tt, gd_tf, gd_ft, gd_ff, alenS_s, alen_sl, alen_ns, abin_add, abin_sub, abin_mul, abin_eql, abin_neq, abin_lss, abin_leq, abin_gtr, abin_geq, abin_seql, abin_sneq, abin_slss, aun_not, aun_neg, aeqB_t, aeqB_f, aconv_i, apick_b, cond_true, cond_false, decide_true, decide_false, Bool.not_true, Bool.not_false, aext_t, ofPart_c, ofPart_a, part?_c, part?_a, cells?_c, cells?_a, tupN_2, tupN_3, Option.map_some, Option.some.injEq, List.getElem?_cons_zero, List.getElem?_cons_succ, not_true_eq_false, not_false_eq_true, quiet_same, bytesI_length, Option.join_some, List.append_assoc, List.cons_append, List.nil_append, List.length_append, List.length_cons, List.length_nil, Nat.zero_add, Nat.add_zero, rd_at, rd_at0, set_at, set_at0, List.set_cons_zero, List.set_cons_succ, ne_eq, decide_not, quiet_ext, newOk_some, List.cons_prefix_cons, List.nil_prefix, List.drop_succ_cons, List.drop_zero, List.all_cons, List.all_nil, Bool.and_true, true_and, and_true, aloadN_at, aloadN_at0, aload1_at, aload1_at0, astoreN_at, astoreN_at0, astore1_at, astore1_at0, aslA_at, aslA_at0, ldN_all, ld1_row, stN_all, st1_row, slr_all, Nat.reduceAdd, Nat.reduceMul, Nat.reduceLT, hp, hp', hz, hZ, Int.reduceEq, works14_eq] <;> rfl⟩
      | true =>
        simp only [c', cond_true] at hp'
        generalize zeros 256 = zz at *
        exact ⟨_, by simp only [afAddr_p, List.append_nil, if_true, if_false, bnd_some, mp_some, cnd_t, cnd_f, gd_no, gd_tt, gd_tf, gd_ft, gd_ff, alenS_s, alen_sl, alen_ns, abin_add, abin_sub, abin_mul, abin_eql, abin_neq, abin_lss, abin_leq, abin_gtr, abin_geq, abin_seql, abin_sneq, abin_slss, aun_not, aun_neg, aeqB_t, aeqB_f, aconv_i, apick_b, cond_true, cond_false, decide_true, decide_false, Bool.not_true, Bool.not_false, aext_t, ofPart_c, ofPart_a, part?_c, part?_a, cells?_c, cells?_a, tupN_2, tupN_3, Option.map_some, Option.some.injEq, List.getElem?_cons_zero, List.getElem?_cons_succ, not_true_eq_false, not_false_eq_true, quiet_same, bytesI_length, Option.join_some, List.append_assoc, List.cons_append, List.nil_append, List.length_append, List.length_cons, List.length_nil, Nat.zero_add, Nat.add_zero, rd_at, rd_at0, set_at, set_at0, List.set_cons_zero, List.set_cons_succ, ne_eq, decide_not, quiet_ext, newOk_some, List.cons_prefix_cons, List.nil_prefix, List.drop_succ_cons, List.drop_zero, List.all_cons, List.all_nil, Bool.and_true, true_and, and_true, aloadN_at, aloadN_at0, aload1_at, aload1_at0, astoreN_at, astoreN_at0, astore1_at, astore1_at0, aslA_at, aslA_at0, ldN_all, ld1_row, stN_all, st1_row, slr_all, Nat.reduceAdd, Nat.reduceMul, Nat.reduceLT, hp, hp', hz, hZ, hB', Int.reduceEq, works14_eq] <;> rfl⟩
    | true =>
      simp only [c, cond_true] at hp
      cases c' : mayL b' n' with
      | false =>
        simp only [c', cond_false] at hp'
        generalize zeros 256 = zz at *
        exact ⟨_, by simp only [afAddr_p, List.append_nil, if_true, if_false, bnd_some, mp_some, cnd_t, cnd_f, gd_no, gd_tt, gd_tf, gd_ft, gd_ff, alenS_s, alen_sl, alen_ns, abin_add, abin_sub, abin_mul, abin_eql, abin_neq, abin_lss, abin_leq, abin_gtr, abin_geq, abin_seql, abin_sneq, abin_slss, aun_not, aun_neg, aeqB_t, aeqB_f, aconv_i, apick_b, cond_true, cond_false, decide_true, decide_false, Bool.not_true, Bool.not_false, aext_t, ofPart_c, ofPart_a, part?_c, part?_a, cells?_c, cells?_a, tupN_2, tupN_3, Option.map_some, Option.some.injEq, List.getElem?_cons_zero, List.getElem?_cons_succ, not_true_eq_false, not_false_eq_true, quiet_same, bytesI_length, Option.join_some, List.append_assoc, List.cons_append, List.nil_append, List.length_append, List.length_cons, List.length_nil, Nat.zero_add, Nat.add_zero, rd_at, rd_at0, set_at, set_at0, List.set_cons_zero, List.set_cons_succ, ne_eq, decide_not, quiet_ext, newOk_some, List.cons_prefix_cons, List.nil_prefix, List.drop_succ_cons, List.drop_zero, List.all_cons, List.all_nil, Bool.and_true, true_and, and_true, aloadN_at, aloadN_at0, aload1_at, aload1_at0, astoreN_at, astoreN_at0, astore1_at, astore1_at0, aslA_at, aslA_at0, ldN_all, ld1_row, stN_all, st1_row, slr_all, Nat.reduceAdd, Nat.reduceMul, Nat.reduceLT, hp, hp', hz, hZ, hB, Int.reduceEq, works14_eq] <;> rfl⟩
      | true =>
        simp only [c', cond_true] at hp'
        have hq := aeq_f (l := supB b n m) (m := supB b' n' m') (n := 256) supB_length supB_length
        have e : decide (supB b n m = supB b' n' m') = decide (b = b' ∧ n = n' ∧ m = m') := by
          obtain ⟨f1, f2, f3⟩ := sup_fields c hm0 hm1
          obtain ⟨f1', f2', f3'⟩ := sup_fields c' hm0' hm1'
          by_cases e : supB b n m = supB b' n' m'
          · rw [e] at f1 f2 f3
            rw [decide_eq_true e, decide_eq_true ⟨f1.symm.trans f1', f2.symm.trans f2', f3.symm.trans f3'⟩]
          · rw [decide_eq_false e, decide_eq_false]
            rintro ⟨rfl, rfl, rfl⟩
            exact e rfl
        rw [e] at hq
        exact ⟨_, by simp only [afAddr_p, List.append_nil, if_true, if_false, bnd_some, mp_some, cnd_t, cnd_f, gd_no, gd_tt, gd_tf, gd_ft, gd_ff, alenS_s, alen_sl, alen_ns, abin_add, abin_sub, abin_mul, abin_eql, abin_neq, abin_lss, abin_leq, abin_gtr, abin_geq, abin_seql, abin_sneq, abin_slss, aun_not, aun_neg, aeqB_t, aeqB_f, aconv_i, apick_b, cond_true, cond_false, decide_true, decide_false, Bool.not_true, Bool.not_false, aext_t, ofPart_c, ofPart_a, part?_c, part?_a, cells?_c, cells?_a, tupN_2, tupN_3, Option.map_some, Option.some.injEq, List.getElem?_cons_zero, List.getElem?_cons_succ, not_true_eq_false, not_false_eq_true, quiet_same, bytesI_length, Option.join_some, List.append_assoc, List.cons_append, List.nil_append, List.length_append, List.length_cons, List.length_nil, Nat.zero_add, Nat.add_zero, rd_at, rd_at0, set_at, set_at0, List.set_cons_zero, List.set_cons_succ, ne_eq, decide_not, quiet_ext, newOk_some, List.cons_prefix_cons, List.nil_prefix, List.drop_succ_cons, List.drop_zero, List.all_cons, List.all_nil, Bool.and_true, true_and, and_true, aloadN_at, aloadN_at0, aload1_at, aload1_at0, astoreN_at, astoreN_at0, astore1_at, astore1_at0, aslA_at, aslA_at0, ldN_all, ld1_row, stN_all, st1_row, slr_all, Nat.reduceAdd, Nat.reduceMul, Nat.reduceLT, hp, hp', hz, hB, hB', hq, super_Same_eq, beq_self_eq_true, works14_eq] <;> rfl⟩
  obtain ⟨g', e⟩ := key (ro h)
  exact S_escheatlaw14_SuperApart_flat e rfl

end Go.Proofs.Ytbbkpmbepljhkaa
