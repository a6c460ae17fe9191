/- What the laws of the chapter of names have in common. -/
import Derived.Test.YtbbkpmbepljhkaaSName
import Derived.Test.YtbbkpmbepljhkaaGEscheatlaw03
set_option linter.all false
namespace Go.Proofs.Ytbbkpmbepljhkaa
open Go Go.Esc

theorem works03_eq (h : Heap) : S_escheatlaw03_works [] h = some (.c (.b true), h) := by
  have key : ∀ g, ∃ g', R_escheatlaw03_works 0 [] g = some (.c (.b true), g') := by
    intro g
    have hp := pack_eq (s := [97, 98]) (by decide) g
    have hc := check_eq (s := [46, 46]) (by decide)
    have f1 : fineName [97, 98] = true := by decide
    have f2 : fineName [46, 46] = false := by decide
    have f3 : packB [97, 98] = 2 :: 97 :: 98 :: zeros 22 := by decide
    rw [f1, f3] at hp
    rw [f2] at hc
    have hl : (encB (2 :: 97 :: 98 :: zeros 22)).length = 25 := by rw [encB_length]; simp
    have hz : (List.replicate 25 (Cell.i .u8 0)).length = 25 := List.length_replicate
    have l0 : (encB (2 :: 97 :: 98 :: zeros 22))[0]? = some (.i .u8 2) := rfl
    have l2 : (encB (2 :: 97 :: 98 :: zeros 22))[2]? = some (.i .u8 98) := rfl
    have a0 : aiAddrA 25 1 (.c (.p g.length 0)) (.c (.i .i64 0)) = some (.c (.p g.length 0)) := rfl
    have a2 : aiAddrA 25 1 (.c (.p g.length 0)) (.c (.i .i64 2)) = some (.c (.p g.length 2)) := rfl
    rw [R_escheatlaw03_works_eq]
    generalize List.replicate 25 (Cell.i .u8 0) = z at *
    generalize encB (2 :: 97 :: 98 :: zeros 22) = y at *
    exact ⟨_, by simp only [afAddr_p, List.append_nil, if_true, if_false, bnd_some, mp_some, cnd_t, cnd_f, gd_no, gd_tt, gd_tf, gd_ft, gd_ff, alenS_s, alen_sl, alen_ns, abin_add, abin_sub, abin_mul, abin_eql, abin_neq, abin_lss, abin_leq, abin_gtr, abin_geq, abin_seql, abin_sneq, abin_slss, aun_not, aun_neg, aeqB_t, aeqB_f, aconv_i, apick_b, cond_true, cond_false, decide_true, decide_false, Bool.not_true, Bool.not_false, aext_t, ofPart_c, ofPart_a, part?_c, part?_a, cells?_c, cells?_a, tupN_2, tupN_3, Option.map_some, Option.some.injEq, List.getElem?_cons_zero, List.getElem?_cons_succ, not_true_eq_false, not_false_eq_true, quiet_same, bytesI_length, Option.join_some, List.append_assoc, List.cons_append, List.nil_append, List.length_append, List.length_cons, List.length_nil, Nat.zero_add, Nat.add_zero, rd_at, rd_at0, set_at, set_at0, List.set_cons_zero, List.set_cons_succ, ne_eq, decide_not, quiet_ext, newOk_some, List.cons_prefix_cons, List.nil_prefix, List.drop_succ_cons, List.drop_zero, List.all_cons, List.all_nil, Bool.and_true, true_and, and_true, aloadN_at, aloadN_at0, aload1_at, aload1_at0, astoreN_at, astoreN_at0, astore1_at, astore1_at0, aslA_at, aslA_at0, ldN_all, ld1_row, stN_all, st1_row, slr_all, Nat.reduceAdd, Nat.reduceMul, Nat.reduceLT, hp, hl, hz, a0, a2, l0, l2, hc] <;> rfl⟩
  obtain ⟨g', e⟩ := key (ro h)
  exact S_escheatlaw03_works_flat e rfl

theorem is03_eq {e : Int} {x : Bool} (h : Heap) : S_escheatlaw03_is [.c (.i .i64 e), .c (.b x)] h = some (.c (.b (bif x then decide (e = 0) else decide (e = 3))), h) := by
  refine S_escheatlaw03_is_flat (n := 1) (h2 := ro h) ?_ rfl
  rw [R_escheatlaw03_is_eq]
  cases x
  · by_cases c : e = 3 <;> simp [c]
  · by_cases c : e = 0 <;> simp [c]

end Go.Proofs.Ytbbkpmbepljhkaa
