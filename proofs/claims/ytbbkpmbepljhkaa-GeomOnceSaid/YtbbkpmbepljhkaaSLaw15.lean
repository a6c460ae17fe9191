/- What the laws of the chapter of layouts have in common. -/
import Derived.Test.YtbbkpmbepljhkaaSGeom
import Derived.Test.YtbbkpmbepljhkaaGEscheatlaw15
set_option linter.all false
namespace Go.Proofs.Ytbbkpmbepljhkaa
open Go Go.Esc

theorem works15_eq (h : Heap) : S_escheatlaw15_works [] h = some (.c (.b true), h) := by
  have key : ∀ g, ∃ g', R_escheatlaw15_works 0 [] g = some (.c (.b true), g') := by
    intro g
    have e1 : afill [Cell.i .i64 0, .i .i64 0, .i .u64 0] [(0, 1, .c (.i .i64 16)), (1, 1, .c (.i .i64 16))] = some (layC 16 16 0) := rfl
    have t1 : tabF 16 16 = 2 := by decide
    have t2 : tabN 16 16 = 2 := by decide
    have t3 : whereB 16 16 9 = 3 := by decide
    have t4 : whereK 16 16 9 = 0 := by decide
    have t5 : isInoL 16 16 9 = true := by decide
    have t6 : datF 16 16 = 4 := by decide
    rw [R_escheatlaw15_works_eq]
    exact ⟨_, by simp only [afAddr_p, List.append_nil, if_true, if_false, bnd_some, mp_some, cnd_t, cnd_f, gd_no, gd_tt, gd_tf, gd_ft, gd_ff, alenS_s, alen_sl, alen_ns, abin_add, abin_sub, abin_mul, abin_eql, abin_neq, abin_lss, abin_leq, abin_gtr, abin_geq, abin_seql, abin_sneq, abin_slss, aun_not, aun_neg, aeqB_t, aeqB_f, aconv_i, apick_b, cond_true, cond_false, decide_true, decide_false, Bool.not_true, Bool.not_false, aext_t, ofPart_c, ofPart_a, part?_c, part?_a, cells?_c, cells?_a, tupN_2, tupN_3, Option.map_some, Option.some.injEq, List.getElem?_cons_zero, List.getElem?_cons_succ, not_true_eq_false, not_false_eq_true, quiet_same, bytesI_length, Option.join_some, List.append_assoc, List.cons_append, List.nil_append, List.length_append, List.length_cons, List.length_nil, Nat.zero_add, Nat.add_zero, rd_at, rd_at0, set_at, set_at0, List.set_cons_zero, List.set_cons_succ, ne_eq, decide_not, quiet_ext, newOk_some, List.cons_prefix_cons, List.nil_prefix, List.drop_succ_cons, List.drop_zero, List.all_cons, List.all_nil, Bool.and_true, true_and, and_true, aloadN_at, aloadN_at0, aload1_at, aload1_at0, astoreN_at, astoreN_at0, astore1_at, astore1_at0, aslA_at, aslA_at0, ldN_all, ld1_row, stN_all, st1_row, slr_all, Nat.reduceAdd, Nat.reduceMul, Nat.reduceLT, e1, geom_Table_eq, geom_Where_eq, geom_Data_eq, geom_Map_eq, t1, t2, t3, t4, t5, t6] <;> rfl⟩
  obtain ⟨g', e⟩ := key (ro h)
  exact S_escheatlaw15_works_flat e rfl

end Go.Proofs.Ytbbkpmbepljhkaa
