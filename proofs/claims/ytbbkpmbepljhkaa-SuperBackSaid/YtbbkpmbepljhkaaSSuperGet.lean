/- A first block is read. -/
import Derived.Test.YtbbkpmbepljhkaaSSuper
set_option linter.all false
namespace Go.Proofs.Ytbbkpmbepljhkaa
open Go Go.Esc

theorem super_Get_eq {b : List UInt8} {h : Heap} (hb : b.length = 256) : S_super_Get [.a (encB b)] h = some (.t [.a (layS b), .c (.i .i64 (bif okS b then 0 else 13))], h) := by
  have key : ∀ g, ∃ g', R_super_Get 0 [.a (encB b)] g = some (.t [.a (layS b), .c (.i .i64 (bif okS b then 0 else 13))], g') := by
    intro g
    have hl : (encB b).length = 256 := by rw [encB_length, hb]
    have hc := num_Cut_eq (h := g ++ [some ⟨encB b, true⟩, some ⟨layC 0 0 0, true⟩]) hb (a := 12) (n := 8)
    have hcl : (cutB b 12 8).length = 8 := by unfold cutB; rw [if_pos (by omega)]; simp; omega
    rw [hcl] at hc
    have hg := num_Get_eq (h := g ++ [some ⟨encB b, true⟩, some ⟨layC 0 0 0, true⟩, some ⟨encB (cutB b 12 8), true⟩]) (v := .c (.sl (g.length + 2) 0 8 1)) (nv := 8) (l := cutB b 12 8) (Has.tr (by simp) (by rw [encB_length, hcl]) (noX_encB _)) (a := 0) (w := 8) (by rw [hcl]; omega)
    rw [getN_cut hb] at hg
    simp only [Option.getD_some, Option.isSome_some] at hg
    have a1 := fun h => num_At_eq (h := h) hb (a := 8) (w := 2)
    have a2 := fun h => num_At_eq (h := h) hb (a := 10) (w := 2)
    have f1 := at_field (a := 8) (w := 2) hb (by omega) (by omega) (by omega)
    have f2 := at_field (a := 10) (w := 2) hb (by omega) (by omega) (by omega)
    simp only [Int.cast_ofNat_Int] at f1 f2
    simp only [f1] at a1
    simp only [f2] at a2
    have e12 : ((le ((b.drop 12).take 8) : Nat) : Int) = fieldN b 12 8 := rfl
    rw [e12] at hg
    have ef : ∀ x y z : Int, afill (layC 0 0 0) [(0, 1, .c (.i .i64 x)), (1, 1, .c (.i .i64 y)), (2, 1, .c (.i .u64 z))] = some (layC x y z) := fun _ _ _ => rfl
    have ef0 : afill (layC 0 0 0) [] = some (layC 0 0 0) := rfl
    have hp := fun h => super_Put_eq (b := fieldN b 8 2) (n := fieldN b 10 2) (m := fieldN b 12 8) (h := h) (field8_range b).1 (field8_range b).2
    have hz : (List.replicate 256 (Cell.i .u8 0)).length = 256 := List.length_replicate
    have hS : (encB (supB (fieldN b 8 2) (fieldN b 10 2) (fieldN b 12 8))).length = 256 := by rw [encB_length, supB_length]
    have hZ : (encB (zeros 256)).length = 256 := by rw [encB_length]; exact zeros_length
    have hq := aeq_t (l := supB (fieldN b 8 2) (fieldN b 10 2) (fieldN b 12 8)) (m := b) (n := 256) supB_length hb
    simp only [afAddr_p, List.append_nil, if_true, if_false, bnd_some, mp_some, cnd_t, cnd_f, gd_no, gd_tt, gd_tf, gd_ft, gd_ff, alenS_s, alen_sl, alen_ns, abin_add, abin_sub, abin_mul, abin_eql, abin_neq, abin_lss, abin_leq, abin_gtr, abin_geq, abin_seql, abin_sneq, abin_slss, aun_not, aun_neg, aeqB_t, aeqB_f, aconv_i, apick_b, cond_true, cond_false, decide_true, decide_false, Bool.not_true, Bool.not_false, aext_t, ofPart_c, ofPart_a, part?_c, part?_a, cells?_c, cells?_a, tupN_2, tupN_3, Option.map_some, Option.some.injEq, List.getElem?_cons_zero, List.getElem?_cons_succ, not_true_eq_false, not_false_eq_true, quiet_same, bytesI_length, Option.join_some, List.append_assoc, List.cons_append, List.nil_append, List.length_append, List.length_cons, List.length_nil, Nat.zero_add, Nat.add_zero, rd_at, rd_at0, set_at, set_at0, List.set_cons_zero, List.set_cons_succ, ne_eq, decide_not, quiet_ext, newOk_some, List.cons_prefix_cons, List.nil_prefix, List.drop_succ_cons, List.drop_zero, List.all_cons, List.all_nil, Bool.and_true, true_and, and_true] at hc
    rw [R_super_Get_eq]
    unfold layS okS
    generalize List.replicate 256 (Cell.i .u8 0) = z at *
    cases c : mayL (fieldN b 8 2) (fieldN b 10 2) with
    | false =>
      simp only [c, cond_false] at hp
      generalize zeros 256 = zz at *
      exact ⟨_, by simp only [afAddr_p, List.append_nil, if_true, if_false, bnd_some, mp_some, cnd_t, cnd_f, gd_no, gd_tt, gd_tf, gd_ft, gd_ff, alenS_s, alen_sl, alen_ns, abin_add, abin_sub, abin_mul, abin_eql, abin_neq, abin_lss, abin_leq, abin_gtr, abin_geq, abin_seql, abin_sneq, abin_slss, aun_not, aun_neg, aeqB_t, aeqB_f, aconv_i, apick_b, cond_true, cond_false, decide_true, decide_false, Bool.not_true, Bool.not_false, aext_t, ofPart_c, ofPart_a, part?_c, part?_a, cells?_c, cells?_a, tupN_2, tupN_3, Option.map_some, Option.some.injEq, List.getElem?_cons_zero, List.getElem?_cons_succ, not_true_eq_false, not_false_eq_true, quiet_same, bytesI_length, Option.join_some, List.append_assoc, List.cons_append, List.nil_append, List.length_append, List.length_cons, List.length_nil, Nat.zero_add, Nat.add_zero, rd_at, rd_at0, set_at, set_at0, List.set_cons_zero, List.set_cons_succ, ne_eq, decide_not, quiet_ext, newOk_some, List.cons_prefix_cons, List.nil_prefix, List.drop_succ_cons, List.drop_zero, List.all_cons, List.all_nil, Bool.and_true, true_and, and_true, aloadN_at, aloadN_at0, aload1_at, aload1_at0, astoreN_at, astoreN_at0, astore1_at, astore1_at0, aslA_at, aslA_at0, ldN_all, ld1_row, stN_all, st1_row, slr_all, Nat.reduceAdd, Nat.reduceMul, Nat.reduceLT, hl, hc, hg, a1, a2, ef, ef0, hp, hz, hZ, Bool.false_and, Int.reduceEq] <;> rfl⟩
    | true =>
      simp only [c, cond_true] at hp
      cases c2 : decide (supB (fieldN b 8 2) (fieldN b 10 2) (fieldN b 12 8) = b) with
      | false =>
        rw [c2] at hq
        exact ⟨_, by simp only [afAddr_p, List.append_nil, if_true, if_false, bnd_some, mp_some, cnd_t, cnd_f, gd_no, gd_tt, gd_tf, gd_ft, gd_ff, alenS_s, alen_sl, alen_ns, abin_add, abin_sub, abin_mul, abin_eql, abin_neq, abin_lss, abin_leq, abin_gtr, abin_geq, abin_seql, abin_sneq, abin_slss, aun_not, aun_neg, aeqB_t, aeqB_f, aconv_i, apick_b, cond_true, cond_false, decide_true, decide_false, Bool.not_true, Bool.not_false, aext_t, ofPart_c, ofPart_a, part?_c, part?_a, cells?_c, cells?_a, tupN_2, tupN_3, Option.map_some, Option.some.injEq, List.getElem?_cons_zero, List.getElem?_cons_succ, not_true_eq_false, not_false_eq_true, quiet_same, bytesI_length, Option.join_some, List.append_assoc, List.cons_append, List.nil_append, List.length_append, List.length_cons, List.length_nil, Nat.zero_add, Nat.add_zero, rd_at, rd_at0, set_at, set_at0, List.set_cons_zero, List.set_cons_succ, ne_eq, decide_not, quiet_ext, newOk_some, List.cons_prefix_cons, List.nil_prefix, List.drop_succ_cons, List.drop_zero, List.all_cons, List.all_nil, Bool.and_true, true_and, and_true, aloadN_at, aloadN_at0, aload1_at, aload1_at0, astoreN_at, astoreN_at0, astore1_at, astore1_at0, aslA_at, aslA_at0, ldN_all, ld1_row, stN_all, st1_row, slr_all, Nat.reduceAdd, Nat.reduceMul, Nat.reduceLT, hl, hc, hg, a1, a2, ef, ef0, hp, hz, hS, hq, Bool.and_false] <;> rfl⟩
      | true =>
        rw [c2] at hq
        exact ⟨_, by simp only [afAddr_p, List.append_nil, if_true, if_false, bnd_some, mp_some, cnd_t, cnd_f, gd_no, gd_tt, gd_tf, gd_ft, gd_ff, alenS_s, alen_sl, alen_ns, abin_add, abin_sub, abin_mul, abin_eql, abin_neq, abin_lss, abin_leq, abin_gtr, abin_geq, abin_seql, abin_sneq, abin_slss, aun_not, aun_neg, aeqB_t, aeqB_f, aconv_i, apick_b, cond_true, cond_false, decide_true, decide_false, Bool.not_true, Bool.not_false, aext_t, ofPart_c, ofPart_a, part?_c, part?_a, cells?_c, cells?_a, tupN_2, tupN_3, Option.map_some, Option.some.injEq, List.getElem?_cons_zero, List.getElem?_cons_succ, not_true_eq_false, not_false_eq_true, quiet_same, bytesI_length, Option.join_some, List.append_assoc, List.cons_append, List.nil_append, List.length_append, List.length_cons, List.length_nil, Nat.zero_add, Nat.add_zero, rd_at, rd_at0, set_at, set_at0, List.set_cons_zero, List.set_cons_succ, ne_eq, decide_not, quiet_ext, newOk_some, List.cons_prefix_cons, List.nil_prefix, List.drop_succ_cons, List.drop_zero, List.all_cons, List.all_nil, Bool.and_true, true_and, and_true, aloadN_at, aloadN_at0, aload1_at, aload1_at0, astoreN_at, astoreN_at0, astore1_at, astore1_at0, aslA_at, aslA_at0, ldN_all, ld1_row, stN_all, st1_row, slr_all, Nat.reduceAdd, Nat.reduceMul, Nat.reduceLT, hl, hc, hg, a1, a2, ef, ef0, hp, hz, hS, hq, Bool.and_true] <;> rfl⟩
  obtain ⟨g', e⟩ := key (ro h)
  refine S_super_Get_flat e ?_
  unfold layS
  cases okS b <;> simp


end Go.Proofs.Ytbbkpmbepljhkaa
