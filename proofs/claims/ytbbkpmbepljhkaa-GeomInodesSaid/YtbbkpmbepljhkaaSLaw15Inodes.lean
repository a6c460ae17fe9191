/- The law of where inodes stand answers true. -/
import Derived.Test.YtbbkpmbepljhkaaSLaw15
import Derived.Test.YtbbkpmbepljhkaaGEscheatlaw15GeomInodes
set_option linter.all false
namespace Go.Proofs.Ytbbkpmbepljhkaa
open Go Go.Esc

theorem geomInodes_eq {b n m i x y : Int} (h : Heap) (hx : x < 9223372036854775808) : S_escheatlaw15_GeomInodes [.a (layC b n m), .c (.i .i64 i), .a [.i .i64 x, .i .i64 y]] h = some (.c (.b true), h) := by
  have key : ∀ g, ∃ g', R_escheatlaw15_GeomInodes 0 [.a (layC b n m), .c (.i .i64 i), .a [.i .i64 x, .i .i64 y]] g = some (.c (.b true), g') := by
    intro g
    have a0 : aiAddrA 2 1 (.c (.p (g.length + 1) 0)) (.c (.i .i64 0)) = some (.c (.p (g.length + 1) 0)) := rfl
    have a1 : aiAddrA 2 1 (.c (.p (g.length + 1) 0)) (.c (.i .i64 1)) = some (.c (.p (g.length + 1) 1)) := rfl
    have hi := geom_Inode_eq (b := b) (n := n) (m := m) (no := x) (k := y) (h := g ++ [some ⟨layC b n m, true⟩, some ⟨[.i .i64 x, .i .i64 y], true⟩]) hx
    rw [R_escheatlaw15_GeomInodes_eq]
    cases c : inoAt b n x y with
    | true =>
      obtain ⟨c1, c2, c3, c4⟩ := inoAt_true.1 c
      rw [c] at hi
      have hm : mayL b n = true := by
        cases hm : mayL b n with
        | true => rfl
        | false => unfold tabN tabF at c4; rw [hm] at c4; unfold tabF at c3; rw [hm] at c3; simp only [cond_false] at c3 c4; omega
      have c' := mayL_true.1 hm
      have t1 : tabF b n = 2 := by unfold tabF; rw [hm]; rfl
      have t2 : tabN b n = n / 8 := by unfold tabN; rw [hm]; rfl
      rw [t1, t2] at c4
      rw [t1] at c3
      have ha : areaI b n x = 3 := by
        unfold areaI
        rw [if_pos ⟨hm, by omega, by omega⟩, if_neg (by omega), if_pos (by omega)]
      have d1 : ¬ y < 0 := by omega
      have d2 : ¬ 7 < y := by omega
      have e1 : IntKind.wrap .i64 (x - 2) = x - 2 := wrap_i64 (by omega) (by omega)
      have e2 : IntKind.wrap .i64 (8 * (x - 2)) = 8 * (x - 2) := wrap_i64 (by omega) (by omega)
      have e3 : IntKind.wrap .i64 (8 * (x - 2) + y) = 8 * (x - 2) + y := wrap_i64 (by omega) (by omega)
      have e4 : IntKind.wrap .i64 (8 * (x - 2) + y + 1) = 8 * (x - 2) + y + 1 := wrap_i64 (by omega) (by omega)
      rw [t1] at hi
      have e5 : (x - 2) * 8 + y + 1 = 8 * (x - 2) + y + 1 := by omega
      simp only [cond_true, e5] at hi
      exact ⟨_, by simp only [afAddr_p, List.append_nil, if_true, if_false, bnd_some, mp_some, cnd_t, cnd_f, gd_no, gd_tt, gd_tf, gd_ft, gd_ff, alenS_s, alen_sl, alen_ns, abin_add, abin_sub, abin_mul, abin_eql, abin_neq, abin_lss, abin_leq, abin_gtr, abin_geq, abin_seql, abin_sneq, abin_slss, aun_not, aun_neg, aeqB_t, aeqB_f, aconv_i, apick_b, cond_true, cond_false, decide_true, decide_false, Bool.not_true, Bool.not_false, aext_t, ofPart_c, ofPart_a, part?_c, part?_a, cells?_c, cells?_a, tupN_2, tupN_3, Option.map_some, Option.some.injEq, List.getElem?_cons_zero, List.getElem?_cons_succ, not_true_eq_false, not_false_eq_true, quiet_same, bytesI_length, Option.join_some, List.append_assoc, List.cons_append, List.nil_append, List.length_append, List.length_cons, List.length_nil, Nat.zero_add, Nat.add_zero, rd_at, rd_at0, set_at, set_at0, List.set_cons_zero, List.set_cons_succ, ne_eq, decide_not, quiet_ext, newOk_some, List.cons_prefix_cons, List.nil_prefix, List.drop_succ_cons, List.drop_zero, List.all_cons, List.all_nil, Bool.and_true, true_and, and_true, aloadN_at, aloadN_at0, aload1_at, aload1_at0, astoreN_at, astoreN_at0, astore1_at, astore1_at0, aslA_at, aslA_at0, ldN_all, ld1_row, stN_all, st1_row, slr_all, Nat.reduceAdd, Nat.reduceMul, Nat.reduceLT, geom_Where_eq, ref15_Where_eq, geom_IsInode_eq, ref15_Is_eq, beq_self_eq_true, a0, a1, hi, ref15_Area_eq, ha, d1, d2, e1, e2, e3, e4, works15_eq] <;> rfl⟩
    | false =>
      rw [c] at hi
      simp only [cond_false] at hi
      by_cases ha : areaI b n x = 3
      · by_cases d1 : y < 0
        · exact ⟨_, by simp only [afAddr_p, List.append_nil, if_true, if_false, bnd_some, mp_some, cnd_t, cnd_f, gd_no, gd_tt, gd_tf, gd_ft, gd_ff, alenS_s, alen_sl, alen_ns, abin_add, abin_sub, abin_mul, abin_eql, abin_neq, abin_lss, abin_leq, abin_gtr, abin_geq, abin_seql, abin_sneq, abin_slss, aun_not, aun_neg, aeqB_t, aeqB_f, aconv_i, apick_b, cond_true, cond_false, decide_true, decide_false, Bool.not_true, Bool.not_false, aext_t, ofPart_c, ofPart_a, part?_c, part?_a, cells?_c, cells?_a, tupN_2, tupN_3, Option.map_some, Option.some.injEq, List.getElem?_cons_zero, List.getElem?_cons_succ, not_true_eq_false, not_false_eq_true, quiet_same, bytesI_length, Option.join_some, List.append_assoc, List.cons_append, List.nil_append, List.length_append, List.length_cons, List.length_nil, Nat.zero_add, Nat.add_zero, rd_at, rd_at0, set_at, set_at0, List.set_cons_zero, List.set_cons_succ, ne_eq, decide_not, quiet_ext, newOk_some, List.cons_prefix_cons, List.nil_prefix, List.drop_succ_cons, List.drop_zero, List.all_cons, List.all_nil, Bool.and_true, true_and, and_true, aloadN_at, aloadN_at0, aload1_at, aload1_at0, astoreN_at, astoreN_at0, astore1_at, astore1_at0, aslA_at, aslA_at0, ldN_all, ld1_row, stN_all, st1_row, slr_all, Nat.reduceAdd, Nat.reduceMul, Nat.reduceLT, geom_Where_eq, ref15_Where_eq, geom_IsInode_eq, ref15_Is_eq, beq_self_eq_true, a0, a1, hi, ref15_Area_eq, ha, d1, works15_eq] <;> rfl⟩
        · by_cases d2 : 7 < y
          · exact ⟨_, by simp only [afAddr_p, List.append_nil, if_true, if_false, bnd_some, mp_some, cnd_t, cnd_f, gd_no, gd_tt, gd_tf, gd_ft, gd_ff, alenS_s, alen_sl, alen_ns, abin_add, abin_sub, abin_mul, abin_eql, abin_neq, abin_lss, abin_leq, abin_gtr, abin_geq, abin_seql, abin_sneq, abin_slss, aun_not, aun_neg, aeqB_t, aeqB_f, aconv_i, apick_b, cond_true, cond_false, decide_true, decide_false, Bool.not_true, Bool.not_false, aext_t, ofPart_c, ofPart_a, part?_c, part?_a, cells?_c, cells?_a, tupN_2, tupN_3, Option.map_some, Option.some.injEq, List.getElem?_cons_zero, List.getElem?_cons_succ, not_true_eq_false, not_false_eq_true, quiet_same, bytesI_length, Option.join_some, List.append_assoc, List.cons_append, List.nil_append, List.length_append, List.length_cons, List.length_nil, Nat.zero_add, Nat.add_zero, rd_at, rd_at0, set_at, set_at0, List.set_cons_zero, List.set_cons_succ, ne_eq, decide_not, quiet_ext, newOk_some, List.cons_prefix_cons, List.nil_prefix, List.drop_succ_cons, List.drop_zero, List.all_cons, List.all_nil, Bool.and_true, true_and, and_true, aloadN_at, aloadN_at0, aload1_at, aload1_at0, astoreN_at, astoreN_at0, astore1_at, astore1_at0, aslA_at, aslA_at0, ldN_all, ld1_row, stN_all, st1_row, slr_all, Nat.reduceAdd, Nat.reduceMul, Nat.reduceLT, geom_Where_eq, ref15_Where_eq, geom_IsInode_eq, ref15_Is_eq, beq_self_eq_true, a0, a1, hi, ref15_Area_eq, ha, d1, d2, works15_eq] <;> rfl⟩
          · exfalso
            have hf := inoAt_false.1 c
            unfold areaI at ha
            split at ha
            · rename_i hc
              have c' := mayL_true.1 hc.1
              have t1 : tabF b n = 2 := by unfold tabF; rw [hc.1]; rfl
              have t2 : tabN b n = n / 8 := by unfold tabN; rw [hc.1]; rfl
              rw [t1, t2] at hf
              split at ha
              · omega
              · split at ha
                · omega
                · omega
            · omega
      · exact ⟨_, by simp only [afAddr_p, List.append_nil, if_true, if_false, bnd_some, mp_some, cnd_t, cnd_f, gd_no, gd_tt, gd_tf, gd_ft, gd_ff, alenS_s, alen_sl, alen_ns, abin_add, abin_sub, abin_mul, abin_eql, abin_neq, abin_lss, abin_leq, abin_gtr, abin_geq, abin_seql, abin_sneq, abin_slss, aun_not, aun_neg, aeqB_t, aeqB_f, aconv_i, apick_b, cond_true, cond_false, decide_true, decide_false, Bool.not_true, Bool.not_false, aext_t, ofPart_c, ofPart_a, part?_c, part?_a, cells?_c, cells?_a, tupN_2, tupN_3, Option.map_some, Option.some.injEq, List.getElem?_cons_zero, List.getElem?_cons_succ, not_true_eq_false, not_false_eq_true, quiet_same, bytesI_length, Option.join_some, List.append_assoc, List.cons_append, List.nil_append, List.length_append, List.length_cons, List.length_nil, Nat.zero_add, Nat.add_zero, rd_at, rd_at0, set_at, set_at0, List.set_cons_zero, List.set_cons_succ, ne_eq, decide_not, quiet_ext, newOk_some, List.cons_prefix_cons, List.nil_prefix, List.drop_succ_cons, List.drop_zero, List.all_cons, List.all_nil, Bool.and_true, true_and, and_true, aloadN_at, aloadN_at0, aload1_at, aload1_at0, astoreN_at, astoreN_at0, astore1_at, astore1_at0, aslA_at, aslA_at0, ldN_all, ld1_row, stN_all, st1_row, slr_all, Nat.reduceAdd, Nat.reduceMul, Nat.reduceLT, geom_Where_eq, ref15_Where_eq, geom_IsInode_eq, ref15_Is_eq, beq_self_eq_true, a0, a1, hi, ref15_Area_eq, ha, works15_eq] <;> rfl⟩
  obtain ⟨g', e⟩ := key (ro h)
  exact S_escheatlaw15_GeomInodes_flat e rfl

end Go.Proofs.Ytbbkpmbepljhkaa
