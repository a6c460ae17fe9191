/- The law that an inode in a place is as the document has it answers true. -/
import Derived.Test.YtbbkpmbepljhkaaSLaw17
import Derived.Test.YtbbkpmbepljhkaaSRef17
import Derived.Test.YtbbkpmbepljhkaaGEscheatlaw17TablePuts
set_option linter.all false
namespace Go.Proofs.Ytbbkpmbepljhkaa
open Go Go.Esc

theorem tablePuts_eq {j k l s p : Int} {d : List Int} {b : List UInt8} (h : Heap) (hb : b.length = 256) (hd : d.length = 7) : S_escheatlaw17_TablePuts [.a (encB b), .c (.i .i64 j), .a (inoC k l s p d)] h = some (.c (.b true), h) := by
  have key : ∀ g, ∃ g', R_escheatlaw17_TablePuts 0 [.a (encB b), .c (.i .i64 j), .a (inoC k l s p d)] g = some (.c (.b true), g') := by
    intro g
    have hB : (encB b).length = 256 := by rw [encB_length, hb]
    have hE : (encI d).length = 7 := by rw [encI_length, hd]
    have hC : (inoC k l s p d).length = 11 := by simp [encI_length, hd]
    have hz : (List.replicate 256 (Cell.i .u8 0)).length = 256 := List.length_replicate
    have hv := Has.tr (h := g ++ [some (Row.mk (encB b) true), some (Row.mk (inoC k l s p d) true), some (Row.mk (encB b) true)]) (id := g.length) (sz := 1) (n := 256) (cs := encB b) (by simp) (by rw [hB]) (noX_encB _)
    have hS : ∀ r, S_escheatref01_Same [.c (.sl (g.length + 2) 0 256 1), .c (.sl g.length 0 256 1)] (g ++ [some (Row.mk (encB b) true), some (Row.mk (inoC k l s p d) true), some (Row.mk (encB b) true), some (Row.mk r true)]) = some (.c (.b (decide (b = b))), g ++ [some (Row.mk (encB b) true), some (Row.mk (inoC k l s p d) true), some (Row.mk (encB b) true), some (Row.mk r true)]) := fun r =>
      ref01_Same_eq (nv := 256) (nu := 256) (Has.tr (by simp) (by rw [hB]) (noX_encB _)) (Has.tr (by simp) (by rw [hB]) (noX_encB _)) (by omega)
    rw [R_escheatlaw17_TablePuts_eq]
    by_cases c0 : j < 0 ∨ 8 ≤ j
    · generalize List.replicate 256 (Cell.i .u8 0) = z at *
      have hW := fun h => table_With_range (cs := inoC k l s p d) (h := h) hb hC c0
      have hR := ref17_With_range (cs := inoC k l s p d) hv c0
      have hP := fun h => table_Patch_range (cs := inoC k l s p d) (h := h) c0
      exact ⟨_, by simp only [afAddr_p, List.append_nil, if_true, if_false, bnd_some, mp_some, cnd_t, cnd_f, gd_no, gd_tt, gd_tf, gd_ft, gd_ff, alenS_s, alen_sl, alen_ns, abin_add, abin_sub, abin_mul, abin_eql, abin_neq, abin_lss, abin_leq, abin_gtr, abin_geq, abin_seql, abin_sneq, abin_slss, aun_not, aun_neg, aeqB_t, aeqB_f, aconv_i, apick_b, cond_true, cond_false, decide_true, decide_false, Bool.not_true, Bool.not_false, aext_t, ofPart_c, ofPart_a, part?_c, part?_a, cells?_c, cells?_a, tupN_2, tupN_3, Option.map_some, Option.some.injEq, List.getElem?_cons_zero, List.getElem?_cons_succ, not_true_eq_false, not_false_eq_true, quiet_same, bytesI_length, Option.join_some, List.append_assoc, List.cons_append, List.nil_append, List.length_append, List.length_cons, List.length_nil, Nat.zero_add, Nat.add_zero, rd_at, rd_at0, set_at, set_at0, List.set_cons_zero, List.set_cons_succ, ne_eq, decide_not, quiet_ext, newOk_some, List.cons_prefix_cons, List.nil_prefix, List.drop_succ_cons, List.drop_zero, List.all_cons, List.all_nil, Bool.and_true, true_and, and_true, aloadN_at, aloadN_at0, aload1_at, aload1_at0, astoreN_at, astoreN_at0, astore1_at, astore1_at0, aslA_at, aslA_at0, ldN_all, ld1_row, stN_all, st1_row, slr_all, Nat.reduceAdd, Nat.reduceMul, Nat.reduceLT, hB, hE, hz, hW, hR, hP, hS, works17_eq, Int.reduceEq] <;> rfl⟩
    · have h0 : 0 ≤ j := by omega
      have h8 : j < 8 := by omega
      cases c : mayI k l s p d with
      | false =>
        generalize List.replicate 256 (Cell.i .u8 0) = z at *
        have hW := fun h => table_With_may (h := h) hb hd h0 h8 c
        have hR := ref17_With_may hv hd h0 h8 c
        have hP := fun h => table_Patch_may (h := h) hd h0 h8 c
        exact ⟨_, by simp only [afAddr_p, List.append_nil, if_true, if_false, bnd_some, mp_some, cnd_t, cnd_f, gd_no, gd_tt, gd_tf, gd_ft, gd_ff, alenS_s, alen_sl, alen_ns, abin_add, abin_sub, abin_mul, abin_eql, abin_neq, abin_lss, abin_leq, abin_gtr, abin_geq, abin_seql, abin_sneq, abin_slss, aun_not, aun_neg, aeqB_t, aeqB_f, aconv_i, apick_b, cond_true, cond_false, decide_true, decide_false, Bool.not_true, Bool.not_false, aext_t, ofPart_c, ofPart_a, part?_c, part?_a, cells?_c, cells?_a, tupN_2, tupN_3, Option.map_some, Option.some.injEq, List.getElem?_cons_zero, List.getElem?_cons_succ, not_true_eq_false, not_false_eq_true, quiet_same, bytesI_length, Option.join_some, List.append_assoc, List.cons_append, List.nil_append, List.length_append, List.length_cons, List.length_nil, Nat.zero_add, Nat.add_zero, rd_at, rd_at0, set_at, set_at0, List.set_cons_zero, List.set_cons_succ, ne_eq, decide_not, quiet_ext, newOk_some, List.cons_prefix_cons, List.nil_prefix, List.drop_succ_cons, List.drop_zero, List.all_cons, List.all_nil, Bool.and_true, true_and, and_true, aloadN_at, aloadN_at0, aload1_at, aload1_at0, astoreN_at, astoreN_at0, astore1_at, astore1_at0, aslA_at, aslA_at0, ldN_all, ld1_row, stN_all, st1_row, slr_all, Nat.reduceAdd, Nat.reduceMul, Nat.reduceLT, hB, hE, hz, hW, hR, hP, hS, works17_eq, Int.reduceEq] <;> rfl⟩
      | true =>
        obtain ⟨i, rfl⟩ : ∃ i : Nat, j = i := ⟨j.toNat, by omega⟩
        have h8' : i < 8 := by omega
        have hI : (inoB k l s p d).length = 32 := inoB_length hd
        have hIe : (encB (inoB k l s p d)).length = 32 := by rw [encB_length, hI]
        have hL : (layB b (32 * i) (inoB k l s p d)).length = 256 := by rw [layB_length (by omega), hb]
        have hLe : (encB (layB b (32 * i) (inoB k l s p d))).length = 256 := by rw [encB_length, hL]
        have hW := fun h => table_With_ok (h := h) hb hd h8' c
        have hv2 := Has.tr (h := g ++ [some (Row.mk (encB b) true), some (Row.mk (inoC k l s p d) true), some (Row.mk (encB (layB b (32 * i) (inoB k l s p d))) true)]) (id := g.length) (sz := 1) (n := 256) (cs := encB b) (by simp) (by rw [hB]) (noX_encB _)
        have hR := ref17_With_ok hv2 hb hd h8' c
        have hP := fun h => table_Patch_ok (h := h) hd h8' c
        have hS2 := ref01_Same_eq (h := g ++ [some (Row.mk (encB b) true), some (Row.mk (inoC k l s p d) true), some (Row.mk (encB (layB b (32 * i) (inoB k l s p d))) true), some (Row.mk (encB (layB b (32 * i) (inoB k l s p d))) true), some (Row.mk (encB (inoB k l s p d)) true), some (Row.mk [.i .i64 ((32 * i : Nat) : Int), .sl (g.length + 4) 0 32 1] true)])
          (v := .c (.sl (g.length + 2) 0 256 1)) (nv := 256) (u := .c (.sl (g.length + 3) 0 256 1)) (nu := 256) (l := layB b (32 * i) (inoB k l s p d)) (r := layB b (32 * i) (inoB k l s p d)) (Has.tr (by simp) (by rw [hLe]) (noX_encB _)) (Has.tr (by simp) (by rw [hLe]) (noX_encB _)) (by omega)
        have hY := patch_Lay_eq (h := g ++ [some (Row.mk (encB b) true), some (Row.mk (inoC k l s p d) true), some (Row.mk (encB (layB b (32 * i) (inoB k l s p d))) true), some (Row.mk (encB (layB b (32 * i) (inoB k l s p d))) true), some (Row.mk (encB (inoB k l s p d)) true), some (Row.mk [.i .i64 ((32 * i : Nat) : Int), .sl (g.length + 4) 0 32 1] true)])
          (x := .sl (g.length + 4) 0 32 1) (n := 32) (a := 32 * i) (data := inoB k l s p d) (l := b) (Has.tr (by simp) (by rw [hIe]) (noX_encB _)) (by omega) (by omega) hb
        have hq := aeq_f (l := layB b (32 * i) (inoB k l s p d)) (m := layB b (32 * i) (inoB k l s p d)) (n := 256) hL hL
        simp only [afAddr_p, List.append_nil, if_true, if_false, bnd_some, mp_some, cnd_t, cnd_f, gd_no, gd_tt, gd_tf, gd_ft, gd_ff, alenS_s, alen_sl, alen_ns, abin_add, abin_sub, abin_mul, abin_eql, abin_neq, abin_lss, abin_leq, abin_gtr, abin_geq, abin_seql, abin_sneq, abin_slss, aun_not, aun_neg, aeqB_t, aeqB_f, aconv_i, apick_b, cond_true, cond_false, decide_true, decide_false, Bool.not_true, Bool.not_false, aext_t, ofPart_c, ofPart_a, part?_c, part?_a, cells?_c, cells?_a, tupN_2, tupN_3, Option.map_some, Option.some.injEq, List.getElem?_cons_zero, List.getElem?_cons_succ, not_true_eq_false, not_false_eq_true, quiet_same, bytesI_length, Option.join_some, List.append_assoc, List.cons_append, List.nil_append, List.length_append, List.length_cons, List.length_nil, Nat.zero_add, Nat.add_zero, rd_at, rd_at0, set_at, set_at0, List.set_cons_zero, List.set_cons_succ, ne_eq, decide_not, quiet_ext, newOk_some, List.cons_prefix_cons, List.nil_prefix, List.drop_succ_cons, List.drop_zero, List.all_cons, List.all_nil, Bool.and_true, true_and, and_true] at hR
        generalize List.replicate 256 (Cell.i .u8 0) = z at *
        exact ⟨_, by simp only [afAddr_p, List.append_nil, if_true, if_false, bnd_some, mp_some, cnd_t, cnd_f, gd_no, gd_tt, gd_tf, gd_ft, gd_ff, alenS_s, alen_sl, alen_ns, abin_add, abin_sub, abin_mul, abin_eql, abin_neq, abin_lss, abin_leq, abin_gtr, abin_geq, abin_seql, abin_sneq, abin_slss, aun_not, aun_neg, aeqB_t, aeqB_f, aconv_i, apick_b, cond_true, cond_false, decide_true, decide_false, Bool.not_true, Bool.not_false, aext_t, ofPart_c, ofPart_a, part?_c, part?_a, cells?_c, cells?_a, tupN_2, tupN_3, Option.map_some, Option.some.injEq, List.getElem?_cons_zero, List.getElem?_cons_succ, not_true_eq_false, not_false_eq_true, quiet_same, bytesI_length, Option.join_some, List.append_assoc, List.cons_append, List.nil_append, List.length_append, List.length_cons, List.length_nil, Nat.zero_add, Nat.add_zero, rd_at, rd_at0, set_at, set_at0, List.set_cons_zero, List.set_cons_succ, ne_eq, decide_not, quiet_ext, newOk_some, List.cons_prefix_cons, List.nil_prefix, List.drop_succ_cons, List.drop_zero, List.all_cons, List.all_nil, Bool.and_true, true_and, and_true, aloadN_at, aloadN_at0, aload1_at, aload1_at0, astoreN_at, astoreN_at0, astore1_at, astore1_at0, aslA_at, aslA_at0, ldN_all, ld1_row, stN_all, st1_row, slr_all, Nat.reduceAdd, Nat.reduceMul, Nat.reduceLT, hB, hE, hz, hLe, hW, hR, hP, hS2, hY, hq, works17_eq] <;> rfl⟩
  obtain ⟨g', e⟩ := key (ro h)
  exact S_escheatlaw17_TablePuts_flat e rfl

end Go.Proofs.Ytbbkpmbepljhkaa
