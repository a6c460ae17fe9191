/- The law of numbers in lists answers true. -/
import Derived.Test.YtbbkpmbepljhkaaSLaw01
import Derived.Test.YtbbkpmbepljhkaaGEscheatlaw01NumLists
set_option linter.all false
namespace Go.Proofs.Ytbbkpmbepljhkaa
open Go Go.Esc

theorem numLists_eq {v : Val} {nv : Nat} {l : List UInt8} {a w x : Int} (h : Heap) (hv : Has h v 1 nv (encB l)) (hx0 : 0 ≤ x) (hx1 : x < 18446744073709551616) :
    S_escheatlaw01_NumLists [v, .a [.i .i64 a, .i .i64 w], .c (.i .u64 x)] h = some (.c (.b true), h) := by
  have key : ∀ g, Has g v 1 nv (encB l) → ∃ g', R_escheatlaw01_NumLists 0 [v, .a [.i .i64 a, .i .i64 w], .c (.i .u64 x)] g = some (.c (.b true), g') := by
    intro g hv
    have hnv : l.length = nv := by simpa [encB_length] using hv.length
    have hv1 := hv.more [some ⟨[.i .i64 a, .i .i64 w], true⟩]
    rw [R_escheatlaw01_NumLists_eq]
    have c0 : (0 : Int) < 2 := by omega
    by_cases c1 : (600 : Int) < nv
    · exact ⟨_, by simp only [List.append_nil, if_true, if_false, bnd_some, mp_some, cnd_t, cnd_f, gd_no, gd_tt, gd_tf, gd_ft, gd_ff, alenS_s, alen_sl, alen_ns, abin_add, abin_sub, abin_mul, abin_eql, abin_neq, abin_lss, abin_leq, abin_gtr, abin_geq, abin_seql, abin_sneq, abin_slss, aun_not, aun_neg, aeqB_t, aeqB_f, aconv_i, apick_b, cond_true, cond_false, decide_true, decide_false, Bool.not_true, Bool.not_false, aext_t, ofPart_c, ofPart_a, part?_c, part?_a, cells?_c, cells?_a, tupN_2, tupN_3, Option.map_some, Option.some.injEq, List.getElem?_cons_zero, List.getElem?_cons_succ, not_true_eq_false, not_false_eq_true, quiet_same, bytesI_length, Option.join_some, List.append_assoc, List.cons_append, List.nil_append, List.length_append, List.length_cons, List.length_nil, Nat.zero_add, Nat.add_zero, rd_at, rd_at0, set_at, set_at0, List.set_cons_zero, List.set_cons_succ, ne_eq, decide_not, aloadN_at, aloadN_at0, aload1_at, aload1_at0, astoreN_at, astoreN_at0, astore1_at, astore1_at0, aslA_at, aslA_at0, ldN_all, ld1_row, stN_all, st1_row, slr_all, Nat.reduceAdd, Nat.reduceMul, Nat.reduceLT, hv1.len, hv.len, c1, works01_eq] <;> rfl⟩
    · have f1 := num_Get_eq hv1 (a := a) (w := w) (by omega)
      have f2 := ref01_Get_eq hv1 (a := a) (w := w) (by omega)
      have f3 := num_Put_eq hv1 (a := a) (w := w) (v := x) (by omega)
      have f4 := ref01_Put_eq (hv1.more [some ⟨encB ((putN l a w x).getD []), true⟩]) (a := a) (w := w) (v := x) hx0 hx1 (by omega)
      have f5 := ref01_Same_eq (h := g ++ [some ⟨[.i .i64 a, .i .i64 w], true⟩, some ⟨encB ((putN l a w x).getD []), true⟩, some ⟨encB ((putN l a w x).getD []), true⟩]) (v := .c (.sl (g.length + 1) 0 ((putN l a w x).getD []).length 1)) (u := .c (.sl (g.length + 2) 0 ((putN l a w x).getD []).length 1)) (l := (putN l a w x).getD []) (r := (putN l a w x).getD [])
        (Has.tr (by simp) (by simp [encB_length]) (noX_encB _)) (Has.tr (by simp) (by simp [encB_length]) (noX_encB _)) (by
          unfold putN
          split
          · rename_i hc
            have := thereI_true.1 hc.2
            simp only [Option.getD_some]; rw [layB_length (by simp; omega)]; omega
          · simp)
      simp only [List.append_nil, if_true, if_false, bnd_some, mp_some, cnd_t, cnd_f, gd_no, gd_tt, gd_tf, gd_ft, gd_ff, alenS_s, alen_sl, alen_ns, abin_add, abin_sub, abin_mul, abin_eql, abin_neq, abin_lss, abin_leq, abin_gtr, abin_geq, abin_seql, abin_sneq, abin_slss, aun_not, aun_neg, aeqB_t, aeqB_f, aconv_i, apick_b, cond_true, cond_false, decide_true, decide_false, Bool.not_true, Bool.not_false, aext_t, ofPart_c, ofPart_a, part?_c, part?_a, cells?_c, cells?_a, tupN_2, tupN_3, Option.map_some, Option.some.injEq, List.getElem?_cons_zero, List.getElem?_cons_succ, not_true_eq_false, not_false_eq_true, quiet_same, bytesI_length, Option.join_some, List.append_assoc, List.cons_append, List.nil_append, List.length_append, List.length_cons, List.length_nil, Nat.zero_add, Nat.add_zero, rd_at, rd_at0, set_at, set_at0, List.set_cons_zero, List.set_cons_succ, ne_eq, decide_not] at f3 f4
      have a0 : aiAddrA 2 1 (.c (.p g.length 0)) (.c (.i .i64 0)) = some (.c (.p g.length 0)) := rfl
      have a1 : aiAddrA 2 1 (.c (.p g.length 0)) (.c (.i .i64 1)) = some (.c (.p g.length 1)) := rfl
      exact ⟨_, by simp only [List.append_nil, if_true, if_false, bnd_some, mp_some, cnd_t, cnd_f, gd_no, gd_tt, gd_tf, gd_ft, gd_ff, alenS_s, alen_sl, alen_ns, abin_add, abin_sub, abin_mul, abin_eql, abin_neq, abin_lss, abin_leq, abin_gtr, abin_geq, abin_seql, abin_sneq, abin_slss, aun_not, aun_neg, aeqB_t, aeqB_f, aconv_i, apick_b, cond_true, cond_false, decide_true, decide_false, Bool.not_true, Bool.not_false, aext_t, ofPart_c, ofPart_a, part?_c, part?_a, cells?_c, cells?_a, tupN_2, tupN_3, Option.map_some, Option.some.injEq, List.getElem?_cons_zero, List.getElem?_cons_succ, not_true_eq_false, not_false_eq_true, quiet_same, bytesI_length, Option.join_some, List.append_assoc, List.cons_append, List.nil_append, List.length_append, List.length_cons, List.length_nil, Nat.zero_add, Nat.add_zero, rd_at, rd_at0, set_at, set_at0, List.set_cons_zero, List.set_cons_succ, ne_eq, decide_not, aloadN_at, aloadN_at0, aload1_at, aload1_at0, astoreN_at, astoreN_at0, astore1_at, astore1_at0, aslA_at, aslA_at0, ldN_all, ld1_row, stN_all, st1_row, slr_all, Nat.reduceAdd, Nat.reduceMul, Nat.reduceLT, hv.len, c1, a0, a1, f1, f2, f3, f4, f5, works01_eq, beq_self_eq_true] <;> rfl⟩
  obtain ⟨g', e⟩ := key (ro h) hv.ro
  exact S_escheatlaw01_NumLists_flat e rfl

end Go.Proofs.Ytbbkpmbepljhkaa
