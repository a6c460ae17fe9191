/- The laws of the chapter of numbers: each answers true. -/
import Derived.Test.YtbbkpmbepljhkaaSRef01
import Derived.Test.YtbbkpmbepljhkaaGEscheatlaw01
set_option linter.all false
namespace Go.Proofs.Ytbbkpmbepljhkaa
open Go Go.Esc

theorem works01_eq (h : Heap) : S_escheatlaw01_works [] h = some (.c (.b true), h) := by
  have key : ∀ g, ∃ g', R_escheatlaw01_works 0 [] g = some (.c (.b true), g') := by
    intro g
    have e1 : afill [Cell.i .u8 0, .i .u8 0, .i .u8 0] [(0, 1, .c (.i .u8 0)), (1, 1, .c (.i .u8 0)), (2, 1, .c (.i .u8 0))] = some (encB [0, 0, 0]) := rfl
    have e2 : afill [Cell.i .u8 0, .i .u8 0, .i .u8 0] [(0, 1, .c (.i .u8 0)), (1, 1, .c (.i .u8 2)), (2, 1, .c (.i .u8 1))] = some (encB [0, 2, 1]) := rfl
    have e3 : afill [Cell.i .u8 0, .i .u8 0] [(0, 1, .c (.i .u8 1)), (1, 1, .c (.i .u8 1))] = some (encB [1, 1]) := rfl
    have p1 : putN [0, 0, 0] 1 2 258 = some [0, 2, 1] := by decide
    have p2 : atN (layI (zeros 256) 0 [1, 1]) 0 2 = 257 := by decide +kernel
    have f1 := num_Put_eq (h := g ++ [some ⟨encB [0, 0, 0], true⟩]) (x := .c (.sl g.length 0 3 1)) (nv := 3) (l := [0, 0, 0]) (a := 1) (w := 2) (v := 258) (Has.tr (by simp) (by simp [encB_length]) (noX_encB _)) (by decide)
    rw [p1] at f1
    have f2 := ref01_Same_eq (h := g ++ [some ⟨encB [0, 0, 0], true⟩, some ⟨encB [0, 2, 1], true⟩, some ⟨encB [0, 2, 1], true⟩]) (v := .c (.sl (g.length + 1) 0 3 1)) (nv := 3) (u := .c (.sl (g.length + 2) 0 3 1)) (nu := 3) (l := [0, 2, 1]) (r := [0, 2, 1])
      (Has.tr (by simp) (by simp [encB_length]) (noX_encB _)) (Has.tr (by simp) (by simp [encB_length]) (noX_encB _)) (by decide)
    have f3 := num_Of_eq (h := g ++ [some ⟨encB [0, 0, 0], true⟩, some ⟨encB [0, 2, 1], true⟩, some ⟨encB [0, 2, 1], true⟩, some ⟨encB [1, 1], true⟩]) (v := .c (.sl (g.length + 3) 0 2 1)) (nv := 2) (data := [1, 1]) (Has.tr (by simp) (by simp [encB_length]) (noX_encB _)) (by decide)
    have f4 := num_At_eq (h := g ++ [some ⟨encB [0, 0, 0], true⟩, some ⟨encB [0, 2, 1], true⟩, some ⟨encB [0, 2, 1], true⟩, some ⟨encB [1, 1], true⟩]) (l := layI (zeros 256) 0 [1, 1]) (layI_length zeros_length) (a := 0) (w := 2)
    rw [p2] at f4
    simp only [Option.getD_some, Option.isSome_some, afAddr_p, List.append_nil, if_true, if_false, bnd_some, mp_some, cnd_t, cnd_f, gd_no, gd_tt, gd_tf, gd_ft, gd_ff, alenS_s, alen_sl, alen_ns, abin_add, abin_sub, abin_mul, abin_eql, abin_neq, abin_lss, abin_leq, abin_gtr, abin_geq, abin_seql, abin_sneq, abin_slss, aun_not, aun_neg, aeqB_t, aeqB_f, aconv_i, apick_b, cond_true, cond_false, decide_true, decide_false, Bool.not_true, Bool.not_false, aext_t, ofPart_c, ofPart_a, part?_c, part?_a, cells?_c, cells?_a, tupN_2, tupN_3, Option.map_some, Option.some.injEq, List.getElem?_cons_zero, List.getElem?_cons_succ, not_true_eq_false, not_false_eq_true, quiet_same, bytesI_length, Option.join_some, List.append_assoc, List.cons_append, List.nil_append, List.length_append, List.length_cons, List.length_nil, Nat.zero_add, Nat.add_zero, rd_at, rd_at0, set_at, set_at0, List.set_cons_zero, List.set_cons_succ, ne_eq, decide_not, quiet_ext, newOk_some, List.cons_prefix_cons, List.nil_prefix, List.drop_succ_cons, List.drop_zero, List.all_cons, List.all_nil, Bool.and_true, true_and, and_true] at f1 f2
    rw [R_escheatlaw01_works_eq]
    exact ⟨_, by simp only [afAddr_p, List.append_nil, if_true, if_false, bnd_some, mp_some, cnd_t, cnd_f, gd_no, gd_tt, gd_tf, gd_ft, gd_ff, alenS_s, alen_sl, alen_ns, abin_add, abin_sub, abin_mul, abin_eql, abin_neq, abin_lss, abin_leq, abin_gtr, abin_geq, abin_seql, abin_sneq, abin_slss, aun_not, aun_neg, aeqB_t, aeqB_f, aconv_i, apick_b, cond_true, cond_false, decide_true, decide_false, Bool.not_true, Bool.not_false, aext_t, ofPart_c, ofPart_a, part?_c, part?_a, cells?_c, cells?_a, tupN_2, tupN_3, Option.map_some, Option.some.injEq, List.getElem?_cons_zero, List.getElem?_cons_succ, not_true_eq_false, not_false_eq_true, quiet_same, bytesI_length, Option.join_some, List.append_assoc, List.cons_append, List.nil_append, List.length_append, List.length_cons, List.length_nil, Nat.zero_add, Nat.add_zero, rd_at, rd_at0, set_at, set_at0, List.set_cons_zero, List.set_cons_succ, ne_eq, decide_not, quiet_ext, newOk_some, List.cons_prefix_cons, List.nil_prefix, List.drop_succ_cons, List.drop_zero, List.all_cons, List.all_nil, Bool.and_true, true_and, and_true, aloadN_at, aloadN_at0, aload1_at, aload1_at0, astoreN_at, astoreN_at0, astore1_at, astore1_at0, aslA_at, aslA_at0, ldN_all, ld1_row, stN_all, st1_row, slr_all, Nat.reduceAdd, Nat.reduceMul, Nat.reduceLT, e1, e2, e3, f1, f2, f3, f4, Int.reduceEq, Int.cast_ofNat_Int] <;> rfl⟩
  obtain ⟨g', e⟩ := key (ro h)
  exact S_escheatlaw01_works_flat e rfl

end Go.Proofs.Ytbbkpmbepljhkaa
