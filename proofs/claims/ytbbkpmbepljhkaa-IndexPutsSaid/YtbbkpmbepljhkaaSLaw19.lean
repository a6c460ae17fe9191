/- The example of the chapter of indexes. -/
import Derived.Test.YtbbkpmbepljhkaaSIndexTurn
import Derived.Test.YtbbkpmbepljhkaaGEscheatlaw19
set_option linter.all false
namespace Go.Proofs.Ytbbkpmbepljhkaa
open Go Go.Esc

theorem works19_eq (h : Heap) : S_escheatlaw19_works [] h = some (.c (.b true), h) := by
  have key : ∀ g, ∃ g', R_escheatlaw19_works 0 [] g = some (.c (.b true), g') := by
    intro g
    have hz : (encI (0 :: zI 32)).length = 33 := encX_length (d := 0) zI_length
    have ef : afill (encI (0 :: zI 32)) [(0, 1, .c (.i .i64 1))] = some (encI (1 :: zI 32)) := by
      have e1 : (0 + 1 ≤ (encI (0 :: zI 32)).length) := by rw [hz]; omega
      simp only [afill, cells?]
      rw [if_pos ⟨rfl, e1⟩]
      rfl
    have h1 : (encI (1 :: zI 32)).length = 33 := encX_length (d := 1) zI_length
    have s1 : (encI (1 :: zI 32)).set (1 + 0) (.i .i64 7) = encI (1 :: 7 :: zI 31) := by decide +kernel
    have l1 : (encI (1 :: 7 :: zI 31)).length = 33 := by decide +kernel
    have s2 : (encI (1 :: 7 :: zI 31)).set (1 + 1) (.i .i64 7) = encI (1 :: 7 :: 7 :: zI 30) := by decide +kernel
    have l2 : (encI (1 :: 7 :: 7 :: zI 30)).length = 33 := by decide +kernel
    have hS := fun h => index_Set_eq (d := 1) (p := 1) (b := 1) (v := 9) (t := 7 :: 7 :: zI 30) (h := h) (by decide +kernel)
    have e3 : setX (7 :: 7 :: zI 30) (plX 1 1 1) 9 = 7 :: 9 :: zI 30 := by decide +kernel
    rw [e3] at hS
    have l3 : (encI (1 :: 7 :: 9 :: zI 30)).length = 33 := by decide +kernel
    have hD := fun h => index_Double_eq (d := 1) (t := 7 :: 9 :: zI 30) (h := h) (by decide +kernel)
    have e4 : dblX 1 (7 :: 9 :: zI 30) = 2 :: 7 :: 9 :: 7 :: 9 :: zI 28 := by decide +kernel
    have e5 : dblOk 1 = true := by decide +kernel
    rw [e4, e5] at hD
    have l4 : (encI (2 :: 7 :: 9 :: 7 :: 9 :: zI 28)).length = 33 := by decide +kernel
    have hB := fun h => index_Bits_eq (d := 1) (t := 7 :: 7 :: zI 30) (p := 0) (h := h) (by decide +kernel)
    have e6 : bitX 1 (7 :: 7 :: zI 30) 0 = 0 := by decide +kernel
    rw [e6] at hB
    have hR := fun h => index_Right_eq (d := 2) (t := 7 :: 9 :: 7 :: 9 :: zI 28) (h := h) (by decide +kernel)
    have e7 : rightX 2 (7 :: 9 :: 7 :: 9 :: zI 28) = true := by decide +kernel
    rw [e7] at hR
    have x0 : (encI (1 :: 7 :: 9 :: zI 30))[1 + 0]? = some (.i .i64 7) := rfl
    have x1 : (encI (1 :: 7 :: 9 :: zI 30))[1 + 1]? = some (.i .i64 9) := rfl
    have x3 : (encI (2 :: 7 :: 9 :: 7 :: 9 :: zI 28))[1 + 3]? = some (.i .i64 9) := rfl
    have x4 : (encI (2 :: 7 :: 9 :: 7 :: 9 :: zI 28))[0]? = some (.i .i64 2) := rfl
    rw [R_escheatlaw19_works_eq, zI_enc]
    generalize encI (0 :: zI 32) = z0 at *
    generalize encI (1 :: zI 32) = z1 at *
    generalize encI (1 :: 7 :: zI 31) = z2 at *
    generalize encI (1 :: 7 :: 7 :: zI 30) = z3 at *
    generalize encI (1 :: 7 :: 9 :: zI 30) = z4 at *
    generalize encI (2 :: 7 :: 9 :: 7 :: 9 :: zI 28) = z5 at *
    simp only [Nat.reduceAdd] at s1 s2 x0 x1 x3
    have a0 : ∀ k, aiAddrA 32 1 (.c (.p k 1)) (.c (.i .i64 0)) = some (.c (.p k 1)) := fun k => rfl
    have a1 : ∀ k, aiAddrA 32 1 (.c (.p k 1)) (.c (.i .i64 1)) = some (.c (.p k 2)) := fun k => rfl
    have a3 : ∀ k, aiAddrA 32 1 (.c (.p k 1)) (.c (.i .i64 3)) = some (.c (.p k 4)) := fun k => rfl
    exact ⟨_, by simp only [afAddr_p, List.append_nil, if_true, if_false, bnd_some, mp_some, cnd_t, cnd_f, gd_no, gd_tt, gd_tf, gd_ft, gd_ff, alenS_s, alen_sl, alen_ns, abin_add, abin_sub, abin_mul, abin_eql, abin_neq, abin_lss, abin_leq, abin_gtr, abin_geq, abin_seql, abin_sneq, abin_slss, aun_not, aun_neg, agn_some, aeqN_nf, aeqN_f, aeqN_np, aeqN_p, anilc_p, aeqB_t, aeqB_f, aconv_i, apick_b, cond_true, cond_false, decide_true, decide_false, Bool.not_true, Bool.not_false, aext_t, ofPart_c, ofPart_a, part?_c, part?_a, cells?_c, cells?_a, tupN_2, tupN_3, Option.map_some, Option.some.injEq, List.getElem?_cons_zero, List.getElem?_cons_succ, not_true_eq_false, not_false_eq_true, quiet_same, bytesI_length, Option.join_some, List.append_assoc, List.cons_append, List.nil_append, List.length_append, List.length_cons, List.length_nil, Nat.zero_add, Nat.add_zero, rd_at, rd_at0, set_at, set_at0, List.set_cons_zero, List.set_cons_succ, ne_eq, decide_not, quiet_ext, newOk_some, List.cons_prefix_cons, List.nil_prefix, List.drop_succ_cons, List.drop_zero, List.all_cons, List.all_nil, Bool.and_true, true_and, and_true, aloadN_at, aloadN_at0, aload1_at, aload1_at0, astoreN_at, astoreN_at0, astore1_at, astore1_at0, aslA_at, aslA_at0, ldN_all, ld1_row, stN_all, st1_row, slr_all, Nat.reduceAdd, Nat.reduceMul, Nat.reduceLT, hz, ef, h1, s1, l1, s2, l2, hS, l3, hD, l4, hB, hR, x0, x1, x3, x4, a0, a1, a3, Int.ofNat_zero, Int.reduceEq, Int.cast_ofNat_Int] <;> rfl⟩
  obtain ⟨g', e⟩ := key (ro h)
  exact S_escheatlaw19_works_flat e rfl

end Go.Proofs.Ytbbkpmbepljhkaa
