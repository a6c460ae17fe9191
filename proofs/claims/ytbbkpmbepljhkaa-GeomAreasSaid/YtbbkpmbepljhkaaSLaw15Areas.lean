/- The law of the areas of a layout answers true. -/
import Derived.Test.YtbbkpmbepljhkaaSLaw15
import Derived.Test.YtbbkpmbepljhkaaGEscheatlaw15GeomAreas
set_option linter.all false
namespace Go.Proofs.Ytbbkpmbepljhkaa
open Go Go.Esc

theorem isDat_area {b n x : Int} : isDatL b n x = decide (areaI b n x = 4) := by
  cases c : isDatL b n x with
  | true =>
    obtain ⟨c1, c2, c3⟩ := isDatL_true.1 c
    have c' := mayL_true.1 c1
    have t : datF b n = 2 + n / 8 := by unfold datF tabF tabN; rw [c1]; rfl
    unfold areaI
    rw [if_pos ⟨c1, by omega, c3⟩, if_neg (by omega), if_neg (by omega)]; rfl
  | false =>
    symm
    rw [decide_eq_false_iff_not]
    intro ha
    have hf : ¬ (mayL b n = true ∧ datF b n ≤ x ∧ x < b) := by rw [← isDatL_true, c]; simp
    unfold areaI at ha
    split at ha
    · rename_i hc
      have c' := mayL_true.1 hc.1
      have t : datF b n = 2 + n / 8 := by unfold datF tabF tabN; rw [hc.1]; rfl
      split at ha
      · omega
      · split at ha
        · omega
        · exact hf ⟨hc.1, by omega, hc.2.2⟩
    · omega

theorem geomAreas_loop {b n m x : Int} {g : Heap} {D k : Nat} (hD : D ≤ 18) : ∀ d i q : Nat, i + d = D → d < q →
    ∃ h', escheatlaw15_GeomAreas_l0 k q (.c (.i .i64 x)) (.c (.p g.length 0)) (.c (.sl (g.length + 1) 0 D 1)) (.c (.i .i64 i)) (g ++ [some ⟨layC b n m, true⟩, some ⟨encI (upto D), true⟩]) = some (.c (.b true), h')
  | d, i, 0, _, hm => by omega
  | 0, i, q + 1, hi, hm => by
    have e : i = D := by omega
    subst e
    have c0 : ¬ (i : Int) < i := by omega
    rw [escheatlaw15_GeomAreas_l0_eq]
    exact ⟨_, by simp only [afAddr_p, List.append_nil, if_true, if_false, bnd_some, mp_some, cnd_t, cnd_f, gd_no, gd_tt, gd_tf, gd_ft, gd_ff, alenS_s, alen_sl, alen_ns, abin_add, abin_sub, abin_mul, abin_eql, abin_neq, abin_lss, abin_leq, abin_gtr, abin_geq, abin_seql, abin_sneq, abin_slss, aun_not, aun_neg, aeqB_t, aeqB_f, aconv_i, apick_b, cond_true, cond_false, decide_true, decide_false, Bool.not_true, Bool.not_false, aext_t, ofPart_c, ofPart_a, part?_c, part?_a, cells?_c, cells?_a, tupN_2, tupN_3, Option.map_some, Option.some.injEq, List.getElem?_cons_zero, List.getElem?_cons_succ, not_true_eq_false, not_false_eq_true, quiet_same, bytesI_length, Option.join_some, List.append_assoc, List.cons_append, List.nil_append, List.length_append, List.length_cons, List.length_nil, Nat.zero_add, Nat.add_zero, rd_at, rd_at0, set_at, set_at0, List.set_cons_zero, List.set_cons_succ, ne_eq, decide_not, quiet_ext, newOk_some, List.cons_prefix_cons, List.nil_prefix, List.drop_succ_cons, List.drop_zero, List.all_cons, List.all_nil, Bool.and_true, true_and, and_true, aloadN_at, aloadN_at0, aload1_at, aload1_at0, astoreN_at, astoreN_at0, astore1_at, astore1_at0, aslA_at, aslA_at0, ldN_all, ld1_row, stN_all, st1_row, slr_all, Nat.reduceAdd, Nat.reduceMul, Nat.reduceLT, c0, geom_IsData_eq, ref15_Area_eq, isDat_area, beq_self_eq_true, works15_eq] <;> rfl⟩
  | d + 1, i, q + 1, hi, hm => by
    obtain ⟨h', ih⟩ := geomAreas_loop (b := b) (n := n) (m := m) (x := x) (g := g) (k := k) hD d (i + 1) q (by omega) (by omega)
    have c0 : (i : Int) < D := by omega
    have ea : aiAddrL 1 (.c (.sl (g.length + 1) 0 D 1)) (.c (.i .i64 (i : Int))) = some (.c (.p (g.length + 1) i)) := by rw [iAddrL_of (by omega)]; simp
    have l0 : (encI (upto D))[i]? = some (.i .i64 (i : Int)) := by rw [encI_get, upto_get (by omega)]; rfl
    rw [escheatlaw15_GeomAreas_l0_eq]
    exact ⟨h', by simp only [afAddr_p, List.append_nil, if_true, if_false, bnd_some, mp_some, cnd_t, cnd_f, gd_no, gd_tt, gd_tf, gd_ft, gd_ff, alenS_s, alen_sl, alen_ns, abin_add, abin_sub, abin_mul, abin_eql, abin_neq, abin_lss, abin_leq, abin_gtr, abin_geq, abin_seql, abin_sneq, abin_slss, aun_not, aun_neg, aeqB_t, aeqB_f, aconv_i, apick_b, cond_true, cond_false, decide_true, decide_false, Bool.not_true, Bool.not_false, aext_t, ofPart_c, ofPart_a, part?_c, part?_a, cells?_c, cells?_a, tupN_2, tupN_3, Option.map_some, Option.some.injEq, List.getElem?_cons_zero, List.getElem?_cons_succ, not_true_eq_false, not_false_eq_true, quiet_same, bytesI_length, Option.join_some, List.append_assoc, List.cons_append, List.nil_append, List.length_append, List.length_cons, List.length_nil, Nat.zero_add, Nat.add_zero, rd_at, rd_at0, set_at, set_at0, List.set_cons_zero, List.set_cons_succ, ne_eq, decide_not, quiet_ext, newOk_some, List.cons_prefix_cons, List.nil_prefix, List.drop_succ_cons, List.drop_zero, List.all_cons, List.all_nil, Bool.and_true, true_and, and_true, aloadN_at, aloadN_at0, aload1_at, aload1_at0, astoreN_at, astoreN_at0, astore1_at, astore1_at0, aslA_at, aslA_at0, ldN_all, ld1_row, stN_all, st1_row, slr_all, Nat.reduceAdd, Nat.reduceMul, Nat.reduceLT, c0, ea, l0, wi_succ (show i + 1 < 9223372036854775808 by omega)]; exact ih⟩

theorem geomAreas_eq {b n m x : Int} (h : Heap) : S_escheatlaw15_GeomAreas [.a (layC b n m), .c (.i .i64 x)] h = some (.c (.b true), h) := by
  have hr := datF_range (b := b) (n := n)
  have key : ∀ g, ∃ g', R_escheatlaw15_GeomAreas ((datF b n).toNat + 1) [.a (layC b n m), .c (.i .i64 x)] g = some (.c (.b true), g') := by
    intro g
    obtain ⟨h', e⟩ := geomAreas_loop (b := b) (n := n) (m := m) (x := x) (g := g) (D := (datF b n).toNat) (k := (datF b n).toNat + 1) (by omega) (datF b n).toNat 0 ((datF b n).toNat + 1) (by omega) (by omega)
    have e1 : (((datF b n).toNat : Nat) : Int) = datF b n := by omega
    rw [R_escheatlaw15_GeomAreas_eq]
    exact ⟨h', by simp only [afAddr_p, List.append_nil, if_true, if_false, bnd_some, mp_some, cnd_t, cnd_f, gd_no, gd_tt, gd_tf, gd_ft, gd_ff, alenS_s, alen_sl, alen_ns, abin_add, abin_sub, abin_mul, abin_eql, abin_neq, abin_lss, abin_leq, abin_gtr, abin_geq, abin_seql, abin_sneq, abin_slss, aun_not, aun_neg, aeqB_t, aeqB_f, aconv_i, apick_b, cond_true, cond_false, decide_true, decide_false, Bool.not_true, Bool.not_false, aext_t, ofPart_c, ofPart_a, part?_c, part?_a, cells?_c, cells?_a, tupN_2, tupN_3, Option.map_some, Option.some.injEq, List.getElem?_cons_zero, List.getElem?_cons_succ, not_true_eq_false, not_false_eq_true, quiet_same, bytesI_length, Option.join_some, List.append_assoc, List.cons_append, List.nil_append, List.length_append, List.length_cons, List.length_nil, Nat.zero_add, Nat.add_zero, rd_at, rd_at0, set_at, set_at0, List.set_cons_zero, List.set_cons_succ, ne_eq, decide_not, quiet_ext, newOk_some, List.cons_prefix_cons, List.nil_prefix, List.drop_succ_cons, List.drop_zero, List.all_cons, List.all_nil, Bool.and_true, true_and, and_true, aloadN_at, aloadN_at0, aload1_at, aload1_at0, astoreN_at, astoreN_at0, astore1_at, astore1_at0, aslA_at, aslA_at0, ldN_all, ld1_row, stN_all, st1_row, slr_all, Nat.reduceAdd, Nat.reduceMul, Nat.reduceLT, ref15_Count3_eq, ref15_Count4_eq, geom_Table_eq, geom_Own_eq, geom_Data_eq, geom_Many_eq, e1]; exact e⟩
  obtain ⟨g', e⟩ := key (ro h)
  exact S_escheatlaw15_GeomAreas_flat e rfl

end Go.Proofs.Ytbbkpmbepljhkaa
