/- The law of the bytes of an inode answers true. -/
import Derived.Test.YtbbkpmbepljhkaaSLaw16
import Derived.Test.YtbbkpmbepljhkaaSRef16
import Derived.Test.YtbbkpmbepljhkaaGEscheatlaw16InodePuts
set_option linter.all false
namespace Go.Proofs.Ytbbkpmbepljhkaa
open Go Go.Esc

theorem inodePuts_loop {k l s p : Int} {d : List Int} {g : Heap} {q : Nat} (hd : d.length = 7) : ∀ e i m : Nat, i + e = 6 → e < m →
    ∃ h', escheatlaw16_InodePuts_l0 q m (.c (.p g.length 0)) (.c (.p (g.length + 1) 0)) (.c (.i .i64 (bif mayI k l s p d then 0 else 1))) (.c (.p (g.length + 2) 0)) (.c (.i .i64 i)) (g ++ [some ⟨inoC k l s p d, true⟩, some ⟨encB (bif mayI k l s p d then inoB k l s p d else zeros 32), true⟩, some ⟨encI d, true⟩]) = some (.c (.b true), h')
  | e, i, 0, _, hm => by omega
  | 0, i, m + 1, hi, hm => by
    have e0 : i = 6 := by omega
    subst e0
    have c0 : ¬ ((6 : Nat) : Int) < 6 := by omega
    have a0 : aiAddrA 7 1 (.c (.p (g.length + 2) 0)) (.c (.i .i64 6)) = some (.c (.p (g.length + 2) 6)) := rfl
    have l1 : (encI d)[6]? = some (.i .i64 d[6]) := by rw [encI_get, List.getElem?_eq_getElem (by omega)]; rfl
    have hlen : (inoC k l s p d).length = 11 := by simp [encI_length, hd]
    have hE : (encI d).length = 7 := by rw [encI_length, hd]
    have hM := fun h => ref16_May_eq (k := k) (l := l) (s := s) (p := p) (h := h) hd
    rw [escheatlaw16_InodePuts_l0_eq]
    cases c : mayI k l s p d with
    | false =>
      simp only [c] at hM
      have haf : afill (List.replicate 32 (Cell.i .u8 0)) [] = some (List.replicate 32 (Cell.i .u8 0)) := rfl
      have hq := aeq_f (l := zeros 32) (m := zeros 32) zeros_length zeros_length
      have hz : (encB (zeros 32)).length = 32 := by rw [encB_length]; exact zeros_length
      rw [zeros_enc] at haf ⊢
      simp only [cond_false]
      generalize zeros 32 = z at *
      exact ⟨_, by simp only [afAddr_p, List.append_nil, if_true, if_false, bnd_some, mp_some, cnd_t, cnd_f, gd_no, gd_tt, gd_tf, gd_ft, gd_ff, alenS_s, alen_sl, alen_ns, abin_add, abin_sub, abin_mul, abin_eql, abin_neq, abin_lss, abin_leq, abin_gtr, abin_geq, abin_seql, abin_sneq, abin_slss, aun_not, aun_neg, aeqB_t, aeqB_f, aconv_i, apick_b, cond_true, cond_false, decide_true, decide_false, Bool.not_true, Bool.not_false, aext_t, ofPart_c, ofPart_a, part?_c, part?_a, cells?_c, cells?_a, tupN_2, tupN_3, Option.map_some, Option.some.injEq, List.getElem?_cons_zero, List.getElem?_cons_succ, not_true_eq_false, not_false_eq_true, quiet_same, bytesI_length, Option.join_some, List.append_assoc, List.cons_append, List.nil_append, List.length_append, List.length_cons, List.length_nil, Nat.zero_add, Nat.add_zero, rd_at, rd_at0, set_at, set_at0, List.set_cons_zero, List.set_cons_succ, ne_eq, decide_not, quiet_ext, newOk_some, List.cons_prefix_cons, List.nil_prefix, List.drop_succ_cons, List.drop_zero, List.all_cons, List.all_nil, Bool.and_true, true_and, and_true, aloadN_at, aloadN_at0, aload1_at, aload1_at0, astoreN_at, astoreN_at0, astore1_at, astore1_at0, aslA_at, aslA_at0, ldN_all, ld1_row, stN_all, st1_row, slr_all, Nat.reduceAdd, Nat.reduceMul, Nat.reduceLT, c0, a0, l1, hE, hM, hz, haf, hq, works16_eq] <;> rfl⟩
    | true =>
      simp only [c] at hM
      simp only [cond_true]
      have hB : (inoB k l s p d).length = 32 := inoB_length hd
      have hB' : (encB (inoB k l s p d)).length = 32 := by rw [encB_length, hB]
      have hP := fun h => ref16_Put_eq (k := k) (l := l) (s := s) (p := p) (h := h) hd
      have hS := ref01_Same_eq (h := g ++ [some ⟨inoC k l s p d, true⟩, some ⟨encB (inoB k l s p d), true⟩, some ⟨encI d, true⟩, some ⟨encB (inoB k l s p d), true⟩]) (v := .c (.sl (g.length + 1) 0 32 1)) (nv := 32) (u := .c (.sl (g.length + 3) 0 32 1)) (nu := 32) (l := inoB k l s p d) (r := inoB k l s p d)
        (Has.tr (by simp) (by rw [encB_length, hB]) (noX_encB _)) (Has.tr (by simp) (by rw [encB_length, hB]) (noX_encB _)) (by rw [hB]; omega)
      exact ⟨_, by simp only [afAddr_p, List.append_nil, if_true, if_false, bnd_some, mp_some, cnd_t, cnd_f, gd_no, gd_tt, gd_tf, gd_ft, gd_ff, alenS_s, alen_sl, alen_ns, abin_add, abin_sub, abin_mul, abin_eql, abin_neq, abin_lss, abin_leq, abin_gtr, abin_geq, abin_seql, abin_sneq, abin_slss, aun_not, aun_neg, aeqB_t, aeqB_f, aconv_i, apick_b, cond_true, cond_false, decide_true, decide_false, Bool.not_true, Bool.not_false, aext_t, ofPart_c, ofPart_a, part?_c, part?_a, cells?_c, cells?_a, tupN_2, tupN_3, Option.map_some, Option.some.injEq, List.getElem?_cons_zero, List.getElem?_cons_succ, not_true_eq_false, not_false_eq_true, quiet_same, bytesI_length, Option.join_some, List.append_assoc, List.cons_append, List.nil_append, List.length_append, List.length_cons, List.length_nil, Nat.zero_add, Nat.add_zero, rd_at, rd_at0, set_at, set_at0, List.set_cons_zero, List.set_cons_succ, ne_eq, decide_not, quiet_ext, newOk_some, List.cons_prefix_cons, List.nil_prefix, List.drop_succ_cons, List.drop_zero, List.all_cons, List.all_nil, Bool.and_true, true_and, and_true, aloadN_at, aloadN_at0, aload1_at, aload1_at0, astoreN_at, astoreN_at0, astore1_at, astore1_at0, aslA_at, aslA_at0, ldN_all, ld1_row, stN_all, st1_row, slr_all, Nat.reduceAdd, Nat.reduceMul, Nat.reduceLT, c0, a0, l1, hE, hM, hB', hP, hS, works16_eq] <;> rfl⟩
  | e + 1, i, m + 1, hi, hm => by
    obtain ⟨h', ih⟩ := inodePuts_loop (k := k) (l := l) (s := s) (p := p) (g := g) (q := q) hd e (i + 1) m (by omega) (by omega)
    have c0 : (i : Int) < 6 := by omega
    have a0 : aiAddrA 7 1 (.c (.p (g.length + 2) 0)) (.c (.i .i64 (i : Int))) = some (.c (.p (g.length + 2) i)) := by rw [iAddrA_of (by omega)]; simp
    have a1 : aiAddrA 6 1 (.c (.p g.length 4)) (.c (.i .i64 (i : Int))) = some (.c (.p g.length (i + 1 + 1 + 1 + 1))) := by rw [iAddrA_of (by omega)]; congr 3; omega
    have l1 : (encI d)[i]? = some (.i .i64 d[i]) := by rw [encI_get, List.getElem?_eq_getElem (by omega)]; rfl
    rw [escheatlaw16_InodePuts_l0_eq]
    exact ⟨h', by simp only [afAddr_p, List.append_nil, if_true, if_false, bnd_some, mp_some, cnd_t, cnd_f, gd_no, gd_tt, gd_tf, gd_ft, gd_ff, alenS_s, alen_sl, alen_ns, abin_add, abin_sub, abin_mul, abin_eql, abin_neq, abin_lss, abin_leq, abin_gtr, abin_geq, abin_seql, abin_sneq, abin_slss, aun_not, aun_neg, aeqB_t, aeqB_f, aconv_i, apick_b, cond_true, cond_false, decide_true, decide_false, Bool.not_true, Bool.not_false, aext_t, ofPart_c, ofPart_a, part?_c, part?_a, cells?_c, cells?_a, tupN_2, tupN_3, Option.map_some, Option.some.injEq, List.getElem?_cons_zero, List.getElem?_cons_succ, not_true_eq_false, not_false_eq_true, quiet_same, bytesI_length, Option.join_some, List.append_assoc, List.cons_append, List.nil_append, List.length_append, List.length_cons, List.length_nil, Nat.zero_add, Nat.add_zero, rd_at, rd_at0, set_at, set_at0, List.set_cons_zero, List.set_cons_succ, ne_eq, decide_not, quiet_ext, newOk_some, List.cons_prefix_cons, List.nil_prefix, List.drop_succ_cons, List.drop_zero, List.all_cons, List.all_nil, Bool.and_true, true_and, and_true, aloadN_at, aloadN_at0, aload1_at, aload1_at0, astoreN_at, astoreN_at0, astore1_at, astore1_at0, aslA_at, aslA_at0, ldN_all, ld1_row, stN_all, st1_row, slr_all, Nat.reduceAdd, Nat.reduceMul, Nat.reduceLT, c0, a0, a1, l1, wi_succ (show i + 1 < 9223372036854775808 by omega)]; exact ih⟩

theorem inodePuts_eq {k l s p : Int} {d : List Int} (h : Heap) (hd : d.length = 7) : S_escheatlaw16_InodePuts [.a (inoC k l s p d)] h = some (.c (.b true), h) := by
  have key : ∀ N, 7 < N → ∀ g, ∃ g', R_escheatlaw16_InodePuts N [.a (inoC k l s p d)] g = some (.c (.b true), g') := by
    intro N hN g
    obtain ⟨h', e⟩ := inodePuts_loop (k := k) (l := l) (s := s) (p := p) (g := g) (q := N) hd 6 0 N (by omega) (by omega)
    have hE : (encI d).length = 7 := by rw [encI_length, hd]
    have hP := fun h => inode_Put_eq (k := k) (l := l) (s := s) (p := p) (h := h) hd
    have hz : (List.replicate 32 (Cell.i .u8 0)).length = 32 := List.length_replicate
    have hB : (encB (bif mayI k l s p d then inoB k l s p d else zeros 32)).length = 32 := by
      rw [encB_length]
      cases mayI k l s p d
      · exact zeros_length
      · exact inoB_length hd
    rw [R_escheatlaw16_InodePuts_eq]
    generalize List.replicate 32 (Cell.i .u8 0) = z at *
    generalize (bif mayI k l s p d then inoB k l s p d else zeros 32) = B at *
    exact ⟨h', by simp only [afAddr_p, List.append_nil, if_true, if_false, bnd_some, mp_some, cnd_t, cnd_f, gd_no, gd_tt, gd_tf, gd_ft, gd_ff, alenS_s, alen_sl, alen_ns, abin_add, abin_sub, abin_mul, abin_eql, abin_neq, abin_lss, abin_leq, abin_gtr, abin_geq, abin_seql, abin_sneq, abin_slss, aun_not, aun_neg, aeqB_t, aeqB_f, aconv_i, apick_b, cond_true, cond_false, decide_true, decide_false, Bool.not_true, Bool.not_false, aext_t, ofPart_c, ofPart_a, part?_c, part?_a, cells?_c, cells?_a, tupN_2, tupN_3, Option.map_some, Option.some.injEq, List.getElem?_cons_zero, List.getElem?_cons_succ, not_true_eq_false, not_false_eq_true, quiet_same, bytesI_length, Option.join_some, List.append_assoc, List.cons_append, List.nil_append, List.length_append, List.length_cons, List.length_nil, Nat.zero_add, Nat.add_zero, rd_at, rd_at0, set_at, set_at0, List.set_cons_zero, List.set_cons_succ, ne_eq, decide_not, quiet_ext, newOk_some, List.cons_prefix_cons, List.nil_prefix, List.drop_succ_cons, List.drop_zero, List.all_cons, List.all_nil, Bool.and_true, true_and, and_true, aloadN_at, aloadN_at0, aload1_at, aload1_at0, astoreN_at, astoreN_at0, astore1_at, astore1_at0, aslA_at, aslA_at0, ldN_all, ld1_row, stN_all, st1_row, slr_all, Nat.reduceAdd, Nat.reduceMul, Nat.reduceLT, hE, hP, hz, hB, inode_Check_eq hd, inode_Numbers_eq hd]; exact e⟩
  obtain ⟨g', e⟩ := key (h.length + 8) (by omega) (ro h)
  exact S_escheatlaw16_InodePuts_flat e rfl

end Go.Proofs.Ytbbkpmbepljhkaa
