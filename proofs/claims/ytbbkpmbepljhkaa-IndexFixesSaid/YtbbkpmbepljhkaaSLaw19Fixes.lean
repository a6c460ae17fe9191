/- The law of fixed indexes answers true. -/
import Derived.Test.YtbbkpmbepljhkaaSIndexPlain
import Derived.Test.YtbbkpmbepljhkaaSLaw19
import Derived.Test.YtbbkpmbepljhkaaGEscheatlaw19IndexFixes
set_option linter.all false
namespace Go.Proofs.Ytbbkpmbepljhkaa
open Go Go.Esc

theorem fixes_loop {d e : Int} {t u : List Int} {g : Heap} {q : Nat} (ht : t.length = 32) (hu : u.length = 32) (hs : ∀ i, toX u i = 0 ∨ toX u i = toX t i) (hfix : fixX d t = e :: u) : ∀ f i m : Nat, i + f = 32 → f < m →
    ∃ h', escheatlaw19_IndexFixes_l0 q m (.c (.p g.length 0)) (.c (.p (g.length + 1) 0)) (.c (.i .i64 (i : Int))) (g ++ [some (Row.mk (encI (d :: t)) true), some (Row.mk (encI (e :: u)) true)]) = some (.c (.b true), h')
  | f, i, 0, _, hm => by omega
  | 0, i, m + 1, hi, hm => by
    have e0 : i = 32 := by omega
    subst e0
    have c0 : ¬ ((32 : Nat) : Int) < 32 := by omega
    have hB := encX_length (d := d) ht
    have hU := encX_length (d := e) hu
    have hR := fun h => index_Right_eq (d := d) (t := t) (h := h) ht
    have hE := aeqI_f (l := e :: u) (m := d :: t) (n := 33) (by simp [hu]) (by simp [ht])
    rw [escheatlaw19_IndexFixes_l0_eq, sh33]
    cases cr : rightX d t with
    | false =>
      rw [cr] at hR
      generalize encI (d :: t) = y at *
      generalize encI (e :: u) = z at *
      exact ⟨_, by simp only [afAddr_p, List.append_nil, if_true, if_false, bnd_some, mp_some, cnd_t, cnd_f, gd_no, gd_tt, gd_tf, gd_ft, gd_ff, alenS_s, alen_sl, alen_ns, abin_add, abin_sub, abin_mul, abin_eql, abin_neq, abin_lss, abin_leq, abin_gtr, abin_geq, abin_seql, abin_sneq, abin_slss, aun_not, aun_neg, aeqB_t, aeqB_f, aconv_i, apick_b, cond_true, cond_false, decide_true, decide_false, Bool.not_true, Bool.not_false, aext_t, ofPart_c, ofPart_a, part?_c, part?_a, cells?_c, cells?_a, tupN_2, tupN_3, Option.map_some, Option.some.injEq, List.getElem?_cons_zero, List.getElem?_cons_succ, not_true_eq_false, not_false_eq_true, quiet_same, bytesI_length, Option.join_some, List.append_assoc, List.cons_append, List.nil_append, List.length_append, List.length_cons, List.length_nil, Nat.zero_add, Nat.add_zero, rd_at, rd_at0, set_at, set_at0, List.set_cons_zero, List.set_cons_succ, ne_eq, decide_not, quiet_ext, newOk_some, List.cons_prefix_cons, List.nil_prefix, List.drop_succ_cons, List.drop_zero, List.all_cons, List.all_nil, Bool.and_true, true_and, and_true, aloadN_at, aloadN_at0, aload1_at, aload1_at0, astoreN_at, astoreN_at0, astore1_at, astore1_at0, aslA_at, aslA_at0, ldN_all, ld1_row, stN_all, st1_row, slr_all, Nat.reduceAdd, Nat.reduceMul, Nat.reduceLT, c0, hB, hR, works19_eq] <;> rfl⟩
    | true =>
      rw [cr] at hR
      have : e :: u = d :: t := by rw [← hfix]; exact (right_iff.1 cr).2.2
      rw [decide_eq_true this] at hE
      generalize encI (d :: t) = y at *
      generalize encI (e :: u) = z at *
      exact ⟨_, by simp only [afAddr_p, List.append_nil, if_true, if_false, bnd_some, mp_some, cnd_t, cnd_f, gd_no, gd_tt, gd_tf, gd_ft, gd_ff, alenS_s, alen_sl, alen_ns, abin_add, abin_sub, abin_mul, abin_eql, abin_neq, abin_lss, abin_leq, abin_gtr, abin_geq, abin_seql, abin_sneq, abin_slss, aun_not, aun_neg, aeqB_t, aeqB_f, aconv_i, apick_b, cond_true, cond_false, decide_true, decide_false, Bool.not_true, Bool.not_false, aext_t, ofPart_c, ofPart_a, part?_c, part?_a, cells?_c, cells?_a, tupN_2, tupN_3, Option.map_some, Option.some.injEq, List.getElem?_cons_zero, List.getElem?_cons_succ, not_true_eq_false, not_false_eq_true, quiet_same, bytesI_length, Option.join_some, List.append_assoc, List.cons_append, List.nil_append, List.length_append, List.length_cons, List.length_nil, Nat.zero_add, Nat.add_zero, rd_at, rd_at0, set_at, set_at0, List.set_cons_zero, List.set_cons_succ, ne_eq, decide_not, quiet_ext, newOk_some, List.cons_prefix_cons, List.nil_prefix, List.drop_succ_cons, List.drop_zero, List.all_cons, List.all_nil, Bool.and_true, true_and, and_true, aloadN_at, aloadN_at0, aload1_at, aload1_at0, astoreN_at, astoreN_at0, astore1_at, astore1_at0, aslA_at, aslA_at0, ldN_all, ld1_row, stN_all, st1_row, slr_all, Nat.reduceAdd, Nat.reduceMul, Nat.reduceLT, c0, hB, hU, hR, hE, works19_eq] <;> rfl⟩
  | f + 1, i, m + 1, hi, hm => by
    obtain ⟨h', ih⟩ := fixes_loop (g := g) (q := q) ht hu hs hfix f (i + 1) m (by omega) (by omega)
    have c0 : (i : Int) < 32 := by omega
    have a1 := adX (id := g.length) (i := i) (by omega)
    have a2 := adX (id := g.length + 1) (i := i) (by omega)
    have x1 := encX_get (d := d) (i := i) ht (by omega)
    have x2 := encX_get (d := e) (i := i) hu (by omega)
    have w1 := wi_succ (show i + 1 < 9223372036854775808 by omega)
    rw [escheatlaw19_IndexFixes_l0_eq]
    by_cases cz : toX u i = 0
    · rw [cz] at x2
      generalize encI (d :: t) = y at *
      generalize encI (e :: u) = z at *
      exact ⟨h', by simp only [afAddr_p, List.append_nil, if_true, if_false, bnd_some, mp_some, cnd_t, cnd_f, gd_no, gd_tt, gd_tf, gd_ft, gd_ff, alenS_s, alen_sl, alen_ns, abin_add, abin_sub, abin_mul, abin_eql, abin_neq, abin_lss, abin_leq, abin_gtr, abin_geq, abin_seql, abin_sneq, abin_slss, aun_not, aun_neg, aeqB_t, aeqB_f, aconv_i, apick_b, cond_true, cond_false, decide_true, decide_false, Bool.not_true, Bool.not_false, aext_t, ofPart_c, ofPart_a, part?_c, part?_a, cells?_c, cells?_a, tupN_2, tupN_3, Option.map_some, Option.some.injEq, List.getElem?_cons_zero, List.getElem?_cons_succ, not_true_eq_false, not_false_eq_true, quiet_same, bytesI_length, Option.join_some, List.append_assoc, List.cons_append, List.nil_append, List.length_append, List.length_cons, List.length_nil, Nat.zero_add, Nat.add_zero, rd_at, rd_at0, set_at, set_at0, List.set_cons_zero, List.set_cons_succ, ne_eq, decide_not, quiet_ext, newOk_some, List.cons_prefix_cons, List.nil_prefix, List.drop_succ_cons, List.drop_zero, List.all_cons, List.all_nil, Bool.and_true, true_and, and_true, aloadN_at, aloadN_at0, aload1_at, aload1_at0, astoreN_at, astoreN_at0, astore1_at, astore1_at0, aslA_at, aslA_at0, ldN_all, ld1_row, stN_all, st1_row, slr_all, Nat.reduceAdd, Nat.reduceMul, Nat.reduceLT, c0, a1, a2, x1, x2, w1]; exact ih⟩
    · have ce : toX u i = toX t i := by
        rcases hs i with h | h
        · exact absurd h cz
        · exact h
      rw [ce] at x2 cz
      generalize encI (d :: t) = y at *
      generalize encI (e :: u) = z at *
      exact ⟨h', by simp only [afAddr_p, List.append_nil, if_true, if_false, bnd_some, mp_some, cnd_t, cnd_f, gd_no, gd_tt, gd_tf, gd_ft, gd_ff, alenS_s, alen_sl, alen_ns, abin_add, abin_sub, abin_mul, abin_eql, abin_neq, abin_lss, abin_leq, abin_gtr, abin_geq, abin_seql, abin_sneq, abin_slss, aun_not, aun_neg, aeqB_t, aeqB_f, aconv_i, apick_b, cond_true, cond_false, decide_true, decide_false, Bool.not_true, Bool.not_false, aext_t, ofPart_c, ofPart_a, part?_c, part?_a, cells?_c, cells?_a, tupN_2, tupN_3, Option.map_some, Option.some.injEq, List.getElem?_cons_zero, List.getElem?_cons_succ, not_true_eq_false, not_false_eq_true, quiet_same, bytesI_length, Option.join_some, List.append_assoc, List.cons_append, List.nil_append, List.length_append, List.length_cons, List.length_nil, Nat.zero_add, Nat.add_zero, rd_at, rd_at0, set_at, set_at0, List.set_cons_zero, List.set_cons_succ, ne_eq, decide_not, quiet_ext, newOk_some, List.cons_prefix_cons, List.nil_prefix, List.drop_succ_cons, List.drop_zero, List.all_cons, List.all_nil, Bool.and_true, true_and, and_true, aloadN_at, aloadN_at0, aload1_at, aload1_at0, astoreN_at, astoreN_at0, astore1_at, astore1_at0, aslA_at, aslA_at0, ldN_all, ld1_row, stN_all, st1_row, slr_all, Nat.reduceAdd, Nat.reduceMul, Nat.reduceLT, c0, a1, a2, x1, x2, cz, w1]; exact ih⟩

theorem indexFixes_eq {d : Int} {t : List Int} (h : Heap) (ht : t.length = 32) : S_escheatlaw19_IndexFixes [.a (encI (d :: t))] h = some (.c (.b true), h) := by
  have key : ∀ N, 32 < N → ∀ g, ∃ g', R_escheatlaw19_IndexFixes N [.a (encI (d :: t))] g = some (.c (.b true), g') := by
    intro N hN g
    obtain ⟨e, u, f1, hu, f2, f3, f4, hs⟩ := fix_parts d t
    have hB := encX_length (d := d) ht
    have hU := encX_length (d := e) hu
    have hz : (encI (0 :: zI 32)).length = 33 := encX_length (d := 0) zI_length
    have hF := fun h => index_Fix_eq (d := d) (t := t) (h := h) ht
    rw [f1] at hF
    have hF2 := fun h => index_Fix_eq (d := e) (t := u) (h := h) hu
    rw [f2] at hF2
    have hR := fun h => index_Right_eq (d := e) (t := u) (h := h) hu
    rw [right_fixed f3 f4 f2] at hR
    have hE := aeqI_t (l := e :: u) (m := e :: u) (n := 33) (by simp [hu]) (by simp [hu])
    rw [decide_eq_true rfl] at hE
    obtain ⟨h', ih⟩ := fixes_loop (d := d) (g := g) (q := N) ht hu hs f1 32 0 N (by omega) hN
    rw [R_escheatlaw19_IndexFixes_eq, zI_enc, sh33]
    generalize encI (0 :: zI 32) = z0 at *
    generalize encI (d :: t) = y at *
    generalize encI (e :: u) = z at *
    exact ⟨h', by simp only [afAddr_p, List.append_nil, if_true, if_false, bnd_some, mp_some, cnd_t, cnd_f, gd_no, gd_tt, gd_tf, gd_ft, gd_ff, alenS_s, alen_sl, alen_ns, abin_add, abin_sub, abin_mul, abin_eql, abin_neq, abin_lss, abin_leq, abin_gtr, abin_geq, abin_seql, abin_sneq, abin_slss, aun_not, aun_neg, aeqB_t, aeqB_f, aconv_i, apick_b, cond_true, cond_false, decide_true, decide_false, Bool.not_true, Bool.not_false, aext_t, ofPart_c, ofPart_a, part?_c, part?_a, cells?_c, cells?_a, tupN_2, tupN_3, Option.map_some, Option.some.injEq, List.getElem?_cons_zero, List.getElem?_cons_succ, not_true_eq_false, not_false_eq_true, quiet_same, bytesI_length, Option.join_some, List.append_assoc, List.cons_append, List.nil_append, List.length_append, List.length_cons, List.length_nil, Nat.zero_add, Nat.add_zero, rd_at, rd_at0, set_at, set_at0, List.set_cons_zero, List.set_cons_succ, ne_eq, decide_not, quiet_ext, newOk_some, List.cons_prefix_cons, List.nil_prefix, List.drop_succ_cons, List.drop_zero, List.all_cons, List.all_nil, Bool.and_true, true_and, and_true, aloadN_at, aloadN_at0, aload1_at, aload1_at0, astoreN_at, astoreN_at0, astore1_at, astore1_at0, aslA_at, aslA_at0, ldN_all, ld1_row, stN_all, st1_row, slr_all, Nat.reduceAdd, Nat.reduceMul, Nat.reduceLT, hB, hU, hz, hF, hF2, hR, hE]; exact ih⟩
  obtain ⟨g', e⟩ := key (h.length + 33) (by omega) (ro h)
  exact S_escheatlaw19_IndexFixes_flat e rfl

end Go.Proofs.Ytbbkpmbepljhkaa
