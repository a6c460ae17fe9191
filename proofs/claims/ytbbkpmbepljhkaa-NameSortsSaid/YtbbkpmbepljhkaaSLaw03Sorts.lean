/- The law of sorted names answers true. -/
import Derived.Test.YtbbkpmbepljhkaaSSortRef
import Derived.Test.YtbbkpmbepljhkaaSLaw03
import Derived.Test.YtbbkpmbepljhkaaGEscheatlaw03NameSorts
set_option linter.all false
namespace Go.Proofs.Ytbbkpmbepljhkaa
open Go Go.Esc

theorem few_at {l : Txts} {s : List UInt8} (hl : Up l) : fewS l s = atS l s := by
  obtain ⟨h1, h2⟩ := atS_rise (s := s) hl
  have h3 := atS_le l s
  unfold fewS
  conv => lhs; rw [← List.take_append_drop (atS l s) l]
  rw [List.filter_append, List.length_append, List.filter_eq_self.2, List.filter_eq_nil_iff.2]
  · simp; omega
  · intro x hx
    obtain ⟨i, hi⟩ := List.mem_iff_getElem?.1 hx
    rw [List.getElem?_drop] at hi
    rw [h2 _ x (by omega) hi]; simp
  · intro x hx
    obtain ⟨i, hi⟩ := List.mem_iff_getElem?.1 hx
    have hil := (List.getElem?_eq_some_iff.1 hi).1
    rw [List.length_take] at hil
    rw [List.getElem?_take_of_lt (by omega)] at hi
    exact h1 i x (by omega) hi
theorem is_at {l : Txts} {s : List UInt8} (hl : Up l) : isAt l s (atS l s) = decide (s ∈ l) := by
  cases c : isAt l s (atS l s) with
  | true => exact (decide_eq_true ((isAt_iff hl).1 c)).symm
  | false => exact (decide_eq_false fun h => by rw [(isAt_iff hl).2 h] at c; cases c).symm

theorem longS_false {l : Txts} {a b : Nat} (h : longS l a b = false) : l.length ≤ a ∧ ∀ x ∈ l, x.length ≤ b := by
  unfold longS at h
  simp only [Bool.or_eq_false_iff, decide_eq_false_iff_not, List.any_eq_false, decide_eq_true_eq] at h
  refine ⟨by omega, fun x hx => ?_⟩
  have := h.2 x hx
  omega

theorem nameSorts_eq {v : Val} {nv : Nat} {l : Txts} {s : List UInt8} {h : Heap} (hv : Has h v 1 nv (encS l)) (hl : l.length ≤ 9223372036854775807) : S_escheatlaw03_NameSorts [v, .c (.s s)] h = some (.c (.b true), h) := by
  have hn : l.length = nv := by simpa [encS_length] using hv.length
  have key : ∀ g, Has g v 1 nv (encS l) → ∃ g', R_escheatlaw03_NameSorts 0 [v, .c (.s s)] g = some (.c (.b true), g') := by
    intro g hv
    have h1 := ref02_Long_eq (a := 40) (b := 60) hv (by omega)
    rw [R_escheatlaw03_NameSorts_eq]
    cases cl : longS l 40 60 with
    | true =>
      rw [cl] at h1
      exact ⟨_, by simp only [afAddr_p, List.append_nil, if_true, if_false, bnd_some, mp_some, cnd_t, cnd_f, gd_no, gd_tt, gd_tf, gd_ft, gd_ff, alenS_s, alen_sl, alen_ns, abin_add, abin_sub, abin_mul, abin_eql, abin_neq, abin_lss, abin_leq, abin_gtr, abin_geq, abin_seql, abin_sneq, abin_slss, aun_not, aun_neg, aeqB_t, aeqB_f, aconv_i, apick_b, cond_true, cond_false, decide_true, decide_false, Bool.not_true, Bool.not_false, aext_t, ofPart_c, ofPart_a, part?_c, part?_a, cells?_c, cells?_a, tupN_2, tupN_3, Option.map_some, Option.some.injEq, List.getElem?_cons_zero, List.getElem?_cons_succ, not_true_eq_false, not_false_eq_true, quiet_same, bytesI_length, Option.join_some, List.append_assoc, List.cons_append, List.nil_append, List.length_append, List.length_cons, List.length_nil, Nat.zero_add, Nat.add_zero, rd_at, rd_at0, set_at, set_at0, List.set_cons_zero, List.set_cons_succ, ne_eq, decide_not, quiet_ext, newOk_some, List.cons_prefix_cons, List.nil_prefix, List.drop_succ_cons, List.drop_zero, List.all_cons, List.all_nil, Bool.and_true, true_and, and_true, h1, works03_eq] <;> rfl⟩
    | false =>
      rw [cl] at h1
      obtain ⟨b1, b2⟩ := longS_false (a := 40) (b := 60) cl
      by_cases cs : (60 : Int) < s.length
      · exact ⟨_, by simp only [afAddr_p, List.append_nil, if_true, if_false, bnd_some, mp_some, cnd_t, cnd_f, gd_no, gd_tt, gd_tf, gd_ft, gd_ff, alenS_s, alen_sl, alen_ns, abin_add, abin_sub, abin_mul, abin_eql, abin_neq, abin_lss, abin_leq, abin_gtr, abin_geq, abin_seql, abin_sneq, abin_slss, aun_not, aun_neg, aeqB_t, aeqB_f, aconv_i, apick_b, cond_true, cond_false, decide_true, decide_false, Bool.not_true, Bool.not_false, aext_t, ofPart_c, ofPart_a, part?_c, part?_a, cells?_c, cells?_a, tupN_2, tupN_3, Option.map_some, Option.some.injEq, List.getElem?_cons_zero, List.getElem?_cons_succ, not_true_eq_false, not_false_eq_true, quiet_same, bytesI_length, Option.join_some, List.append_assoc, List.cons_append, List.nil_append, List.length_append, List.length_cons, List.length_nil, Nat.zero_add, Nat.add_zero, rd_at, rd_at0, set_at, set_at0, List.set_cons_zero, List.set_cons_succ, ne_eq, decide_not, quiet_ext, newOk_some, List.cons_prefix_cons, List.nil_prefix, List.drop_succ_cons, List.drop_zero, List.all_cons, List.all_nil, Bool.and_true, true_and, and_true, h1, cs, works03_eq] <;> rfl⟩
      · have hb : ∀ x ∈ l, x.length < 9223372036854775807 := fun x hx => by have := b2 x hx; omega
        have hS := ref03_Sort_eq hv (by omega) hb
        have hup := sortS_up l
        have hlen := sortS_length l
        have hb2 : ∀ x ∈ sortS l, x.length < 9223372036854775807 := fun x hx => hb x ((sortS_mem l x).1 hx)
        have hT := name_Sort_eq (hv.more [some (Row.mk (encS (sortS l)) true)]) (by omega)
        simp only [List.length_append, List.length_cons, List.length_nil, Nat.zero_add, List.append_assoc, List.cons_append, List.nil_append] at hT
        have hv2 := hv.more [some (Row.mk (encS (sortS l)) true), some (Row.mk (encS (sortS l)) true)]
        have hP := name_Place_eq (s := s) hv2 (by omega)
        rw [← hn] at hP
        change S_name_Place _ _ = some (.t [.c (.i .i64 (atS l s : Nat)), .c (.b (isAt l s (atS l s)))], _) at hP
        have hF := ref03_Fewer_eq (s := s) hv2 (by omega) hb
        have hR := ref03_Rise_eq hv2 (by omega) hb
        have r1 : Has (g ++ [some (Row.mk (encS (sortS l)) true), some (Row.mk (encS (sortS l)) true)]) (.c (.sl g.length 0 (sortS l).length 1)) 1 (sortS l).length (encS (sortS l)) := Has.row (rw := true) (by simp) (by rw [encS_length]; omega) (noX_encS _)
        have r2 : Has (g ++ [some (Row.mk (encS (sortS l)) true), some (Row.mk (encS (sortS l)) true)]) (.c (.sl (g.length + 1) 0 (sortS l).length 1)) 1 (sortS l).length (encS (sortS l)) := Has.row (rw := true) (by simp) (by rw [encS_length]; omega) (noX_encS _)
        have hP2 := name_Place_eq (s := s) r1 (by omega)
        change S_name_Place _ _ = some (.t [.c (.i .i64 (atS (sortS l) s : Nat)), .c (.b (isAt (sortS l) s (atS (sortS l) s)))], _) at hP2
        have hF2 := ref03_Fewer_eq (s := s) r1 (by omega) hb2
        rw [few_at hup, ← is_at hup] at hF2
        have hX := ref02_Texts_eq r2 r1 (by omega)
        rw [decide_eq_true rfl] at hX
        have k1 := atS_le l s
        have d1 : ¬ ((atS l s : Nat) : Int) < 0 := by omega
        have d2 : ¬ (nv : Int) < (atS l s : Nat) := by omega
        have hal := hv.len
        cases cr : riseB l with
        | true =>
          rw [cr] at hR
          have hu := riseB_pairwise l cr
          rw [few_at hu, ← is_at hu] at hF
          generalize atS (sortS l) s = A at *
          generalize isAt (sortS l) s A = B at *
          generalize atS l s = A' at *
          generalize isAt l s A' = B' at *
          exact ⟨_, by simp only [afAddr_p, List.append_nil, if_true, if_false, bnd_some, mp_some, cnd_t, cnd_f, gd_no, gd_tt, gd_tf, gd_ft, gd_ff, alenS_s, alen_sl, alen_ns, abin_add, abin_sub, abin_mul, abin_eql, abin_neq, abin_lss, abin_leq, abin_gtr, abin_geq, abin_seql, abin_sneq, abin_slss, aun_not, aun_neg, aeqB_t, aeqB_f, aconv_i, apick_b, cond_true, cond_false, decide_true, decide_false, Bool.not_true, Bool.not_false, aext_t, ofPart_c, ofPart_a, part?_c, part?_a, cells?_c, cells?_a, tupN_2, tupN_3, Option.map_some, Option.some.injEq, List.getElem?_cons_zero, List.getElem?_cons_succ, not_true_eq_false, not_false_eq_true, quiet_same, bytesI_length, Option.join_some, List.append_assoc, List.cons_append, List.nil_append, List.length_append, List.length_cons, List.length_nil, Nat.zero_add, Nat.add_zero, rd_at, rd_at0, set_at, set_at0, List.set_cons_zero, List.set_cons_succ, ne_eq, decide_not, quiet_ext, newOk_some, List.cons_prefix_cons, List.nil_prefix, List.drop_succ_cons, List.drop_zero, List.all_cons, List.all_nil, Bool.and_true, true_and, and_true, h1, cs, hS, hT, hP, d1, d2, hal, hF, hR, hP2, hF2, hX, beq_self_eq_true, works03_eq] <;> rfl⟩
        | false =>
          rw [cr] at hR
          generalize atS (sortS l) s = A at *
          generalize isAt (sortS l) s A = B at *
          generalize atS l s = A' at *
          generalize isAt l s A' = B' at *
          exact ⟨_, by simp only [afAddr_p, List.append_nil, if_true, if_false, bnd_some, mp_some, cnd_t, cnd_f, gd_no, gd_tt, gd_tf, gd_ft, gd_ff, alenS_s, alen_sl, alen_ns, abin_add, abin_sub, abin_mul, abin_eql, abin_neq, abin_lss, abin_leq, abin_gtr, abin_geq, abin_seql, abin_sneq, abin_slss, aun_not, aun_neg, aeqB_t, aeqB_f, aconv_i, apick_b, cond_true, cond_false, decide_true, decide_false, Bool.not_true, Bool.not_false, aext_t, ofPart_c, ofPart_a, part?_c, part?_a, cells?_c, cells?_a, tupN_2, tupN_3, Option.map_some, Option.some.injEq, List.getElem?_cons_zero, List.getElem?_cons_succ, not_true_eq_false, not_false_eq_true, quiet_same, bytesI_length, Option.join_some, List.append_assoc, List.cons_append, List.nil_append, List.length_append, List.length_cons, List.length_nil, Nat.zero_add, Nat.add_zero, rd_at, rd_at0, set_at, set_at0, List.set_cons_zero, List.set_cons_succ, ne_eq, decide_not, quiet_ext, newOk_some, List.cons_prefix_cons, List.nil_prefix, List.drop_succ_cons, List.drop_zero, List.all_cons, List.all_nil, Bool.and_true, true_and, and_true, h1, cs, hS, hT, hP, d1, d2, hal, hF, hR, hP2, hF2, hX, beq_self_eq_true, works03_eq] <;> rfl⟩
  obtain ⟨g', e⟩ := key (ro h) hv.ro
  exact S_escheatlaw03_NameSorts_flat e rfl

end Go.Proofs.Ytbbkpmbepljhkaa
