/- The law that an inode is got again answers true. -/
import Derived.Test.YtbbkpmbepljhkaaSLaw16
import Derived.Test.YtbbkpmbepljhkaaGEscheatlaw16InodeBack
set_option linter.all false
namespace Go.Proofs.Ytbbkpmbepljhkaa
open Go Go.Esc

theorem le_bytes_small {w : Nat} {v : Int} (h0 : 0 ≤ v) (h1 : v < 256 ^ w) : ((le (bytesI w v) : Nat) : Int) = v := by
  rw [le_bytesI, Int.emod_eq_of_lt h0 h1]

theorem field_of {a w : Nat} {x : List UInt8} {y z : List UInt8} (hx : x.length = a) (hy : y.length = w) : fieldN (x ++ (y ++ z)) a w = ((le y : Nat) : Int) := by
  unfold fieldN
  rw [List.drop_left' hx, List.take_left' hy]

theorem inoD_split {d : List Int} {i : Nat} (hi : i < d.length) : inoD d = inoD (d.take i) ++ (bytesI 2 d[i] ++ inoD (d.drop (i + 1))) := by
  have h : d = d.take i ++ (d[i] :: d.drop (i + 1)) := by rw [← List.drop_eq_getElem_cons hi, List.take_append_drop]
  have e : inoD (d.take i ++ (d[i] :: d.drop (i + 1))) = inoD (d.take i) ++ (bytesI 2 d[i] ++ inoD (d.drop (i + 1))) := by
    simp only [inoD, List.map_append, List.flatten_append, List.map_cons, List.flatten_cons]
  rw [← e, ← h]

theorem mayI_small {k l s p : Int} {d : List Int} (hm : mayI k l s p d = true) : (0 ≤ k ∧ k ≤ 2) ∧ (0 ≤ l ∧ l ≤ 65535) ∧ (0 ≤ s ∧ s ≤ 34304) ∧ (0 ≤ p ∧ p ≤ 65535) ∧ ∀ x ∈ d, 0 ≤ x ∧ x ≤ 65535 := by
  unfold mayI at hm
  split at hm
  · have := of_decide_eq_true hm
    obtain ⟨rfl, rfl, rfl, rfl⟩ := this
    refine ⟨by omega, by omega, by omega, by omega, fun x hx => ?_⟩
    have := (List.mem_replicate.1 hx).2
    omega
  · unfold restI at hm
    simp only [Bool.and_eq_true, decide_eq_true_eq, smallI_true, List.all_eq_true] at hm
    obtain ⟨h1, h2, h3, h4, h5⟩ := hm
    exact ⟨h1, h2, h4, h3, h5⟩

/-- The fields of an inode's bytes. -/
theorem get_ino {k l s p : Int} {d : List Int} (hd : d.length = 7) (hm : mayI k l s p d = true) :
    getK (inoB k l s p d) = k ∧ getL (inoB k l s p d) = l ∧ getS (inoB k l s p d) = s ∧ getP (inoB k l s p d) = p ∧ getD7 (inoB k l s p d) = d := by
  obtain ⟨h1, h2, h3, h4, h5⟩ := mayI_small hm
  have eK : inoB k l s p d = [] ++ (bytesI 1 k ++ (zeros 1 ++ bytesI 2 l ++ bytesI 4 s ++ bytesI 2 p ++ inoD d ++ zeros 8)) := by simp [inoB, inoH]
  have eL : inoB k l s p d = (bytesI 1 k ++ zeros 1) ++ (bytesI 2 l ++ (bytesI 4 s ++ bytesI 2 p ++ inoD d ++ zeros 8)) := by simp [inoB, inoH]
  have eS : inoB k l s p d = (bytesI 1 k ++ zeros 1 ++ bytesI 2 l) ++ (bytesI 4 s ++ (bytesI 2 p ++ inoD d ++ zeros 8)) := by simp [inoB, inoH]
  have eP : inoB k l s p d = (bytesI 1 k ++ zeros 1 ++ bytesI 2 l ++ bytesI 4 s) ++ (bytesI 2 p ++ (inoD d ++ zeros 8)) := by simp [inoB, inoH]
  refine ⟨?_, ?_, ?_, ?_, ?_⟩
  · unfold getK; rw [eK, field_of (by simp) (by simp), le_bytes_small h1.1 (by omega)]
  · unfold getL; rw [eL, field_of (by simp) (by simp), le_bytes_small h2.1 (by omega)]
  · unfold getS; rw [eS, field_of (by simp) (by simp), le_bytes_small h3.1 (by omega)]
  · unfold getP; rw [eP, field_of (by simp) (by simp), le_bytes_small h4.1 (by omega)]
  · refine List.ext_getElem? fun i => ?_
    by_cases hi : i < 7
    · rw [getD7_get hi, List.getElem?_eq_getElem (by omega)]
      have hmem := h5 d[i] (List.getElem_mem (by omega))
      have e : inoB k l s p d = (inoH k l s p ++ inoD (d.take i)) ++ (bytesI 2 d[i] ++ (inoD (d.drop (i + 1)) ++ zeros 8)) := by
        unfold inoB
        rw [inoD_split (d := d) (i := i) (by omega)]
        simp
      rw [e, field_of (by rw [List.length_append, inoH_length, inoD_length, List.length_take]; omega) (by simp), le_bytes_small hmem.1 (by omega)]
    · rw [List.getElem?_eq_none (by rw [getD7_length]; omega), List.getElem?_eq_none (by omega)]

theorem clean_ino {k l s p : Int} {d : List Int} (hd : d.length = 7) (hm : mayI k l s p d = true) : cleanI (inoB k l s p d) = true ∧ cleanC (inoB k l s p d) = inoC k l s p d := by
  obtain ⟨h1, h2, h3, h4, h5⟩ := get_ino hd hm
  have hc : cleanI (inoB k l s p d) = true := by
    unfold cleanI
    rw [h1, h2, h3, h4, h5, hm]
    simp
  refine ⟨hc, ?_⟩
  unfold cleanC
  rw [hc, h1, h2, h3, h4, h5]; rfl

theorem inodeBack_eq {k l s p k' l' s' p' : Int} {d d' : List Int} (h : Heap) (hd : d.length = 7) (hd' : d'.length = 7) : S_escheatlaw16_InodeBack [.a (inoC k l s p d), .a (inoC k' l' s' p' d')] h = some (.c (.b true), h) := by
  have key : ∀ g, ∃ g', R_escheatlaw16_InodeBack 0 [.a (inoC k l s p d), .a (inoC k' l' s' p' d')] g = some (.c (.b true), g') := by
    intro g
    have hE : (encI d).length = 7 := by rw [encI_length, hd]
    have hE' : (encI d').length = 7 := by rw [encI_length, hd']
    have hP := fun h => inode_Put_eq (k := k) (l := l) (s := s) (p := p) (h := h) hd
    have hP' := fun h => inode_Put_eq (k := k') (l := l') (s := s') (p := p') (h := h) hd'
    have hz : (List.replicate 32 (Cell.i .u8 0)).length = 32 := List.length_replicate
    have z11 : [Cell.i .i64 0, .i .i64 0, .i .i64 0, .i .i64 0, .i .i64 0, .i .i64 0, .i .i64 0, .i .i64 0, .i .i64 0, .i .i64 0, .i .i64 0] = inoC 0 0 0 0 (zI 7) := rfl
    have l11 : (inoC 0 0 0 0 (zI 7)).length = 11 := rfl
    have hI : (inoC k l s p d).length = 11 := by simp [encI_length, hd]
    have hI' : (inoC k' l' s' p' d').length = 11 := by simp [encI_length, hd']
    rw [R_escheatlaw16_InodeBack_eq, z11]
    generalize List.replicate 32 (Cell.i .u8 0) = z at *
    generalize inoC 0 0 0 0 (zI 7) = y at *
    cases c : mayI k l s p d with
    | false =>
      simp only [c, cond_false] at hP
      have hZ : (encB (zeros 32)).length = 32 := by rw [encB_length]; exact zeros_length
      cases c' : mayI k' l' s' p' d' with
      | false =>
        simp only [c', cond_false] at hP'
        exact ⟨_, by simp only [afAddr_p, List.append_nil, if_true, if_false, bnd_some, mp_some, cnd_t, cnd_f, gd_no, gd_tt, gd_tf, gd_ft, gd_ff, alenS_s, alen_sl, alen_ns, abin_add, abin_sub, abin_mul, abin_eql, abin_neq, abin_lss, abin_leq, abin_gtr, abin_geq, abin_seql, abin_sneq, abin_slss, aun_not, aun_neg, aeqB_t, aeqB_f, aconv_i, apick_b, cond_true, cond_false, decide_true, decide_false, Bool.not_true, Bool.not_false, aext_t, ofPart_c, ofPart_a, part?_c, part?_a, cells?_c, cells?_a, tupN_2, tupN_3, Option.map_some, Option.some.injEq, List.getElem?_cons_zero, List.getElem?_cons_succ, not_true_eq_false, not_false_eq_true, quiet_same, bytesI_length, Option.join_some, List.append_assoc, List.cons_append, List.nil_append, List.length_append, List.length_cons, List.length_nil, Nat.zero_add, Nat.add_zero, rd_at, rd_at0, set_at, set_at0, List.set_cons_zero, List.set_cons_succ, ne_eq, decide_not, quiet_ext, newOk_some, List.cons_prefix_cons, List.nil_prefix, List.drop_succ_cons, List.drop_zero, List.all_cons, List.all_nil, Bool.and_true, true_and, and_true, aloadN_at, aloadN_at0, aload1_at, aload1_at0, astoreN_at, astoreN_at0, astore1_at, astore1_at0, aslA_at, aslA_at0, ldN_all, ld1_row, stN_all, st1_row, slr_all, Nat.reduceAdd, Nat.reduceMul, Nat.reduceLT, hE, hE', hP, hP', hz, hZ, Int.reduceEq, escheatlaw16_InodeBack_j0_eq, works16_eq] <;> rfl⟩
      | true =>
        simp only [c', cond_true] at hP'
        have hB' : (encB (inoB k' l' s' p' d')).length = 32 := by rw [encB_length, inoB_length hd']
        exact ⟨_, by simp only [afAddr_p, List.append_nil, if_true, if_false, bnd_some, mp_some, cnd_t, cnd_f, gd_no, gd_tt, gd_tf, gd_ft, gd_ff, alenS_s, alen_sl, alen_ns, abin_add, abin_sub, abin_mul, abin_eql, abin_neq, abin_lss, abin_leq, abin_gtr, abin_geq, abin_seql, abin_sneq, abin_slss, aun_not, aun_neg, aeqB_t, aeqB_f, aconv_i, apick_b, cond_true, cond_false, decide_true, decide_false, Bool.not_true, Bool.not_false, aext_t, ofPart_c, ofPart_a, part?_c, part?_a, cells?_c, cells?_a, tupN_2, tupN_3, Option.map_some, Option.some.injEq, List.getElem?_cons_zero, List.getElem?_cons_succ, not_true_eq_false, not_false_eq_true, quiet_same, bytesI_length, Option.join_some, List.append_assoc, List.cons_append, List.nil_append, List.length_append, List.length_cons, List.length_nil, Nat.zero_add, Nat.add_zero, rd_at, rd_at0, set_at, set_at0, List.set_cons_zero, List.set_cons_succ, ne_eq, decide_not, quiet_ext, newOk_some, List.cons_prefix_cons, List.nil_prefix, List.drop_succ_cons, List.drop_zero, List.all_cons, List.all_nil, Bool.and_true, true_and, and_true, aloadN_at, aloadN_at0, aload1_at, aload1_at0, astoreN_at, astoreN_at0, astore1_at, astore1_at0, aslA_at, aslA_at0, ldN_all, ld1_row, stN_all, st1_row, slr_all, Nat.reduceAdd, Nat.reduceMul, Nat.reduceLT, hE, hE', hP, hP', hz, hZ, hB', Int.reduceEq, escheatlaw16_InodeBack_j0_eq, works16_eq] <;> rfl⟩
    | true =>
      simp only [c, cond_true] at hP
      obtain ⟨hc1, hc2⟩ := clean_ino hd c
      obtain ⟨g1, g2, g3, g4, g5⟩ := get_ino hd c
      have hB : (encB (inoB k l s p d)).length = 32 := by rw [encB_length, inoB_length hd]
      have hC := fun h => inode_Clean_eq (b := inoB k l s p d) (h := h) (inoB_length hd)
      have hG := fun h => inode_Get_eq (b := inoB k l s p d) (h := h) (inoB_length hd)
      simp only [hc1, hc2] at hC
      simp only [g1, g2, g3, g4, g5] at hG
      have q1 := aeq_ino (k := k) (l := l) (s := s) (p := p) (k' := k) (l' := l) (s' := s) (p' := p) (neg := true) hd hd
      simp only [cond_true, decide_true, Bool.not_true] at q1
      cases c' : mayI k' l' s' p' d' with
      | false =>
        simp only [c', cond_false] at hP'
        have hZ : (encB (zeros 32)).length = 32 := by rw [encB_length]; exact zeros_length
        exact ⟨_, by simp only [afAddr_p, List.append_nil, if_true, if_false, bnd_some, mp_some, cnd_t, cnd_f, gd_no, gd_tt, gd_tf, gd_ft, gd_ff, alenS_s, alen_sl, alen_ns, abin_add, abin_sub, abin_mul, abin_eql, abin_neq, abin_lss, abin_leq, abin_gtr, abin_geq, abin_seql, abin_sneq, abin_slss, aun_not, aun_neg, aeqB_t, aeqB_f, aconv_i, apick_b, cond_true, cond_false, decide_true, decide_false, Bool.not_true, Bool.not_false, aext_t, ofPart_c, ofPart_a, part?_c, part?_a, cells?_c, cells?_a, tupN_2, tupN_3, Option.map_some, Option.some.injEq, List.getElem?_cons_zero, List.getElem?_cons_succ, not_true_eq_false, not_false_eq_true, quiet_same, bytesI_length, Option.join_some, List.append_assoc, List.cons_append, List.nil_append, List.length_append, List.length_cons, List.length_nil, Nat.zero_add, Nat.add_zero, rd_at, rd_at0, set_at, set_at0, List.set_cons_zero, List.set_cons_succ, ne_eq, decide_not, quiet_ext, newOk_some, List.cons_prefix_cons, List.nil_prefix, List.drop_succ_cons, List.drop_zero, List.all_cons, List.all_nil, Bool.and_true, true_and, and_true, aloadN_at, aloadN_at0, aload1_at, aload1_at0, astoreN_at, astoreN_at0, astore1_at, astore1_at0, aslA_at, aslA_at0, ldN_all, ld1_row, stN_all, st1_row, slr_all, Nat.reduceAdd, Nat.reduceMul, Nat.reduceLT, hE, hE', hP, hP', hz, hZ, hB, hC, hG, q1, l11, Int.reduceEq, escheatlaw16_InodeBack_j0_eq, works16_eq] <;> rfl⟩
      | true =>
        simp only [c', cond_true] at hP'
        have hB' : (encB (inoB k' l' s' p' d')).length = 32 := by rw [encB_length, inoB_length hd']
        have q2 := aeq_f (l := inoB k l s p d) (m := inoB k' l' s' p' d') (n := 32) (inoB_length hd) (inoB_length hd')
        have q3 := aeq_ino (k := k) (l := l) (s := s) (p := p) (k' := k') (l' := l') (s' := s') (p' := p') (neg := false) hd hd'
        simp only [cond_false] at q3
        have e : decide (inoB k l s p d = inoB k' l' s' p' d') = decide (k :: l :: s :: p :: d = k' :: l' :: s' :: p' :: d') := by
          obtain ⟨f1, f2, f3, f4, f5⟩ := get_ino hd' c'
          by_cases e : inoB k l s p d = inoB k' l' s' p' d'
          · rw [e] at g1 g2 g3 g4 g5
            rw [f1] at g1; rw [f2] at g2; rw [f3] at g3; rw [f4] at g4; rw [f5] at g5
            subst g1; subst g2; subst g3; subst g4; subst g5
            simp
          · rw [decide_eq_false e, decide_eq_false]
            intro e2
            simp only [List.cons.injEq] at e2
            obtain ⟨rfl, rfl, rfl, rfl, rfl⟩ := e2
            exact e rfl
        rw [e] at q2
        exact ⟨_, by simp only [afAddr_p, List.append_nil, if_true, if_false, bnd_some, mp_some, cnd_t, cnd_f, gd_no, gd_tt, gd_tf, gd_ft, gd_ff, alenS_s, alen_sl, alen_ns, abin_add, abin_sub, abin_mul, abin_eql, abin_neq, abin_lss, abin_leq, abin_gtr, abin_geq, abin_seql, abin_sneq, abin_slss, aun_not, aun_neg, aeqB_t, aeqB_f, aconv_i, apick_b, cond_true, cond_false, decide_true, decide_false, Bool.not_true, Bool.not_false, aext_t, ofPart_c, ofPart_a, part?_c, part?_a, cells?_c, cells?_a, tupN_2, tupN_3, Option.map_some, Option.some.injEq, List.getElem?_cons_zero, List.getElem?_cons_succ, not_true_eq_false, not_false_eq_true, quiet_same, bytesI_length, Option.join_some, List.append_assoc, List.cons_append, List.nil_append, List.length_append, List.length_cons, List.length_nil, Nat.zero_add, Nat.add_zero, rd_at, rd_at0, set_at, set_at0, List.set_cons_zero, List.set_cons_succ, ne_eq, decide_not, quiet_ext, newOk_some, List.cons_prefix_cons, List.nil_prefix, List.drop_succ_cons, List.drop_zero, List.all_cons, List.all_nil, Bool.and_true, true_and, and_true, aloadN_at, aloadN_at0, aload1_at, aload1_at0, astoreN_at, astoreN_at0, astore1_at, astore1_at0, aslA_at, aslA_at0, ldN_all, ld1_row, stN_all, st1_row, slr_all, Nat.reduceAdd, Nat.reduceMul, Nat.reduceLT, hE, hE', hP, hP', hz, hB, hB', hC, hG, q1, q2, q3, l11, escheatlaw16_InodeBack_j0_eq, beq_self_eq_true, works16_eq] <;> rfl⟩
  obtain ⟨g', e⟩ := key (ro h)
  exact S_escheatlaw16_InodeBack_flat e rfl

end Go.Proofs.Ytbbkpmbepljhkaa
