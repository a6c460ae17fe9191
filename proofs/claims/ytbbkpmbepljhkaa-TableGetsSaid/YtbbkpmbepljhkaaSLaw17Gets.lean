/- The law that the inode in a place is as the document has it answers true. -/
import Derived.Test.YtbbkpmbepljhkaaSLaw17
import Derived.Test.YtbbkpmbepljhkaaSTableGet
import Derived.Test.YtbbkpmbepljhkaaSInts
import Derived.Test.YtbbkpmbepljhkaaGEscheatlaw17TableGets
set_option linter.all false
namespace Go.Proofs.Ytbbkpmbepljhkaa
open Go Go.Esc

theorem aeqt_ino0 : aeq true [Sh.i .i64, .i .i64, .i .i64, .i .i64, .i .i64, .i .i64, .i .i64, .i .i64, .i .i64, .i .i64, .i .i64] (.a (inoC 0 0 0 0 (zI 7))) (.a (inoC 0 0 0 0 (zI 7))) = some (.c (.b false)) := by
  have := aeq_ino (k := 0) (l := 0) (s := 0) (p := 0) (k' := 0) (l' := 0) (s' := 0) (p' := 0) (neg := true) (zI_length (n := 7)) (zI_length (n := 7))
  simpa using this

theorem aeqt_clean {b : List UInt8} : aeq true [Sh.i .i64, .i .i64, .i .i64, .i .i64, .i .i64, .i .i64, .i .i64, .i .i64, .i .i64, .i .i64, .i .i64] (.a (cleanC b)) (.a (cleanC b)) = some (.c (.b false)) := by
  unfold cleanC
  cases cleanI b with
  | true =>
    have := aeq_ino (k := getK b) (l := getL b) (s := getS b) (p := getP b) (k' := getK b) (l' := getL b) (s' := getS b) (p' := getP b) (neg := true) (getD7_length (b := b)) (getD7_length (b := b))
    simpa using this
  | false => exact aeqt_ino0

def usedF (b : List UInt8) : Nat → Nat → List Int
  | 0, _ => []
  | e + 1, i => (if rawT b i = zeros 32 then [] else [(i : Int)]) ++ usedF b e (i + 1)
theorem used_eq {b : List UInt8} : usedT b 8 = usedF b 8 0 := by
  simp only [usedT, usedF, List.nil_append, List.append_nil, List.append_assoc, Nat.zero_add, Nat.reduceAdd]
theorem usedF_length {b : List UInt8} : ∀ e i, (usedF b e i).length ≤ e
  | 0, _ => by simp [usedF]
  | e + 1, i => by
    have := usedF_length (b := b) e (i + 1)
    unfold usedF
    split <;> simp <;> omega

theorem slA_rd {h : Heap} {id n : Nat} {cs : List Cell} (hr : rd h id = some ⟨cs, true⟩) (hl : cs.length = n) : aslA h n 1 (.c (.p id 0)) none none = some (.c (.sl id 0 n 1)) := by
  simp [aslA, bound, hr, hl]

theorem gets_j {b : List UInt8} {p q m c : Nat} {x5 x11 x12 x13 : Val} {t : Bool} {h : Heap} (hb : b.length = 256) (hc : c < 8) (hr : rd h p = some ⟨encB b, true⟩) :
    escheatlaw17_TableGets_j0 q m (.c (.p p 0)) x5 x11 x12 x13 (.c (.b t)) (.c (.i .i64 c)) h =
      escheatlaw17_TableGets_l0 q m (.c (.p p 0)) x5 x11 x12 x13 (.c (.b (cleanI (rawT b c) && t))) (.c (.i .i64 ((c : Int) - 1))) (h ++ [some ⟨cleanC (rawT b c), true⟩]) := by
  have hB : (encB b).length = 256 := by rw [encB_length, hb]
  have s1 := slA_rd hr hB
  have hG := ref17_Get_at (Has.tr (n := 256) (sz := 1) hr (by rw [hB]) (noX_encB _)) hb hc
  have hl := ino0_length
  have hcl := cleanC_length (b := rawT b c)
  have w1 : IntKind.wrap .i64 ((c : Int) - 1) = (c : Int) - 1 := wrap_i64 (by omega) (by omega)
  rw [escheatlaw17_TableGets_j0_eq, ino0_eq]
  generalize inoC 0 0 0 0 (zI 7) = z at *
  cases t with
  | false => simp only [afAddr_p, List.append_nil, if_true, if_false, bnd_some, mp_some, cnd_t, cnd_f, gd_no, gd_tt, gd_tf, gd_ft, gd_ff, alenS_s, alen_sl, alen_ns, abin_add, abin_sub, abin_mul, abin_eql, abin_neq, abin_lss, abin_leq, abin_gtr, abin_geq, abin_seql, abin_sneq, abin_slss, aun_not, aun_neg, aeqB_t, aeqB_f, aconv_i, apick_b, cond_true, cond_false, decide_true, decide_false, Bool.not_true, Bool.not_false, aext_t, ofPart_c, ofPart_a, part?_c, part?_a, cells?_c, cells?_a, tupN_2, tupN_3, Option.map_some, Option.some.injEq, List.getElem?_cons_zero, List.getElem?_cons_succ, not_true_eq_false, not_false_eq_true, quiet_same, bytesI_length, Option.join_some, List.append_assoc, List.cons_append, List.nil_append, List.length_append, List.length_cons, List.length_nil, Nat.zero_add, Nat.add_zero, rd_at, rd_at0, set_at, set_at0, List.set_cons_zero, List.set_cons_succ, ne_eq, decide_not, quiet_ext, newOk_some, List.cons_prefix_cons, List.nil_prefix, List.drop_succ_cons, List.drop_zero, List.all_cons, List.all_nil, Bool.and_true, true_and, and_true, aloadN_at, aloadN_at0, aload1_at, aload1_at0, astoreN_at, astoreN_at0, astore1_at, astore1_at0, aslA_at, aslA_at0, ldN_all, ld1_row, stN_all, st1_row, slr_all, Nat.reduceAdd, Nat.reduceMul, Nat.reduceLT, s1, hG, hl, hcl, w1, Bool.and_false]
  | true => simp only [afAddr_p, List.append_nil, if_true, if_false, bnd_some, mp_some, cnd_t, cnd_f, gd_no, gd_tt, gd_tf, gd_ft, gd_ff, alenS_s, alen_sl, alen_ns, abin_add, abin_sub, abin_mul, abin_eql, abin_neq, abin_lss, abin_leq, abin_gtr, abin_geq, abin_seql, abin_sneq, abin_slss, aun_not, aun_neg, aeqB_t, aeqB_f, aconv_i, apick_b, cond_true, cond_false, decide_true, decide_false, Bool.not_true, Bool.not_false, aext_t, ofPart_c, ofPart_a, part?_c, part?_a, cells?_c, cells?_a, tupN_2, tupN_3, Option.map_some, Option.some.injEq, List.getElem?_cons_zero, List.getElem?_cons_succ, not_true_eq_false, not_false_eq_true, quiet_same, bytesI_length, Option.join_some, List.append_assoc, List.cons_append, List.nil_append, List.length_append, List.length_cons, List.length_nil, Nat.zero_add, Nat.add_zero, rd_at, rd_at0, set_at, set_at0, List.set_cons_zero, List.set_cons_succ, ne_eq, decide_not, quiet_ext, newOk_some, List.cons_prefix_cons, List.nil_prefix, List.drop_succ_cons, List.drop_zero, List.all_cons, List.all_nil, Bool.and_true, true_and, and_true, aloadN_at, aloadN_at0, aload1_at, aload1_at0, astoreN_at, astoreN_at0, astore1_at, astore1_at0, aslA_at, aslA_at0, ldN_all, ld1_row, stN_all, st1_row, slr_all, Nat.reduceAdd, Nat.reduceMul, Nat.reduceLT, s1, hG, hl, hcl, w1]

theorem gets_loop {b : List UInt8} {p q : Nat} (hb : b.length = 256) : ∀ (c m : Nat) (y : Int) (h : Heap) (id : Nat), c ≤ 8 → c < m → y = (c : Int) - 1 → rd h p = some ⟨encB b, true⟩ → rd h (p + 1) = some ⟨encB b, true⟩ → rd h id = some ⟨encI (usedF b (8 - c) c), true⟩ →
    ∃ h', escheatlaw17_TableGets_l0 q m (.c (.p p 0)) (.c (.p (p + 1) 0)) (.c (.sl id 0 (usedF b (8 - c) c).length 1)) (.c (.i .i64 (freeT b (8 - c) c).1)) (.c (.b (freeT b (8 - c) c).2)) (.c (.b (cleanT b (8 - c) c))) (.c (.i .i64 y)) h = some (.c (.b true), h')
  | c, 0, y, h, id, _, hm, _, _, _, _ => by omega
  | 0, m + 1, y, h, id, _, hm, hy, h1, h2, h3 => by
    have c0 : ¬ (0 : Int) ≤ y := by omega
    have hB : (encB b).length = 256 := by rw [encB_length, hb]
    have s1 := loadAll (h := h) (id := p + 1) (cs := encB b) h2 hB
    have hF := table_Free_eq (h := h) hb
    have hU := table_Used_eq (h := h) hb
    have hul := usedT_length (b := b) 8
    have hI := ref04_Ints_eq (h := h ++ [some (Row.mk (encI (usedT b 8)) true)]) (v := .c (.sl h.length 0 (usedT b 8).length 1)) (nv := (usedT b 8).length) (u := .c (.sl id 0 (usedF b 8 0).length 1)) (nu := (usedF b 8 0).length) (l := usedT b 8) (r := usedF b 8 0)
      (Has.tr (by simp) (by rw [encI_length]; omega) (noX_encI _)) (Has.tr (rd_append h3) (by rw [encI_length]; omega) (noX_encI _)) (by omega)
    rw [decide_eq_true used_eq] at hI
    have s2 := loadAll (h := h ++ [some (Row.mk (encI (usedT b 8)) true)]) (id := p + 1) (cs := encB b) (rd_append h2) hB
    have hC := table_Clean_eq (h := h ++ [some (Row.mk (encI (usedT b 8)) true)]) hb
    rw [escheatlaw17_TableGets_l0_eq, show 8 - 0 = 8 from rfl]
    exact ⟨_, by simp only [afAddr_p, List.append_nil, if_true, if_false, bnd_some, mp_some, cnd_t, cnd_f, gd_no, gd_tt, gd_tf, gd_ft, gd_ff, alenS_s, alen_sl, alen_ns, abin_add, abin_sub, abin_mul, abin_eql, abin_neq, abin_lss, abin_leq, abin_gtr, abin_geq, abin_seql, abin_sneq, abin_slss, aun_not, aun_neg, aeqB_t, aeqB_f, aconv_i, apick_b, cond_true, cond_false, decide_true, decide_false, Bool.not_true, Bool.not_false, aext_t, ofPart_c, ofPart_a, part?_c, part?_a, cells?_c, cells?_a, tupN_2, tupN_3, Option.map_some, Option.some.injEq, List.getElem?_cons_zero, List.getElem?_cons_succ, not_true_eq_false, not_false_eq_true, quiet_same, bytesI_length, Option.join_some, List.append_assoc, List.cons_append, List.nil_append, List.length_append, List.length_cons, List.length_nil, Nat.zero_add, Nat.add_zero, rd_at, rd_at0, set_at, set_at0, List.set_cons_zero, List.set_cons_succ, ne_eq, decide_not, quiet_ext, newOk_some, List.cons_prefix_cons, List.nil_prefix, List.drop_succ_cons, List.drop_zero, List.all_cons, List.all_nil, Bool.and_true, true_and, and_true, c0, s1, hF, hU, hI, s2, hC, beq_self_eq_true, works17_eq] <;> rfl⟩
  | c + 1, m + 1, y, h, id, hc, hm, hy, h1, h2, h3 => by
    have hy' : y = (c : Int) := by omega
    subst hy'
    have c0 : (0 : Int) ≤ c := by omega
    have hB : (encB b).length = 256 := by rw [encB_length, hb]
    have s1 := slA_rd h1 hB
    have hN := ref17_Nought_at (Has.tr (n := 256) (sz := 1) h1 (by rw [hB]) (noX_encB _)) hb (show c < 8 by omega)
    obtain ⟨E, hE⟩ : ∃ E, E = 8 - (c + 1) := ⟨_, rfl⟩
    have hE1 : 8 - c = E + 1 := by omega
    have hul := usedF_length (b := b) E (c + 1)
    rw [← hE] at h3 ⊢
    rw [escheatlaw17_TableGets_l0_eq]
    by_cases cz : rawT b c = zeros 32
    · rw [decide_eq_true cz] at hN
      obtain ⟨h', ih⟩ := gets_loop (q := q) hb c m ((c : Int) - 1) (h ++ [some (Row.mk (cleanC (rawT b c)) true)]) id (by omega) (by omega) rfl (rd_append h1) (rd_append h2) (by
        rw [hE1, usedF, if_pos cz, List.nil_append]; exact rd_append h3)
      rw [hE1, usedF, freeT, cleanT, if_pos cz, if_pos cz, List.nil_append] at ih
      refine ⟨h', ?_⟩
      simp only [afAddr_p, List.append_nil, if_true, if_false, bnd_some, mp_some, cnd_t, cnd_f, gd_no, gd_tt, gd_tf, gd_ft, gd_ff, alenS_s, alen_sl, alen_ns, abin_add, abin_sub, abin_mul, abin_eql, abin_neq, abin_lss, abin_leq, abin_gtr, abin_geq, abin_seql, abin_sneq, abin_slss, aun_not, aun_neg, aeqB_t, aeqB_f, aconv_i, apick_b, cond_true, cond_false, decide_true, decide_false, Bool.not_true, Bool.not_false, aext_t, ofPart_c, ofPart_a, part?_c, part?_a, cells?_c, cells?_a, tupN_2, tupN_3, Option.map_some, Option.some.injEq, List.getElem?_cons_zero, List.getElem?_cons_succ, not_true_eq_false, not_false_eq_true, quiet_same, bytesI_length, Option.join_some, List.append_assoc, List.cons_append, List.nil_append, List.length_append, List.length_cons, List.length_nil, Nat.zero_add, Nat.add_zero, rd_at, rd_at0, set_at, set_at0, List.set_cons_zero, List.set_cons_succ, ne_eq, decide_not, quiet_ext, newOk_some, List.cons_prefix_cons, List.nil_prefix, List.drop_succ_cons, List.drop_zero, List.all_cons, List.all_nil, Bool.and_true, true_and, and_true, c0, s1, hN, gets_j hb (show c < 8 by omega) h1]
      exact ih
    · rw [decide_eq_false cz] at hN
      have ef : afill [Cell.i .i64 0] [(0, 1, .c (.i .i64 (c : Int)))] = some [.i .i64 (c : Int)] := rfl
      have p1 := app_of (h := h ++ [some (Row.mk [.i .i64 (c : Int)] true)]) (id := h.length) (jd := id) (n := 1) (m := (usedF b E (c + 1)).length) (sz := 1) (cs := [.i .i64 (c : Int)]) (ys := encI (usedF b E (c + 1))) (rw := true) (by simp) (by simp) (rd_append h3) (by rw [encI_length]; omega) rfl (by omega) (by omega)
      have ee : [Cell.i .i64 (c : Int)] ++ encI (usedF b E (c + 1)) = encI ((c : Int) :: usedF b E (c + 1)) := rfl
      rw [ee] at p1
      simp only [afAddr_p, List.append_nil, if_true, if_false, bnd_some, mp_some, cnd_t, cnd_f, gd_no, gd_tt, gd_tf, gd_ft, gd_ff, alenS_s, alen_sl, alen_ns, abin_add, abin_sub, abin_mul, abin_eql, abin_neq, abin_lss, abin_leq, abin_gtr, abin_geq, abin_seql, abin_sneq, abin_slss, aun_not, aun_neg, aeqB_t, aeqB_f, aconv_i, apick_b, cond_true, cond_false, decide_true, decide_false, Bool.not_true, Bool.not_false, aext_t, ofPart_c, ofPart_a, part?_c, part?_a, cells?_c, cells?_a, tupN_2, tupN_3, Option.map_some, Option.some.injEq, List.getElem?_cons_zero, List.getElem?_cons_succ, not_true_eq_false, not_false_eq_true, quiet_same, bytesI_length, Option.join_some, List.append_assoc, List.cons_append, List.nil_append, List.length_append, List.length_cons, List.length_nil, Nat.zero_add, Nat.add_zero, rd_at, rd_at0, set_at, set_at0, List.set_cons_zero, List.set_cons_succ, ne_eq, decide_not, quiet_ext, newOk_some, List.cons_prefix_cons, List.nil_prefix, List.drop_succ_cons, List.drop_zero, List.all_cons, List.all_nil, Bool.and_true, true_and, and_true] at p1
      have hx : ∀ r : Option Row, rd (h ++ [none, r]) p = some ⟨encB b, true⟩ := fun r => rd_append h1
      have hx2 : ∀ r : Option Row, rd (h ++ [none, r]) (p + 1) = some ⟨encB b, true⟩ := fun r => rd_append h2
      obtain ⟨h', ih⟩ := gets_loop (q := q) hb c m ((c : Int) - 1) (h ++ [none, some (Row.mk (encI ((c : Int) :: usedF b E (c + 1))) true)] ++ [some (Row.mk (cleanC (rawT b c)) true)]) (h.length + 1) (by omega) (by omega) rfl (rd_append (hx _)) (rd_append (hx2 _)) (by
        rw [hE1, usedF, if_neg cz]; simp)
      rw [hE1, usedF, freeT, cleanT, if_neg cz, if_neg cz] at ih
      refine ⟨h', ?_⟩
      have el : 1 + (usedF b E (c + 1)).length = ([(c : Int)] ++ usedF b E (c + 1)).length := by simp; omega
      rw [el] at p1
      simp only [afAddr_p, List.append_nil, if_true, if_false, bnd_some, mp_some, cnd_t, cnd_f, gd_no, gd_tt, gd_tf, gd_ft, gd_ff, alenS_s, alen_sl, alen_ns, abin_add, abin_sub, abin_mul, abin_eql, abin_neq, abin_lss, abin_leq, abin_gtr, abin_geq, abin_seql, abin_sneq, abin_slss, aun_not, aun_neg, aeqB_t, aeqB_f, aconv_i, apick_b, cond_true, cond_false, decide_true, decide_false, Bool.not_true, Bool.not_false, aext_t, ofPart_c, ofPart_a, part?_c, part?_a, cells?_c, cells?_a, tupN_2, tupN_3, Option.map_some, Option.some.injEq, List.getElem?_cons_zero, List.getElem?_cons_succ, not_true_eq_false, not_false_eq_true, quiet_same, bytesI_length, Option.join_some, List.append_assoc, List.cons_append, List.nil_append, List.length_append, List.length_cons, List.length_nil, Nat.zero_add, Nat.add_zero, rd_at, rd_at0, set_at, set_at0, List.set_cons_zero, List.set_cons_succ, ne_eq, decide_not, quiet_ext, newOk_some, List.cons_prefix_cons, List.nil_prefix, List.drop_succ_cons, List.drop_zero, List.all_cons, List.all_nil, Bool.and_true, true_and, and_true, c0, s1, hN, ef, p1, gets_j hb (show c < 8 by omega) (hx _)] at ih ⊢
      exact ih

theorem tableGets_eq {j : Int} {b : List UInt8} (h : Heap) (hb : b.length = 256) : S_escheatlaw17_TableGets [.a (encB b), .c (.i .i64 j)] h = some (.c (.b true), h) := by
  have key : ∀ N, 8 < N → ∀ g, ∃ g', R_escheatlaw17_TableGets N [.a (encB b), .c (.i .i64 j)] g = some (.c (.b true), g') := by
    intro N hN g
    have hB : (encB b).length = 256 := by rw [encB_length, hb]
    have hz : (List.replicate 256 (Cell.i .u8 0)).length = 256 := List.length_replicate
    have hl := ino0_length
    have haf : afill (List.replicate 32 (Cell.i .u8 0)) [] = some (List.replicate 32 (Cell.i .u8 0)) := rfl
    have hz2 : (encB (zeros 32)).length = 32 := by rw [encB_length]; exact zeros_length
    have hq2 := aeq_t (l := zeros 32) (m := zeros 32) (n := 32) zeros_length zeros_length
    have hq0 := aeqt_ino0
    have hG0 : j < 0 ∨ 8 ≤ j → ∀ h, S_table_Get [.a (encB b), .c (.i .i64 j)] h = some (.t [.a (inoC 0 0 0 0 (zI 7)), .c (.b false)], h) := fun c h => table_Get_range c
    have hH0 : j < 0 ∨ 8 ≤ j → ∀ x h, S_escheatref17_Get [x, .c (.i .i64 j)] h = some (.t [.a (inoC 0 0 0 0 (zI 7)), .c (.b false)], h) := fun c x h => ref17_Get_range c
    have hR0 : j < 0 ∨ 8 ≤ j → ∀ h, S_table_Raw [.a (encB b), .c (.i .i64 j)] h = some (.a (encB (zeros 32)), h) := fun c h => table_Raw_range c
    rw [R_escheatlaw17_TableGets_eq, ino0_eq]
    rw [zeros_enc] at haf
    rw [show List.replicate 32 (Cell.i .u8 0) = encB (zeros 32) from zeros_enc 32]
    by_cases c0 : j < 0 ∨ 8 ≤ j
    · have hG := hG0 c0
      have hH := hH0 c0
      have hR := hR0 c0
      generalize List.replicate 256 (Cell.i .u8 0) = z at *
      generalize inoC 0 0 0 0 (zI 7) = y at *
      obtain ⟨h', e⟩ := gets_loop (p := g.length) (q := N) hb 8 N 7 (g ++ [some (Row.mk (encB b) true), some (Row.mk (encB b) true), some (Row.mk y true), some (Row.mk y true), some (Row.mk (encB (zeros 32)) true), some (Row.mk [] true)]) (g.length + 5) (by omega) (by omega) (by omega) (by simp) (by simp) (by simp [usedF, encI])
      simp only [Nat.sub_self, usedF, freeT, cleanT, List.length_nil] at e
      generalize zeros 32 = z32 at *
      refine ⟨h', ?_⟩
      by_cases c1 : j < 0
      · have c2 : ¬ 0 ≤ j := by omega
        simp only [afAddr_p, List.append_nil, if_true, if_false, bnd_some, mp_some, cnd_t, cnd_f, gd_no, gd_tt, gd_tf, gd_ft, gd_ff, alenS_s, alen_sl, alen_ns, abin_add, abin_sub, abin_mul, abin_eql, abin_neq, abin_lss, abin_leq, abin_gtr, abin_geq, abin_seql, abin_sneq, abin_slss, aun_not, aun_neg, aeqB_t, aeqB_f, aconv_i, apick_b, cond_true, cond_false, decide_true, decide_false, Bool.not_true, Bool.not_false, aext_t, ofPart_c, ofPart_a, part?_c, part?_a, cells?_c, cells?_a, tupN_2, tupN_3, Option.map_some, Option.some.injEq, List.getElem?_cons_zero, List.getElem?_cons_succ, not_true_eq_false, not_false_eq_true, quiet_same, bytesI_length, Option.join_some, List.append_assoc, List.cons_append, List.nil_append, List.length_append, List.length_cons, List.length_nil, Nat.zero_add, Nat.add_zero, rd_at, rd_at0, set_at, set_at0, List.set_cons_zero, List.set_cons_succ, ne_eq, decide_not, quiet_ext, newOk_some, List.cons_prefix_cons, List.nil_prefix, List.drop_succ_cons, List.drop_zero, List.all_cons, List.all_nil, Bool.and_true, true_and, and_true, aloadN_at, aloadN_at0, aload1_at, aload1_at0, astoreN_at, astoreN_at0, astore1_at, astore1_at0, aslA_at, aslA_at0, ldN_all, ld1_row, stN_all, st1_row, slr_all, Nat.reduceAdd, Nat.reduceMul, Nat.reduceLT, hB, hz, hl, hz2, hG, hH, hR, hq0, hq2, haf, c1, c2, beq_self_eq_true]
        exact e
      · have c2 : 0 ≤ j := by omega
        have c3 : ¬ j < 8 := by omega
        have c4 : 7 < j := by omega
        simp only [afAddr_p, List.append_nil, if_true, if_false, bnd_some, mp_some, cnd_t, cnd_f, gd_no, gd_tt, gd_tf, gd_ft, gd_ff, alenS_s, alen_sl, alen_ns, abin_add, abin_sub, abin_mul, abin_eql, abin_neq, abin_lss, abin_leq, abin_gtr, abin_geq, abin_seql, abin_sneq, abin_slss, aun_not, aun_neg, aeqB_t, aeqB_f, aconv_i, apick_b, cond_true, cond_false, decide_true, decide_false, Bool.not_true, Bool.not_false, aext_t, ofPart_c, ofPart_a, part?_c, part?_a, cells?_c, cells?_a, tupN_2, tupN_3, Option.map_some, Option.some.injEq, List.getElem?_cons_zero, List.getElem?_cons_succ, not_true_eq_false, not_false_eq_true, quiet_same, bytesI_length, Option.join_some, List.append_assoc, List.cons_append, List.nil_append, List.length_append, List.length_cons, List.length_nil, Nat.zero_add, Nat.add_zero, rd_at, rd_at0, set_at, set_at0, List.set_cons_zero, List.set_cons_succ, ne_eq, decide_not, quiet_ext, newOk_some, List.cons_prefix_cons, List.nil_prefix, List.drop_succ_cons, List.drop_zero, List.all_cons, List.all_nil, Bool.and_true, true_and, and_true, aloadN_at, aloadN_at0, aload1_at, aload1_at0, astoreN_at, astoreN_at0, astore1_at, astore1_at0, aslA_at, aslA_at0, ldN_all, ld1_row, stN_all, st1_row, slr_all, Nat.reduceAdd, Nat.reduceMul, Nat.reduceLT, hB, hz, hl, hz2, hG, hH, hR, hq0, hq2, haf, c1, c2, c3, c4, beq_self_eq_true]
        exact e
    · obtain ⟨i, rfl⟩ : ∃ i : Nat, j = i := ⟨j.toNat, by omega⟩
      have hi : i < 8 := by omega
      have c1 : ¬ (i : Int) < 0 := by omega
      have c2 : (0 : Int) ≤ i := by omega
      have c3 : (i : Int) < 8 := by omega
      have c4 : ¬ (7 : Int) < i := by omega
      have hG := fun h => table_Get_at (h := h) hb hi
      have hR := fun h => table_Raw_eq (h := h) hb hi
      have hRl : (encB (rawT b i)).length = 32 := by rw [encB_length, rawT_length hb hi]
      have hcl := cleanC_length (b := rawT b i)
      have hq := aeqt_clean (b := rawT b i)
      have hv : ∀ l : Heap, Has (g ++ (some (Row.mk (encB b) true) :: l)) (.c (.sl g.length 0 256 1)) 1 256 (encB b) := fun l => Has.tr (by simp) (by rw [hB]) (noX_encB _)
      have hH := fun l => ref17_Get_at (hv l) hb hi
      have hW := fun l => ref17_Raw_at (hv l) hb hi
      generalize List.replicate 256 (Cell.i .u8 0) = z at *
      generalize inoC 0 0 0 0 (zI 7) = y at *
      have hS := ref01_Same_eq (h := g ++ [some (Row.mk (encB b) true), some (Row.mk (encB b) true), some (Row.mk (cleanC (rawT b i)) true), some (Row.mk (cleanC (rawT b i)) true), some (Row.mk (encB (rawT b i)) true), some (Row.mk (encB (rawT b i)) true)])
        (v := .c (.sl (g.length + 4) 0 32 1)) (nv := 32) (u := .c (.sl (g.length + 5) 0 32 1)) (nu := 32) (l := rawT b i) (r := rawT b i) (Has.tr (by simp) (by rw [hRl]) (noX_encB _)) (Has.tr (by simp) (by rw [hRl]) (noX_encB _)) (by rw [rawT_length hb hi]; omega)
      obtain ⟨h', e⟩ := gets_loop (p := g.length) (q := N) hb 8 N 7 (g ++ [some (Row.mk (encB b) true), some (Row.mk (encB b) true), some (Row.mk (cleanC (rawT b i)) true), some (Row.mk (cleanC (rawT b i)) true), some (Row.mk (encB (rawT b i)) true), some (Row.mk (encB (rawT b i)) true), some (Row.mk [] true)]) (g.length + 6) (by omega) (by omega) (by omega) (by simp) (by simp) (by simp [usedF, encI])
      simp only [Nat.sub_self, usedF, freeT, cleanT, List.length_nil] at e
      generalize zeros 32 = z32 at *
      refine ⟨h', ?_⟩
      simp only [afAddr_p, List.append_nil, if_true, if_false, bnd_some, mp_some, cnd_t, cnd_f, gd_no, gd_tt, gd_tf, gd_ft, gd_ff, alenS_s, alen_sl, alen_ns, abin_add, abin_sub, abin_mul, abin_eql, abin_neq, abin_lss, abin_leq, abin_gtr, abin_geq, abin_seql, abin_sneq, abin_slss, aun_not, aun_neg, aeqB_t, aeqB_f, aconv_i, apick_b, cond_true, cond_false, decide_true, decide_false, Bool.not_true, Bool.not_false, aext_t, ofPart_c, ofPart_a, part?_c, part?_a, cells?_c, cells?_a, tupN_2, tupN_3, Option.map_some, Option.some.injEq, List.getElem?_cons_zero, List.getElem?_cons_succ, not_true_eq_false, not_false_eq_true, quiet_same, bytesI_length, Option.join_some, List.append_assoc, List.cons_append, List.nil_append, List.length_append, List.length_cons, List.length_nil, Nat.zero_add, Nat.add_zero, rd_at, rd_at0, set_at, set_at0, List.set_cons_zero, List.set_cons_succ, ne_eq, decide_not, quiet_ext, newOk_some, List.cons_prefix_cons, List.nil_prefix, List.drop_succ_cons, List.drop_zero, List.all_cons, List.all_nil, Bool.and_true, true_and, and_true, aloadN_at, aloadN_at0, aload1_at, aload1_at0, astoreN_at, astoreN_at0, astore1_at, astore1_at0, aslA_at, aslA_at0, ldN_all, ld1_row, stN_all, st1_row, slr_all, Nat.reduceAdd, Nat.reduceMul, Nat.reduceLT] at hW
      simp only [afAddr_p, List.append_nil, if_true, if_false, bnd_some, mp_some, cnd_t, cnd_f, gd_no, gd_tt, gd_tf, gd_ft, gd_ff, alenS_s, alen_sl, alen_ns, abin_add, abin_sub, abin_mul, abin_eql, abin_neq, abin_lss, abin_leq, abin_gtr, abin_geq, abin_seql, abin_sneq, abin_slss, aun_not, aun_neg, aeqB_t, aeqB_f, aconv_i, apick_b, cond_true, cond_false, decide_true, decide_false, Bool.not_true, Bool.not_false, aext_t, ofPart_c, ofPart_a, part?_c, part?_a, cells?_c, cells?_a, tupN_2, tupN_3, Option.map_some, Option.some.injEq, List.getElem?_cons_zero, List.getElem?_cons_succ, not_true_eq_false, not_false_eq_true, quiet_same, bytesI_length, Option.join_some, List.append_assoc, List.cons_append, List.nil_append, List.length_append, List.length_cons, List.length_nil, Nat.zero_add, Nat.add_zero, rd_at, rd_at0, set_at, set_at0, List.set_cons_zero, List.set_cons_succ, ne_eq, decide_not, quiet_ext, newOk_some, List.cons_prefix_cons, List.nil_prefix, List.drop_succ_cons, List.drop_zero, List.all_cons, List.all_nil, Bool.and_true, true_and, and_true, aloadN_at, aloadN_at0, aload1_at, aload1_at0, astoreN_at, astoreN_at0, astore1_at, astore1_at0, aslA_at, aslA_at0, ldN_all, ld1_row, stN_all, st1_row, slr_all, Nat.reduceAdd, Nat.reduceMul, Nat.reduceLT, hB, hz, hl, hz2, hG, hH, hR, hRl, hcl, hq, hW, hS, c1, c2, c3, c4, beq_self_eq_true]
      exact e
  obtain ⟨g', e⟩ := key (h.length + 9) (by omega) (ro h)
  exact S_escheatlaw17_TableGets_flat e rfl

end Go.Proofs.Ytbbkpmbepljhkaa
