/- The law of a block's numbers answers true. -/
import Derived.Test.YtbbkpmbepljhkaaSPointsKeep
import Derived.Test.YtbbkpmbepljhkaaSPointsRef
import Derived.Test.YtbbkpmbepljhkaaSInts
import Derived.Test.YtbbkpmbepljhkaaSLaw20
import Derived.Test.YtbbkpmbepljhkaaGEscheatlaw20PointsLooks
set_option linter.all false
namespace Go.Proofs.Ytbbkpmbepljhkaa
open Go Go.Esc

theorem looks_loop {b : List UInt8} {k e w : Int} {g : Heap} {q : Nat} (hb : b.length = 256) (hw : ∀ h, S_points_Get [.a (encB b), .c (.i .i64 k)] h = some (.c (.i .i64 w), h)) : ∀ (f i m : Nat) (h : Heap) (id : Nat), i + f = 128 → f < m →
    Low (g ++ [some (Row.mk (encB b) true), some (Row.mk (encB b) true), some (Row.mk (encI (fldsP b 128)) true)]).length (g ++ [some (Row.mk (encB b) true), some (Row.mk (encB b) true), some (Row.mk (encI (fldsP b 128)) true)]) h →
    (g ++ [some (Row.mk (encB b) true), some (Row.mk (encB b) true), some (Row.mk (encI (fldsP b 128)) true)]).length ≤ id → rd h id = some ⟨encI (listP b i), true⟩ →
    ∃ h', escheatlaw20_PointsLooks_l0 q m (.c (.i .i64 k)) (.c (.i .i64 e)) (.c (.p g.length 0)) (.c (.p (g.length + 1) 0)) (.c (.sl (g.length + 2) 0 128 1)) (.c (.i .i64 w)) (.c (.sl id 0 (listP b i).length 1)) (.c (.i .i64 (lastP b i : Nat))) (.c (.i .i64 (i : Int))) h = some (.c (.b true), h')
  | f, i, 0, h, id, _, hm, _, _, _ => by omega
  | 0, i, m + 1, h, id, hi, hm, hlow, hid, hr => by
    have e0 : i = 128 := by omega
    subst e0
    have c0 : ¬ ((128 : Nat) : Int) < 128 := by omega
    have hB : (encB b).length = 256 := by rw [encB_length, hb]
    have hr0 : rd h g.length = some ⟨encB b, true⟩ := hlow.rd (by simp)
    have hr1 : rd h (g.length + 1) = some ⟨encB b, true⟩ := hlow.rd (by simp)
    have hz0 : (List.replicate 256 (Cell.i .u8 0)).length = 256 := List.length_replicate
    have hkl := keepB_length (e := e) hb 128 (Nat.le_refl _)
    have hKl : (encB (keepB b e 128)).length = 256 := by rw [encB_length, hkl]
    have s1 := loadAll (h := h) (id := g.length + 1) hr1 hB
    have s2 : ∀ l, aloadN (h ++ l) 256 (.c (.p (g.length + 1) 0)) = some (.a (encB b)) := fun l => loadAll (rd_append hr1) hB
    have s3 : ∀ l, aslA (h ++ l) 256 1 (.c (.p g.length 0)) none none = some (.c (.sl g.length 0 256 1)) := by
      intro l
      simp [aslA, bound, rd_append hr0, hB]
    have hbl := below_eq (e := e) (h := h ++ [none])
    simp only [List.length_append, List.length_cons, List.length_nil, Nat.zero_add, List.append_assoc, List.cons_append, List.nil_append] at hbl
    have hK := points_Keep_eq (b := b) (e := e) (r := h.length + 1) (rw := true) (h := h ++ [none, some ⟨[.i .i64 e], true⟩]) hb (by simp)
    have hL := fun h => points_List_eq (h := h) hb
    have hT := fun h => points_Last_eq (h := h) hb
    have hll := listP_length (b := b) 128
    have hI := fun h1 => ref04_Ints_eq (l := listP b 128) (r := listP b 128) (h := h ++ [some (Row.mk (encB (keepB b e 128)) true), some (Row.mk [.i .i64 e] true), some (Row.mk (encI (listP b 128)) true)]) (v := .c (.sl (h.length + 2) 0 (listP b 128).length 1)) (u := .c (.sl id 0 (listP b 128).length 1)) (nv := (listP b 128).length) (nu := (listP b 128).length) (Has.row (rw := true) (by simp) (by rw [encI_length]; omega) (noX_encI _)) (Has.row (rw := true) (rd_append hr) (by rw [encI_length]; omega) (noX_encI _)) h1
    have hI := hI (by omega)
    rw [decide_eq_true rfl] at hI
    have hBe := ref20_Below_eq (e := e) (b := b) (v := .c (.sl g.length 0 256 1)) (nv := 256) (h := h ++ [some (Row.mk (encB (keepB b e 128)) true), some (Row.mk [.i .i64 e] true), some (Row.mk (encI (listP b 128)) true)]) (Has.row (rw := true) (rd_append hr0) (by rw [hB]) (noX_encB _)) hb
    simp only [List.length_append, List.length_cons, List.length_nil, Nat.zero_add, List.append_assoc, List.cons_append, List.nil_append] at hBe
    have hSa := ref01_Same_eq (l := keepB b e 128) (r := keepB b e 128) (h := h ++ [some (Row.mk (encB (keepB b e 128)) true), some (Row.mk [.i .i64 e] true), some (Row.mk (encI (listP b 128)) true), some (Row.mk (encB (keepB b e 128)) true)]) (v := .c (.sl h.length 0 256 1)) (u := .c (.sl (h.length + 3) 0 256 1)) (nv := 256) (nu := 256) (Has.row (rw := true) (by simp) (by rw [hKl]) (noX_encB _)) (Has.row (rw := true) (by simp) (by rw [hKl]) (noX_encB _)) (by omega)
    rw [decide_eq_true rfl] at hSa
    rw [escheatlaw20_PointsLooks_l0_eq]
    generalize lastP b 128 = T at *
    generalize listP b 128 = L at *
    generalize keepB b e 128 = K at *
    generalize List.replicate 256 (Cell.i .u8 0) = z at *
    by_cases c1 : e < 1
    · exact ⟨_, by simp only [afAddr_p, List.append_nil, if_true, if_false, bnd_some, mp_some, cnd_t, cnd_f, gd_no, gd_tt, gd_tf, gd_ft, gd_ff, alenS_s, alen_sl, alen_ns, abin_add, abin_sub, abin_mul, abin_eql, abin_neq, abin_lss, abin_leq, abin_gtr, abin_geq, abin_seql, abin_sneq, abin_slss, aun_not, aun_neg, agn_some, aeqN_nf, aeqN_f, aeqN_np, aeqN_p, anilc_p, aeqB_t, aeqB_f, aconv_i, apick_b, cond_true, cond_false, decide_true, decide_false, Bool.not_true, Bool.not_false, aext_t, ofPart_c, ofPart_a, part?_c, part?_a, cells?_c, cells?_a, tupN_2, tupN_3, Option.map_some, Option.some.injEq, List.getElem?_cons_zero, List.getElem?_cons_succ, not_true_eq_false, not_false_eq_true, quiet_same, bytesI_length, Option.join_some, List.append_assoc, List.cons_append, List.nil_append, List.length_append, List.length_cons, List.length_nil, Nat.zero_add, Nat.add_zero, rd_at, rd_at0, set_at, set_at0, List.set_cons_zero, List.set_cons_succ, ne_eq, decide_not, quiet_ext, newOk_some, List.cons_prefix_cons, List.nil_prefix, List.drop_succ_cons, List.drop_zero, List.all_cons, List.all_nil, Bool.and_true, true_and, and_true, aloadN_at, aloadN_at0, aload1_at, aload1_at0, astoreN_at, astoreN_at0, astore1_at, astore1_at0, aslA_at, aslA_at0, ldN_all, ld1_row, stN_all, st1_row, slr_all, Nat.reduceAdd, Nat.reduceMul, Nat.reduceLT, c0, s1, s2, s3, hbl, hK, hz0, hKl, hw, hL, hI, hT, c1, works20_eq, eq_self] <;> rfl⟩
    · exact ⟨_, by simp only [afAddr_p, List.append_nil, if_true, if_false, bnd_some, mp_some, cnd_t, cnd_f, gd_no, gd_tt, gd_tf, gd_ft, gd_ff, alenS_s, alen_sl, alen_ns, abin_add, abin_sub, abin_mul, abin_eql, abin_neq, abin_lss, abin_leq, abin_gtr, abin_geq, abin_seql, abin_sneq, abin_slss, aun_not, aun_neg, agn_some, aeqN_nf, aeqN_f, aeqN_np, aeqN_p, anilc_p, aeqB_t, aeqB_f, aconv_i, apick_b, cond_true, cond_false, decide_true, decide_false, Bool.not_true, Bool.not_false, aext_t, ofPart_c, ofPart_a, part?_c, part?_a, cells?_c, cells?_a, tupN_2, tupN_3, Option.map_some, Option.some.injEq, List.getElem?_cons_zero, List.getElem?_cons_succ, not_true_eq_false, not_false_eq_true, quiet_same, bytesI_length, Option.join_some, List.append_assoc, List.cons_append, List.nil_append, List.length_append, List.length_cons, List.length_nil, Nat.zero_add, Nat.add_zero, rd_at, rd_at0, set_at, set_at0, List.set_cons_zero, List.set_cons_succ, ne_eq, decide_not, quiet_ext, newOk_some, List.cons_prefix_cons, List.nil_prefix, List.drop_succ_cons, List.drop_zero, List.all_cons, List.all_nil, Bool.and_true, true_and, and_true, aloadN_at, aloadN_at0, aload1_at, aload1_at0, astoreN_at, astoreN_at0, astore1_at, astore1_at0, aslA_at, aslA_at0, ldN_all, ld1_row, stN_all, st1_row, slr_all, Nat.reduceAdd, Nat.reduceMul, Nat.reduceLT, c0, s1, s2, s3, hbl, hK, hz0, hKl, hw, hL, hI, hT, c1, hBe, hSa, works20_eq, eq_self] <;> rfl⟩
  | f + 1, i, m + 1, h, id, hi, hm, hlow, hid, hr => by
    have c0 : (i : Int) < 128 := by omega
    have hrl : rd h (g.length + 2) = some ⟨encI (fldsP b 128), true⟩ := hlow.rd (by simp)
    have eb : aiAddrL 1 (.c (.sl (g.length + 2) 0 128 1)) (.c (.i .i64 (i : Int))) = some (.c (.p (g.length + 2) i)) := by rw [iAddrL_of (by omega)]; simp
    have hx : aload1 h (.c (.p (g.length + 2) i)) = some (.c (.i .i64 (ptP b i))) := load1_of hrl (by rw [encI_get, fldsP_map, List.getElem?_map, List.getElem?_range (by omega)]; rfl) rfl
    have hul := listP_length (b := b) i
    have w1 := wi_succ (show i + 1 < 9223372036854775808 by omega)
    rw [escheatlaw20_PointsLooks_l0_eq]
    by_cases c : ptP b i = 0
    · have hu : listP b (i + 1) = listP b i := by rw [listP, if_pos c, List.append_nil]
      have ht : lastP b (i + 1) = lastP b i := by rw [lastP, if_pos c]
      obtain ⟨h', ih⟩ := looks_loop (q := q) hb hw f (i + 1) m h id (by omega) (by omega) hlow hid (by rw [hu]; exact hr)
      rw [hu, ht] at ih
      rw [c] at hx
      refine ⟨h', ?_⟩
      simp only [afAddr_p, List.append_nil, if_true, if_false, bnd_some, mp_some, cnd_t, cnd_f, gd_no, gd_tt, gd_tf, gd_ft, gd_ff, alenS_s, alen_sl, alen_ns, abin_add, abin_sub, abin_mul, abin_eql, abin_neq, abin_lss, abin_leq, abin_gtr, abin_geq, abin_seql, abin_sneq, abin_slss, aun_not, aun_neg, agn_some, aeqN_nf, aeqN_f, aeqN_np, aeqN_p, anilc_p, aeqB_t, aeqB_f, aconv_i, apick_b, cond_true, cond_false, decide_true, decide_false, Bool.not_true, Bool.not_false, aext_t, ofPart_c, ofPart_a, part?_c, part?_a, cells?_c, cells?_a, tupN_2, tupN_3, Option.map_some, Option.some.injEq, List.getElem?_cons_zero, List.getElem?_cons_succ, not_true_eq_false, not_false_eq_true, quiet_same, bytesI_length, Option.join_some, List.append_assoc, List.cons_append, List.nil_append, List.length_append, List.length_cons, List.length_nil, Nat.zero_add, Nat.add_zero, rd_at, rd_at0, set_at, set_at0, List.set_cons_zero, List.set_cons_succ, ne_eq, decide_not, quiet_ext, newOk_some, List.cons_prefix_cons, List.nil_prefix, List.drop_succ_cons, List.drop_zero, List.all_cons, List.all_nil, Bool.and_true, true_and, and_true, c0, eb, hx, escheatlaw20_PointsLooks_j1_eq, w1]
      exact ih
    · have hu : listP b (i + 1) = listP b i ++ [ptP b i] := by rw [listP, if_neg c]
      have ht : lastP b (i + 1) = i + 1 := by rw [lastP, if_neg c]
      obtain ⟨h1, a1, a2, a3, a4, a5⟩ := push (ys := [.i .i64 (ptP b i)]) (sz := 1) (n := (listP b i).length) hlow hr (by rw [encI_length]; omega) hid rfl (by omega) (by omega)
      have he : encI (listP b i) ++ [.i .i64 (ptP b i)] = encI (listP b (i + 1)) := by rw [hu]; simp [encI]
      rw [he] at a2
      obtain ⟨h', ih⟩ := looks_loop (k := k) (e := e) (w := w) (q := q) hb hw f (i + 1) m h1 (h.length + 1) (by omega) (by omega) a3 a4 a2
      have hl1 : (listP b (i + 1)).length = (listP b i).length + 1 := by rw [hu]; simp
      rw [hl1, ht] at ih
      have ef : afill [Cell.i .i64 0] [(0, 1, .c (.i .i64 (ptP b i)))] = some [.i .i64 (ptP b i)] := rfl
      refine ⟨h', ?_⟩
      simp only [afAddr_p, List.append_nil, if_true, if_false, bnd_some, mp_some, cnd_t, cnd_f, gd_no, gd_tt, gd_tf, gd_ft, gd_ff, alenS_s, alen_sl, alen_ns, abin_add, abin_sub, abin_mul, abin_eql, abin_neq, abin_lss, abin_leq, abin_gtr, abin_geq, abin_seql, abin_sneq, abin_slss, aun_not, aun_neg, agn_some, aeqN_nf, aeqN_f, aeqN_np, aeqN_p, anilc_p, aeqB_t, aeqB_f, aconv_i, apick_b, cond_true, cond_false, decide_true, decide_false, Bool.not_true, Bool.not_false, aext_t, ofPart_c, ofPart_a, part?_c, part?_a, cells?_c, cells?_a, tupN_2, tupN_3, Option.map_some, Option.some.injEq, List.getElem?_cons_zero, List.getElem?_cons_succ, not_true_eq_false, not_false_eq_true, quiet_same, bytesI_length, Option.join_some, List.append_assoc, List.cons_append, List.nil_append, List.length_append, List.length_cons, List.length_nil, Nat.zero_add, Nat.add_zero, rd_at, rd_at0, set_at, set_at0, List.set_cons_zero, List.set_cons_succ, ne_eq, decide_not, quiet_ext, newOk_some, List.cons_prefix_cons, List.nil_prefix, List.drop_succ_cons, List.drop_zero, List.all_cons, List.all_nil, Bool.and_true, true_and, and_true, c0, eb, hx, c, ef, a1, escheatlaw20_PointsLooks_j1_eq, w1]
      exact ih

theorem points_Get_out {b : List UInt8} {k : Int} {h : Heap} (hk : k < 0 ∨ 128 ≤ k) : S_points_Get [.a (encB b), .c (.i .i64 k)] h = some (.c (.i .i64 0), h) := by
  have key : ∀ g, ∃ g', R_points_Get 0 [.a (encB b), .c (.i .i64 k)] g = some (.c (.i .i64 0), g') := by
    intro g
    have hT := fun h => points_there_out (h := h) hk
    rw [R_points_Get_eq]
    exact ⟨_, by simp only [afAddr_p, List.append_nil, if_true, if_false, bnd_some, mp_some, cnd_t, cnd_f, gd_no, gd_tt, gd_tf, gd_ft, gd_ff, alenS_s, alen_sl, alen_ns, abin_add, abin_sub, abin_mul, abin_eql, abin_neq, abin_lss, abin_leq, abin_gtr, abin_geq, abin_seql, abin_sneq, abin_slss, aun_not, aun_neg, agn_some, aeqN_nf, aeqN_f, aeqN_np, aeqN_p, anilc_p, aeqB_t, aeqB_f, aconv_i, apick_b, cond_true, cond_false, decide_true, decide_false, Bool.not_true, Bool.not_false, aext_t, ofPart_c, ofPart_a, part?_c, part?_a, cells?_c, cells?_a, tupN_2, tupN_3, Option.map_some, Option.some.injEq, List.getElem?_cons_zero, List.getElem?_cons_succ, not_true_eq_false, not_false_eq_true, quiet_same, bytesI_length, Option.join_some, List.append_assoc, List.cons_append, List.nil_append, List.length_append, List.length_cons, List.length_nil, Nat.zero_add, Nat.add_zero, rd_at, rd_at0, set_at, set_at0, List.set_cons_zero, List.set_cons_succ, ne_eq, decide_not, quiet_ext, newOk_some, List.cons_prefix_cons, List.nil_prefix, List.drop_succ_cons, List.drop_zero, List.all_cons, List.all_nil, Bool.and_true, true_and, and_true, hT] <;> rfl⟩
  obtain ⟨g', e⟩ := key (ro h)
  exact S_points_Get_flat e rfl

theorem pointsLooks_eq {b : List UInt8} {k e : Int} (h : Heap) (hb : b.length = 256) : S_escheatlaw20_PointsLooks [.a (encB b), .c (.i .i64 k), .c (.i .i64 e)] h = some (.c (.b true), h) := by
  have key : ∀ N, 128 < N → ∀ g, ∃ g', R_escheatlaw20_PointsLooks N [.a (encB b), .c (.i .i64 k), .c (.i .i64 e)] g = some (.c (.b true), g') := by
    intro N hN g
    have hB : (encB b).length = 256 := by rw [encB_length, hb]
    have hz0 : (List.replicate 256 (Cell.i .u8 0)).length = 256 := List.length_replicate
    have hNu := ref20_Numbers_eq (b := b) (v := .c (.sl g.length 0 256 1)) (nv := 256) (h := g ++ [some (Row.mk (encB b) true), some (Row.mk (encB b) true)]) (Has.row (rw := true) (by simp) (by rw [hB]) (noX_encB _)) hb
    simp only [List.length_append, List.length_cons, List.length_nil, Nat.zero_add, List.append_assoc, List.cons_append, List.nil_append] at hNu
    have go : ∀ w, (∀ h, S_points_Get [.a (encB b), .c (.i .i64 k)] h = some (.c (.i .i64 w), h)) → ∃ h', escheatlaw20_PointsLooks_l0 N N (.c (.i .i64 k)) (.c (.i .i64 e)) (.c (.p g.length 0)) (.c (.p (g.length + 1) 0)) (.c (.sl (g.length + 2) 0 128 1)) (.c (.i .i64 w)) (.c (.sl (g.length + 3) 0 0 1)) (.c (.i .i64 0)) (.c (.i .i64 0)) (g ++ [some (Row.mk (encB b) true), some (Row.mk (encB b) true), some (Row.mk (encI (fldsP b 128)) true), some (Row.mk [] true)]) = some (.c (.b true), h') := by
      intro w hw
      exact looks_loop (g := g) (e := e) (q := N) hb hw 128 0 N (g ++ [some (Row.mk (encB b) true), some (Row.mk (encB b) true), some (Row.mk (encI (fldsP b 128)) true), some (Row.mk [] true)]) (g.length + 3) (by omega) hN
        (by have := (Low.refl (h := g ++ [some (Row.mk (encB b) true), some (Row.mk (encB b) true), some (Row.mk (encI (fldsP b 128)) true)]) (Nat.le_refl _)).new [some ⟨[], true⟩]
            simpa using this) (by simp) (by simp [listP, encI])
    rw [R_escheatlaw20_PointsLooks_eq]
    by_cases c1 : 0 ≤ k
    · by_cases c2 : k < 128
      · obtain ⟨i, rfl⟩ : ∃ i : Nat, k = i := ⟨k.toNat, by omega⟩
        obtain ⟨h', ih⟩ := go (ptP b i) fun h => points_Get_at hb (by omega)
        have eb : aiAddrL 1 (.c (.sl (g.length + 2) 0 128 1)) (.c (.i .i64 (i : Int))) = some (.c (.p (g.length + 2) i)) := by rw [iAddrL_of (by omega)]; simp
        have hx : (encI (fldsP b 128))[i]? = some (.i .i64 (ptP b i)) := by rw [encI_get, fldsP_map, List.getElem?_map, List.getElem?_range (by omega)]; rfl
        generalize encI (fldsP b 128) = y at *
        generalize List.replicate 256 (Cell.i .u8 0) = z at *
        exact ⟨h', by simp only [afAddr_p, List.append_nil, if_true, if_false, bnd_some, mp_some, cnd_t, cnd_f, gd_no, gd_tt, gd_tf, gd_ft, gd_ff, alenS_s, alen_sl, alen_ns, abin_add, abin_sub, abin_mul, abin_eql, abin_neq, abin_lss, abin_leq, abin_gtr, abin_geq, abin_seql, abin_sneq, abin_slss, aun_not, aun_neg, agn_some, aeqN_nf, aeqN_f, aeqN_np, aeqN_p, anilc_p, aeqB_t, aeqB_f, aconv_i, apick_b, cond_true, cond_false, decide_true, decide_false, Bool.not_true, Bool.not_false, aext_t, ofPart_c, ofPart_a, part?_c, part?_a, cells?_c, cells?_a, tupN_2, tupN_3, Option.map_some, Option.some.injEq, List.getElem?_cons_zero, List.getElem?_cons_succ, not_true_eq_false, not_false_eq_true, quiet_same, bytesI_length, Option.join_some, List.append_assoc, List.cons_append, List.nil_append, List.length_append, List.length_cons, List.length_nil, Nat.zero_add, Nat.add_zero, rd_at, rd_at0, set_at, set_at0, List.set_cons_zero, List.set_cons_succ, ne_eq, decide_not, quiet_ext, newOk_some, List.cons_prefix_cons, List.nil_prefix, List.drop_succ_cons, List.drop_zero, List.all_cons, List.all_nil, Bool.and_true, true_and, and_true, aloadN_at, aloadN_at0, aload1_at, aload1_at0, astoreN_at, astoreN_at0, astore1_at, astore1_at0, aslA_at, aslA_at0, ldN_all, ld1_row, stN_all, st1_row, slr_all, Nat.reduceAdd, Nat.reduceMul, Nat.reduceLT, hB, hz0, hNu, c1, c2, eb, hx, escheatlaw20_PointsLooks_j0_eq]; exact ih⟩
      · obtain ⟨h', ih⟩ := go 0 fun h => points_Get_out (by omega)
        generalize encI (fldsP b 128) = y at *
        generalize List.replicate 256 (Cell.i .u8 0) = z at *
        exact ⟨h', by simp only [afAddr_p, List.append_nil, if_true, if_false, bnd_some, mp_some, cnd_t, cnd_f, gd_no, gd_tt, gd_tf, gd_ft, gd_ff, alenS_s, alen_sl, alen_ns, abin_add, abin_sub, abin_mul, abin_eql, abin_neq, abin_lss, abin_leq, abin_gtr, abin_geq, abin_seql, abin_sneq, abin_slss, aun_not, aun_neg, agn_some, aeqN_nf, aeqN_f, aeqN_np, aeqN_p, anilc_p, aeqB_t, aeqB_f, aconv_i, apick_b, cond_true, cond_false, decide_true, decide_false, Bool.not_true, Bool.not_false, aext_t, ofPart_c, ofPart_a, part?_c, part?_a, cells?_c, cells?_a, tupN_2, tupN_3, Option.map_some, Option.some.injEq, List.getElem?_cons_zero, List.getElem?_cons_succ, not_true_eq_false, not_false_eq_true, quiet_same, bytesI_length, Option.join_some, List.append_assoc, List.cons_append, List.nil_append, List.length_append, List.length_cons, List.length_nil, Nat.zero_add, Nat.add_zero, rd_at, rd_at0, set_at, set_at0, List.set_cons_zero, List.set_cons_succ, ne_eq, decide_not, quiet_ext, newOk_some, List.cons_prefix_cons, List.nil_prefix, List.drop_succ_cons, List.drop_zero, List.all_cons, List.all_nil, Bool.and_true, true_and, and_true, aloadN_at, aloadN_at0, aload1_at, aload1_at0, astoreN_at, astoreN_at0, astore1_at, astore1_at0, aslA_at, aslA_at0, ldN_all, ld1_row, stN_all, st1_row, slr_all, Nat.reduceAdd, Nat.reduceMul, Nat.reduceLT, hB, hz0, hNu, c1, c2, escheatlaw20_PointsLooks_j0_eq]; exact ih⟩
    · obtain ⟨h', ih⟩ := go 0 fun h => points_Get_out (by omega)
      generalize encI (fldsP b 128) = y at *
      generalize List.replicate 256 (Cell.i .u8 0) = z at *
      exact ⟨h', by simp only [afAddr_p, List.append_nil, if_true, if_false, bnd_some, mp_some, cnd_t, cnd_f, gd_no, gd_tt, gd_tf, gd_ft, gd_ff, alenS_s, alen_sl, alen_ns, abin_add, abin_sub, abin_mul, abin_eql, abin_neq, abin_lss, abin_leq, abin_gtr, abin_geq, abin_seql, abin_sneq, abin_slss, aun_not, aun_neg, agn_some, aeqN_nf, aeqN_f, aeqN_np, aeqN_p, anilc_p, aeqB_t, aeqB_f, aconv_i, apick_b, cond_true, cond_false, decide_true, decide_false, Bool.not_true, Bool.not_false, aext_t, ofPart_c, ofPart_a, part?_c, part?_a, cells?_c, cells?_a, tupN_2, tupN_3, Option.map_some, Option.some.injEq, List.getElem?_cons_zero, List.getElem?_cons_succ, not_true_eq_false, not_false_eq_true, quiet_same, bytesI_length, Option.join_some, List.append_assoc, List.cons_append, List.nil_append, List.length_append, List.length_cons, List.length_nil, Nat.zero_add, Nat.add_zero, rd_at, rd_at0, set_at, set_at0, List.set_cons_zero, List.set_cons_succ, ne_eq, decide_not, quiet_ext, newOk_some, List.cons_prefix_cons, List.nil_prefix, List.drop_succ_cons, List.drop_zero, List.all_cons, List.all_nil, Bool.and_true, true_and, and_true, aloadN_at, aloadN_at0, aload1_at, aload1_at0, astoreN_at, astoreN_at0, astore1_at, astore1_at0, aslA_at, aslA_at0, ldN_all, ld1_row, stN_all, st1_row, slr_all, Nat.reduceAdd, Nat.reduceMul, Nat.reduceLT, hB, hz0, hNu, c1, escheatlaw20_PointsLooks_j0_eq]; exact ih⟩
  obtain ⟨g', e⟩ := key (h.length + 129) (by omega) (ro h)
  exact S_escheatlaw20_PointsLooks_flat e rfl

end Go.Proofs.Ytbbkpmbepljhkaa
