/- The law that what is put in a place is got there answers true. -/
import Derived.Test.YtbbkpmbepljhkaaSLaw17
import Derived.Test.YtbbkpmbepljhkaaSInoBack
import Derived.Test.YtbbkpmbepljhkaaSPlaceGet
import Derived.Test.YtbbkpmbepljhkaaGEscheatlaw17TableKeeps
set_option linter.all false
namespace Go.Proofs.Ytbbkpmbepljhkaa
open Go Go.Esc

theorem aloadN_rd {h : Heap} {n id off : Nat} : aloadN h n (.c (.p id off)) = ldN (rd h id) off n := by simp [aloadN, ldN]

theorem lay_comm {b x y : List UInt8} {j k : Nat} (hb : b.length = 256) (hx : x.length = 32) (hy : y.length = 32) (hj : j < 8) (hk : k < 8) (hjk : j ≠ k) : layB (layB b (32 * k) y) (32 * j) x = layB (layB b (32 * j) x) (32 * k) y := by
  have h1 : (layB b (32 * k) y).length = 256 := by rw [layB_length (by omega), hb]
  have h2 : (layB b (32 * j) x).length = 256 := by rw [layB_length (by omega), hb]
  apply List.ext_getElem?
  intro n
  rw [layB_get (by omega), layB_get (by omega), layB_get (by omega), layB_get (by omega), hx, hy]
  by_cases c1 : 32 * j ≤ n ∧ n < 32 * j + 32
  · rw [if_pos c1, if_pos c1, if_neg (by omega)]
  · rw [if_neg c1, if_neg c1]

section
variable {b B1 B2 : List UInt8} {C3 i1 i2 : List Cell} {j k p y q : Nat}

theorem keeps_j {h : Heap} {Y : List UInt8} (hY : Y.length = 256) (hr : rd h y = some ⟨encB Y, true⟩) : ∃ h', escheatlaw17_TableKeeps_j0 q (.c (.p y 0)) h = some (.c (.b true), h') := by
  have hB : (encB Y).length = 256 := by rw [encB_length, hY]
  have s1 := loadAll (h := h) (id := y) (cs := encB Y) hr hB
  have hU := table_Used_eq (h := h) hY
  have hl := usedT_length (b := Y) 8
  have c1 : ((usedT Y 8).length : Int) ≤ 8 := by omega
  rw [escheatlaw17_TableKeeps_j0_eq]
  exact ⟨_, by simp only [afAddr_p, List.append_nil, if_true, if_false, bnd_some, mp_some, cnd_t, cnd_f, gd_no, gd_tt, gd_tf, gd_ft, gd_ff, alenS_s, alen_sl, alen_ns, abin_add, abin_sub, abin_mul, abin_eql, abin_neq, abin_lss, abin_leq, abin_gtr, abin_geq, abin_seql, abin_sneq, abin_slss, aun_not, aun_neg, aeqB_t, aeqB_f, aconv_i, apick_b, cond_true, cond_false, decide_true, decide_false, Bool.not_true, Bool.not_false, aext_t, ofPart_c, ofPart_a, part?_c, part?_a, cells?_c, cells?_a, tupN_2, tupN_3, Option.map_some, Option.some.injEq, List.getElem?_cons_zero, List.getElem?_cons_succ, not_true_eq_false, not_false_eq_true, quiet_same, bytesI_length, Option.join_some, List.append_assoc, List.cons_append, List.nil_append, List.length_append, List.length_cons, List.length_nil, Nat.zero_add, Nat.add_zero, rd_at, rd_at0, set_at, set_at0, List.set_cons_zero, List.set_cons_succ, ne_eq, decide_not, quiet_ext, newOk_some, List.cons_prefix_cons, List.nil_prefix, List.drop_succ_cons, List.drop_zero, List.all_cons, List.all_nil, Bool.and_true, true_and, and_true, s1, hU, c1, works17_eq] <;> rfl⟩

theorem keeps_loop {h : Heap} (hb : b.length = 256) (h1 : B1.length = 32) (h2 : B2.length = 32) (hj : j < 8) (hk : k < 8) (hi1 : i1.length = 11) (hi2 : i2.length = 11)
    (L1 : ldN (some ⟨C3, true⟩) 0 11 = some (.a i1)) (L2 : ldN (some ⟨C3, true⟩) 11 11 = some (.a i2))
    (W1 : ∀ (c : List UInt8) (h : Heap), c.length = 256 → S_table_With [.a (encB c), .c (.i .i64 j), .a i1] h = some (.t [.a (encB (layB c (32 * j) B1)), .c (.i .i64 0)], h))
    (W2 : ∀ (c : List UInt8) (h : Heap), c.length = 256 → S_table_With [.a (encB c), .c (.i .i64 k), .a i2] h = some (.t [.a (encB (layB c (32 * k) B2)), .c (.i .i64 0)], h))
    (G1 : cleanC B1 = i1) (g1 : cleanI B1 = true) (G2 : cleanC B2 = i2) (g2 : cleanI B2 = true)
    (hrb : rd h p = some ⟨encB b, true⟩) (hr3 : rd h (p + 2) = some ⟨C3, true⟩) (hry : rd h y = some ⟨encB (layB (layB b (32 * j) B1) (32 * k) B2), true⟩) : ∀ e i m : Nat, i + e = 8 → e < m →
    ∃ h', escheatlaw17_TableKeeps_l0 q m (.c (.p p 0)) (.c (.p (p + 2) 0)) (.c (.i .i64 j)) (.c (.i .i64 k)) (.c (.p y 0)) (.c (.i .i64 i)) h = some (.c (.b true), h')
  | e, i, 0, _, hm => by omega
  | 0, i, m + 1, hi, hm => by
    have c0 : ¬ (i : Int) < 8 := by omega
    have hX : (layB b (32 * j) B1).length = 256 := by rw [layB_length (by omega), hb]
    have hY : (layB (layB b (32 * j) B1) (32 * k) B2).length = 256 := by rw [layB_length (by omega), hX]
    have hYe : (encB (layB (layB b (32 * j) B1) (32 * k) B2)).length = 256 := by rw [encB_length, hY]
    have hB : (encB b).length = 256 := by rw [encB_length, hb]
    have r1 : rawT (layB (layB b (32 * j) B1) (32 * k) B2) k = B2 := by rw [rawT_lay hX h2 hk hk, if_pos rfl]
    have s1 := loadAll (h := h) (id := y) hry hYe
    have s2 : ∀ l, aloadN (h ++ l) 256 (.c (.p y 0)) = some (.a (encB (layB (layB b (32 * j) B1) (32 * k) B2))) := fun l => loadAll (rd_append hry) hYe
    have s3 : ∀ l, aloadN (h ++ l) 256 (.c (.p p 0)) = some (.a (encB b)) := fun l => loadAll (rd_append hrb) hB
    have t1 : ∀ l, aloadN (h ++ l) 11 (.c (.p (p + 2) 0)) = some (.a i1) := fun l => by rw [aloadN_rd, rd_append hr3, L1]
    have t2 : ∀ l, aloadN (h ++ l) 11 (.c (.p (p + 2) 11)) = some (.a i2) := fun l => by rw [aloadN_rd, rd_append hr3, L2]
    have a1 : aiAddrA 2 11 (.c (.p (p + 2) 0)) (.c (.i .i64 1)) = some (.c (.p (p + 2) 11)) := rfl
    have a0 : aiAddrA 2 11 (.c (.p (p + 2) 0)) (.c (.i .i64 0)) = some (.c (.p (p + 2) 0)) := rfl
    have hG := fun h => table_Get_at (h := h) hY hk
    rw [r1, G2, g2] at hG
    have hG' := fun h => table_Get_at (h := h) hY hj
    have q1 := aeqt_clean (b := B1)
    have q2 := aeqt_clean (b := B2)
    rw [G1] at q1
    rw [G2] at q2
    have hl := ino0_length
    rw [escheatlaw17_TableKeeps_l0_eq, ino0_eq]
    by_cases c : j = k
    · subst c
      rw [r1, G2, g2] at hG'
      obtain ⟨h', e⟩ := keeps_j (q := q) (h := h ++ [some (Row.mk i2 true), some (Row.mk i2 true)]) hY (rd_append hry)
      generalize layB (layB b (32 * j) B1) (32 * j) B2 = Y at *
      generalize inoC 0 0 0 0 (zI 7) = z at *
      refine ⟨h', ?_⟩
      simp only [afAddr_p, List.append_nil, if_true, if_false, bnd_some, mp_some, cnd_t, cnd_f, gd_no, gd_tt, gd_tf, gd_ft, gd_ff, alenS_s, alen_sl, alen_ns, abin_add, abin_sub, abin_mul, abin_eql, abin_neq, abin_lss, abin_leq, abin_gtr, abin_geq, abin_seql, abin_sneq, abin_slss, aun_not, aun_neg, aeqB_t, aeqB_f, aconv_i, apick_b, cond_true, cond_false, decide_true, decide_false, Bool.not_true, Bool.not_false, aext_t, ofPart_c, ofPart_a, part?_c, part?_a, cells?_c, cells?_a, tupN_2, tupN_3, Option.map_some, Option.some.injEq, List.getElem?_cons_zero, List.getElem?_cons_succ, not_true_eq_false, not_false_eq_true, quiet_same, bytesI_length, Option.join_some, List.append_assoc, List.cons_append, List.nil_append, List.length_append, List.length_cons, List.length_nil, Nat.zero_add, Nat.add_zero, rd_at, rd_at0, set_at, set_at0, List.set_cons_zero, List.set_cons_succ, ne_eq, decide_not, quiet_ext, newOk_some, List.cons_prefix_cons, List.nil_prefix, List.drop_succ_cons, List.drop_zero, List.all_cons, List.all_nil, Bool.and_true, true_and, and_true, aloadN_at, aloadN_at0, aload1_at, aload1_at0, astoreN_at, astoreN_at0, astore1_at, astore1_at0, aslA_at, aslA_at0, ldN_all, ld1_row, stN_all, st1_row, slr_all, Nat.reduceAdd, Nat.reduceMul, Nat.reduceLT, c0, s1, s2, hG, hl, hi2, a1, t2, q2]
      exact e
    · have r2 : rawT (layB (layB b (32 * j) B1) (32 * k) B2) j = B1 := by rw [rawT_lay hX h2 hk hj, if_neg c, rawT_lay hb h1 hj hj, if_pos rfl]
      rw [r2, G1, g1] at hG'
      have c' : ¬ (j : Int) = k := by omega
      have hZ : (layB b (32 * k) B2).length = 256 := by rw [layB_length (by omega), hb]
      have hZe : (encB (layB b (32 * k) B2)).length = 256 := by rw [encB_length, hZ]
      have w2 := fun h => W2 b h hb
      have w1 := fun h => W1 (layB b (32 * k) B2) h hZ
      rw [lay_comm hb h1 h2 hj hk c] at w1
      have hq := aeq_t (n := 256) hY hY
      rw [decide_eq_true rfl] at hq
      obtain ⟨h', e⟩ := keeps_j (q := q) (h := h ++ [some (Row.mk i2 true), some (Row.mk i1 true), some (Row.mk (encB (layB (layB b (32 * j) B1) (32 * k) B2)) true)]) hY (rd_append hry)
      have hz : (List.replicate 256 (Cell.i .u8 0)).length = 256 := List.length_replicate
      generalize layB (layB b (32 * j) B1) (32 * k) B2 = Y at *
      generalize layB b (32 * k) B2 = Z at *
      generalize inoC 0 0 0 0 (zI 7) = z at *
      generalize List.replicate 256 (Cell.i .u8 0) = z2 at *
      refine ⟨h', ?_⟩
      simp only [afAddr_p, List.append_nil, if_true, if_false, bnd_some, mp_some, cnd_t, cnd_f, gd_no, gd_tt, gd_tf, gd_ft, gd_ff, alenS_s, alen_sl, alen_ns, abin_add, abin_sub, abin_mul, abin_eql, abin_neq, abin_lss, abin_leq, abin_gtr, abin_geq, abin_seql, abin_sneq, abin_slss, aun_not, aun_neg, aeqB_t, aeqB_f, aconv_i, apick_b, cond_true, cond_false, decide_true, decide_false, Bool.not_true, Bool.not_false, aext_t, ofPart_c, ofPart_a, part?_c, part?_a, cells?_c, cells?_a, tupN_2, tupN_3, Option.map_some, Option.some.injEq, List.getElem?_cons_zero, List.getElem?_cons_succ, not_true_eq_false, not_false_eq_true, quiet_same, bytesI_length, Option.join_some, List.append_assoc, List.cons_append, List.nil_append, List.length_append, List.length_cons, List.length_nil, Nat.zero_add, Nat.add_zero, rd_at, rd_at0, set_at, set_at0, List.set_cons_zero, List.set_cons_succ, ne_eq, decide_not, quiet_ext, newOk_some, List.cons_prefix_cons, List.nil_prefix, List.drop_succ_cons, List.drop_zero, List.all_cons, List.all_nil, Bool.and_true, true_and, and_true, aloadN_at, aloadN_at0, aload1_at, aload1_at0, astoreN_at, astoreN_at0, astore1_at, astore1_at0, aslA_at, aslA_at0, ldN_all, ld1_row, stN_all, st1_row, slr_all, Nat.reduceAdd, Nat.reduceMul, Nat.reduceLT, c0, s1, s2, s3, hG, hG', hl, hi1, hi2, a0, a1, t1, t2, q1, q2, c', w1, w2, hz, hZe, hYe, hq]
      exact e
  | e + 1, i, m + 1, hi, hm => by
    obtain ⟨h', ih⟩ := keeps_loop hb h1 h2 hj hk hi1 hi2 L1 L2 W1 W2 G1 g1 G2 g2 hrb hr3 hry e (i + 1) m (by omega) (by omega)
    have c0 : (i : Int) < 8 := by omega
    have hX : (layB b (32 * j) B1).length = 256 := by rw [layB_length (by omega), hb]
    have hY : (layB (layB b (32 * j) B1) (32 * k) B2).length = 256 := by rw [layB_length (by omega), hX]
    have hYe : (encB (layB (layB b (32 * j) B1) (32 * k) B2)).length = 256 := by rw [encB_length, hY]
    have hB : (encB b).length = 256 := by rw [encB_length, hb]
    have s1 := loadAll (h := h) (id := y) hry hYe
    have s3 := loadAll (h := h) (id := p) hrb hB
    refine ⟨h', ?_⟩
    rw [escheatlaw17_TableKeeps_l0_eq]
    by_cases c1 : i = j
    · have c1' : (i : Int) = j := by omega
      have c0' : (j : Int) < 8 := by omega
      rw [c1] at ih
      simp only [afAddr_p, List.append_nil, if_true, if_false, bnd_some, mp_some, cnd_t, cnd_f, gd_no, gd_tt, gd_tf, gd_ft, gd_ff, alenS_s, alen_sl, alen_ns, abin_add, abin_sub, abin_mul, abin_eql, abin_neq, abin_lss, abin_leq, abin_gtr, abin_geq, abin_seql, abin_sneq, abin_slss, aun_not, aun_neg, aeqB_t, aeqB_f, aconv_i, apick_b, cond_true, cond_false, decide_true, decide_false, Bool.not_true, Bool.not_false, aext_t, ofPart_c, ofPart_a, part?_c, part?_a, cells?_c, cells?_a, tupN_2, tupN_3, Option.map_some, Option.some.injEq, List.getElem?_cons_zero, List.getElem?_cons_succ, not_true_eq_false, not_false_eq_true, quiet_same, bytesI_length, Option.join_some, List.append_assoc, List.cons_append, List.nil_append, List.length_append, List.length_cons, List.length_nil, Nat.zero_add, Nat.add_zero, rd_at, rd_at0, set_at, set_at0, List.set_cons_zero, List.set_cons_succ, ne_eq, decide_not, quiet_ext, newOk_some, List.cons_prefix_cons, List.nil_prefix, List.drop_succ_cons, List.drop_zero, List.all_cons, List.all_nil, Bool.and_true, true_and, and_true, c1', c0', wi_succ (show j + 1 < 9223372036854775808 by omega)]
      exact ih
    · have c1' : ¬ (i : Int) = j := by omega
      by_cases c2 : i = k
      · have c2' : (i : Int) = k := by omega
        have c3' : ¬ (k : Int) = j := by omega
        have c0' : (k : Int) < 8 := by omega
        rw [c2] at ih
        simp only [afAddr_p, List.append_nil, if_true, if_false, bnd_some, mp_some, cnd_t, cnd_f, gd_no, gd_tt, gd_tf, gd_ft, gd_ff, alenS_s, alen_sl, alen_ns, abin_add, abin_sub, abin_mul, abin_eql, abin_neq, abin_lss, abin_leq, abin_gtr, abin_geq, abin_seql, abin_sneq, abin_slss, aun_not, aun_neg, aeqB_t, aeqB_f, aconv_i, apick_b, cond_true, cond_false, decide_true, decide_false, Bool.not_true, Bool.not_false, aext_t, ofPart_c, ofPart_a, part?_c, part?_a, cells?_c, cells?_a, tupN_2, tupN_3, Option.map_some, Option.some.injEq, List.getElem?_cons_zero, List.getElem?_cons_succ, not_true_eq_false, not_false_eq_true, quiet_same, bytesI_length, Option.join_some, List.append_assoc, List.cons_append, List.nil_append, List.length_append, List.length_cons, List.length_nil, Nat.zero_add, Nat.add_zero, rd_at, rd_at0, set_at, set_at0, List.set_cons_zero, List.set_cons_succ, ne_eq, decide_not, quiet_ext, newOk_some, List.cons_prefix_cons, List.nil_prefix, List.drop_succ_cons, List.drop_zero, List.all_cons, List.all_nil, Bool.and_true, true_and, and_true, c2', c3', c0', wi_succ (show k + 1 < 9223372036854775808 by omega)]
        exact ih
      · have c2' : ¬ (i : Int) = k := by omega
        have hR := fun h => table_Raw_eq (h := h) hY (show i < 8 by omega)
        have hS := fun h => table_Raw_eq (h := h) hb (show i < 8 by omega)
        rw [rawT_lay hX h2 hk (by omega), if_neg c2, rawT_lay hb h1 hj (by omega), if_neg c1] at hR
        have hq := aeq_t (l := rawT b i) (m := rawT b i) (n := 32) (rawT_length hb (by omega)) (rawT_length hb (by omega))
        rw [decide_eq_true rfl] at hq
        simp only [afAddr_p, List.append_nil, if_true, if_false, bnd_some, mp_some, cnd_t, cnd_f, gd_no, gd_tt, gd_tf, gd_ft, gd_ff, alenS_s, alen_sl, alen_ns, abin_add, abin_sub, abin_mul, abin_eql, abin_neq, abin_lss, abin_leq, abin_gtr, abin_geq, abin_seql, abin_sneq, abin_slss, aun_not, aun_neg, aeqB_t, aeqB_f, aconv_i, apick_b, cond_true, cond_false, decide_true, decide_false, Bool.not_true, Bool.not_false, aext_t, ofPart_c, ofPart_a, part?_c, part?_a, cells?_c, cells?_a, tupN_2, tupN_3, Option.map_some, Option.some.injEq, List.getElem?_cons_zero, List.getElem?_cons_succ, not_true_eq_false, not_false_eq_true, quiet_same, bytesI_length, Option.join_some, List.append_assoc, List.cons_append, List.nil_append, List.length_append, List.length_cons, List.length_nil, Nat.zero_add, Nat.add_zero, rd_at, rd_at0, set_at, set_at0, List.set_cons_zero, List.set_cons_succ, ne_eq, decide_not, quiet_ext, newOk_some, List.cons_prefix_cons, List.nil_prefix, List.drop_succ_cons, List.drop_zero, List.all_cons, List.all_nil, Bool.and_true, true_and, and_true, c0, c1', c2', s1, s3, hR, hS, hq, wi_succ (show i + 1 < 9223372036854775808 by omega)]
        exact ih
end

theorem tableKeeps_eq {x y : UInt8} {b : List UInt8} {k l s p k' l' s' p' : Int} {d d' : List Int} (h : Heap) (hb : b.length = 256) (hd : d.length = 7) (hd' : d'.length = 7) :
    S_escheatlaw17_TableKeeps [.a (encB b), .a (encB [x, y]), .a (encI ((k :: l :: s :: p :: d) ++ (k' :: l' :: s' :: p' :: d')))] h = some (.c (.b true), h) := by
  have key : ∀ N, 8 < N → ∀ g, ∃ g', R_escheatlaw17_TableKeeps N [.a (encB b), .a (encB [x, y]), .a (encI ((k :: l :: s :: p :: d) ++ (k' :: l' :: s' :: p' :: d')))] g = some (.c (.b true), g') := by
    intro N hN g
    have L1 : ldN (some ⟨encI ((k :: l :: s :: p :: d) ++ (k' :: l' :: s' :: p' :: d')), true⟩) 0 11 = some (.a (inoC k l s p d)) := by
      rw [encI_append]
      have h1 : (encI (k :: l :: s :: p :: d)).length = 11 := by simp [encI_length, hd]
      unfold ldN
      simp only [Option.bind_some, List.drop_zero, Nat.zero_add, Bool.true_or, and_true]
      rw [if_pos (by rw [List.length_append, h1]; omega), List.take_left' h1]; rfl
    have L2 : ldN (some ⟨encI ((k :: l :: s :: p :: d) ++ (k' :: l' :: s' :: p' :: d')), true⟩) 11 11 = some (.a (inoC k' l' s' p' d')) := by
      rw [encI_append]
      have h1 : (encI (k :: l :: s :: p :: d)).length = 11 := by simp [encI_length, hd]
      have h2 : (encI (k' :: l' :: s' :: p' :: d')).length = 11 := by simp [encI_length, hd']
      unfold ldN
      simp only [Option.bind_some, Bool.true_or, and_true]
      rw [if_pos (by rw [List.length_append, h1, h2]; omega), List.drop_left' h1, List.take_of_length_le (by omega)]; rfl
    have hi1 : (inoC k l s p d).length = 11 := by simp [encI_length, hd]
    have hi2 : (inoC k' l' s' p' d').length = 11 := by simp [encI_length, hd']
    have hB : (encB b).length = 256 := by rw [encB_length, hb]
    have a0 : aiAddrA 2 1 (.c (.p (g.length + 1) 0)) (.c (.i .i64 0)) = some (.c (.p (g.length + 1) 0)) := rfl
    have a1 : aiAddrA 2 1 (.c (.p (g.length + 1) 0)) (.c (.i .i64 1)) = some (.c (.p (g.length + 1) 1)) := rfl
    have a2 : aiAddrA 2 11 (.c (.p (g.length + 2) 0)) (.c (.i .i64 0)) = some (.c (.p (g.length + 2) 0)) := rfl
    have a3 : aiAddrA 2 11 (.c (.p (g.length + 2) 0)) (.c (.i .i64 1)) = some (.c (.p (g.length + 2) 11)) := rfl
    have e1 := rem_i (a := (x.toNat : Int)) (b := 8) (k := .u8) (by omega) (by omega)
    have e2 := rem_i (a := (y.toNat : Int)) (b := 8) (k := .u8) (by omega) (by omega)
    have e3 : IntKind.wrap .i64 ((x.toNat : Int) % 8) = ((x.toNat % 8 : Nat) : Int) := by rw [wrap_i64 (by omega) (by omega)]; omega
    have e4 : IntKind.wrap .i64 ((y.toNat : Int) % 8) = ((y.toNat % 8 : Nat) : Int) := by rw [wrap_i64 (by omega) (by omega)]; omega
    have exy : encB [x, y] = [.i .u8 x.toNat, .i .u8 y.toNat] := rfl
    have hz : (List.replicate 256 (Cell.i .u8 0)).length = 256 := List.length_replicate
    have hj : x.toNat % 8 < 8 := Nat.mod_lt _ (by omega)
    have hk : y.toNat % 8 < 8 := Nat.mod_lt _ (by omega)
    rw [R_escheatlaw17_TableKeeps_eq, exy]
    generalize x.toNat % 8 = J at *
    generalize y.toNat % 8 = K at *
    generalize List.replicate 256 (Cell.i .u8 0) = z at *
    cases m1 : mayI k l s p d with
    | false =>
      have w1 := fun h => table_With_may (j := (J : Int)) (h := h) hb hd (by omega) (by omega) m1
      cases m2 : mayI k' l' s' p' d' with
      | false =>
        have w2 := fun h => table_With_may (j := (K : Int)) (h := h) hb hd' (by omega) (by omega) m2
        generalize encI ((k :: l :: s :: p :: d) ++ (k' :: l' :: s' :: p' :: d')) = C3 at *
        generalize inoC k l s p d = i1 at *
        generalize inoC k' l' s' p' d' = i2 at *
        exact ⟨_, by simp only [afAddr_p, List.append_nil, if_true, if_false, bnd_some, mp_some, cnd_t, cnd_f, gd_no, gd_tt, gd_tf, gd_ft, gd_ff, alenS_s, alen_sl, alen_ns, abin_add, abin_sub, abin_mul, abin_eql, abin_neq, abin_lss, abin_leq, abin_gtr, abin_geq, abin_seql, abin_sneq, abin_slss, aun_not, aun_neg, aeqB_t, aeqB_f, aconv_i, apick_b, cond_true, cond_false, decide_true, decide_false, Bool.not_true, Bool.not_false, aext_t, ofPart_c, ofPart_a, part?_c, part?_a, cells?_c, cells?_a, tupN_2, tupN_3, Option.map_some, Option.some.injEq, List.getElem?_cons_zero, List.getElem?_cons_succ, not_true_eq_false, not_false_eq_true, quiet_same, bytesI_length, Option.join_some, List.append_assoc, List.cons_append, List.nil_append, List.length_append, List.length_cons, List.length_nil, Nat.zero_add, Nat.add_zero, rd_at, rd_at0, set_at, set_at0, List.set_cons_zero, List.set_cons_succ, ne_eq, decide_not, quiet_ext, newOk_some, List.cons_prefix_cons, List.nil_prefix, List.drop_succ_cons, List.drop_zero, List.all_cons, List.all_nil, Bool.and_true, true_and, and_true, aloadN_at, aloadN_at0, aload1_at, aload1_at0, astoreN_at, astoreN_at0, astore1_at, astore1_at0, aslA_at, aslA_at0, ldN_all, ld1_row, stN_all, st1_row, slr_all, Nat.reduceAdd, Nat.reduceMul, Nat.reduceLT, hB, hz, a0, a1, a2, a3, e1, e2, e3, e4, L1, L2, w1, w2, works17_eq, Int.reduceEq] <;> rfl⟩
      | true =>
        have w2 := fun h => table_With_ok (h := h) hb hd' hk m2
        have hY : (encB (layB b (32 * K) (inoB k' l' s' p' d'))).length = 256 := by rw [encB_length, layB_length (by rw [inoB_length hd']; omega), hb]
        generalize encI ((k :: l :: s :: p :: d) ++ (k' :: l' :: s' :: p' :: d')) = C3 at *
        generalize inoC k l s p d = i1 at *
        generalize inoC k' l' s' p' d' = i2 at *
        exact ⟨_, by simp only [afAddr_p, List.append_nil, if_true, if_false, bnd_some, mp_some, cnd_t, cnd_f, gd_no, gd_tt, gd_tf, gd_ft, gd_ff, alenS_s, alen_sl, alen_ns, abin_add, abin_sub, abin_mul, abin_eql, abin_neq, abin_lss, abin_leq, abin_gtr, abin_geq, abin_seql, abin_sneq, abin_slss, aun_not, aun_neg, aeqB_t, aeqB_f, aconv_i, apick_b, cond_true, cond_false, decide_true, decide_false, Bool.not_true, Bool.not_false, aext_t, ofPart_c, ofPart_a, part?_c, part?_a, cells?_c, cells?_a, tupN_2, tupN_3, Option.map_some, Option.some.injEq, List.getElem?_cons_zero, List.getElem?_cons_succ, not_true_eq_false, not_false_eq_true, quiet_same, bytesI_length, Option.join_some, List.append_assoc, List.cons_append, List.nil_append, List.length_append, List.length_cons, List.length_nil, Nat.zero_add, Nat.add_zero, rd_at, rd_at0, set_at, set_at0, List.set_cons_zero, List.set_cons_succ, ne_eq, decide_not, quiet_ext, newOk_some, List.cons_prefix_cons, List.nil_prefix, List.drop_succ_cons, List.drop_zero, List.all_cons, List.all_nil, Bool.and_true, true_and, and_true, aloadN_at, aloadN_at0, aload1_at, aload1_at0, astoreN_at, astoreN_at0, astore1_at, astore1_at0, aslA_at, aslA_at0, ldN_all, ld1_row, stN_all, st1_row, slr_all, Nat.reduceAdd, Nat.reduceMul, Nat.reduceLT, hB, hz, hY, a0, a1, a2, a3, e1, e2, e3, e4, L1, L2, w1, w2, works17_eq, Int.reduceEq] <;> rfl⟩
    | true =>
      have w1 := fun h => table_With_ok (h := h) hb hd hj m1
      have hX0 : (layB b (32 * J) (inoB k l s p d)).length = 256 := by rw [layB_length (by rw [inoB_length hd]; omega), hb]
      have hX : (encB (layB b (32 * J) (inoB k l s p d))).length = 256 := by rw [encB_length, hX0]
      cases m2 : mayI k' l' s' p' d' with
      | false =>
        have w2 := fun h => table_With_may (j := (K : Int)) (h := h) hX0 hd' (by omega) (by omega) m2
        generalize encI ((k :: l :: s :: p :: d) ++ (k' :: l' :: s' :: p' :: d')) = C3 at *
        generalize inoC k l s p d = i1 at *
        generalize inoC k' l' s' p' d' = i2 at *
        exact ⟨_, by simp only [afAddr_p, List.append_nil, if_true, if_false, bnd_some, mp_some, cnd_t, cnd_f, gd_no, gd_tt, gd_tf, gd_ft, gd_ff, alenS_s, alen_sl, alen_ns, abin_add, abin_sub, abin_mul, abin_eql, abin_neq, abin_lss, abin_leq, abin_gtr, abin_geq, abin_seql, abin_sneq, abin_slss, aun_not, aun_neg, aeqB_t, aeqB_f, aconv_i, apick_b, cond_true, cond_false, decide_true, decide_false, Bool.not_true, Bool.not_false, aext_t, ofPart_c, ofPart_a, part?_c, part?_a, cells?_c, cells?_a, tupN_2, tupN_3, Option.map_some, Option.some.injEq, List.getElem?_cons_zero, List.getElem?_cons_succ, not_true_eq_false, not_false_eq_true, quiet_same, bytesI_length, Option.join_some, List.append_assoc, List.cons_append, List.nil_append, List.length_append, List.length_cons, List.length_nil, Nat.zero_add, Nat.add_zero, rd_at, rd_at0, set_at, set_at0, List.set_cons_zero, List.set_cons_succ, ne_eq, decide_not, quiet_ext, newOk_some, List.cons_prefix_cons, List.nil_prefix, List.drop_succ_cons, List.drop_zero, List.all_cons, List.all_nil, Bool.and_true, true_and, and_true, aloadN_at, aloadN_at0, aload1_at, aload1_at0, astoreN_at, astoreN_at0, astore1_at, astore1_at0, aslA_at, aslA_at0, ldN_all, ld1_row, stN_all, st1_row, slr_all, Nat.reduceAdd, Nat.reduceMul, Nat.reduceLT, hB, hz, hX, a0, a1, a2, a3, e1, e2, e3, e4, L1, L2, w1, w2, works17_eq, Int.reduceEq] <;> rfl⟩
      | true =>
        have w2 := fun h => table_With_ok (h := h) hX0 hd' hk m2
        have hY0 : (layB (layB b (32 * J) (inoB k l s p d)) (32 * K) (inoB k' l' s' p' d')).length = 256 := by rw [layB_length (by rw [inoB_length hd']; omega), hX0]
        have hY : (encB (layB (layB b (32 * J) (inoB k l s p d)) (32 * K) (inoB k' l' s' p' d'))).length = 256 := by rw [encB_length, hY0]
        have G1 := clean_ino hd m1
        have G2 := clean_ino hd' m2
        have W1 := fun (c : List UInt8) (h : Heap) (hc : c.length = 256) => table_With_ok (h := h) hc hd hj m1
        have W2 := fun (c : List UInt8) (h : Heap) (hc : c.length = 256) => table_With_ok (h := h) hc hd' hk m2
        have hB1 : (inoB k l s p d).length = 32 := inoB_length hd
        have hB2 : (inoB k' l' s' p' d').length = 32 := inoB_length hd'
        generalize encI ((k :: l :: s :: p :: d) ++ (k' :: l' :: s' :: p' :: d')) = C3 at *
        generalize inoC k l s p d = i1 at *
        generalize inoC k' l' s' p' d' = i2 at *
        generalize inoB k l s p d = B1 at *
        generalize inoB k' l' s' p' d' = B2 at *
        obtain ⟨h', e⟩ := keeps_loop (p := g.length) (y := g.length + 4) (q := N) (h := g ++ [some (Row.mk (encB b) true), some (Row.mk [.i .u8 x.toNat, .i .u8 y.toNat] true), some (Row.mk C3 true), some (Row.mk (encB (layB b (32 * J) B1)) true), some (Row.mk (encB (layB (layB b (32 * J) B1) (32 * K) B2)) true)])
          hb hB1 hB2 hj hk hi1 hi2 L1 L2 W1 W2 G1.2 G1.1 G2.2 G2.1 (by simp) (by simp) (by simp) 8 0 N (by omega) (by omega)
        generalize layB (layB b (32 * J) B1) (32 * K) B2 = Y at *
        generalize layB b (32 * J) B1 = X at *
        exact ⟨h', by simp only [afAddr_p, List.append_nil, if_true, if_false, bnd_some, mp_some, cnd_t, cnd_f, gd_no, gd_tt, gd_tf, gd_ft, gd_ff, alenS_s, alen_sl, alen_ns, abin_add, abin_sub, abin_mul, abin_eql, abin_neq, abin_lss, abin_leq, abin_gtr, abin_geq, abin_seql, abin_sneq, abin_slss, aun_not, aun_neg, aeqB_t, aeqB_f, aconv_i, apick_b, cond_true, cond_false, decide_true, decide_false, Bool.not_true, Bool.not_false, aext_t, ofPart_c, ofPart_a, part?_c, part?_a, cells?_c, cells?_a, tupN_2, tupN_3, Option.map_some, Option.some.injEq, List.getElem?_cons_zero, List.getElem?_cons_succ, not_true_eq_false, not_false_eq_true, quiet_same, bytesI_length, Option.join_some, List.append_assoc, List.cons_append, List.nil_append, List.length_append, List.length_cons, List.length_nil, Nat.zero_add, Nat.add_zero, rd_at, rd_at0, set_at, set_at0, List.set_cons_zero, List.set_cons_succ, ne_eq, decide_not, quiet_ext, newOk_some, List.cons_prefix_cons, List.nil_prefix, List.drop_succ_cons, List.drop_zero, List.all_cons, List.all_nil, Bool.and_true, true_and, and_true, aloadN_at, aloadN_at0, aload1_at, aload1_at0, astoreN_at, astoreN_at0, astore1_at, astore1_at0, aslA_at, aslA_at0, ldN_all, ld1_row, stN_all, st1_row, slr_all, Nat.reduceAdd, Nat.reduceMul, Nat.reduceLT, hB, hz, hX, hY, a0, a1, a2, a3, e1, e2, e3, e4, L1, L2, w1, w2]; exact e⟩
  obtain ⟨g', e⟩ := key (h.length + 9) (by omega) (ro h)
  exact S_escheatlaw17_TableKeeps_flat e rfl

theorem two_ino {a : List Int} (h : a.length = 22) : ∃ k l s p d k' l' s' p' d', a = (k :: l :: s :: p :: d) ++ (k' :: l' :: s' :: p' :: d') ∧ d.length = 7 ∧ d'.length = 7 := by
  match a, h with
  | [a1, a2, a3, a4, a5, a6, a7, a8, a9, b1, b2, c1, c2, c3, c4, c5, c6, c7, c8, c9, d1, d2], _ => exact ⟨a1, a2, a3, a4, [a5, a6, a7, a8, a9, b1, b2], c1, c2, c3, c4, [c5, c6, c7, c8, c9, d1, d2], rfl, rfl, rfl⟩

end Go.Proofs.Ytbbkpmbepljhkaa
