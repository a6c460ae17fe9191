/- An index is fixed; whether it is right. -/
import Derived.Test.YtbbkpmbepljhkaaSIndex
set_option linter.all false
namespace Go.Proofs.Ytbbkpmbepljhkaa
open Go Go.Esc

def countX (n : Nat) (t : List Int) (no : Int) : Nat := ((List.range n).filter fun k => decide (toX t k = no)).length
theorem countX_succ {n : Nat} {t : List Int} {no : Int} : countX (n + 1) t no = countX n t no + (if toX t n = no then 1 else 0) := by
  unfold countX
  rw [List.range_succ, List.filter_append, List.length_append, List.filter_cons]
  by_cases c : toX t n = no <;> simp [c]
theorem countX_le {n : Nat} {t : List Int} {no : Int} : countX n t no ≤ n := Nat.le_trans (List.length_filter_le _ _) (by simp)

theorem count_loop {d no : Int} {t : List Int} {g : Heap} {n q : Nat} (ht : t.length = 32) (hn : n ≤ 32) : ∀ e i m : Nat, i + e = n → e < m →
    index_count_l0 q m (.c (.i .i64 no)) (.c (.p g.length 0)) (.c (.i .i64 (countX i t no : Nat))) (.c (.i .i64 (n : Int))) (.c (.i .i64 (i : Int))) (g ++ [some ⟨encI (d :: t), true⟩]) = some (.c (.i .i64 (countX n t no : Nat)), g ++ [some ⟨encI (d :: t), true⟩])
  | e, i, 0, _, hm => by omega
  | 0, i, m + 1, hi, hm => by
    have e0 : i = n := by omega
    subst e0
    have c0 : ¬ (i : Int) < i := by omega
    rw [index_count_l0_eq]
    simp only [afAddr_p, List.append_nil, if_true, if_false, bnd_some, mp_some, cnd_t, cnd_f, gd_no, gd_tt, gd_tf, gd_ft, gd_ff, alenS_s, alen_sl, alen_ns, abin_add, abin_sub, abin_mul, abin_eql, abin_neq, abin_lss, abin_leq, abin_gtr, abin_geq, abin_seql, abin_sneq, abin_slss, aun_not, aun_neg, agn_some, aeqN_nf, aeqN_f, aeqN_np, aeqN_p, anilc_p, aeqB_t, aeqB_f, aconv_i, apick_b, cond_true, cond_false, decide_true, decide_false, Bool.not_true, Bool.not_false, aext_t, ofPart_c, ofPart_a, part?_c, part?_a, cells?_c, cells?_a, tupN_2, tupN_3, Option.map_some, Option.some.injEq, List.getElem?_cons_zero, List.getElem?_cons_succ, not_true_eq_false, not_false_eq_true, quiet_same, bytesI_length, Option.join_some, List.append_assoc, List.cons_append, List.nil_append, List.length_append, List.length_cons, List.length_nil, Nat.zero_add, Nat.add_zero, rd_at, rd_at0, set_at, set_at0, List.set_cons_zero, List.set_cons_succ, ne_eq, decide_not, quiet_ext, newOk_some, List.cons_prefix_cons, List.nil_prefix, List.drop_succ_cons, List.drop_zero, List.all_cons, List.all_nil, Bool.and_true, true_and, and_true, c0]
  | e + 1, i, m + 1, hi, hm => by
    have ih := count_loop (d := d) (no := no) (g := g) (q := q) ht hn e (i + 1) m (by omega) (by omega)
    have c0 : (i : Int) < n := by omega
    have a1 := adX (id := g.length) (i := i) (by omega)
    have l1 := ldX (h := g ++ [some (Row.mk (encI (d :: t)) true)]) (id := g.length) rd_new ht (i := i) (by omega)
    have hc := countX_le (n := i) (t := t) (no := no)
    rw [countX_succ] at ih
    rw [index_count_l0_eq]
    generalize countX i t no = C at *
    by_cases c : toX t i = no
    · rw [if_pos c] at ih
      rw [c] at l1
      simp only [afAddr_p, List.append_nil, if_true, if_false, bnd_some, mp_some, cnd_t, cnd_f, gd_no, gd_tt, gd_tf, gd_ft, gd_ff, alenS_s, alen_sl, alen_ns, abin_add, abin_sub, abin_mul, abin_eql, abin_neq, abin_lss, abin_leq, abin_gtr, abin_geq, abin_seql, abin_sneq, abin_slss, aun_not, aun_neg, agn_some, aeqN_nf, aeqN_f, aeqN_np, aeqN_p, anilc_p, aeqB_t, aeqB_f, aconv_i, apick_b, cond_true, cond_false, decide_true, decide_false, Bool.not_true, Bool.not_false, aext_t, ofPart_c, ofPart_a, part?_c, part?_a, cells?_c, cells?_a, tupN_2, tupN_3, Option.map_some, Option.some.injEq, List.getElem?_cons_zero, List.getElem?_cons_succ, not_true_eq_false, not_false_eq_true, quiet_same, bytesI_length, Option.join_some, List.append_assoc, List.cons_append, List.nil_append, List.length_append, List.length_cons, List.length_nil, Nat.zero_add, Nat.add_zero, rd_at, rd_at0, set_at, set_at0, List.set_cons_zero, List.set_cons_succ, ne_eq, decide_not, quiet_ext, newOk_some, List.cons_prefix_cons, List.nil_prefix, List.drop_succ_cons, List.drop_zero, List.all_cons, List.all_nil, Bool.and_true, true_and, and_true, c0, a1, l1, index_count_j0_eq, wi_succ (show C + 1 < 9223372036854775808 by omega), wi_succ (show i + 1 < 9223372036854775808 by omega)]
      exact ih
    · rw [if_neg c, Nat.add_zero] at ih
      simp only [afAddr_p, List.append_nil, if_true, if_false, bnd_some, mp_some, cnd_t, cnd_f, gd_no, gd_tt, gd_tf, gd_ft, gd_ff, alenS_s, alen_sl, alen_ns, abin_add, abin_sub, abin_mul, abin_eql, abin_neq, abin_lss, abin_leq, abin_gtr, abin_geq, abin_seql, abin_sneq, abin_slss, aun_not, aun_neg, agn_some, aeqN_nf, aeqN_f, aeqN_np, aeqN_p, anilc_p, aeqB_t, aeqB_f, aconv_i, apick_b, cond_true, cond_false, decide_true, decide_false, Bool.not_true, Bool.not_false, aext_t, ofPart_c, ofPart_a, part?_c, part?_a, cells?_c, cells?_a, tupN_2, tupN_3, Option.map_some, Option.some.injEq, List.getElem?_cons_zero, List.getElem?_cons_succ, not_true_eq_false, not_false_eq_true, quiet_same, bytesI_length, Option.join_some, List.append_assoc, List.cons_append, List.nil_append, List.length_append, List.length_cons, List.length_nil, Nat.zero_add, Nat.add_zero, rd_at, rd_at0, set_at, set_at0, List.set_cons_zero, List.set_cons_succ, ne_eq, decide_not, quiet_ext, newOk_some, List.cons_prefix_cons, List.nil_prefix, List.drop_succ_cons, List.drop_zero, List.all_cons, List.all_nil, Bool.and_true, true_and, and_true, c0, a1, l1, c, index_count_j0_eq, wi_succ (show i + 1 < 9223372036854775808 by omega)]
      exact ih

theorem index_count_eq {d no : Int} {t : List Int} {h : Heap} (ht : t.length = 32) : S_index_count [.a (encI (d :: t)), .c (.i .i64 no)] h = some (.c (.i .i64 (countX (manyX d) t no : Nat)), h) := by
  have key : ∀ N, 32 < N → ∀ g, ∃ g', R_index_count N [.a (encI (d :: t)), .c (.i .i64 no)] g = some (.c (.i .i64 (countX (manyX d) t no : Nat)), g') := by
    intro N hN g
    have hB := encX_length (d := d) ht
    have hM := fun h => index_many_eq (d := d) (h := h) ht
    have hm := manyX_le d
    have e := count_loop (d := d) (no := no) (g := g) (q := N) ht hm (manyX d) 0 N (by omega) (by omega)
    rw [show countX 0 t no = 0 from rfl] at e
    rw [R_index_count_eq]
    generalize encI (d :: t) = z at *
    exact ⟨_, by simp only [afAddr_p, List.append_nil, if_true, if_false, bnd_some, mp_some, cnd_t, cnd_f, gd_no, gd_tt, gd_tf, gd_ft, gd_ff, alenS_s, alen_sl, alen_ns, abin_add, abin_sub, abin_mul, abin_eql, abin_neq, abin_lss, abin_leq, abin_gtr, abin_geq, abin_seql, abin_sneq, abin_slss, aun_not, aun_neg, agn_some, aeqN_nf, aeqN_f, aeqN_np, aeqN_p, anilc_p, aeqB_t, aeqB_f, aconv_i, apick_b, cond_true, cond_false, decide_true, decide_false, Bool.not_true, Bool.not_false, aext_t, ofPart_c, ofPart_a, part?_c, part?_a, cells?_c, cells?_a, tupN_2, tupN_3, Option.map_some, Option.some.injEq, List.getElem?_cons_zero, List.getElem?_cons_succ, not_true_eq_false, not_false_eq_true, quiet_same, bytesI_length, Option.join_some, List.append_assoc, List.cons_append, List.nil_append, List.length_append, List.length_cons, List.length_nil, Nat.zero_add, Nat.add_zero, rd_at, rd_at0, set_at, set_at0, List.set_cons_zero, List.set_cons_succ, ne_eq, decide_not, quiet_ext, newOk_some, List.cons_prefix_cons, List.nil_prefix, List.drop_succ_cons, List.drop_zero, List.all_cons, List.all_nil, Bool.and_true, true_and, and_true, aloadN_at, aloadN_at0, aload1_at, aload1_at0, astoreN_at, astoreN_at0, astore1_at, astore1_at0, aslA_at, aslA_at0, ldN_all, ld1_row, stN_all, st1_row, slr_all, Nat.reduceAdd, Nat.reduceMul, Nat.reduceLT, hB, hM]; exact e⟩
  obtain ⟨g', e⟩ := key (h.length + 33) (by omega) (ro h)
  exact S_index_count_flat e rfl

def wholX (d : Int) (t : List Int) (i : Nat) : Bool := decide ((placesX (manyX d) i (bitsX d t i)).length = countX (manyX d) t (toX t i))
def keepX (d : Int) (t : List Int) (i : Nat) : Bool := !decide (toX t i = 0) && (finI (toX t i) && (firstX t i || wholX d t i))
def fixG (d : Int) (t : List Int) (i : Nat) : Int := bif keepX d t i then toX t i else 0
def fixL (d : Int) (t : List Int) (k : Nat) : List Int := (List.range k).map (fixG d t) ++ zI (32 - k)

theorem fixL_length {d : Int} {t : List Int} {k : Nat} (hk : k ≤ 32) : (fixL d t k).length = 32 := by simp [fixL, zI]; omega
theorem fixL_zero {d : Int} {t : List Int} : fixL d t 0 = zI 32 := rfl
theorem fixL_succ {d : Int} {t : List Int} {k : Nat} (hk : k < 32) : fixL d t (k + 1) = (fixL d t k).set k (fixG d t k) := by
  unfold fixL
  have e : zI (32 - k) = 0 :: zI (32 - (k + 1)) := by
    unfold zI
    rw [show 32 - k = (32 - (k + 1)) + 1 by omega, List.replicate_succ]
  rw [e, List.set_append_right _ _ (by simp), List.range_succ, List.map_append, List.append_assoc]
  simp
theorem fixL_same {d : Int} {t : List Int} {k : Nat} (hk : k < 32) (hf : fixG d t k = 0) : fixL d t (k + 1) = fixL d t k := by
  unfold fixL
  have e : zI (32 - k) = 0 :: zI (32 - (k + 1)) := by
    unfold zI
    rw [show 32 - k = (32 - (k + 1)) + 1 by omega, List.replicate_succ]
  rw [e, List.range_succ, List.map_append, List.append_assoc]
  simp [hf]

theorem fix_loop {d : Int} {t : List Int} {g : Heap} {q : Nat} (ht : t.length = 32) : ∀ (e i m : Nat) (h : Heap), i + e = manyX d → e < m → Low (g ++ [some (Row.mk (encI (d :: t)) true), some (Row.mk (encI (0 :: zI 32)) true)]).length (g ++ [some (Row.mk (encI (d :: t)) true), some (Row.mk (encI (0 :: zI 32)) true)]) h → rd h (g.length + 2) = some ⟨encI (d :: fixL d t i), true⟩ →
    ∃ h', index_Fix_l0 q m (.c (.p g.length 0)) (.c (.p (g.length + 1) 0)) (.c (.p (g.length + 2) 0)) (.c (.i .i64 (manyX d : Nat))) (.c (.i .i64 (i : Int))) h = some (.a (encI (d :: fixL d t (manyX d))), h')
  | e, i, 0, h, _, hm, _, _ => by omega
  | 0, i, m + 1, h, hi, hm, hlow, hr => by
    have e0 : i = manyX d := by omega
    subst e0
    have c0 : ¬ ((manyX d : Nat) : Int) < (manyX d : Nat) := by omega
    have hF := encX_length (d := d) (fixL_length (d := d) (t := t) (manyX_le d))
    have hz : (encI (0 :: zI 32)).length = 33 := encX_length (d := 0) zI_length
    have hr1 : rd h (g.length + 1) = some ⟨encI (0 :: zI 32), true⟩ := hlow.rd (by simp)
    have s1 := loadAll (h := h) (id := g.length + 2) hr hF
    have s2 := storeAll (h := h) (id := g.length + 1) (xs := encI (d :: fixL d t (manyX d))) hr1 hz hF
    have s3 := loadAll (h := h.set (g.length + 1) (some ⟨encI (d :: fixL d t (manyX d)), true⟩)) (id := g.length + 1) (rd_set_same (rd_lt hr1)) hF
    rw [index_Fix_l0_eq]
    generalize encI (d :: fixL d t (manyX d)) = z at *
    exact ⟨_, by simp only [afAddr_p, List.append_nil, if_true, if_false, bnd_some, mp_some, cnd_t, cnd_f, gd_no, gd_tt, gd_tf, gd_ft, gd_ff, alenS_s, alen_sl, alen_ns, abin_add, abin_sub, abin_mul, abin_eql, abin_neq, abin_lss, abin_leq, abin_gtr, abin_geq, abin_seql, abin_sneq, abin_slss, aun_not, aun_neg, agn_some, aeqN_nf, aeqN_f, aeqN_np, aeqN_p, anilc_p, aeqB_t, aeqB_f, aconv_i, apick_b, cond_true, cond_false, decide_true, decide_false, Bool.not_true, Bool.not_false, aext_t, ofPart_c, ofPart_a, part?_c, part?_a, cells?_c, cells?_a, tupN_2, tupN_3, Option.map_some, Option.some.injEq, List.getElem?_cons_zero, List.getElem?_cons_succ, not_true_eq_false, not_false_eq_true, quiet_same, bytesI_length, Option.join_some, List.append_assoc, List.cons_append, List.nil_append, List.length_append, List.length_cons, List.length_nil, Nat.zero_add, Nat.add_zero, rd_at, rd_at0, set_at, set_at0, List.set_cons_zero, List.set_cons_succ, ne_eq, decide_not, quiet_ext, newOk_some, List.cons_prefix_cons, List.nil_prefix, List.drop_succ_cons, List.drop_zero, List.all_cons, List.all_nil, Bool.and_true, true_and, and_true, c0, s1, s2, s3] <;> rfl⟩
  | e + 1, i, m + 1, h, hi, hm, hlow, hr => by
    have hm32 := manyX_le d
    have c0 : (i : Int) < (manyX d : Nat) := by omega
    have hB := encX_length (d := d) ht
    have hrd : rd h g.length = some ⟨encI (d :: t), true⟩ := hlow.rd (by simp)
    have s1 := loadAll (h := h) (id := g.length) (cs := encI (d :: t)) hrd hB
    have a1 := adX (id := g.length) (i := i) (by omega)
    have l1 := ldX (h := h) (id := g.length) hrd ht (i := i) (by omega)
    have hFi := fun h => index_fine_eq (n := toX t i) (h := h)
    have hFs := fun h => index_first_eq (d := d) (t := t) (i := i) (h := h) ht (by omega)
    have w1 := wi_succ (show i + 1 < 9223372036854775808 by omega)
    have hk : i < 32 := by omega
    -- nothing is kept
    have skip : fixG d t i = 0 → ∀ h2, Low (g ++ [some (Row.mk (encI (d :: t)) true), some (Row.mk (encI (0 :: zI 32)) true)]).length (g ++ [some (Row.mk (encI (d :: t)) true), some (Row.mk (encI (0 :: zI 32)) true)]) h2 → rd h2 (g.length + 2) = some ⟨encI (d :: fixL d t i), true⟩ →
        ∃ h', index_Fix_l0 q m (.c (.p g.length 0)) (.c (.p (g.length + 1) 0)) (.c (.p (g.length + 2) 0)) (.c (.i .i64 (manyX d : Nat))) (.c (.i .i64 ((i + 1 : Nat) : Int))) h2 = some (.a (encI (d :: fixL d t (manyX d))), h') := by
      intro hf h2 hlow2 hr2
      exact fix_loop (q := q) ht e (i + 1) m h2 (by omega) (by omega) hlow2 (by rw [fixL_same hk hf]; exact hr2)
    -- it is kept
    have a3 := adX (id := g.length + 2) (i := i) hk
    have put : fixG d t i = toX t i → ∀ h2, Low (g ++ [some (Row.mk (encI (d :: t)) true), some (Row.mk (encI (0 :: zI 32)) true)]).length (g ++ [some (Row.mk (encI (d :: t)) true), some (Row.mk (encI (0 :: zI 32)) true)]) h2 → rd h2 (g.length + 2) = some ⟨encI (d :: fixL d t i), true⟩ →
        ∃ h3, astore1 h2 (.c (.p (g.length + 2) (1 + i))) (.c (.i .i64 (toX t i))) = some h3 ∧ ∃ h', index_Fix_l0 q m (.c (.p g.length 0)) (.c (.p (g.length + 1) 0)) (.c (.p (g.length + 2) 0)) (.c (.i .i64 (manyX d : Nat))) (.c (.i .i64 ((i + 1 : Nat) : Int))) h3 = some (.a (encI (d :: fixL d t (manyX d))), h') := by
      intro hf h2 hlow2 hr2
      have hF := encX_length (d := d) (fixL_length (d := d) (t := t) (k := i) (by omega))
      have t1 := store1_of (x := .i .i64 (toX t i)) (off := 1 + i) hr2 (by rw [hF]; omega)
      rw [encX_set, ← hf, ← fixL_succ hk, hf] at t1
      refine ⟨_, t1, fix_loop (q := q) ht e (i + 1) m _ (by omega) (by omega) (hlow2.set (by simp) _) (rd_set_same (rd_lt hr2))⟩
    rw [index_Fix_l0_eq]
    by_cases cz : toX t i = 0
    · have hf : fixG d t i = 0 := by unfold fixG keepX; rw [decide_eq_true cz]; rfl
      obtain ⟨h', ih⟩ := skip hf h hlow hr
      rw [cz] at l1
      refine ⟨h', ?_⟩
      generalize encI (d :: t) = z at *
      simp only [afAddr_p, List.append_nil, if_true, if_false, bnd_some, mp_some, cnd_t, cnd_f, gd_no, gd_tt, gd_tf, gd_ft, gd_ff, alenS_s, alen_sl, alen_ns, abin_add, abin_sub, abin_mul, abin_eql, abin_neq, abin_lss, abin_leq, abin_gtr, abin_geq, abin_seql, abin_sneq, abin_slss, aun_not, aun_neg, agn_some, aeqN_nf, aeqN_f, aeqN_np, aeqN_p, anilc_p, aeqB_t, aeqB_f, aconv_i, apick_b, cond_true, cond_false, decide_true, decide_false, Bool.not_true, Bool.not_false, aext_t, ofPart_c, ofPart_a, part?_c, part?_a, cells?_c, cells?_a, tupN_2, tupN_3, Option.map_some, Option.some.injEq, List.getElem?_cons_zero, List.getElem?_cons_succ, not_true_eq_false, not_false_eq_true, quiet_same, bytesI_length, Option.join_some, List.append_assoc, List.cons_append, List.nil_append, List.length_append, List.length_cons, List.length_nil, Nat.zero_add, Nat.add_zero, rd_at, rd_at0, set_at, set_at0, List.set_cons_zero, List.set_cons_succ, ne_eq, decide_not, quiet_ext, newOk_some, List.cons_prefix_cons, List.nil_prefix, List.drop_succ_cons, List.drop_zero, List.all_cons, List.all_nil, Bool.and_true, true_and, and_true, c0, a1, l1, index_Fix_j0_eq, w1]
      exact ih
    · cases cf : finI (toX t i) with
      | false =>
        rw [cf] at hFi
        have hf : fixG d t i = 0 := by unfold fixG keepX; rw [cf, Bool.false_and, Bool.and_false, cond_false]
        obtain ⟨h', ih⟩ := skip hf h hlow hr
        refine ⟨h', ?_⟩
        generalize encI (d :: t) = z at *
        simp only [afAddr_p, List.append_nil, if_true, if_false, bnd_some, mp_some, cnd_t, cnd_f, gd_no, gd_tt, gd_tf, gd_ft, gd_ff, alenS_s, alen_sl, alen_ns, abin_add, abin_sub, abin_mul, abin_eql, abin_neq, abin_lss, abin_leq, abin_gtr, abin_geq, abin_seql, abin_sneq, abin_slss, aun_not, aun_neg, agn_some, aeqN_nf, aeqN_f, aeqN_np, aeqN_p, anilc_p, aeqB_t, aeqB_f, aconv_i, apick_b, cond_true, cond_false, decide_true, decide_false, Bool.not_true, Bool.not_false, aext_t, ofPart_c, ofPart_a, part?_c, part?_a, cells?_c, cells?_a, tupN_2, tupN_3, Option.map_some, Option.some.injEq, List.getElem?_cons_zero, List.getElem?_cons_succ, not_true_eq_false, not_false_eq_true, quiet_same, bytesI_length, Option.join_some, List.append_assoc, List.cons_append, List.nil_append, List.length_append, List.length_cons, List.length_nil, Nat.zero_add, Nat.add_zero, rd_at, rd_at0, set_at, set_at0, List.set_cons_zero, List.set_cons_succ, ne_eq, decide_not, quiet_ext, newOk_some, List.cons_prefix_cons, List.nil_prefix, List.drop_succ_cons, List.drop_zero, List.all_cons, List.all_nil, Bool.and_true, true_and, and_true, c0, a1, l1, cz, hFi, index_Fix_j0_eq, w1]
        exact ih
      | true =>
        rw [cf] at hFi
        cases cs : firstX t i with
        | true =>
          rw [cs] at hFs
          have hf : fixG d t i = toX t i := by unfold fixG keepX; rw [cf, cs, decide_eq_false cz]; rfl
          obtain ⟨h3, st, h', ih⟩ := put hf h hlow hr
          refine ⟨h', ?_⟩
          generalize encI (d :: t) = z at *
          simp only [afAddr_p, List.append_nil, if_true, if_false, bnd_some, mp_some, cnd_t, cnd_f, gd_no, gd_tt, gd_tf, gd_ft, gd_ff, alenS_s, alen_sl, alen_ns, abin_add, abin_sub, abin_mul, abin_eql, abin_neq, abin_lss, abin_leq, abin_gtr, abin_geq, abin_seql, abin_sneq, abin_slss, aun_not, aun_neg, agn_some, aeqN_nf, aeqN_f, aeqN_np, aeqN_p, anilc_p, aeqB_t, aeqB_f, aconv_i, apick_b, cond_true, cond_false, decide_true, decide_false, Bool.not_true, Bool.not_false, aext_t, ofPart_c, ofPart_a, part?_c, part?_a, cells?_c, cells?_a, tupN_2, tupN_3, Option.map_some, Option.some.injEq, List.getElem?_cons_zero, List.getElem?_cons_succ, not_true_eq_false, not_false_eq_true, quiet_same, bytesI_length, Option.join_some, List.append_assoc, List.cons_append, List.nil_append, List.length_append, List.length_cons, List.length_nil, Nat.zero_add, Nat.add_zero, rd_at, rd_at0, set_at, set_at0, List.set_cons_zero, List.set_cons_succ, ne_eq, decide_not, quiet_ext, newOk_some, List.cons_prefix_cons, List.nil_prefix, List.drop_succ_cons, List.drop_zero, List.all_cons, List.all_nil, Bool.and_true, true_and, and_true, c0, a1, l1, cz, hFi, s1, hFs, a3, st, index_Fix_j0_eq, w1]
          exact ih
        | false =>
          rw [cs] at hFs
          have hBi := fun h => index_Bits_eq (d := d) (t := t) (p := (i : Int)) (h := h) ht
          rw [bitX_of (by omega)] at hBi
          have hbl : bitsX d t i ≤ depX d := by
            have : ∀ e b, bitsFrom (manyX d) t i b e ≤ b + e := by
              intro e
              induction e with
              | zero => intro b; exact Nat.le_refl _
              | succ e ih =>
                intro b
                unfold bitsFrom
                cases allX (manyX d) t i b
                · rw [cond_false]; have := ih (b + 1); omega
                · rw [cond_true]; omega
            have := this (depX d) 0
            unfold bitsX; omega
          have hP := index_Places_eq (d := d) (p := (i : Int)) (b := (bitsX d t i : Nat)) (h := h) ht
          rw [plX_of (by omega) hbl] at hP
          have hq := quiet_grows ((Grows.rfl' (h := h)).new (encI (encN (placesX (manyX d) i (bitsX d t i))))) (v := .c (.sl h.length 0 (placesX (manyX d) i (bitsX d t i)).length 1))
          have hC := fun h => index_count_eq (d := d) (no := toX t i) (h := h) ht
          have ew : decide (((placesX (manyX d) i (bitsX d t i)).length : Int) = ((countX (manyX d) t (toX t i) : Nat) : Int)) = wholX d t i := by
            unfold wholX
            by_cases c : (placesX (manyX d) i (bitsX d t i)).length = countX (manyX d) t (toX t i)
            · rw [decide_eq_true c, decide_eq_true (by omega)]
            · rw [decide_eq_false c, decide_eq_false (by omega)]
          have hlow2 := hlow.new [some (Row.mk (encI (encN (placesX (manyX d) i (bitsX d t i)))) true)]
          have hr2 : rd (h ++ [some (Row.mk (encI (encN (placesX (manyX d) i (bitsX d t i)))) true)]) (g.length + 2) = some ⟨encI (d :: fixL d t i), true⟩ := rd_append hr
          cases cw : wholX d t i with
          | true =>
            rw [cw] at ew
            have hf : fixG d t i = toX t i := by unfold fixG keepX; rw [cf, cs, cw, decide_eq_false cz]; rfl
            obtain ⟨h3, st, h', ih⟩ := put hf _ hlow2 hr2
            refine ⟨h', ?_⟩
            generalize encI (d :: t) = z at *
            simp only [afAddr_p, List.append_nil, if_true, if_false, bnd_some, mp_some, cnd_t, cnd_f, gd_no, gd_tt, gd_tf, gd_ft, gd_ff, alenS_s, alen_sl, alen_ns, abin_add, abin_sub, abin_mul, abin_eql, abin_neq, abin_lss, abin_leq, abin_gtr, abin_geq, abin_seql, abin_sneq, abin_slss, aun_not, aun_neg, agn_some, aeqN_nf, aeqN_f, aeqN_np, aeqN_p, anilc_p, aeqB_t, aeqB_f, aconv_i, apick_b, cond_true, cond_false, decide_true, decide_false, Bool.not_true, Bool.not_false, aext_t, ofPart_c, ofPart_a, part?_c, part?_a, cells?_c, cells?_a, tupN_2, tupN_3, Option.map_some, Option.some.injEq, List.getElem?_cons_zero, List.getElem?_cons_succ, not_true_eq_false, not_false_eq_true, quiet_same, bytesI_length, Option.join_some, List.append_assoc, List.cons_append, List.nil_append, List.length_append, List.length_cons, List.length_nil, Nat.zero_add, Nat.add_zero, rd_at, rd_at0, set_at, set_at0, List.set_cons_zero, List.set_cons_succ, ne_eq, decide_not, quiet_ext, newOk_some, List.cons_prefix_cons, List.nil_prefix, List.drop_succ_cons, List.drop_zero, List.all_cons, List.all_nil, Bool.and_true, true_and, and_true, c0, a1, l1, cz, hFi, s1, hFs, hBi, hP, hq, hC, ew, a3, st, index_Fix_j0_eq, w1]
            exact ih
          | false =>
            rw [cw] at ew
            have hf : fixG d t i = 0 := by unfold fixG keepX; rw [cf, cs, cw, decide_eq_false cz]; rfl
            obtain ⟨h', ih⟩ := skip hf _ hlow2 hr2
            refine ⟨h', ?_⟩
            generalize encI (d :: t) = z at *
            simp only [afAddr_p, List.append_nil, if_true, if_false, bnd_some, mp_some, cnd_t, cnd_f, gd_no, gd_tt, gd_tf, gd_ft, gd_ff, alenS_s, alen_sl, alen_ns, abin_add, abin_sub, abin_mul, abin_eql, abin_neq, abin_lss, abin_leq, abin_gtr, abin_geq, abin_seql, abin_sneq, abin_slss, aun_not, aun_neg, agn_some, aeqN_nf, aeqN_f, aeqN_np, aeqN_p, anilc_p, aeqB_t, aeqB_f, aconv_i, apick_b, cond_true, cond_false, decide_true, decide_false, Bool.not_true, Bool.not_false, aext_t, ofPart_c, ofPart_a, part?_c, part?_a, cells?_c, cells?_a, tupN_2, tupN_3, Option.map_some, Option.some.injEq, List.getElem?_cons_zero, List.getElem?_cons_succ, not_true_eq_false, not_false_eq_true, quiet_same, bytesI_length, Option.join_some, List.append_assoc, List.cons_append, List.nil_append, List.length_append, List.length_cons, List.length_nil, Nat.zero_add, Nat.add_zero, rd_at, rd_at0, set_at, set_at0, List.set_cons_zero, List.set_cons_succ, ne_eq, decide_not, quiet_ext, newOk_some, List.cons_prefix_cons, List.nil_prefix, List.drop_succ_cons, List.drop_zero, List.all_cons, List.all_nil, Bool.and_true, true_and, and_true, c0, a1, l1, cz, hFi, s1, hFs, hBi, hP, hq, hC, ew, index_Fix_j0_eq, w1]
            exact ih

def fixX (d : Int) (t : List Int) : List Int := if 0 ≤ d ∧ d ≤ 5 then d :: fixL d t (manyX d) else 0 :: zI 32

theorem index_Fix_eq {d : Int} {t : List Int} {h : Heap} (ht : t.length = 32) : S_index_Fix [.a (encI (d :: t))] h = some (.a (encI (fixX d t)), h) := by
  have key : ∀ N, 32 < N → ∀ g, ∃ g', R_index_Fix N [.a (encI (d :: t))] g = some (.a (encI (fixX d t)), g') := by
    intro N hN g
    have hB := encX_length (d := d) ht
    have hz : (encI (0 :: zI 32)).length = 33 := encX_length (d := 0) zI_length
    have hM := fun h => index_many_eq (d := d) (h := h) ht
    have hD := fun h => index_depth_eq (d := d) (t := t) (h := h)
    have l0 : (encI (d :: t))[0]? = some (.i .i64 d) := rfl
    have haf : afill (encI (0 :: zI 32)) [] = some (encI (0 :: zI 32)) := rfl
    rw [R_index_Fix_eq, zI_enc]
    unfold fixX
    by_cases c : 0 ≤ d ∧ d ≤ 5
    · rw [if_pos c]
      have hd := depX_of c.1 c.2
      rw [hd] at hD
      have ef : afill (encI (0 :: zI 32)) [(0, 1, .c (.i .i64 d))] = some (encI (d :: zI 32)) := by
        have e1 : (0 + 1 ≤ (encI (0 :: zI 32)).length) := by rw [hz]; omega
        simp only [afill, cells?]
        rw [if_pos ⟨rfl, e1⟩]
        rfl
      have hz2 : (encI (d :: zI 32)).length = 33 := encX_length (d := d) zI_length
      obtain ⟨h', e⟩ := fix_loop (g := g) (d := d) (t := t) (q := N) ht (manyX d) 0 N (g ++ [some (Row.mk (encI (d :: t)) true), some (Row.mk (encI (0 :: zI 32)) true), some (Row.mk (encI (d :: zI 32)) true)]) (by omega) (by have := manyX_le d; omega)
        (by have := (Low.refl (h := g ++ [some (Row.mk (encI (d :: t)) true), some (Row.mk (encI (0 :: zI 32)) true)]) (Nat.le_refl _)).new [some (Row.mk (encI (d :: zI 32)) true)]
            simpa using this) (by rw [fixL_zero]; simp)
      refine ⟨h', ?_⟩
      generalize encI (d :: zI 32) = z2 at *
      generalize encI (0 :: zI 32) = z at *
      generalize encI (d :: t) = y at *
      simp only [afAddr_p, List.append_nil, if_true, if_false, bnd_some, mp_some, cnd_t, cnd_f, gd_no, gd_tt, gd_tf, gd_ft, gd_ff, alenS_s, alen_sl, alen_ns, abin_add, abin_sub, abin_mul, abin_eql, abin_neq, abin_lss, abin_leq, abin_gtr, abin_geq, abin_seql, abin_sneq, abin_slss, aun_not, aun_neg, agn_some, aeqN_nf, aeqN_f, aeqN_np, aeqN_p, anilc_p, aeqB_t, aeqB_f, aconv_i, apick_b, cond_true, cond_false, decide_true, decide_false, Bool.not_true, Bool.not_false, aext_t, ofPart_c, ofPart_a, part?_c, part?_a, cells?_c, cells?_a, tupN_2, tupN_3, Option.map_some, Option.some.injEq, List.getElem?_cons_zero, List.getElem?_cons_succ, not_true_eq_false, not_false_eq_true, quiet_same, bytesI_length, Option.join_some, List.append_assoc, List.cons_append, List.nil_append, List.length_append, List.length_cons, List.length_nil, Nat.zero_add, Nat.add_zero, rd_at, rd_at0, set_at, set_at0, List.set_cons_zero, List.set_cons_succ, ne_eq, decide_not, quiet_ext, newOk_some, List.cons_prefix_cons, List.nil_prefix, List.drop_succ_cons, List.drop_zero, List.all_cons, List.all_nil, Bool.and_true, true_and, and_true, aloadN_at, aloadN_at0, aload1_at, aload1_at0, astoreN_at, astoreN_at0, astore1_at, astore1_at0, aslA_at, aslA_at0, ldN_all, ld1_row, stN_all, st1_row, slr_all, Nat.reduceAdd, Nat.reduceMul, Nat.reduceLT, hB, hz, l0, hM, hD, ef, hz2]
      exact e
    · rw [if_neg c]
      have cd : ¬ d = ((depX d : Nat) : Int) := by unfold depX; omega
      generalize encI (0 :: zI 32) = z at *
      generalize encI (d :: t) = y at *
      exact ⟨_, by simp only [afAddr_p, List.append_nil, if_true, if_false, bnd_some, mp_some, cnd_t, cnd_f, gd_no, gd_tt, gd_tf, gd_ft, gd_ff, alenS_s, alen_sl, alen_ns, abin_add, abin_sub, abin_mul, abin_eql, abin_neq, abin_lss, abin_leq, abin_gtr, abin_geq, abin_seql, abin_sneq, abin_slss, aun_not, aun_neg, agn_some, aeqN_nf, aeqN_f, aeqN_np, aeqN_p, anilc_p, aeqB_t, aeqB_f, aconv_i, apick_b, cond_true, cond_false, decide_true, decide_false, Bool.not_true, Bool.not_false, aext_t, ofPart_c, ofPart_a, part?_c, part?_a, cells?_c, cells?_a, tupN_2, tupN_3, Option.map_some, Option.some.injEq, List.getElem?_cons_zero, List.getElem?_cons_succ, not_true_eq_false, not_false_eq_true, quiet_same, bytesI_length, Option.join_some, List.append_assoc, List.cons_append, List.nil_append, List.length_append, List.length_cons, List.length_nil, Nat.zero_add, Nat.add_zero, rd_at, rd_at0, set_at, set_at0, List.set_cons_zero, List.set_cons_succ, ne_eq, decide_not, quiet_ext, newOk_some, List.cons_prefix_cons, List.nil_prefix, List.drop_succ_cons, List.drop_zero, List.all_cons, List.all_nil, Bool.and_true, true_and, and_true, aloadN_at, aloadN_at0, aload1_at, aload1_at0, astoreN_at, astoreN_at0, astore1_at, astore1_at0, aslA_at, aslA_at0, ldN_all, ld1_row, stN_all, st1_row, slr_all, Nat.reduceAdd, Nat.reduceMul, Nat.reduceLT, hB, hz, l0, hM, hD, cd, haf] <;> rfl⟩
  obtain ⟨g', e⟩ := key (h.length + 33) (by omega) (ro h)
  exact S_index_Fix_flat e (by simp)

theorem sh33 : ([Sh.i .i64] ++ List.replicate 32 (Sh.i .i64)) = List.replicate 33 (.i .i64) := rfl

def rightX (d : Int) (t : List Int) : Bool := decide (0 ≤ d) && (decide (d ≤ 5) && decide (fixX d t = d :: t))
theorem fixX_length {d : Int} {t : List Int} : (fixX d t).length = 33 := by
  unfold fixX
  split
  · rw [List.length_cons, fixL_length (manyX_le d)]
  · rw [List.length_cons, zI_length]

theorem index_Right_eq {d : Int} {t : List Int} {h : Heap} (ht : t.length = 32) : S_index_Right [.a (encI (d :: t))] h = some (.c (.b (rightX d t)), h) := by
  have key : ∀ g, ∃ g', R_index_Right 0 [.a (encI (d :: t))] g = some (.c (.b (rightX d t)), g') := by
    intro g
    have hB := encX_length (d := d) ht
    have hF := fun h => index_Fix_eq (d := d) (t := t) (h := h) ht
    have hE := aeqI_f (l := fixX d t) (m := d :: t) (n := 33) fixX_length (by simp [ht])
    have l0 : (encI (d :: t))[0]? = some (.i .i64 d) := rfl
    rw [R_index_Right_eq, sh33]
    unfold rightX
    generalize fixX d t = F at *
    by_cases c1 : 0 ≤ d
    · by_cases c2 : d ≤ 5
      · generalize decide (F = d :: t) = B at *
        generalize encI (d :: t) = y at *
        exact ⟨_, by simp only [afAddr_p, List.append_nil, if_true, if_false, bnd_some, mp_some, cnd_t, cnd_f, gd_no, gd_tt, gd_tf, gd_ft, gd_ff, alenS_s, alen_sl, alen_ns, abin_add, abin_sub, abin_mul, abin_eql, abin_neq, abin_lss, abin_leq, abin_gtr, abin_geq, abin_seql, abin_sneq, abin_slss, aun_not, aun_neg, agn_some, aeqN_nf, aeqN_f, aeqN_np, aeqN_p, anilc_p, aeqB_t, aeqB_f, aconv_i, apick_b, cond_true, cond_false, decide_true, decide_false, Bool.not_true, Bool.not_false, aext_t, ofPart_c, ofPart_a, part?_c, part?_a, cells?_c, cells?_a, tupN_2, tupN_3, Option.map_some, Option.some.injEq, List.getElem?_cons_zero, List.getElem?_cons_succ, not_true_eq_false, not_false_eq_true, quiet_same, bytesI_length, Option.join_some, List.append_assoc, List.cons_append, List.nil_append, List.length_append, List.length_cons, List.length_nil, Nat.zero_add, Nat.add_zero, rd_at, rd_at0, set_at, set_at0, List.set_cons_zero, List.set_cons_succ, ne_eq, decide_not, quiet_ext, newOk_some, List.cons_prefix_cons, List.nil_prefix, List.drop_succ_cons, List.drop_zero, List.all_cons, List.all_nil, Bool.and_true, true_and, and_true, aloadN_at, aloadN_at0, aload1_at, aload1_at0, astoreN_at, astoreN_at0, astore1_at, astore1_at0, aslA_at, aslA_at0, ldN_all, ld1_row, stN_all, st1_row, slr_all, Nat.reduceAdd, Nat.reduceMul, Nat.reduceLT, hB, l0, c1, c2, hF, hE, Bool.true_and] <;> rfl⟩
      · generalize encI (d :: t) = y at *
        exact ⟨_, by simp only [afAddr_p, List.append_nil, if_true, if_false, bnd_some, mp_some, cnd_t, cnd_f, gd_no, gd_tt, gd_tf, gd_ft, gd_ff, alenS_s, alen_sl, alen_ns, abin_add, abin_sub, abin_mul, abin_eql, abin_neq, abin_lss, abin_leq, abin_gtr, abin_geq, abin_seql, abin_sneq, abin_slss, aun_not, aun_neg, agn_some, aeqN_nf, aeqN_f, aeqN_np, aeqN_p, anilc_p, aeqB_t, aeqB_f, aconv_i, apick_b, cond_true, cond_false, decide_true, decide_false, Bool.not_true, Bool.not_false, aext_t, ofPart_c, ofPart_a, part?_c, part?_a, cells?_c, cells?_a, tupN_2, tupN_3, Option.map_some, Option.some.injEq, List.getElem?_cons_zero, List.getElem?_cons_succ, not_true_eq_false, not_false_eq_true, quiet_same, bytesI_length, Option.join_some, List.append_assoc, List.cons_append, List.nil_append, List.length_append, List.length_cons, List.length_nil, Nat.zero_add, Nat.add_zero, rd_at, rd_at0, set_at, set_at0, List.set_cons_zero, List.set_cons_succ, ne_eq, decide_not, quiet_ext, newOk_some, List.cons_prefix_cons, List.nil_prefix, List.drop_succ_cons, List.drop_zero, List.all_cons, List.all_nil, Bool.and_true, true_and, and_true, aloadN_at, aloadN_at0, aload1_at, aload1_at0, astoreN_at, astoreN_at0, astore1_at, astore1_at0, aslA_at, aslA_at0, ldN_all, ld1_row, stN_all, st1_row, slr_all, Nat.reduceAdd, Nat.reduceMul, Nat.reduceLT, hB, l0, c1, c2, Bool.true_and, Bool.false_and] <;> rfl⟩
    · generalize encI (d :: t) = y at *
      exact ⟨_, by simp only [afAddr_p, List.append_nil, if_true, if_false, bnd_some, mp_some, cnd_t, cnd_f, gd_no, gd_tt, gd_tf, gd_ft, gd_ff, alenS_s, alen_sl, alen_ns, abin_add, abin_sub, abin_mul, abin_eql, abin_neq, abin_lss, abin_leq, abin_gtr, abin_geq, abin_seql, abin_sneq, abin_slss, aun_not, aun_neg, agn_some, aeqN_nf, aeqN_f, aeqN_np, aeqN_p, anilc_p, aeqB_t, aeqB_f, aconv_i, apick_b, cond_true, cond_false, decide_true, decide_false, Bool.not_true, Bool.not_false, aext_t, ofPart_c, ofPart_a, part?_c, part?_a, cells?_c, cells?_a, tupN_2, tupN_3, Option.map_some, Option.some.injEq, List.getElem?_cons_zero, List.getElem?_cons_succ, not_true_eq_false, not_false_eq_true, quiet_same, bytesI_length, Option.join_some, List.append_assoc, List.cons_append, List.nil_append, List.length_append, List.length_cons, List.length_nil, Nat.zero_add, Nat.add_zero, rd_at, rd_at0, set_at, set_at0, List.set_cons_zero, List.set_cons_succ, ne_eq, decide_not, quiet_ext, newOk_some, List.cons_prefix_cons, List.nil_prefix, List.drop_succ_cons, List.drop_zero, List.all_cons, List.all_nil, Bool.and_true, true_and, and_true, aloadN_at, aloadN_at0, aload1_at, aload1_at0, astoreN_at, astoreN_at0, astore1_at, astore1_at0, aslA_at, aslA_at0, ldN_all, ld1_row, stN_all, st1_row, slr_all, Nat.reduceAdd, Nat.reduceMul, Nat.reduceLT, hB, l0, c1, Bool.false_and] <;> rfl⟩
  obtain ⟨g', e⟩ := key (ro h)
  exact S_index_Right_flat e rfl

end Go.Proofs.Ytbbkpmbepljhkaa
