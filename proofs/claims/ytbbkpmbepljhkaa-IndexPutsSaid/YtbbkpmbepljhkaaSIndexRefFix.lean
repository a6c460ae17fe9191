/- The document's classes of indexes: an index is fixed; whether it is right. -/
import Derived.Test.YtbbkpmbepljhkaaSIndexHalf
import Derived.Test.YtbbkpmbepljhkaaSIndexRefPut
set_option linter.all false
namespace Go.Proofs.Ytbbkpmbepljhkaa
open Go Go.Esc

def clsAt (t : List Int) (no : Int) (f b i : Nat) : Bool := decide (toX t i = no) == (i % 2 ^ b == f % 2 ^ b)
def clsHas (n : Nat) (t : List Int) (no : Int) (f b : Nat) : Bool := (List.range' 0 n).all (clsAt t no f b)
/-- With how many bits, from so many on? -/
def clsFrom (n : Nat) (t : List Int) (no : Int) (f b : Nat) : Nat → Bool
  | 0 => false
  | e + 1 => clsHas n t no f b || clsFrom n t no f (b + 1) e

theorem class_inner {d no : Int} {t : List Int} {g : Heap} {f b q m : Nat} (ht : t.length = 32) (hb : b ≤ 5) : ∀ (e i m2 : Nat) (a : Bool), i + e = manyX d → e < m2 →
    escheatref19_Class_l2 q m m2 (.c (.i .i64 no)) (.c (.p g.length 0)) (.c (.i .i64 (f : Int))) (.c (.i .i64 (b : Int))) (.c (.b a)) (.c (.i .i64 (i : Int))) (g ++ [some (Row.mk (encI (d :: t)) true)]) =
      bif a && (List.range' i e).all (clsAt t no f b) then some (.t [.c (.i .i64 (b : Int)), .c (.b true)], g ++ [some (Row.mk (encI (d :: t)) true)])
      else escheatref19_Class_l1 q m (.c (.i .i64 no)) (.c (.p g.length 0)) (.c (.i .i64 (f : Int))) (.c (.i .i64 ((b + 1 : Nat) : Int))) (g ++ [some (Row.mk (encI (d :: t)) true)])
  | e, i, 0, a, _, hm => by omega
  | 0, i, m2 + 1, a, hi, hm => by
    have c0 : ¬ (i : Int) < (manyX d : Nat) := by omega
    have w1 := wi_succ (show b + 1 < 9223372036854775808 by omega)
    have hB := encX_length (d := d) ht
    have hD := fun h => ref19_Deep_eq (d := d) (t := t) (h := h)
    have hP := fun h => ref19_Powd_eq (d := d) (h := h)
    rw [escheatref19_Class_l2_eq, List.range'_zero, List.all_nil, Bool.and_true]
    generalize encI (d :: t) = y at *
    cases a <;> simp only [afAddr_p, List.append_nil, if_true, if_false, bnd_some, mp_some, cnd_t, cnd_f, gd_no, gd_tt, gd_tf, gd_ft, gd_ff, alenS_s, alen_sl, alen_ns, abin_add, abin_sub, abin_mul, abin_eql, abin_neq, abin_lss, abin_leq, abin_gtr, abin_geq, abin_seql, abin_sneq, abin_slss, aun_not, aun_neg, agn_some, aeqN_nf, aeqN_f, aeqN_np, aeqN_p, anilc_p, aeqB_t, aeqB_f, aconv_i, apick_b, cond_true, cond_false, decide_true, decide_false, Bool.not_true, Bool.not_false, aext_t, ofPart_c, ofPart_a, part?_c, part?_a, cells?_c, cells?_a, tupN_2, tupN_3, Option.map_some, Option.some.injEq, List.getElem?_cons_zero, List.getElem?_cons_succ, not_true_eq_false, not_false_eq_true, quiet_same, bytesI_length, Option.join_some, List.append_assoc, List.cons_append, List.nil_append, List.length_append, List.length_cons, List.length_nil, Nat.zero_add, Nat.add_zero, rd_at, rd_at0, set_at, set_at0, List.set_cons_zero, List.set_cons_succ, ne_eq, decide_not, quiet_ext, newOk_some, List.cons_prefix_cons, List.nil_prefix, List.drop_succ_cons, List.drop_zero, List.all_cons, List.all_nil, Bool.and_true, true_and, and_true, aloadN_at, aloadN_at0, aload1_at, aload1_at0, astoreN_at, astoreN_at0, astore1_at, astore1_at0, aslA_at, aslA_at0, ldN_all, ld1_row, stN_all, st1_row, slr_all, Nat.reduceAdd, Nat.reduceMul, Nat.reduceLT, hB, hD, hP, c0, w1]
  | e + 1, i, m2 + 1, a, hi, hm => by
    have ih := fun a => class_inner (d := d) (no := no) (g := g) (f := f) (q := q) (m := m) ht hb e (i + 1) m2 a (by omega) (by omega)
    have c0 : (i : Int) < (manyX d : Nat) := by omega
    have hm32 := manyX_le d
    have hB := encX_length (d := d) ht
    have hD := fun h => ref19_Deep_eq (d := d) (t := t) (h := h)
    have hP := fun h => ref19_Powd_eq (d := d) (h := h)
    have hI := fun h => ref19_Is_eq (i := i) (p := f) (b := b) (h := h) (by omega)
    have a1 := adX (id := g.length) (i := i) (by omega)
    have x1 := encX_get (d := d) (i := i) ht (by omega)
    have w1 := wi_succ (show i + 1 < 9223372036854775808 by omega)
    rw [escheatref19_Class_l2_eq, List.range'_succ, List.all_cons]
    cases a with
    | false =>
      have ih := ih false
      rw [Bool.false_and, cond_false] at ih ⊢
      generalize encI (d :: t) = y at *
      simp only [afAddr_p, List.append_nil, if_true, if_false, bnd_some, mp_some, cnd_t, cnd_f, gd_no, gd_tt, gd_tf, gd_ft, gd_ff, alenS_s, alen_sl, alen_ns, abin_add, abin_sub, abin_mul, abin_eql, abin_neq, abin_lss, abin_leq, abin_gtr, abin_geq, abin_seql, abin_sneq, abin_slss, aun_not, aun_neg, agn_some, aeqN_nf, aeqN_f, aeqN_np, aeqN_p, anilc_p, aeqB_t, aeqB_f, aconv_i, apick_b, cond_true, cond_false, decide_true, decide_false, Bool.not_true, Bool.not_false, aext_t, ofPart_c, ofPart_a, part?_c, part?_a, cells?_c, cells?_a, tupN_2, tupN_3, Option.map_some, Option.some.injEq, List.getElem?_cons_zero, List.getElem?_cons_succ, not_true_eq_false, not_false_eq_true, quiet_same, bytesI_length, Option.join_some, List.append_assoc, List.cons_append, List.nil_append, List.length_append, List.length_cons, List.length_nil, Nat.zero_add, Nat.add_zero, rd_at, rd_at0, set_at, set_at0, List.set_cons_zero, List.set_cons_succ, ne_eq, decide_not, quiet_ext, newOk_some, List.cons_prefix_cons, List.nil_prefix, List.drop_succ_cons, List.drop_zero, List.all_cons, List.all_nil, Bool.and_true, true_and, and_true, aloadN_at, aloadN_at0, aload1_at, aload1_at0, astoreN_at, astoreN_at0, astore1_at, astore1_at0, aslA_at, aslA_at0, ldN_all, ld1_row, stN_all, st1_row, slr_all, Nat.reduceAdd, Nat.reduceMul, Nat.reduceLT, hB, hD, hP, c0, w1]
      exact ih
    | true =>
      rw [Bool.true_and]
      have ih := ih (clsAt t no f b i)
      rw [← ih]
      unfold clsAt
      by_cases ce : toX t i = no
      · rw [decide_eq_true ce]
        generalize (i % 2 ^ b == f % 2 ^ b) = C at *
        generalize encI (d :: t) = y at *
        cases C <;> simp only [afAddr_p, List.append_nil, if_true, if_false, bnd_some, mp_some, cnd_t, cnd_f, gd_no, gd_tt, gd_tf, gd_ft, gd_ff, alenS_s, alen_sl, alen_ns, abin_add, abin_sub, abin_mul, abin_eql, abin_neq, abin_lss, abin_leq, abin_gtr, abin_geq, abin_seql, abin_sneq, abin_slss, aun_not, aun_neg, agn_some, aeqN_nf, aeqN_f, aeqN_np, aeqN_p, anilc_p, aeqB_t, aeqB_f, aconv_i, apick_b, cond_true, cond_false, decide_true, decide_false, Bool.not_true, Bool.not_false, aext_t, ofPart_c, ofPart_a, part?_c, part?_a, cells?_c, cells?_a, tupN_2, tupN_3, Option.map_some, Option.some.injEq, List.getElem?_cons_zero, List.getElem?_cons_succ, not_true_eq_false, not_false_eq_true, quiet_same, bytesI_length, Option.join_some, List.append_assoc, List.cons_append, List.nil_append, List.length_append, List.length_cons, List.length_nil, Nat.zero_add, Nat.add_zero, rd_at, rd_at0, set_at, set_at0, List.set_cons_zero, List.set_cons_succ, ne_eq, decide_not, quiet_ext, newOk_some, List.cons_prefix_cons, List.nil_prefix, List.drop_succ_cons, List.drop_zero, List.all_cons, List.all_nil, Bool.and_true, true_and, and_true, aloadN_at, aloadN_at0, aload1_at, aload1_at0, astoreN_at, astoreN_at0, astore1_at, astore1_at0, aslA_at, aslA_at0, ldN_all, ld1_row, stN_all, st1_row, slr_all, Nat.reduceAdd, Nat.reduceMul, Nat.reduceLT, hB, hD, hP, c0, hI, a1, x1, ce, w1] <;> rfl
      · rw [decide_eq_false ce]
        generalize (i % 2 ^ b == f % 2 ^ b) = C at *
        generalize encI (d :: t) = y at *
        cases C <;> simp only [afAddr_p, List.append_nil, if_true, if_false, bnd_some, mp_some, cnd_t, cnd_f, gd_no, gd_tt, gd_tf, gd_ft, gd_ff, alenS_s, alen_sl, alen_ns, abin_add, abin_sub, abin_mul, abin_eql, abin_neq, abin_lss, abin_leq, abin_gtr, abin_geq, abin_seql, abin_sneq, abin_slss, aun_not, aun_neg, agn_some, aeqN_nf, aeqN_f, aeqN_np, aeqN_p, anilc_p, aeqB_t, aeqB_f, aconv_i, apick_b, cond_true, cond_false, decide_true, decide_false, Bool.not_true, Bool.not_false, aext_t, ofPart_c, ofPart_a, part?_c, part?_a, cells?_c, cells?_a, tupN_2, tupN_3, Option.map_some, Option.some.injEq, List.getElem?_cons_zero, List.getElem?_cons_succ, not_true_eq_false, not_false_eq_true, quiet_same, bytesI_length, Option.join_some, List.append_assoc, List.cons_append, List.nil_append, List.length_append, List.length_cons, List.length_nil, Nat.zero_add, Nat.add_zero, rd_at, rd_at0, set_at, set_at0, List.set_cons_zero, List.set_cons_succ, ne_eq, decide_not, quiet_ext, newOk_some, List.cons_prefix_cons, List.nil_prefix, List.drop_succ_cons, List.drop_zero, List.all_cons, List.all_nil, Bool.and_true, true_and, and_true, aloadN_at, aloadN_at0, aload1_at, aload1_at0, astoreN_at, astoreN_at0, astore1_at, astore1_at0, aslA_at, aslA_at0, ldN_all, ld1_row, stN_all, st1_row, slr_all, Nat.reduceAdd, Nat.reduceMul, Nat.reduceLT, hB, hD, hP, c0, hI, a1, x1, ce, w1] <;> rfl

theorem class_outer {d no : Int} {t : List Int} {g : Heap} {f q : Nat} (ht : t.length = 32) (hq : 32 < q) : ∀ (e b m : Nat), b + e = depX d + 1 → e < m →
    ∃ w : Int, escheatref19_Class_l1 q m (.c (.i .i64 no)) (.c (.p g.length 0)) (.c (.i .i64 (f : Int))) (.c (.i .i64 (b : Int))) (g ++ [some (Row.mk (encI (d :: t)) true)]) = some (.t [.c (.i .i64 w), .c (.b (clsFrom (manyX d) t no f b e))], g ++ [some (Row.mk (encI (d :: t)) true)])
  | e, b, 0, _, hm => by omega
  | 0, b, m + 1, hb, hm => by
    have c0 : ¬ (b : Int) ≤ (depX d : Nat) := by omega
    have hB := encX_length (d := d) ht
    have hD := fun h => ref19_Deep_eq (d := d) (t := t) (h := h)
    have e0 : clsFrom (manyX d) t no f b 0 = false := rfl
    rw [escheatref19_Class_l1_eq, e0]
    generalize encI (d :: t) = y at *
    exact ⟨0, by simp only [afAddr_p, List.append_nil, if_true, if_false, bnd_some, mp_some, cnd_t, cnd_f, gd_no, gd_tt, gd_tf, gd_ft, gd_ff, alenS_s, alen_sl, alen_ns, abin_add, abin_sub, abin_mul, abin_eql, abin_neq, abin_lss, abin_leq, abin_gtr, abin_geq, abin_seql, abin_sneq, abin_slss, aun_not, aun_neg, agn_some, aeqN_nf, aeqN_f, aeqN_np, aeqN_p, anilc_p, aeqB_t, aeqB_f, aconv_i, apick_b, cond_true, cond_false, decide_true, decide_false, Bool.not_true, Bool.not_false, aext_t, ofPart_c, ofPart_a, part?_c, part?_a, cells?_c, cells?_a, tupN_2, tupN_3, Option.map_some, Option.some.injEq, List.getElem?_cons_zero, List.getElem?_cons_succ, not_true_eq_false, not_false_eq_true, quiet_same, bytesI_length, Option.join_some, List.append_assoc, List.cons_append, List.nil_append, List.length_append, List.length_cons, List.length_nil, Nat.zero_add, Nat.add_zero, rd_at, rd_at0, set_at, set_at0, List.set_cons_zero, List.set_cons_succ, ne_eq, decide_not, quiet_ext, newOk_some, List.cons_prefix_cons, List.nil_prefix, List.drop_succ_cons, List.drop_zero, List.all_cons, List.all_nil, Bool.and_true, true_and, and_true, aloadN_at, aloadN_at0, aload1_at, aload1_at0, astoreN_at, astoreN_at0, astore1_at, astore1_at0, aslA_at, aslA_at0, ldN_all, ld1_row, stN_all, st1_row, slr_all, Nat.reduceAdd, Nat.reduceMul, Nat.reduceLT, hB, hD, c0]⟩
  | e + 1, b, m + 1, hb, hm => by
    have hdl := depX_le d
    have hm32 := manyX_le d
    have c0 : (b : Int) ≤ (depX d : Nat) := by omega
    have c1 : (f : Int) ≥ 0 := by omega
    have hB := encX_length (d := d) ht
    have hD := fun h => ref19_Deep_eq (d := d) (t := t) (h := h)
    obtain ⟨w, ih⟩ := class_outer (d := d) (no := no) (t := t) (g := g) (f := f) (q := q) ht hq e (b + 1) m (by omega) (by omega)
    have hI := class_inner (d := d) (no := no) (g := g) (f := f) (b := b) (q := q) (m := m) ht (by omega) (manyX d) 0 q true (by omega) (by omega)
    rw [Bool.true_and, show (((0 : Nat) : Int)) = 0 from rfl, show (List.range' 0 (manyX d)).all (clsAt t no f b) = clsHas (manyX d) t no f b from rfl] at hI
    rw [clsFrom, escheatref19_Class_l1_eq]
    cases ca : clsHas (manyX d) t no f b with
    | true =>
      rw [ca, cond_true] at hI
      rw [Bool.true_or]
      refine ⟨b, ?_⟩
      generalize encI (d :: t) = y at *
      simp only [afAddr_p, List.append_nil, if_true, if_false, bnd_some, mp_some, cnd_t, cnd_f, gd_no, gd_tt, gd_tf, gd_ft, gd_ff, alenS_s, alen_sl, alen_ns, abin_add, abin_sub, abin_mul, abin_eql, abin_neq, abin_lss, abin_leq, abin_gtr, abin_geq, abin_seql, abin_sneq, abin_slss, aun_not, aun_neg, agn_some, aeqN_nf, aeqN_f, aeqN_np, aeqN_p, anilc_p, aeqB_t, aeqB_f, aconv_i, apick_b, cond_true, cond_false, decide_true, decide_false, Bool.not_true, Bool.not_false, aext_t, ofPart_c, ofPart_a, part?_c, part?_a, cells?_c, cells?_a, tupN_2, tupN_3, Option.map_some, Option.some.injEq, List.getElem?_cons_zero, List.getElem?_cons_succ, not_true_eq_false, not_false_eq_true, quiet_same, bytesI_length, Option.join_some, List.append_assoc, List.cons_append, List.nil_append, List.length_append, List.length_cons, List.length_nil, Nat.zero_add, Nat.add_zero, rd_at, rd_at0, set_at, set_at0, List.set_cons_zero, List.set_cons_succ, ne_eq, decide_not, quiet_ext, newOk_some, List.cons_prefix_cons, List.nil_prefix, List.drop_succ_cons, List.drop_zero, List.all_cons, List.all_nil, Bool.and_true, true_and, and_true, aloadN_at, aloadN_at0, aload1_at, aload1_at0, astoreN_at, astoreN_at0, astore1_at, astore1_at0, aslA_at, aslA_at0, ldN_all, ld1_row, stN_all, st1_row, slr_all, Nat.reduceAdd, Nat.reduceMul, Nat.reduceLT, hB, hD, c0, c1]
      exact hI
    | false =>
      rw [ca, cond_false] at hI
      rw [Bool.false_or]
      refine ⟨w, ?_⟩
      rw [← ih]
      generalize encI (d :: t) = y at *
      simp only [afAddr_p, List.append_nil, if_true, if_false, bnd_some, mp_some, cnd_t, cnd_f, gd_no, gd_tt, gd_tf, gd_ft, gd_ff, alenS_s, alen_sl, alen_ns, abin_add, abin_sub, abin_mul, abin_eql, abin_neq, abin_lss, abin_leq, abin_gtr, abin_geq, abin_seql, abin_sneq, abin_slss, aun_not, aun_neg, agn_some, aeqN_nf, aeqN_f, aeqN_np, aeqN_p, anilc_p, aeqB_t, aeqB_f, aconv_i, apick_b, cond_true, cond_false, decide_true, decide_false, Bool.not_true, Bool.not_false, aext_t, ofPart_c, ofPart_a, part?_c, part?_a, cells?_c, cells?_a, tupN_2, tupN_3, Option.map_some, Option.some.injEq, List.getElem?_cons_zero, List.getElem?_cons_succ, not_true_eq_false, not_false_eq_true, quiet_same, bytesI_length, Option.join_some, List.append_assoc, List.cons_append, List.nil_append, List.length_append, List.length_cons, List.length_nil, Nat.zero_add, Nat.add_zero, rd_at, rd_at0, set_at, set_at0, List.set_cons_zero, List.set_cons_succ, ne_eq, decide_not, quiet_ext, newOk_some, List.cons_prefix_cons, List.nil_prefix, List.drop_succ_cons, List.drop_zero, List.all_cons, List.all_nil, Bool.and_true, true_and, and_true, aloadN_at, aloadN_at0, aload1_at, aload1_at0, astoreN_at, astoreN_at0, astore1_at, astore1_at0, aslA_at, aslA_at0, ldN_all, ld1_row, stN_all, st1_row, slr_all, Nat.reduceAdd, Nat.reduceMul, Nat.reduceLT, hB, hD, c0, c1]
      exact hI

theorem class_first {d no : Int} {t : List Int} {g : Heap} {f q : Nat} (ht : t.length = 32) (hq : 32 < q) (hf : f < manyX d) (he : toX t f = no) (hn : ∀ k, k < f → toX t k ≠ no) : ∀ (e i m : Nat) (x : Int), i + e = manyX d → e < m → x = (if i ≤ f then -1 else (f : Int)) →
    ∃ w : Int, escheatref19_Class_l0 q m (.c (.i .i64 no)) (.c (.p g.length 0)) (.c (.i .i64 x)) (.c (.i .i64 (i : Int))) (g ++ [some (Row.mk (encI (d :: t)) true)]) = some (.t [.c (.i .i64 w), .c (.b (clsFrom (manyX d) t no f 0 (depX d + 1)))], g ++ [some (Row.mk (encI (d :: t)) true)])
  | e, i, 0, x, _, hm, _ => by omega
  | 0, i, m + 1, x, hi, hm, hx => by
    have c0 : ¬ (i : Int) < (manyX d : Nat) := by omega
    rw [if_neg (by omega)] at hx
    subst hx
    have hB := encX_length (d := d) ht
    have hD := fun h => ref19_Deep_eq (d := d) (t := t) (h := h)
    have hP := fun h => ref19_Powd_eq (d := d) (h := h)
    have hdl := depX_le d
    obtain ⟨w, e⟩ := class_outer (d := d) (no := no) (t := t) (g := g) (f := f) (q := q) ht hq (depX d + 1) 0 q (by omega) (by omega)
    rw [escheatref19_Class_l0_eq]
    refine ⟨w, ?_⟩
    generalize encI (d :: t) = y at *
    simp only [afAddr_p, List.append_nil, if_true, if_false, bnd_some, mp_some, cnd_t, cnd_f, gd_no, gd_tt, gd_tf, gd_ft, gd_ff, alenS_s, alen_sl, alen_ns, abin_add, abin_sub, abin_mul, abin_eql, abin_neq, abin_lss, abin_leq, abin_gtr, abin_geq, abin_seql, abin_sneq, abin_slss, aun_not, aun_neg, agn_some, aeqN_nf, aeqN_f, aeqN_np, aeqN_p, anilc_p, aeqB_t, aeqB_f, aconv_i, apick_b, cond_true, cond_false, decide_true, decide_false, Bool.not_true, Bool.not_false, aext_t, ofPart_c, ofPart_a, part?_c, part?_a, cells?_c, cells?_a, tupN_2, tupN_3, Option.map_some, Option.some.injEq, List.getElem?_cons_zero, List.getElem?_cons_succ, not_true_eq_false, not_false_eq_true, quiet_same, bytesI_length, Option.join_some, List.append_assoc, List.cons_append, List.nil_append, List.length_append, List.length_cons, List.length_nil, Nat.zero_add, Nat.add_zero, rd_at, rd_at0, set_at, set_at0, List.set_cons_zero, List.set_cons_succ, ne_eq, decide_not, quiet_ext, newOk_some, List.cons_prefix_cons, List.nil_prefix, List.drop_succ_cons, List.drop_zero, List.all_cons, List.all_nil, Bool.and_true, true_and, and_true, aloadN_at, aloadN_at0, aload1_at, aload1_at0, astoreN_at, astoreN_at0, astore1_at, astore1_at0, aslA_at, aslA_at0, ldN_all, ld1_row, stN_all, st1_row, slr_all, Nat.reduceAdd, Nat.reduceMul, Nat.reduceLT, hB, hD, hP, c0]
    exact e
  | e + 1, i, m + 1, x, hi, hm, hx => by
    have c0 : (i : Int) < (manyX d : Nat) := by omega
    have hm32 := manyX_le d
    have hB := encX_length (d := d) ht
    have hD := fun h => ref19_Deep_eq (d := d) (t := t) (h := h)
    have hP := fun h => ref19_Powd_eq (d := d) (h := h)
    have a1 := adX (id := g.length) (i := i) (by omega)
    have x1 := encX_get (d := d) (i := i) ht (by omega)
    have w1 := wi_succ (show i + 1 < 9223372036854775808 by omega)
    rw [escheatref19_Class_l0_eq]
    by_cases ce : toX t i = no
    · by_cases cx : i ≤ f
      · rw [if_pos cx] at hx
        subst hx
        have : i = f := by
          by_cases c : i < f
          · exact absurd ce (hn i c)
          · omega
        subst this
        have c1 : (-1 : Int) < 0 := by omega
        obtain ⟨w, ih⟩ := class_first (d := d) (no := no) (t := t) (f := i) (q := q) (g := g) ht hq hf he hn e (i + 1) m (i : Int) (by omega) (by omega) (by rw [if_neg (by omega)])
        refine ⟨w, ?_⟩
        generalize encI (d :: t) = y at *
        simp only [afAddr_p, List.append_nil, if_true, if_false, bnd_some, mp_some, cnd_t, cnd_f, gd_no, gd_tt, gd_tf, gd_ft, gd_ff, alenS_s, alen_sl, alen_ns, abin_add, abin_sub, abin_mul, abin_eql, abin_neq, abin_lss, abin_leq, abin_gtr, abin_geq, abin_seql, abin_sneq, abin_slss, aun_not, aun_neg, agn_some, aeqN_nf, aeqN_f, aeqN_np, aeqN_p, anilc_p, aeqB_t, aeqB_f, aconv_i, apick_b, cond_true, cond_false, decide_true, decide_false, Bool.not_true, Bool.not_false, aext_t, ofPart_c, ofPart_a, part?_c, part?_a, cells?_c, cells?_a, tupN_2, tupN_3, Option.map_some, Option.some.injEq, List.getElem?_cons_zero, List.getElem?_cons_succ, not_true_eq_false, not_false_eq_true, quiet_same, bytesI_length, Option.join_some, List.append_assoc, List.cons_append, List.nil_append, List.length_append, List.length_cons, List.length_nil, Nat.zero_add, Nat.add_zero, rd_at, rd_at0, set_at, set_at0, List.set_cons_zero, List.set_cons_succ, ne_eq, decide_not, quiet_ext, newOk_some, List.cons_prefix_cons, List.nil_prefix, List.drop_succ_cons, List.drop_zero, List.all_cons, List.all_nil, Bool.and_true, true_and, and_true, aloadN_at, aloadN_at0, aload1_at, aload1_at0, astoreN_at, astoreN_at0, astore1_at, astore1_at0, aslA_at, aslA_at0, ldN_all, ld1_row, stN_all, st1_row, slr_all, Nat.reduceAdd, Nat.reduceMul, Nat.reduceLT, hB, hD, hP, c0, a1, x1, ce, c1, escheatref19_Class_j0_eq, w1]
        exact ih
      · rw [if_neg cx] at hx
        subst hx
        have c1 : ¬ (f : Int) < 0 := by omega
        obtain ⟨w, ih⟩ := class_first (d := d) (no := no) (t := t) (f := f) (q := q) (g := g) ht hq hf he hn e (i + 1) m (f : Int) (by omega) (by omega) (by rw [if_neg (by omega)])
        refine ⟨w, ?_⟩
        generalize encI (d :: t) = y at *
        simp only [afAddr_p, List.append_nil, if_true, if_false, bnd_some, mp_some, cnd_t, cnd_f, gd_no, gd_tt, gd_tf, gd_ft, gd_ff, alenS_s, alen_sl, alen_ns, abin_add, abin_sub, abin_mul, abin_eql, abin_neq, abin_lss, abin_leq, abin_gtr, abin_geq, abin_seql, abin_sneq, abin_slss, aun_not, aun_neg, agn_some, aeqN_nf, aeqN_f, aeqN_np, aeqN_p, anilc_p, aeqB_t, aeqB_f, aconv_i, apick_b, cond_true, cond_false, decide_true, decide_false, Bool.not_true, Bool.not_false, aext_t, ofPart_c, ofPart_a, part?_c, part?_a, cells?_c, cells?_a, tupN_2, tupN_3, Option.map_some, Option.some.injEq, List.getElem?_cons_zero, List.getElem?_cons_succ, not_true_eq_false, not_false_eq_true, quiet_same, bytesI_length, Option.join_some, List.append_assoc, List.cons_append, List.nil_append, List.length_append, List.length_cons, List.length_nil, Nat.zero_add, Nat.add_zero, rd_at, rd_at0, set_at, set_at0, List.set_cons_zero, List.set_cons_succ, ne_eq, decide_not, quiet_ext, newOk_some, List.cons_prefix_cons, List.nil_prefix, List.drop_succ_cons, List.drop_zero, List.all_cons, List.all_nil, Bool.and_true, true_and, and_true, aloadN_at, aloadN_at0, aload1_at, aload1_at0, astoreN_at, astoreN_at0, astore1_at, astore1_at0, aslA_at, aslA_at0, ldN_all, ld1_row, stN_all, st1_row, slr_all, Nat.reduceAdd, Nat.reduceMul, Nat.reduceLT, hB, hD, hP, c0, a1, x1, ce, c1, escheatref19_Class_j0_eq, w1]
        exact ih
    · have : (i + 1 ≤ f) ↔ i ≤ f := by
        constructor
        · omega
        · intro h
          by_cases c : i = f
          · rw [c] at ce; exact absurd he ce
          · omega
      obtain ⟨w, ih⟩ := class_first (d := d) (no := no) (t := t) (f := f) (q := q) (g := g) ht hq hf he hn e (i + 1) m x (by omega) (by omega) (by rw [hx]; by_cases c : i ≤ f; rw [if_pos c, if_pos (this.2 c)]; rw [if_neg c, if_neg (fun h => c (this.1 h))])
      refine ⟨w, ?_⟩
      generalize encI (d :: t) = y at *
      simp only [afAddr_p, List.append_nil, if_true, if_false, bnd_some, mp_some, cnd_t, cnd_f, gd_no, gd_tt, gd_tf, gd_ft, gd_ff, alenS_s, alen_sl, alen_ns, abin_add, abin_sub, abin_mul, abin_eql, abin_neq, abin_lss, abin_leq, abin_gtr, abin_geq, abin_seql, abin_sneq, abin_slss, aun_not, aun_neg, agn_some, aeqN_nf, aeqN_f, aeqN_np, aeqN_p, anilc_p, aeqB_t, aeqB_f, aconv_i, apick_b, cond_true, cond_false, decide_true, decide_false, Bool.not_true, Bool.not_false, aext_t, ofPart_c, ofPart_a, part?_c, part?_a, cells?_c, cells?_a, tupN_2, tupN_3, Option.map_some, Option.some.injEq, List.getElem?_cons_zero, List.getElem?_cons_succ, not_true_eq_false, not_false_eq_true, quiet_same, bytesI_length, Option.join_some, List.append_assoc, List.cons_append, List.nil_append, List.length_append, List.length_cons, List.length_nil, Nat.zero_add, Nat.add_zero, rd_at, rd_at0, set_at, set_at0, List.set_cons_zero, List.set_cons_succ, ne_eq, decide_not, quiet_ext, newOk_some, List.cons_prefix_cons, List.nil_prefix, List.drop_succ_cons, List.drop_zero, List.all_cons, List.all_nil, Bool.and_true, true_and, and_true, aloadN_at, aloadN_at0, aload1_at, aload1_at0, astoreN_at, astoreN_at0, astore1_at, astore1_at0, aslA_at, aslA_at0, ldN_all, ld1_row, stN_all, st1_row, slr_all, Nat.reduceAdd, Nat.reduceMul, Nat.reduceLT, hB, hD, hP, c0, a1, x1, ce, escheatref19_Class_j0_eq, w1]
      exact ih

theorem first_of {t : List Int} : ∀ i, ∃ f, f ≤ i ∧ toX t f = toX t i ∧ ∀ k, k < f → toX t k ≠ toX t i := by
  intro i
  induction i using Nat.strongRecOn with
  | ind i ih =>
    by_cases c : ∃ k, k < i ∧ toX t k = toX t i
    · obtain ⟨k, hk, he⟩ := c
      obtain ⟨f, h1, h2, h3⟩ := ih k hk
      exact ⟨f, by omega, h2.trans he, fun j hj => by rw [← he]; exact h3 j hj⟩
    · exact ⟨i, Nat.le_refl _, rfl, fun k hk he => c ⟨k, hk, he⟩⟩

theorem clsHas_iff {n : Nat} {t : List Int} {no : Int} {f b : Nat} : clsHas n t no f b = true ↔ ∀ k, k < n → (toX t k = no ↔ k % 2 ^ b = f % 2 ^ b) := by
  unfold clsHas clsAt
  rw [← List.range_eq_range', List.all_eq_true]
  constructor
  · intro h k hk
    have := h k (List.mem_range.2 hk)
    rw [beq_iff_eq, Bool.eq_iff_iff, decide_eq_true_eq, beq_iff_eq] at this
    exact this
  · intro h k hk
    rw [beq_iff_eq, Bool.eq_iff_iff, decide_eq_true_eq, beq_iff_eq]
    exact h k (List.mem_range.1 hk)

theorem clsFrom_iff {n : Nat} {t : List Int} {no : Int} {f : Nat} : ∀ e b, clsFrom n t no f b e = true ↔ ∃ c, b ≤ c ∧ c < b + e ∧ clsHas n t no f c = true
  | 0, b => by
    unfold clsFrom
    constructor
    · intro h; cases h
    · rintro ⟨c, h1, h2, _⟩; omega
  | e + 1, b => by
    unfold clsFrom
    rw [Bool.or_eq_true, clsFrom_iff e (b + 1)]
    constructor
    · rintro (h | ⟨c, h1, h2, h3⟩)
      · exact ⟨b, Nat.le_refl _, by omega, h⟩
      · exact ⟨c, by omega, by omega, h3⟩
    · rintro ⟨c, h1, h2, h3⟩
      by_cases e : c = b
      · rw [e] at h3; exact .inl h3
      · exact .inr ⟨c, by omega, by omega, h3⟩

theorem class_whole {d : Int} {t : List Int} {i f : Nat} (hi : i < manyX d) (hz : toX t i ≠ 0) (he : toX t f = toX t i) (hf : f < manyX d) : clsFrom (manyX d) t (toX t i) f 0 (depX d + 1) = wholX d t i := by
  rw [Bool.eq_iff_iff, clsFrom_iff]
  constructor
  · rintro ⟨c, _, hc, h⟩
    have h := clsHas_iff.1 h
    have hif := (h i hi).1 rfl
    refine whole_of (c := c) hi (.inl (allX_iff.2 ⟨hz, fun k hk hm => (h k hk).2 (hm.trans hif)⟩)) fun k hk hs => ((h k hk).1 hs).trans hif.symm
  · intro h
    have h := (wholX_iff hi).1 h
    refine ⟨bitsX d t i, Nat.zero_le _, by have := bitsX_le (d := d) (t := t) (p := i); omega, clsHas_iff.2 fun k hk => ?_⟩
    have hfi := h f hf he
    constructor
    · intro hs; exact (h k hk hs).trans hfi.symm
    · intro hm; exact cls_same hi hk (hm.trans hfi)

theorem ref19_Class_eq {d : Int} {t : List Int} {i : Nat} {h : Heap} (ht : t.length = 32) (hi : i < manyX d) (hz : toX t i ≠ 0) : ∃ w : Int, S_escheatref19_Class [.a (encI (d :: t)), .c (.i .i64 (toX t i))] h = some (.t [.c (.i .i64 w), .c (.b (wholX d t i))], h) := by
  obtain ⟨f, h1, h2, h3⟩ := first_of (t := t) i
  have hm := manyX_le d
  obtain ⟨w, e⟩ := class_first (d := d) (no := toX t i) (t := t) (g := ro h) (f := f) (q := 33) ht (by omega) (by omega) h2 h3 (manyX d) 0 33 (-1) (by omega) (by omega) (by rw [if_pos (by omega)])
  rw [class_whole hi hz h2 (by omega)] at e
  refine ⟨w, S_escheatref19_Class_flat (n := 33) (h2 := ro h ++ [some (Row.mk (encI (d :: t)) true)]) ?_ rfl⟩
  rw [R_escheatref19_Class_eq]
  exact e

/-! ### Fix -/

theorem rfirst_loop {d : Int} {t : List Int} {g h : Heap} {i q m : Nat} {x3 : Val} {x6 : Bool} (ht : t.length = 32) (hi : i < 32) (hrd : rd h g.length = some ⟨encI (d :: t), true⟩) : ∀ (e k m2 : Nat) (a : Bool), k + e = i → e < m2 →
    ∃ a2 : Bool, a2 = (a && (List.range' k e).all fun k => !decide (toX t k = toX t i)) ∧
    escheatref19_Fix_l1 q m m2 (.c (.p g.length 0)) (.c (.p (g.length + 1) 0)) x3 (.c (.i .i64 (i : Int))) (.c (.b x6)) (.c (.b a)) (.c (.i .i64 (k : Int))) h =
      escheatref19_Fix_l1 q m 1 (.c (.p g.length 0)) (.c (.p (g.length + 1) 0)) x3 (.c (.i .i64 (i : Int))) (.c (.b x6)) (.c (.b a2)) (.c (.i .i64 (i : Int))) h
  | e, k, 0, a, _, hm => by omega
  | 0, k, m2 + 1, a, hk, hm => by
    have e0 : k = i := by omega
    subst e0
    have c0 : ¬ (k : Int) < k := by omega
    refine ⟨a, by rw [List.range'_zero, List.all_nil, Bool.and_true], ?_⟩
    rw [escheatref19_Fix_l1_eq, escheatref19_Fix_l1_eq]
    cases a <;> cases x6 <;> simp only [afAddr_p, List.append_nil, if_true, if_false, bnd_some, mp_some, cnd_t, cnd_f, gd_no, gd_tt, gd_tf, gd_ft, gd_ff, alenS_s, alen_sl, alen_ns, abin_add, abin_sub, abin_mul, abin_eql, abin_neq, abin_lss, abin_leq, abin_gtr, abin_geq, abin_seql, abin_sneq, abin_slss, aun_not, aun_neg, agn_some, aeqN_nf, aeqN_f, aeqN_np, aeqN_p, anilc_p, aeqB_t, aeqB_f, aconv_i, apick_b, cond_true, cond_false, decide_true, decide_false, Bool.not_true, Bool.not_false, aext_t, ofPart_c, ofPart_a, part?_c, part?_a, cells?_c, cells?_a, tupN_2, tupN_3, Option.map_some, Option.some.injEq, List.getElem?_cons_zero, List.getElem?_cons_succ, not_true_eq_false, not_false_eq_true, quiet_same, bytesI_length, Option.join_some, List.append_assoc, List.cons_append, List.nil_append, List.length_append, List.length_cons, List.length_nil, Nat.zero_add, Nat.add_zero, rd_at, rd_at0, set_at, set_at0, List.set_cons_zero, List.set_cons_succ, ne_eq, decide_not, quiet_ext, newOk_some, List.cons_prefix_cons, List.nil_prefix, List.drop_succ_cons, List.drop_zero, List.all_cons, List.all_nil, Bool.and_true, true_and, and_true, c0]
  | e + 1, k, m2 + 1, a, hk, hm => by
    have c0 : (k : Int) < i := by omega
    have a1 := adX (id := g.length) (i := k) (by omega)
    have l1 := ldX (h := h) (id := g.length) hrd ht (i := k) (by omega)
    have a2 := adX (id := g.length) (i := i) (by omega)
    have l2 := ldX (h := h) (id := g.length) hrd ht (i := i) (by omega)
    have w1 := wi_succ (show k + 1 < 9223372036854775808 by omega)
    cases a with
    | false =>
      obtain ⟨b, hb, ih⟩ := rfirst_loop (q := q) (m := m) (x3 := x3) (x6 := x6) ht hi hrd e (k + 1) m2 false (by omega) (by omega)
      refine ⟨b, by rw [hb, Bool.false_and, Bool.false_and], ?_⟩
      rw [← ih]
      conv => lhs; rw [escheatref19_Fix_l1_eq]
      simp only [afAddr_p, List.append_nil, if_true, if_false, bnd_some, mp_some, cnd_t, cnd_f, gd_no, gd_tt, gd_tf, gd_ft, gd_ff, alenS_s, alen_sl, alen_ns, abin_add, abin_sub, abin_mul, abin_eql, abin_neq, abin_lss, abin_leq, abin_gtr, abin_geq, abin_seql, abin_sneq, abin_slss, aun_not, aun_neg, agn_some, aeqN_nf, aeqN_f, aeqN_np, aeqN_p, anilc_p, aeqB_t, aeqB_f, aconv_i, apick_b, cond_true, cond_false, decide_true, decide_false, Bool.not_true, Bool.not_false, aext_t, ofPart_c, ofPart_a, part?_c, part?_a, cells?_c, cells?_a, tupN_2, tupN_3, Option.map_some, Option.some.injEq, List.getElem?_cons_zero, List.getElem?_cons_succ, not_true_eq_false, not_false_eq_true, quiet_same, bytesI_length, Option.join_some, List.append_assoc, List.cons_append, List.nil_append, List.length_append, List.length_cons, List.length_nil, Nat.zero_add, Nat.add_zero, rd_at, rd_at0, set_at, set_at0, List.set_cons_zero, List.set_cons_succ, ne_eq, decide_not, quiet_ext, newOk_some, List.cons_prefix_cons, List.nil_prefix, List.drop_succ_cons, List.drop_zero, List.all_cons, List.all_nil, Bool.and_true, true_and, and_true, c0, w1]
    | true =>
      obtain ⟨b, hb, ih⟩ := rfirst_loop (q := q) (m := m) (x3 := x3) (x6 := x6) ht hi hrd e (k + 1) m2 (!decide (toX t k = toX t i)) (by omega) (by omega)
      refine ⟨b, by rw [hb, List.range'_succ, List.all_cons, Bool.true_and], ?_⟩
      rw [← ih]
      conv => lhs; rw [escheatref19_Fix_l1_eq]
      by_cases c : toX t k = toX t i
      · rw [decide_eq_true c]
        rw [c] at l1
        simp only [afAddr_p, List.append_nil, if_true, if_false, bnd_some, mp_some, cnd_t, cnd_f, gd_no, gd_tt, gd_tf, gd_ft, gd_ff, alenS_s, alen_sl, alen_ns, abin_add, abin_sub, abin_mul, abin_eql, abin_neq, abin_lss, abin_leq, abin_gtr, abin_geq, abin_seql, abin_sneq, abin_slss, aun_not, aun_neg, agn_some, aeqN_nf, aeqN_f, aeqN_np, aeqN_p, anilc_p, aeqB_t, aeqB_f, aconv_i, apick_b, cond_true, cond_false, decide_true, decide_false, Bool.not_true, Bool.not_false, aext_t, ofPart_c, ofPart_a, part?_c, part?_a, cells?_c, cells?_a, tupN_2, tupN_3, Option.map_some, Option.some.injEq, List.getElem?_cons_zero, List.getElem?_cons_succ, not_true_eq_false, not_false_eq_true, quiet_same, bytesI_length, Option.join_some, List.append_assoc, List.cons_append, List.nil_append, List.length_append, List.length_cons, List.length_nil, Nat.zero_add, Nat.add_zero, rd_at, rd_at0, set_at, set_at0, List.set_cons_zero, List.set_cons_succ, ne_eq, decide_not, quiet_ext, newOk_some, List.cons_prefix_cons, List.nil_prefix, List.drop_succ_cons, List.drop_zero, List.all_cons, List.all_nil, Bool.and_true, true_and, and_true, c0, a1, l1, a2, l2, w1]
      · rw [decide_eq_false c]
        simp only [afAddr_p, List.append_nil, if_true, if_false, bnd_some, mp_some, cnd_t, cnd_f, gd_no, gd_tt, gd_tf, gd_ft, gd_ff, alenS_s, alen_sl, alen_ns, abin_add, abin_sub, abin_mul, abin_eql, abin_neq, abin_lss, abin_leq, abin_gtr, abin_geq, abin_seql, abin_sneq, abin_slss, aun_not, aun_neg, agn_some, aeqN_nf, aeqN_f, aeqN_np, aeqN_p, anilc_p, aeqB_t, aeqB_f, aconv_i, apick_b, cond_true, cond_false, decide_true, decide_false, Bool.not_true, Bool.not_false, aext_t, ofPart_c, ofPart_a, part?_c, part?_a, cells?_c, cells?_a, tupN_2, tupN_3, Option.map_some, Option.some.injEq, List.getElem?_cons_zero, List.getElem?_cons_succ, not_true_eq_false, not_false_eq_true, quiet_same, bytesI_length, Option.join_some, List.append_assoc, List.cons_append, List.nil_append, List.length_append, List.length_cons, List.length_nil, Nat.zero_add, Nat.add_zero, rd_at, rd_at0, set_at, set_at0, List.set_cons_zero, List.set_cons_succ, ne_eq, decide_not, quiet_ext, newOk_some, List.cons_prefix_cons, List.nil_prefix, List.drop_succ_cons, List.drop_zero, List.all_cons, List.all_nil, Bool.and_true, true_and, and_true, c0, a1, l1, a2, l2, c, w1]

theorem rfix_loop {d : Int} {t : List Int} {g : Heap} {q : Nat} (ht : t.length = 32) (h0 : 0 ≤ d) (h5 : d ≤ 5) (hq : 32 < q) : ∀ (e i m : Nat) (h : Heap), i + e = manyX d → e < m → Low (g ++ [some (Row.mk (encI (d :: t)) true), some (Row.mk (encI (0 :: zI 32)) true)]).length (g ++ [some (Row.mk (encI (d :: t)) true), some (Row.mk (encI (0 :: zI 32)) true)]) h → rd h (g.length + 2) = some ⟨encI (d :: fixL d t i), true⟩ →
    ∃ h', escheatref19_Fix_l0 q m (.c (.p g.length 0)) (.c (.p (g.length + 1) 0)) (.c (.p (g.length + 2) 0)) (.c (.i .i64 (i : Int))) h = some (.a (encI (d :: fixL d t (manyX d))), h')
  | e, i, 0, h, _, hm, _, _ => by omega
  | 0, i, m + 1, h, hi, hm, hlow, hr => by
    have e0 : i = manyX d := by omega
    subst e0
    have c0 : ¬ ((manyX d : Nat) : Int) < (manyX d : Nat) := by omega
    have hF := encX_length (d := d) (fixL_length (d := d) (t := t) (manyX_le d))
    have hz : (encI (0 :: zI 32)).length = 33 := encX_length (d := 0) zI_length
    have hrd : rd h g.length = some ⟨encI (d :: t), true⟩ := hlow.rd (by simp)
    have hr1 : rd h (g.length + 1) = some ⟨encI (0 :: zI 32), true⟩ := hlow.rd (by simp)
    have ld : aload1 h (.c (.p g.length 0)) = some (.c (.i .i64 d)) := load1_of (off := 0) (c := .i .i64 d) hrd rfl (by simp [Cell.isX])
    have hP := fun h => ref19_Powd_eq (d := d) (h := h)
    rw [depX_of h0 h5] at hP
    have s1 := loadAll (h := h) (id := g.length + 2) hr hF
    have s2 := storeAll (h := h) (id := g.length + 1) (xs := encI (d :: fixL d t (manyX d))) hr1 hz hF
    have s3 := loadAll (h := h.set (g.length + 1) (some ⟨encI (d :: fixL d t (manyX d)), true⟩)) (id := g.length + 1) (rd_set_same (rd_lt hr1)) hF
    rw [escheatref19_Fix_l0_eq]
    generalize encI (d :: fixL d t (manyX d)) = z at *
    exact ⟨_, by simp only [afAddr_p, List.append_nil, if_true, if_false, bnd_some, mp_some, cnd_t, cnd_f, gd_no, gd_tt, gd_tf, gd_ft, gd_ff, alenS_s, alen_sl, alen_ns, abin_add, abin_sub, abin_mul, abin_eql, abin_neq, abin_lss, abin_leq, abin_gtr, abin_geq, abin_seql, abin_sneq, abin_slss, aun_not, aun_neg, agn_some, aeqN_nf, aeqN_f, aeqN_np, aeqN_p, anilc_p, aeqB_t, aeqB_f, aconv_i, apick_b, cond_true, cond_false, decide_true, decide_false, Bool.not_true, Bool.not_false, aext_t, ofPart_c, ofPart_a, part?_c, part?_a, cells?_c, cells?_a, tupN_2, tupN_3, Option.map_some, Option.some.injEq, List.getElem?_cons_zero, List.getElem?_cons_succ, not_true_eq_false, not_false_eq_true, quiet_same, bytesI_length, Option.join_some, List.append_assoc, List.cons_append, List.nil_append, List.length_append, List.length_cons, List.length_nil, Nat.zero_add, Nat.add_zero, rd_at, rd_at0, set_at, set_at0, List.set_cons_zero, List.set_cons_succ, ne_eq, decide_not, quiet_ext, newOk_some, List.cons_prefix_cons, List.nil_prefix, List.drop_succ_cons, List.drop_zero, List.all_cons, List.all_nil, Bool.and_true, true_and, and_true, ld, hP, c0, s1, s2, s3] <;> rfl⟩
  | e + 1, i, m + 1, h, hi, hm, hlow, hr => by
    have hm32 := manyX_le d
    have c0 : (i : Int) < (manyX d : Nat) := by omega
    have hB := encX_length (d := d) ht
    have hrd : rd h g.length = some ⟨encI (d :: t), true⟩ := hlow.rd (by simp)
    have ld : aload1 h (.c (.p g.length 0)) = some (.c (.i .i64 d)) := load1_of (off := 0) (c := .i .i64 d) hrd rfl (by simp [Cell.isX])
    have hP := fun h => ref19_Powd_eq (d := d) (h := h)
    rw [depX_of h0 h5] at hP
    have s1 := loadAll (h := h) (id := g.length) (cs := encI (d :: t)) hrd hB
    have a1 := adX (id := g.length) (i := i) (by omega)
    have l1 := ldX (h := h) (id := g.length) hrd ht (i := i) (by omega)
    have hFi := fun h => ref19_Fine_eq (n := toX t i) (h := h)
    have w1 := wi_succ (show i + 1 < 9223372036854775808 by omega)
    have hk : i < 32 := by omega
    -- nothing is kept
    have skip : fixG d t i = 0 → 
        ∃ h', escheatref19_Fix_l0 q m (.c (.p g.length 0)) (.c (.p (g.length + 1) 0)) (.c (.p (g.length + 2) 0)) (.c (.i .i64 ((i + 1 : Nat) : Int))) h = some (.a (encI (d :: fixL d t (manyX d))), h') := by
      intro hf
      exact rfix_loop (q := q) ht h0 h5 hq e (i + 1) m h (by omega) (by omega) hlow (by rw [fixL_same hk hf]; exact hr)
    -- it is kept
    have a3 := adX (id := g.length + 2) (i := i) hk
    have put : fixG d t i = toX t i → 
        ∃ h3, astore1 h (.c (.p (g.length + 2) (1 + i))) (.c (.i .i64 (toX t i))) = some h3 ∧ ∃ h', escheatref19_Fix_l0 q m (.c (.p g.length 0)) (.c (.p (g.length + 1) 0)) (.c (.p (g.length + 2) 0)) (.c (.i .i64 ((i + 1 : Nat) : Int))) h3 = some (.a (encI (d :: fixL d t (manyX d))), h') := by
      intro hf
      have hF := encX_length (d := d) (fixL_length (d := d) (t := t) (k := i) (by omega))
      have t1 := store1_of (x := .i .i64 (toX t i)) (off := 1 + i) hr (by rw [hF]; omega)
      rw [encX_set, ← hf, ← fixL_succ hk, hf] at t1
      refine ⟨_, t1, rfix_loop (q := q) ht h0 h5 hq e (i + 1) m _ (by omega) (by omega) (hlow.set (by simp) _) (rd_set_same (rd_lt hr))⟩
    rw [escheatref19_Fix_l0_eq]
    by_cases cz : toX t i = 0
    · have hf : fixG d t i = 0 := by unfold fixG keepX; rw [decide_eq_true cz]; rfl
      obtain ⟨h', ih⟩ := skip hf
      rw [cz] at l1
      refine ⟨h', ?_⟩
      generalize encI (d :: t) = z at *
      simp only [afAddr_p, List.append_nil, if_true, if_false, bnd_some, mp_some, cnd_t, cnd_f, gd_no, gd_tt, gd_tf, gd_ft, gd_ff, alenS_s, alen_sl, alen_ns, abin_add, abin_sub, abin_mul, abin_eql, abin_neq, abin_lss, abin_leq, abin_gtr, abin_geq, abin_seql, abin_sneq, abin_slss, aun_not, aun_neg, agn_some, aeqN_nf, aeqN_f, aeqN_np, aeqN_p, anilc_p, aeqB_t, aeqB_f, aconv_i, apick_b, cond_true, cond_false, decide_true, decide_false, Bool.not_true, Bool.not_false, aext_t, ofPart_c, ofPart_a, part?_c, part?_a, cells?_c, cells?_a, tupN_2, tupN_3, Option.map_some, Option.some.injEq, List.getElem?_cons_zero, List.getElem?_cons_succ, not_true_eq_false, not_false_eq_true, quiet_same, bytesI_length, Option.join_some, List.append_assoc, List.cons_append, List.nil_append, List.length_append, List.length_cons, List.length_nil, Nat.zero_add, Nat.add_zero, rd_at, rd_at0, set_at, set_at0, List.set_cons_zero, List.set_cons_succ, ne_eq, decide_not, quiet_ext, newOk_some, List.cons_prefix_cons, List.nil_prefix, List.drop_succ_cons, List.drop_zero, List.all_cons, List.all_nil, Bool.and_true, true_and, and_true, ld, hP, c0, a1, l1, escheatref19_Fix_j0_eq, w1]
      exact ih
    · cases cf : finI (toX t i) with
      | false =>
        rw [cf] at hFi
        have hf : fixG d t i = 0 := by unfold fixG keepX; rw [cf, Bool.false_and, Bool.and_false, cond_false]
        obtain ⟨h', ih⟩ := skip hf
        refine ⟨h', ?_⟩
        generalize encI (d :: t) = z at *
        simp only [afAddr_p, List.append_nil, if_true, if_false, bnd_some, mp_some, cnd_t, cnd_f, gd_no, gd_tt, gd_tf, gd_ft, gd_ff, alenS_s, alen_sl, alen_ns, abin_add, abin_sub, abin_mul, abin_eql, abin_neq, abin_lss, abin_leq, abin_gtr, abin_geq, abin_seql, abin_sneq, abin_slss, aun_not, aun_neg, agn_some, aeqN_nf, aeqN_f, aeqN_np, aeqN_p, anilc_p, aeqB_t, aeqB_f, aconv_i, apick_b, cond_true, cond_false, decide_true, decide_false, Bool.not_true, Bool.not_false, aext_t, ofPart_c, ofPart_a, part?_c, part?_a, cells?_c, cells?_a, tupN_2, tupN_3, Option.map_some, Option.some.injEq, List.getElem?_cons_zero, List.getElem?_cons_succ, not_true_eq_false, not_false_eq_true, quiet_same, bytesI_length, Option.join_some, List.append_assoc, List.cons_append, List.nil_append, List.length_append, List.length_cons, List.length_nil, Nat.zero_add, Nat.add_zero, rd_at, rd_at0, set_at, set_at0, List.set_cons_zero, List.set_cons_succ, ne_eq, decide_not, quiet_ext, newOk_some, List.cons_prefix_cons, List.nil_prefix, List.drop_succ_cons, List.drop_zero, List.all_cons, List.all_nil, Bool.and_true, true_and, and_true, ld, hP, c0, a1, l1, cz, hFi, escheatref19_Fix_j0_eq, w1]
        exact ih
      | true =>
        rw [cf] at hFi
        obtain ⟨wb, hC⟩ := ref19_Class_eq (d := d) (t := t) (i := i) (h := h) ht (by omega) cz
        have hq2 := quiet_grows (Grows.rfl' (h := h)) (v := .t [.c (.i .i64 wb), .c (.b (wholX d t i))])
        obtain ⟨a2, ha2, hL⟩ := rfirst_loop (d := d) (t := t) (g := g) (h := h) (i := i) (q := q) (m := m) (x3 := .c (.p (g.length + 2) 0)) (x6 := wholX d t i) ht hk hrd i 0 q true (by omega) (by omega)
        rw [Bool.true_and, ← List.range_eq_range', show (List.range i).all (fun k => !decide (toX t k = toX t i)) = firstX t i from rfl] at ha2
        subst ha2
        rw [escheatref19_Fix_l1_eq q m 0] at hL
        have ci : ¬ (i : Int) < i := by omega
        rw [show (((0 : Nat) : Int)) = 0 from rfl] at hL
        have fin : ∃ h', escheatref19_Fix_l1 q m q (.c (.p g.length 0)) (.c (.p (g.length + 1) 0)) (.c (.p (g.length + 2) 0)) (.c (.i .i64 (i : Int))) (.c (.b (wholX d t i))) (.c (.b true)) (.c (.i .i64 0)) h = some (.a (encI (d :: fixL d t (manyX d))), h') := by
          rw [hL]
          cases cw : wholX d t i with
          | true =>
            have hf : fixG d t i = toX t i := by unfold fixG keepX; rw [cf, cw, decide_eq_false cz, Bool.or_true]; rfl
            obtain ⟨h3, st, h', ih⟩ := put hf
            refine ⟨h', ?_⟩
            simp only [afAddr_p, List.append_nil, if_true, if_false, bnd_some, mp_some, cnd_t, cnd_f, gd_no, gd_tt, gd_tf, gd_ft, gd_ff, alenS_s, alen_sl, alen_ns, abin_add, abin_sub, abin_mul, abin_eql, abin_neq, abin_lss, abin_leq, abin_gtr, abin_geq, abin_seql, abin_sneq, abin_slss, aun_not, aun_neg, agn_some, aeqN_nf, aeqN_f, aeqN_np, aeqN_p, anilc_p, aeqB_t, aeqB_f, aconv_i, apick_b, cond_true, cond_false, decide_true, decide_false, Bool.not_true, Bool.not_false, aext_t, ofPart_c, ofPart_a, part?_c, part?_a, cells?_c, cells?_a, tupN_2, tupN_3, Option.map_some, Option.some.injEq, List.getElem?_cons_zero, List.getElem?_cons_succ, not_true_eq_false, not_false_eq_true, quiet_same, bytesI_length, Option.join_some, List.append_assoc, List.cons_append, List.nil_append, List.length_append, List.length_cons, List.length_nil, Nat.zero_add, Nat.add_zero, rd_at, rd_at0, set_at, set_at0, List.set_cons_zero, List.set_cons_succ, ne_eq, decide_not, quiet_ext, newOk_some, List.cons_prefix_cons, List.nil_prefix, List.drop_succ_cons, List.drop_zero, List.all_cons, List.all_nil, Bool.and_true, true_and, and_true, ci, a1, l1, a3, st, escheatref19_Fix_j0_eq, w1]
            exact ih
          | false =>
            cases cs : firstX t i with
            | true =>
              have hf : fixG d t i = toX t i := by unfold fixG keepX; rw [cf, cs, decide_eq_false cz]; rfl
              obtain ⟨h3, st, h', ih⟩ := put hf
              refine ⟨h', ?_⟩
              simp only [afAddr_p, List.append_nil, if_true, if_false, bnd_some, mp_some, cnd_t, cnd_f, gd_no, gd_tt, gd_tf, gd_ft, gd_ff, alenS_s, alen_sl, alen_ns, abin_add, abin_sub, abin_mul, abin_eql, abin_neq, abin_lss, abin_leq, abin_gtr, abin_geq, abin_seql, abin_sneq, abin_slss, aun_not, aun_neg, agn_some, aeqN_nf, aeqN_f, aeqN_np, aeqN_p, anilc_p, aeqB_t, aeqB_f, aconv_i, apick_b, cond_true, cond_false, decide_true, decide_false, Bool.not_true, Bool.not_false, aext_t, ofPart_c, ofPart_a, part?_c, part?_a, cells?_c, cells?_a, tupN_2, tupN_3, Option.map_some, Option.some.injEq, List.getElem?_cons_zero, List.getElem?_cons_succ, not_true_eq_false, not_false_eq_true, quiet_same, bytesI_length, Option.join_some, List.append_assoc, List.cons_append, List.nil_append, List.length_append, List.length_cons, List.length_nil, Nat.zero_add, Nat.add_zero, rd_at, rd_at0, set_at, set_at0, List.set_cons_zero, List.set_cons_succ, ne_eq, decide_not, quiet_ext, newOk_some, List.cons_prefix_cons, List.nil_prefix, List.drop_succ_cons, List.drop_zero, List.all_cons, List.all_nil, Bool.and_true, true_and, and_true, ci, a1, l1, a3, st, escheatref19_Fix_j0_eq, w1]
              exact ih
            | false =>
              have hf : fixG d t i = 0 := by unfold fixG keepX; rw [cf, cs, cw, decide_eq_false cz]; rfl
              obtain ⟨h', ih⟩ := skip hf
              refine ⟨h', ?_⟩
              simp only [afAddr_p, List.append_nil, if_true, if_false, bnd_some, mp_some, cnd_t, cnd_f, gd_no, gd_tt, gd_tf, gd_ft, gd_ff, alenS_s, alen_sl, alen_ns, abin_add, abin_sub, abin_mul, abin_eql, abin_neq, abin_lss, abin_leq, abin_gtr, abin_geq, abin_seql, abin_sneq, abin_slss, aun_not, aun_neg, agn_some, aeqN_nf, aeqN_f, aeqN_np, aeqN_p, anilc_p, aeqB_t, aeqB_f, aconv_i, apick_b, cond_true, cond_false, decide_true, decide_false, Bool.not_true, Bool.not_false, aext_t, ofPart_c, ofPart_a, part?_c, part?_a, cells?_c, cells?_a, tupN_2, tupN_3, Option.map_some, Option.some.injEq, List.getElem?_cons_zero, List.getElem?_cons_succ, not_true_eq_false, not_false_eq_true, quiet_same, bytesI_length, Option.join_some, List.append_assoc, List.cons_append, List.nil_append, List.length_append, List.length_cons, List.length_nil, Nat.zero_add, Nat.add_zero, rd_at, rd_at0, set_at, set_at0, List.set_cons_zero, List.set_cons_succ, ne_eq, decide_not, quiet_ext, newOk_some, List.cons_prefix_cons, List.nil_prefix, List.drop_succ_cons, List.drop_zero, List.all_cons, List.all_nil, Bool.and_true, true_and, and_true, ci, escheatref19_Fix_j0_eq, w1]
              exact ih
        obtain ⟨h', e⟩ := fin
        refine ⟨h', ?_⟩
        generalize encI (d :: t) = z at *
        simp only [afAddr_p, List.append_nil, if_true, if_false, bnd_some, mp_some, cnd_t, cnd_f, gd_no, gd_tt, gd_tf, gd_ft, gd_ff, alenS_s, alen_sl, alen_ns, abin_add, abin_sub, abin_mul, abin_eql, abin_neq, abin_lss, abin_leq, abin_gtr, abin_geq, abin_seql, abin_sneq, abin_slss, aun_not, aun_neg, agn_some, aeqN_nf, aeqN_f, aeqN_np, aeqN_p, anilc_p, aeqB_t, aeqB_f, aconv_i, apick_b, cond_true, cond_false, decide_true, decide_false, Bool.not_true, Bool.not_false, aext_t, ofPart_c, ofPart_a, part?_c, part?_a, cells?_c, cells?_a, tupN_2, tupN_3, Option.map_some, Option.some.injEq, List.getElem?_cons_zero, List.getElem?_cons_succ, not_true_eq_false, not_false_eq_true, quiet_same, bytesI_length, Option.join_some, List.append_assoc, List.cons_append, List.nil_append, List.length_append, List.length_cons, List.length_nil, Nat.zero_add, Nat.add_zero, rd_at, rd_at0, set_at, set_at0, List.set_cons_zero, List.set_cons_succ, ne_eq, decide_not, quiet_ext, newOk_some, List.cons_prefix_cons, List.nil_prefix, List.drop_succ_cons, List.drop_zero, List.all_cons, List.all_nil, Bool.and_true, true_and, and_true, ld, hP, c0, a1, l1, cz, hFi, s1, hC, hq2]
        exact e

theorem ref19_Fix_eq {d : Int} {t : List Int} {h : Heap} (ht : t.length = 32) : S_escheatref19_Fix [.a (encI (d :: t))] h = some (.a (encI (fixX d t)), h) := by
  have key : ∀ N, 32 < N → ∀ g, ∃ g', R_escheatref19_Fix N [.a (encI (d :: t))] g = some (.a (encI (fixX d t)), g') := by
    intro N hN g
    have hB := encX_length (d := d) ht
    have hz : (encI (0 :: zI 32)).length = 33 := encX_length (d := 0) zI_length
    have l0 : (encI (d :: t))[0]? = some (.i .i64 d) := rfl
    have haf : afill (encI (0 :: zI 32)) [] = some (encI (0 :: zI 32)) := rfl
    rw [R_escheatref19_Fix_eq, zI_enc]
    unfold fixX
    by_cases c1 : d < 0
    · rw [if_neg (by omega)]
      generalize encI (0 :: zI 32) = z at *
      generalize encI (d :: t) = y at *
      exact ⟨_, by simp only [afAddr_p, List.append_nil, if_true, if_false, bnd_some, mp_some, cnd_t, cnd_f, gd_no, gd_tt, gd_tf, gd_ft, gd_ff, alenS_s, alen_sl, alen_ns, abin_add, abin_sub, abin_mul, abin_eql, abin_neq, abin_lss, abin_leq, abin_gtr, abin_geq, abin_seql, abin_sneq, abin_slss, aun_not, aun_neg, agn_some, aeqN_nf, aeqN_f, aeqN_np, aeqN_p, anilc_p, aeqB_t, aeqB_f, aconv_i, apick_b, cond_true, cond_false, decide_true, decide_false, Bool.not_true, Bool.not_false, aext_t, ofPart_c, ofPart_a, part?_c, part?_a, cells?_c, cells?_a, tupN_2, tupN_3, Option.map_some, Option.some.injEq, List.getElem?_cons_zero, List.getElem?_cons_succ, not_true_eq_false, not_false_eq_true, quiet_same, bytesI_length, Option.join_some, List.append_assoc, List.cons_append, List.nil_append, List.length_append, List.length_cons, List.length_nil, Nat.zero_add, Nat.add_zero, rd_at, rd_at0, set_at, set_at0, List.set_cons_zero, List.set_cons_succ, ne_eq, decide_not, quiet_ext, newOk_some, List.cons_prefix_cons, List.nil_prefix, List.drop_succ_cons, List.drop_zero, List.all_cons, List.all_nil, Bool.and_true, true_and, and_true, aloadN_at, aloadN_at0, aload1_at, aload1_at0, astoreN_at, astoreN_at0, astore1_at, astore1_at0, aslA_at, aslA_at0, ldN_all, ld1_row, stN_all, st1_row, slr_all, Nat.reduceAdd, Nat.reduceMul, Nat.reduceLT, hB, hz, l0, c1, haf] <;> rfl⟩
    · by_cases c2 : 5 < d
      · rw [if_neg (by omega)]
        generalize encI (0 :: zI 32) = z at *
        generalize encI (d :: t) = y at *
        exact ⟨_, by simp only [afAddr_p, List.append_nil, if_true, if_false, bnd_some, mp_some, cnd_t, cnd_f, gd_no, gd_tt, gd_tf, gd_ft, gd_ff, alenS_s, alen_sl, alen_ns, abin_add, abin_sub, abin_mul, abin_eql, abin_neq, abin_lss, abin_leq, abin_gtr, abin_geq, abin_seql, abin_sneq, abin_slss, aun_not, aun_neg, agn_some, aeqN_nf, aeqN_f, aeqN_np, aeqN_p, anilc_p, aeqB_t, aeqB_f, aconv_i, apick_b, cond_true, cond_false, decide_true, decide_false, Bool.not_true, Bool.not_false, aext_t, ofPart_c, ofPart_a, part?_c, part?_a, cells?_c, cells?_a, tupN_2, tupN_3, Option.map_some, Option.some.injEq, List.getElem?_cons_zero, List.getElem?_cons_succ, not_true_eq_false, not_false_eq_true, quiet_same, bytesI_length, Option.join_some, List.append_assoc, List.cons_append, List.nil_append, List.length_append, List.length_cons, List.length_nil, Nat.zero_add, Nat.add_zero, rd_at, rd_at0, set_at, set_at0, List.set_cons_zero, List.set_cons_succ, ne_eq, decide_not, quiet_ext, newOk_some, List.cons_prefix_cons, List.nil_prefix, List.drop_succ_cons, List.drop_zero, List.all_cons, List.all_nil, Bool.and_true, true_and, and_true, aloadN_at, aloadN_at0, aload1_at, aload1_at0, astoreN_at, astoreN_at0, astore1_at, astore1_at0, aslA_at, aslA_at0, ldN_all, ld1_row, stN_all, st1_row, slr_all, Nat.reduceAdd, Nat.reduceMul, Nat.reduceLT, hB, hz, l0, c1, c2, haf] <;> rfl⟩
      · rw [if_pos (by omega)]
        have es : (encI (0 :: zI 32)).set 0 (.i .i64 d) = encI (d :: zI 32) := rfl
        have hz2 : (encI (d :: zI 32)).length = 33 := encX_length (d := d) zI_length
        have hlt : 0 < (encI (0 :: zI 32)).length := by rw [hz]; omega
        obtain ⟨h', e⟩ := rfix_loop (g := g) (d := d) (t := t) (q := N) ht (by omega) (by omega) hN (manyX d) 0 N (g ++ [some (Row.mk (encI (d :: t)) true), some (Row.mk (encI (0 :: zI 32)) true), some (Row.mk (encI (d :: zI 32)) true)]) (by omega) (by have := manyX_le d; omega)
          (by have := (Low.refl (h := g ++ [some (Row.mk (encI (d :: t)) true), some (Row.mk (encI (0 :: zI 32)) true)]) (Nat.le_refl _)).new [some (Row.mk (encI (d :: zI 32)) true)]
              simpa using this) (by rw [fixL_zero]; simp)
        refine ⟨h', ?_⟩
        generalize encI (d :: zI 32) = z2 at *
        generalize encI (0 :: zI 32) = z at *
        generalize encI (d :: t) = y at *
        simp only [afAddr_p, List.append_nil, if_true, if_false, bnd_some, mp_some, cnd_t, cnd_f, gd_no, gd_tt, gd_tf, gd_ft, gd_ff, alenS_s, alen_sl, alen_ns, abin_add, abin_sub, abin_mul, abin_eql, abin_neq, abin_lss, abin_leq, abin_gtr, abin_geq, abin_seql, abin_sneq, abin_slss, aun_not, aun_neg, agn_some, aeqN_nf, aeqN_f, aeqN_np, aeqN_p, anilc_p, aeqB_t, aeqB_f, aconv_i, apick_b, cond_true, cond_false, decide_true, decide_false, Bool.not_true, Bool.not_false, aext_t, ofPart_c, ofPart_a, part?_c, part?_a, cells?_c, cells?_a, tupN_2, tupN_3, Option.map_some, Option.some.injEq, List.getElem?_cons_zero, List.getElem?_cons_succ, not_true_eq_false, not_false_eq_true, quiet_same, bytesI_length, Option.join_some, List.append_assoc, List.cons_append, List.nil_append, List.length_append, List.length_cons, List.length_nil, Nat.zero_add, Nat.add_zero, rd_at, rd_at0, set_at, set_at0, List.set_cons_zero, List.set_cons_succ, ne_eq, decide_not, quiet_ext, newOk_some, List.cons_prefix_cons, List.nil_prefix, List.drop_succ_cons, List.drop_zero, List.all_cons, List.all_nil, Bool.and_true, true_and, and_true, aloadN_at, aloadN_at0, aload1_at, aload1_at0, astoreN_at, astoreN_at0, astore1_at, astore1_at0, aslA_at, aslA_at0, ldN_all, ld1_row, stN_all, st1_row, slr_all, Nat.reduceAdd, Nat.reduceMul, Nat.reduceLT, hB, hz, l0, c1, c2, haf, hlt, es, hz2]
        exact e
  obtain ⟨g', e⟩ := key (h.length + 33) (by omega) (ro h)
  exact S_escheatref19_Fix_flat e (by simp)

theorem ref19_Right_eq {d : Int} {t : List Int} {h : Heap} (ht : t.length = 32) : S_escheatref19_Right [.a (encI (d :: t))] h = some (.c (.b (rightX d t)), h) := by
  have key : ∀ g, ∃ g', R_escheatref19_Right 0 [.a (encI (d :: t))] g = some (.c (.b (rightX d t)), g') := by
    intro g
    have hB := encX_length (d := d) ht
    have l0 : (encI (d :: t))[0]? = some (.i .i64 d) := rfl
    have hF := fun h => ref19_Fix_eq (d := d) (t := t) (h := h) ht
    have hq2 := fun h => quiet_grows (Grows.rfl' (h := h)) (v := .a (encI (fixX d t)))
    have hE := aeqI_f (l := fixX d t) (m := d :: t) (n := 33) fixX_length (by simp [ht])
    rw [R_escheatref19_Right_eq, sh33]
    unfold rightX
    generalize decide (fixX d t = d :: t) = D at *
    generalize encI (fixX d t) = x at *
    generalize encI (d :: t) = y at *
    by_cases c1 : 0 ≤ d
    · rw [decide_eq_true c1]
      by_cases c2 : d ≤ 5
      · rw [decide_eq_true c2]
        exact ⟨_, by simp only [afAddr_p, List.append_nil, if_true, if_false, bnd_some, mp_some, cnd_t, cnd_f, gd_no, gd_tt, gd_tf, gd_ft, gd_ff, alenS_s, alen_sl, alen_ns, abin_add, abin_sub, abin_mul, abin_eql, abin_neq, abin_lss, abin_leq, abin_gtr, abin_geq, abin_seql, abin_sneq, abin_slss, aun_not, aun_neg, agn_some, aeqN_nf, aeqN_f, aeqN_np, aeqN_p, anilc_p, aeqB_t, aeqB_f, aconv_i, apick_b, cond_true, cond_false, decide_true, decide_false, Bool.not_true, Bool.not_false, aext_t, ofPart_c, ofPart_a, part?_c, part?_a, cells?_c, cells?_a, tupN_2, tupN_3, Option.map_some, Option.some.injEq, List.getElem?_cons_zero, List.getElem?_cons_succ, not_true_eq_false, not_false_eq_true, quiet_same, bytesI_length, Option.join_some, List.append_assoc, List.cons_append, List.nil_append, List.length_append, List.length_cons, List.length_nil, Nat.zero_add, Nat.add_zero, rd_at, rd_at0, set_at, set_at0, List.set_cons_zero, List.set_cons_succ, ne_eq, decide_not, quiet_ext, newOk_some, List.cons_prefix_cons, List.nil_prefix, List.drop_succ_cons, List.drop_zero, List.all_cons, List.all_nil, Bool.and_true, true_and, and_true, aloadN_at, aloadN_at0, aload1_at, aload1_at0, astoreN_at, astoreN_at0, astore1_at, astore1_at0, aslA_at, aslA_at0, ldN_all, ld1_row, stN_all, st1_row, slr_all, Nat.reduceAdd, Nat.reduceMul, Nat.reduceLT, hB, l0, c1, c2, hF, hq2, hE] <;> rfl⟩
      · rw [decide_eq_false c2]
        exact ⟨_, by simp only [afAddr_p, List.append_nil, if_true, if_false, bnd_some, mp_some, cnd_t, cnd_f, gd_no, gd_tt, gd_tf, gd_ft, gd_ff, alenS_s, alen_sl, alen_ns, abin_add, abin_sub, abin_mul, abin_eql, abin_neq, abin_lss, abin_leq, abin_gtr, abin_geq, abin_seql, abin_sneq, abin_slss, aun_not, aun_neg, agn_some, aeqN_nf, aeqN_f, aeqN_np, aeqN_p, anilc_p, aeqB_t, aeqB_f, aconv_i, apick_b, cond_true, cond_false, decide_true, decide_false, Bool.not_true, Bool.not_false, aext_t, ofPart_c, ofPart_a, part?_c, part?_a, cells?_c, cells?_a, tupN_2, tupN_3, Option.map_some, Option.some.injEq, List.getElem?_cons_zero, List.getElem?_cons_succ, not_true_eq_false, not_false_eq_true, quiet_same, bytesI_length, Option.join_some, List.append_assoc, List.cons_append, List.nil_append, List.length_append, List.length_cons, List.length_nil, Nat.zero_add, Nat.add_zero, rd_at, rd_at0, set_at, set_at0, List.set_cons_zero, List.set_cons_succ, ne_eq, decide_not, quiet_ext, newOk_some, List.cons_prefix_cons, List.nil_prefix, List.drop_succ_cons, List.drop_zero, List.all_cons, List.all_nil, Bool.and_true, true_and, and_true, aloadN_at, aloadN_at0, aload1_at, aload1_at0, astoreN_at, astoreN_at0, astore1_at, astore1_at0, aslA_at, aslA_at0, ldN_all, ld1_row, stN_all, st1_row, slr_all, Nat.reduceAdd, Nat.reduceMul, Nat.reduceLT, hB, l0, c1, c2] <;> rfl⟩
    · rw [decide_eq_false c1]
      exact ⟨_, by simp only [afAddr_p, List.append_nil, if_true, if_false, bnd_some, mp_some, cnd_t, cnd_f, gd_no, gd_tt, gd_tf, gd_ft, gd_ff, alenS_s, alen_sl, alen_ns, abin_add, abin_sub, abin_mul, abin_eql, abin_neq, abin_lss, abin_leq, abin_gtr, abin_geq, abin_seql, abin_sneq, abin_slss, aun_not, aun_neg, agn_some, aeqN_nf, aeqN_f, aeqN_np, aeqN_p, anilc_p, aeqB_t, aeqB_f, aconv_i, apick_b, cond_true, cond_false, decide_true, decide_false, Bool.not_true, Bool.not_false, aext_t, ofPart_c, ofPart_a, part?_c, part?_a, cells?_c, cells?_a, tupN_2, tupN_3, Option.map_some, Option.some.injEq, List.getElem?_cons_zero, List.getElem?_cons_succ, not_true_eq_false, not_false_eq_true, quiet_same, bytesI_length, Option.join_some, List.append_assoc, List.cons_append, List.nil_append, List.length_append, List.length_cons, List.length_nil, Nat.zero_add, Nat.add_zero, rd_at, rd_at0, set_at, set_at0, List.set_cons_zero, List.set_cons_succ, ne_eq, decide_not, quiet_ext, newOk_some, List.cons_prefix_cons, List.nil_prefix, List.drop_succ_cons, List.drop_zero, List.all_cons, List.all_nil, Bool.and_true, true_and, and_true, aloadN_at, aloadN_at0, aload1_at, aload1_at0, astoreN_at, astoreN_at0, astore1_at, astore1_at0, aslA_at, aslA_at0, ldN_all, ld1_row, stN_all, st1_row, slr_all, Nat.reduceAdd, Nat.reduceMul, Nat.reduceLT, hB, l0, c1] <;> rfl⟩
  obtain ⟨g', e⟩ := key (ro h)
  exact S_escheatref19_Right_flat e rfl

end Go.Proofs.Ytbbkpmbepljhkaa
