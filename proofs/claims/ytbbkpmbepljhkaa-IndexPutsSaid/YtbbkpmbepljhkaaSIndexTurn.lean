/- An index is set and doubled; its buckets; where a hash belongs. -/
import Derived.Test.YtbbkpmbepljhkaaSIndexFix
set_option linter.all false
namespace Go.Proofs.Ytbbkpmbepljhkaa
open Go Go.Esc

def setX (t : List Int) (l : List Nat) (v : Int) : List Int := l.foldl (fun t k => t.set k v) t
theorem setX_length (l : List Nat) (v : Int) : ∀ t : List Int, (setX t l v).length = t.length := by
  induction l with
  | nil => intro t; rfl
  | cons k l ih => intro t; unfold setX; rw [List.foldl_cons]; have := ih (t.set k v); unfold setX at this; rw [this]; simp
theorem setX_snoc (t : List Int) (l : List Nat) (k : Nat) (v : Int) : setX t (l ++ [k]) v = (setX t l v).set k v := by simp [setX]

theorem set_loop {d v : Int} {t : List Int} {g : Heap} {l : List Nat} {q : Nat} (ht : t.length = 32) (hl : ∀ k ∈ l, k < 32) (hll : l.length < 9223372036854775807) : ∀ e i m : Nat, i + e = l.length → e < m →
    ∃ h', index_Set_l0 q m (.c (.i .i64 v)) (.c (.p g.length 0)) (.c (.p (g.length + 1) 0)) (.c (.sl (g.length + 2) 0 l.length 1)) (.c (.i .i64 (l.length : Nat))) (.c (.i .i64 (i : Int))) (g ++ [some (Row.mk (encI (d :: setX t (l.take i) v)) true), some (Row.mk (encI (0 :: zI 32)) true), some (Row.mk (encI (encN l)) true)]) =
      some (.a (encI (d :: setX t l v)), h')
  | e, i, 0, _, hm => by omega
  | 0, i, m + 1, hi, hm => by
    have c0 : ¬ (i : Int) < (l.length : Nat) := by omega
    have hA := encX_length (d := d) (t := setX t l v) (by rw [setX_length]; exact ht)
    have hz : (encI (0 :: zI 32)).length = 33 := encX_length (d := 0) zI_length
    rw [index_Set_l0_eq, List.take_of_length_le (by omega)]
    generalize encI (0 :: zI 32) = z at *
    generalize encI (d :: setX t l v) = y at *
    exact ⟨_, by simp only [afAddr_p, List.append_nil, if_true, if_false, bnd_some, mp_some, cnd_t, cnd_f, gd_no, gd_tt, gd_tf, gd_ft, gd_ff, alenS_s, alen_sl, alen_ns, abin_add, abin_sub, abin_mul, abin_eql, abin_neq, abin_lss, abin_leq, abin_gtr, abin_geq, abin_seql, abin_sneq, abin_slss, aun_not, aun_neg, agn_some, aeqN_nf, aeqN_f, aeqN_np, aeqN_p, anilc_p, aeqB_t, aeqB_f, aconv_i, apick_b, cond_true, cond_false, decide_true, decide_false, Bool.not_true, Bool.not_false, aext_t, ofPart_c, ofPart_a, part?_c, part?_a, cells?_c, cells?_a, tupN_2, tupN_3, Option.map_some, Option.some.injEq, List.getElem?_cons_zero, List.getElem?_cons_succ, not_true_eq_false, not_false_eq_true, quiet_same, bytesI_length, Option.join_some, List.append_assoc, List.cons_append, List.nil_append, List.length_append, List.length_cons, List.length_nil, Nat.zero_add, Nat.add_zero, rd_at, rd_at0, set_at, set_at0, List.set_cons_zero, List.set_cons_succ, ne_eq, decide_not, quiet_ext, newOk_some, List.cons_prefix_cons, List.nil_prefix, List.drop_succ_cons, List.drop_zero, List.all_cons, List.all_nil, Bool.and_true, true_and, and_true, aloadN_at, aloadN_at0, aload1_at, aload1_at0, astoreN_at, astoreN_at0, astore1_at, astore1_at0, aslA_at, aslA_at0, ldN_all, ld1_row, stN_all, st1_row, slr_all, Nat.reduceAdd, Nat.reduceMul, Nat.reduceLT, c0, hA, hz] <;> rfl⟩
  | e + 1, i, m + 1, hi, hm => by
    obtain ⟨h', ih⟩ := set_loop (d := d) (v := v) (t := t) (g := g) (q := q) ht hl hll e (i + 1) m (by omega) (by omega)
    have c0 : (i : Int) < (l.length : Nat) := by omega
    have hk := hl l[i] (List.getElem_mem (by omega))
    have hA := encX_length (d := d) (t := setX t (l.take i) v) (by rw [setX_length]; exact ht)
    have eb : aiAddrL 1 (.c (.sl (g.length + 2) 0 l.length 1)) (.c (.i .i64 (i : Int))) = some (.c (.p (g.length + 2) i)) := by rw [iAddrL_of (by omega)]; simp
    have hx := encI_encN_get (l := l) (i := i) (by omega)
    have a1 := adX (id := g.length) (i := l[i]) hk
    have hs : (encI (d :: setX t (l.take i) v)).set (1 + l[i]) (.i .i64 v) = encI (d :: setX t (l.take (i + 1)) v) := by
      rw [encX_set, ← setX_snoc, ← List.take_succ_eq_append_getElem (by omega)]
    have hlt : 1 + l[i] < (encI (d :: setX t (l.take i) v)).length := by rw [hA]; omega
    rw [index_Set_l0_eq]
    generalize encI (d :: setX t (l.take (i + 1)) v) = y1 at *
    generalize encI (d :: setX t (l.take i) v) = y at *
    generalize encI (0 :: zI 32) = z at *
    generalize encI (encN l) = w at *
    refine ⟨h', ?_⟩
    simp only [afAddr_p, List.append_nil, if_true, if_false, bnd_some, mp_some, cnd_t, cnd_f, gd_no, gd_tt, gd_tf, gd_ft, gd_ff, alenS_s, alen_sl, alen_ns, abin_add, abin_sub, abin_mul, abin_eql, abin_neq, abin_lss, abin_leq, abin_gtr, abin_geq, abin_seql, abin_sneq, abin_slss, aun_not, aun_neg, agn_some, aeqN_nf, aeqN_f, aeqN_np, aeqN_p, anilc_p, aeqB_t, aeqB_f, aconv_i, apick_b, cond_true, cond_false, decide_true, decide_false, Bool.not_true, Bool.not_false, aext_t, ofPart_c, ofPart_a, part?_c, part?_a, cells?_c, cells?_a, tupN_2, tupN_3, Option.map_some, Option.some.injEq, List.getElem?_cons_zero, List.getElem?_cons_succ, not_true_eq_false, not_false_eq_true, quiet_same, bytesI_length, Option.join_some, List.append_assoc, List.cons_append, List.nil_append, List.length_append, List.length_cons, List.length_nil, Nat.zero_add, Nat.add_zero, rd_at, rd_at0, set_at, set_at0, List.set_cons_zero, List.set_cons_succ, ne_eq, decide_not, quiet_ext, newOk_some, List.cons_prefix_cons, List.nil_prefix, List.drop_succ_cons, List.drop_zero, List.all_cons, List.all_nil, Bool.and_true, true_and, and_true, aloadN_at, aloadN_at0, aload1_at, aload1_at0, astoreN_at, astoreN_at0, astore1_at, astore1_at0, aslA_at, aslA_at0, ldN_all, ld1_row, stN_all, st1_row, slr_all, Nat.reduceAdd, Nat.reduceMul, Nat.reduceLT, c0, eb, hx, a1, hlt, hs, wi_succ (show i + 1 < 9223372036854775808 by omega)]
    exact ih

theorem index_Set_eq {d p b v : Int} {t : List Int} {h : Heap} (ht : t.length = 32) : S_index_Set [.a (encI (d :: t)), .c (.i .i64 p), .c (.i .i64 b), .c (.i .i64 v)] h = some (.a (encI (d :: setX t (plX d p b) v)), h) := by
  have key : ∀ N, 32 < N → ∀ g, ∃ g', R_index_Set N [.a (encI (d :: t)), .c (.i .i64 p), .c (.i .i64 b), .c (.i .i64 v)] g = some (.a (encI (d :: setX t (plX d p b) v)), g') := by
    intro N hN g
    have hB := encX_length (d := d) ht
    have hP := index_Places_eq (d := d) (t := t) (p := p) (b := b) (h := g ++ [some (Row.mk (encI (d :: t)) true), some (Row.mk (encI (0 :: zI 32)) true)]) ht
    simp only [List.length_append, List.length_cons, List.length_nil, Nat.zero_add, List.append_assoc, List.cons_append, List.nil_append] at hP
    have hll := plX_length d p b
    obtain ⟨h', e⟩ := set_loop (d := d) (v := v) (t := t) (g := g) (q := N) ht (plX_lt d p b) (by omega) (plX d p b).length 0 N (by omega) (by omega)
    rw [List.take_zero, show setX t [] v = t from rfl] at e
    rw [R_index_Set_eq, zI_enc]
    generalize plX d p b = L at *
    generalize encI (0 :: zI 32) = z at *
    generalize encI (encN L) = w at *
    generalize encI (d :: t) = y at *
    exact ⟨h', by simp only [afAddr_p, List.append_nil, if_true, if_false, bnd_some, mp_some, cnd_t, cnd_f, gd_no, gd_tt, gd_tf, gd_ft, gd_ff, alenS_s, alen_sl, alen_ns, abin_add, abin_sub, abin_mul, abin_eql, abin_neq, abin_lss, abin_leq, abin_gtr, abin_geq, abin_seql, abin_sneq, abin_slss, aun_not, aun_neg, agn_some, aeqN_nf, aeqN_f, aeqN_np, aeqN_p, anilc_p, aeqB_t, aeqB_f, aconv_i, apick_b, cond_true, cond_false, decide_true, decide_false, Bool.not_true, Bool.not_false, aext_t, ofPart_c, ofPart_a, part?_c, part?_a, cells?_c, cells?_a, tupN_2, tupN_3, Option.map_some, Option.some.injEq, List.getElem?_cons_zero, List.getElem?_cons_succ, not_true_eq_false, not_false_eq_true, quiet_same, bytesI_length, Option.join_some, List.append_assoc, List.cons_append, List.nil_append, List.length_append, List.length_cons, List.length_nil, Nat.zero_add, Nat.add_zero, rd_at, rd_at0, set_at, set_at0, List.set_cons_zero, List.set_cons_succ, ne_eq, decide_not, quiet_ext, newOk_some, List.cons_prefix_cons, List.nil_prefix, List.drop_succ_cons, List.drop_zero, List.all_cons, List.all_nil, Bool.and_true, true_and, and_true, aloadN_at, aloadN_at0, aload1_at, aload1_at0, astoreN_at, astoreN_at0, astore1_at, astore1_at0, aslA_at, aslA_at0, ldN_all, ld1_row, stN_all, st1_row, slr_all, Nat.reduceAdd, Nat.reduceMul, Nat.reduceLT, hB, hP]; exact e⟩
  obtain ⟨g', e⟩ := key (h.length + 33) (by omega) (ro h)
  exact S_index_Set_flat e (by simp)

/-! ### Doubled -/

def dblL (t : List Int) (n k : Nat) : List Int := t.take n ++ (t.take k ++ t.drop (n + k))
theorem dblL_zero {t : List Int} {n : Nat} : dblL t n 0 = t := by simp [dblL]
theorem dblL_length {t : List Int} {n k : Nat} (ht : t.length = 32) (hk : k ≤ n) (hn : n + k ≤ 32) : (dblL t n k).length = 32 := by simp [dblL]; omega
theorem dblL_succ {t : List Int} {n k : Nat} (ht : t.length = 32) (hk : k < n) (hn : n + k < 32) : (dblL t n k).set (n + k) (toX t k) = dblL t n (k + 1) := by
  unfold dblL
  have h1 : (t.take n).length = n := by simp; omega
  have h2 : (t.take k).length = k := by simp; omega
  rw [List.set_append_right _ _ (by omega), h1, List.set_append_right _ _ (by omega), h2, List.drop_eq_getElem_cons (by omega : n + k < t.length), List.take_succ_eq_append_getElem (by omega : k < t.length)]
  have e : toX t k = t[k] := by unfold toX; rw [List.getD_eq_getElem?_getD, List.getElem?_eq_getElem (by omega)]; rfl
  rw [show n + k - n - k = 0 by omega, List.set_cons_zero, e, List.append_assoc]
  rfl
theorem dblL_get {t : List Int} {n k : Nat} (ht : t.length = 32) (hk : k < n) (hn : n ≤ 32) : toX (dblL t n k) k = toX t k := by
  unfold toX dblL
  rw [List.getD_eq_getElem?_getD, List.getD_eq_getElem?_getD, List.getElem?_append_left (by simp; omega), List.getElem?_take_of_lt hk]

theorem dbl_loop {d1 : Int} {t : List Int} {g : Heap} {n q : Nat} (ht : t.length = 32) (hn : n ≤ 16) : ∀ e k m : Nat, k + e = n → e < m →
    ∃ h', index_Double_l0 q m (.c (.p g.length 0)) (.c (.p (g.length + 1) 0)) (.c (.i .i64 (n : Int))) (.c (.i .i64 (n : Int))) (.c (.i .i64 (k : Int))) (g ++ [some (Row.mk (encI (d1 :: dblL t n k)) true), some (Row.mk (encI (0 :: zI 32)) true)]) =
      some (.t [.a (encI (d1 :: dblL t n n)), .c (.i .i64 0)], h')
  | e, k, 0, _, hm => by omega
  | 0, k, m + 1, hk, hm => by
    have e0 : k = n := by omega
    subst e0
    have c0 : ¬ (k : Int) < k := by omega
    have hA := encX_length (d := d1) (t := dblL t k k) (dblL_length ht (Nat.le_refl _) (by omega))
    have hz : (encI (0 :: zI 32)).length = 33 := encX_length (d := 0) zI_length
    rw [index_Double_l0_eq]
    generalize encI (0 :: zI 32) = z at *
    generalize encI (d1 :: dblL t k k) = y at *
    exact ⟨_, by simp only [afAddr_p, List.append_nil, if_true, if_false, bnd_some, mp_some, cnd_t, cnd_f, gd_no, gd_tt, gd_tf, gd_ft, gd_ff, alenS_s, alen_sl, alen_ns, abin_add, abin_sub, abin_mul, abin_eql, abin_neq, abin_lss, abin_leq, abin_gtr, abin_geq, abin_seql, abin_sneq, abin_slss, aun_not, aun_neg, agn_some, aeqN_nf, aeqN_f, aeqN_np, aeqN_p, anilc_p, aeqB_t, aeqB_f, aconv_i, apick_b, cond_true, cond_false, decide_true, decide_false, Bool.not_true, Bool.not_false, aext_t, ofPart_c, ofPart_a, part?_c, part?_a, cells?_c, cells?_a, tupN_2, tupN_3, Option.map_some, Option.some.injEq, List.getElem?_cons_zero, List.getElem?_cons_succ, not_true_eq_false, not_false_eq_true, quiet_same, bytesI_length, Option.join_some, List.append_assoc, List.cons_append, List.nil_append, List.length_append, List.length_cons, List.length_nil, Nat.zero_add, Nat.add_zero, rd_at, rd_at0, set_at, set_at0, List.set_cons_zero, List.set_cons_succ, ne_eq, decide_not, quiet_ext, newOk_some, List.cons_prefix_cons, List.nil_prefix, List.drop_succ_cons, List.drop_zero, List.all_cons, List.all_nil, Bool.and_true, true_and, and_true, aloadN_at, aloadN_at0, aload1_at, aload1_at0, astoreN_at, astoreN_at0, astore1_at, astore1_at0, aslA_at, aslA_at0, ldN_all, ld1_row, stN_all, st1_row, slr_all, Nat.reduceAdd, Nat.reduceMul, Nat.reduceLT, c0, hA, hz] <;> rfl⟩
  | e + 1, k, m + 1, hk, hm => by
    obtain ⟨h', ih⟩ := dbl_loop (d1 := d1) (t := t) (g := g) (q := q) ht hn e (k + 1) m (by omega) (by omega)
    have c0 : (k : Int) < n := by omega
    have hdl := dblL_length (t := t) (n := n) (k := k) ht (by omega) (by omega)
    have hA := encX_length (d := d1) hdl
    have a1 := adX (id := g.length) (i := k) (by omega)
    have a2 := adX (id := g.length) (i := n + k) (by omega)
    have x1 := encX_get (d := d1) (i := k) hdl (by omega)
    rw [dblL_get ht (by omega) (by omega)] at x1
    have hs : (encI (d1 :: dblL t n k)).set (1 + (n + k)) (.i .i64 (toX t k)) = encI (d1 :: dblL t n (k + 1)) := by
      rw [encX_set, dblL_succ ht (by omega) (by omega)]
    have hlt : 1 + (n + k) < (encI (d1 :: dblL t n k)).length := by rw [hA]; omega
    rw [index_Double_l0_eq]
    generalize encI (d1 :: dblL t n (k + 1)) = y1 at *
    generalize encI (d1 :: dblL t n k) = y at *
    generalize encI (0 :: zI 32) = z at *
    refine ⟨h', ?_⟩
    simp only [afAddr_p, List.append_nil, if_true, if_false, bnd_some, mp_some, cnd_t, cnd_f, gd_no, gd_tt, gd_tf, gd_ft, gd_ff, alenS_s, alen_sl, alen_ns, abin_add, abin_sub, abin_mul, abin_eql, abin_neq, abin_lss, abin_leq, abin_gtr, abin_geq, abin_seql, abin_sneq, abin_slss, aun_not, aun_neg, agn_some, aeqN_nf, aeqN_f, aeqN_np, aeqN_p, anilc_p, aeqB_t, aeqB_f, aconv_i, apick_b, cond_true, cond_false, decide_true, decide_false, Bool.not_true, Bool.not_false, aext_t, ofPart_c, ofPart_a, part?_c, part?_a, cells?_c, cells?_a, tupN_2, tupN_3, Option.map_some, Option.some.injEq, List.getElem?_cons_zero, List.getElem?_cons_succ, not_true_eq_false, not_false_eq_true, quiet_same, bytesI_length, Option.join_some, List.append_assoc, List.cons_append, List.nil_append, List.length_append, List.length_cons, List.length_nil, Nat.zero_add, Nat.add_zero, rd_at, rd_at0, set_at, set_at0, List.set_cons_zero, List.set_cons_succ, ne_eq, decide_not, quiet_ext, newOk_some, List.cons_prefix_cons, List.nil_prefix, List.drop_succ_cons, List.drop_zero, List.all_cons, List.all_nil, Bool.and_true, true_and, and_true, aloadN_at, aloadN_at0, aload1_at, aload1_at0, astoreN_at, astoreN_at0, astore1_at, astore1_at0, aslA_at, aslA_at0, ldN_all, ld1_row, stN_all, st1_row, slr_all, Nat.reduceAdd, Nat.reduceMul, Nat.reduceLT, c0, wi_add (show n + k < 9223372036854775808 by omega), a1, a2, x1, hlt, hs, wi_succ (show k + 1 < 9223372036854775808 by omega)]
    exact ih

def dblOk (d : Int) : Bool := decide (0 ≤ d) && decide (d < 5)
def dblX (d : Int) (t : List Int) : List Int := bif dblOk d then (d + 1) :: dblL t (manyX d) (manyX d) else d :: t

theorem manyX_le16 {d : Int} (h : d < 5) : manyX d ≤ 16 := by
  have h1 : depX d ≤ 4 := by unfold depX; omega
  have := Nat.pow_le_pow_right (n := 2) (by omega) h1
  unfold manyX
  simpa using this

theorem index_Double_eq {d : Int} {t : List Int} {h : Heap} (ht : t.length = 32) : S_index_Double [.a (encI (d :: t))] h = some (.t [.a (encI (dblX d t)), .c (.i .i64 (bif dblOk d then 0 else 11))], h) := by
  have key : ∀ N, 32 < N → ∀ g, ∃ g', R_index_Double N [.a (encI (d :: t))] g = some (.t [.a (encI (dblX d t)), .c (.i .i64 (bif dblOk d then 0 else 11))], g') := by
    intro N hN g
    have hB := encX_length (d := d) ht
    have hz : (encI (0 :: zI 32)).length = 33 := encX_length (d := 0) zI_length
    have hM := fun h => index_many_eq (d := d) (h := h) ht
    have l0 : (encI (d :: t))[0]? = some (.i .i64 d) := rfl
    rw [R_index_Double_eq, zI_enc]
    unfold dblX dblOk
    by_cases c1 : d < 0
    · rw [decide_eq_false (show ¬ 0 ≤ d by omega), Bool.false_and, cond_false, cond_false]
      generalize encI (0 :: zI 32) = z at *
      generalize encI (d :: t) = y at *
      exact ⟨_, by simp only [afAddr_p, List.append_nil, if_true, if_false, bnd_some, mp_some, cnd_t, cnd_f, gd_no, gd_tt, gd_tf, gd_ft, gd_ff, alenS_s, alen_sl, alen_ns, abin_add, abin_sub, abin_mul, abin_eql, abin_neq, abin_lss, abin_leq, abin_gtr, abin_geq, abin_seql, abin_sneq, abin_slss, aun_not, aun_neg, agn_some, aeqN_nf, aeqN_f, aeqN_np, aeqN_p, anilc_p, aeqB_t, aeqB_f, aconv_i, apick_b, cond_true, cond_false, decide_true, decide_false, Bool.not_true, Bool.not_false, aext_t, ofPart_c, ofPart_a, part?_c, part?_a, cells?_c, cells?_a, tupN_2, tupN_3, Option.map_some, Option.some.injEq, List.getElem?_cons_zero, List.getElem?_cons_succ, not_true_eq_false, not_false_eq_true, quiet_same, bytesI_length, Option.join_some, List.append_assoc, List.cons_append, List.nil_append, List.length_append, List.length_cons, List.length_nil, Nat.zero_add, Nat.add_zero, rd_at, rd_at0, set_at, set_at0, List.set_cons_zero, List.set_cons_succ, ne_eq, decide_not, quiet_ext, newOk_some, List.cons_prefix_cons, List.nil_prefix, List.drop_succ_cons, List.drop_zero, List.all_cons, List.all_nil, Bool.and_true, true_and, and_true, aloadN_at, aloadN_at0, aload1_at, aload1_at0, astoreN_at, astoreN_at0, astore1_at, astore1_at0, aslA_at, aslA_at0, ldN_all, ld1_row, stN_all, st1_row, slr_all, Nat.reduceAdd, Nat.reduceMul, Nat.reduceLT, hB, hz, l0, c1] <;> rfl⟩
    · rw [decide_eq_true (show 0 ≤ d by omega), Bool.true_and]
      by_cases c2 : 5 ≤ d
      · rw [decide_eq_false (show ¬ d < 5 by omega), cond_false, cond_false]
        generalize encI (0 :: zI 32) = z at *
        generalize encI (d :: t) = y at *
        exact ⟨_, by simp only [afAddr_p, List.append_nil, if_true, if_false, bnd_some, mp_some, cnd_t, cnd_f, gd_no, gd_tt, gd_tf, gd_ft, gd_ff, alenS_s, alen_sl, alen_ns, abin_add, abin_sub, abin_mul, abin_eql, abin_neq, abin_lss, abin_leq, abin_gtr, abin_geq, abin_seql, abin_sneq, abin_slss, aun_not, aun_neg, agn_some, aeqN_nf, aeqN_f, aeqN_np, aeqN_p, anilc_p, aeqB_t, aeqB_f, aconv_i, apick_b, cond_true, cond_false, decide_true, decide_false, Bool.not_true, Bool.not_false, aext_t, ofPart_c, ofPart_a, part?_c, part?_a, cells?_c, cells?_a, tupN_2, tupN_3, Option.map_some, Option.some.injEq, List.getElem?_cons_zero, List.getElem?_cons_succ, not_true_eq_false, not_false_eq_true, quiet_same, bytesI_length, Option.join_some, List.append_assoc, List.cons_append, List.nil_append, List.length_append, List.length_cons, List.length_nil, Nat.zero_add, Nat.add_zero, rd_at, rd_at0, set_at, set_at0, List.set_cons_zero, List.set_cons_succ, ne_eq, decide_not, quiet_ext, newOk_some, List.cons_prefix_cons, List.nil_prefix, List.drop_succ_cons, List.drop_zero, List.all_cons, List.all_nil, Bool.and_true, true_and, and_true, aloadN_at, aloadN_at0, aload1_at, aload1_at0, astoreN_at, astoreN_at0, astore1_at, astore1_at0, aslA_at, aslA_at0, ldN_all, ld1_row, stN_all, st1_row, slr_all, Nat.reduceAdd, Nat.reduceMul, Nat.reduceLT, hB, hz, l0, c1, c2] <;> rfl⟩
      · rw [decide_eq_true (show d < 5 by omega), cond_true, cond_true]
        have hm16 := manyX_le16 (d := d) (by omega)
        have w1 : IntKind.wrap .i64 (d + 1) = d + 1 := wrap_i64 (by omega) (by omega)
        have hs : (encI (d :: t)).set 0 (.i .i64 (d + 1)) = encI ((d + 1) :: t) := rfl
        have hlt : 0 < (encI (d :: t)).length := by rw [hB]; omega
        obtain ⟨h', e⟩ := dbl_loop (d1 := d + 1) (t := t) (g := g) (q := N) ht hm16 (manyX d) 0 N (by omega) (by omega)
        rw [dblL_zero] at e
        refine ⟨h', ?_⟩
        generalize encI (0 :: zI 32) = z at *
        generalize encI ((d + 1) :: t) = y1 at *
        generalize encI (d :: t) = y at *
        simp only [afAddr_p, List.append_nil, if_true, if_false, bnd_some, mp_some, cnd_t, cnd_f, gd_no, gd_tt, gd_tf, gd_ft, gd_ff, alenS_s, alen_sl, alen_ns, abin_add, abin_sub, abin_mul, abin_eql, abin_neq, abin_lss, abin_leq, abin_gtr, abin_geq, abin_seql, abin_sneq, abin_slss, aun_not, aun_neg, agn_some, aeqN_nf, aeqN_f, aeqN_np, aeqN_p, anilc_p, aeqB_t, aeqB_f, aconv_i, apick_b, cond_true, cond_false, decide_true, decide_false, Bool.not_true, Bool.not_false, aext_t, ofPart_c, ofPart_a, part?_c, part?_a, cells?_c, cells?_a, tupN_2, tupN_3, Option.map_some, Option.some.injEq, List.getElem?_cons_zero, List.getElem?_cons_succ, not_true_eq_false, not_false_eq_true, quiet_same, bytesI_length, Option.join_some, List.append_assoc, List.cons_append, List.nil_append, List.length_append, List.length_cons, List.length_nil, Nat.zero_add, Nat.add_zero, rd_at, rd_at0, set_at, set_at0, List.set_cons_zero, List.set_cons_succ, ne_eq, decide_not, quiet_ext, newOk_some, List.cons_prefix_cons, List.nil_prefix, List.drop_succ_cons, List.drop_zero, List.all_cons, List.all_nil, Bool.and_true, true_and, and_true, aloadN_at, aloadN_at0, aload1_at, aload1_at0, astoreN_at, astoreN_at0, astore1_at, astore1_at0, aslA_at, aslA_at0, ldN_all, ld1_row, stN_all, st1_row, slr_all, Nat.reduceAdd, Nat.reduceMul, Nat.reduceLT, hB, hz, l0, c1, c2, hM, w1, hlt, hs]
        exact e
  obtain ⟨g', e⟩ := key (h.length + 33) (by omega) (ro h)
  refine S_index_Double_flat e ?_
  cases dblOk d <;> simp

end Go.Proofs.Ytbbkpmbepljhkaa
