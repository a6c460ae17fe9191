/- An index's depth, its places, its classes. -/
import Derived.Test.YtbbkpmbepljhkaaEscU
import Derived.Test.YtbbkpmbepljhkaaGMix
import Derived.Test.YtbbkpmbepljhkaaGIndex
set_option linter.all false
namespace Go.Proofs.Ytbbkpmbepljhkaa
open Go Go.Esc

def depX (d : Int) : Nat := (max 0 (min d 5)).toNat
theorem depX_le (d : Int) : depX d ≤ 5 := by unfold depX; omega
theorem depX_of {d : Int} (h0 : 0 ≤ d) (h5 : d ≤ 5) : ((depX d : Nat) : Int) = d := by unfold depX; omega
theorem depX_max (d : Int) : (max 0 (min d 5)) = ((depX d : Nat) : Int) := by unfold depX; omega
def manyX (d : Int) : Nat := 2 ^ depX d
theorem pow_le32 {n : Nat} (h : n ≤ 5) : 2 ^ n ≤ 32 := by
  have := Nat.pow_le_pow_right (n := 2) (by omega) h
  simpa using this
theorem manyX_le (d : Int) : manyX d ≤ 32 := pow_le32 (depX_le d)
theorem manyX_pos (d : Int) : 0 < manyX d := Nat.pow_pos (by omega)
def zI (n : Nat) : List Int := List.replicate n 0
theorem zI_length {n : Nat} : (zI n).length = n := by simp [zI]
theorem zI_enc : [Cell.i .i64 0] ++ List.replicate 32 (Cell.i .i64 0) = encI (0 :: zI 32) := by
  simp [encI, zI]
def toX (t : List Int) (i : Nat) : Int := t.getD i 0
theorem toX_get {t : List Int} {i : Nat} (h : i < t.length) : t[i]? = some (toX t i) := by
  unfold toX; rw [List.getD_eq_getElem?_getD, List.getElem?_eq_getElem h]; rfl

def finI (n : Int) : Bool := decide (0 ≤ n) && decide (n ≤ 65535)
theorem index_fine_eq {n : Int} {h : Heap} : S_index_fine [.c (.i .i64 n)] h = some (.c (.b (finI n)), h) := by
  refine S_index_fine_flat (n := 0) (h2 := ro h) ?_ rfl
  rw [R_index_fine_eq]
  unfold finI
  by_cases c : 0 ≤ n
  · simp only [afAddr_p, List.append_nil, if_true, if_false, bnd_some, mp_some, cnd_t, cnd_f, gd_no, gd_tt, gd_tf, gd_ft, gd_ff, alenS_s, alen_sl, alen_ns, abin_add, abin_sub, abin_mul, abin_eql, abin_neq, abin_lss, abin_leq, abin_gtr, abin_geq, abin_seql, abin_sneq, abin_slss, aun_not, aun_neg, agn_some, aeqN_nf, aeqN_f, aeqN_np, aeqN_p, anilc_p, aeqB_t, aeqB_f, aconv_i, apick_b, cond_true, cond_false, decide_true, decide_false, Bool.not_true, Bool.not_false, aext_t, ofPart_c, ofPart_a, part?_c, part?_a, cells?_c, cells?_a, tupN_2, tupN_3, Option.map_some, Option.some.injEq, List.getElem?_cons_zero, List.getElem?_cons_succ, not_true_eq_false, not_false_eq_true, quiet_same, bytesI_length, Option.join_some, List.append_assoc, List.cons_append, List.nil_append, List.length_append, List.length_cons, List.length_nil, Nat.zero_add, Nat.add_zero, rd_at, rd_at0, set_at, set_at0, List.set_cons_zero, List.set_cons_succ, ne_eq, decide_not, quiet_ext, newOk_some, List.cons_prefix_cons, List.nil_prefix, List.drop_succ_cons, List.drop_zero, List.all_cons, List.all_nil, Bool.and_true, true_and, and_true, c, Bool.true_and]
  · simp only [afAddr_p, List.append_nil, if_true, if_false, bnd_some, mp_some, cnd_t, cnd_f, gd_no, gd_tt, gd_tf, gd_ft, gd_ff, alenS_s, alen_sl, alen_ns, abin_add, abin_sub, abin_mul, abin_eql, abin_neq, abin_lss, abin_leq, abin_gtr, abin_geq, abin_seql, abin_sneq, abin_slss, aun_not, aun_neg, agn_some, aeqN_nf, aeqN_f, aeqN_np, aeqN_p, anilc_p, aeqB_t, aeqB_f, aconv_i, apick_b, cond_true, cond_false, decide_true, decide_false, Bool.not_true, Bool.not_false, aext_t, ofPart_c, ofPart_a, part?_c, part?_a, cells?_c, cells?_a, tupN_2, tupN_3, Option.map_some, Option.some.injEq, List.getElem?_cons_zero, List.getElem?_cons_succ, not_true_eq_false, not_false_eq_true, quiet_same, bytesI_length, Option.join_some, List.append_assoc, List.cons_append, List.nil_append, List.length_append, List.length_cons, List.length_nil, Nat.zero_add, Nat.add_zero, rd_at, rd_at0, set_at, set_at0, List.set_cons_zero, List.set_cons_succ, ne_eq, decide_not, quiet_ext, newOk_some, List.cons_prefix_cons, List.nil_prefix, List.drop_succ_cons, List.drop_zero, List.all_cons, List.all_nil, Bool.and_true, true_and, and_true, c, Bool.false_and]

theorem encX_length {d : Int} {t : List Int} (ht : t.length = 32) : (encI (d :: t)).length = 33 := by rw [encI_length]; simp [ht]
theorem encX_get {d : Int} {t : List Int} {i : Nat} (ht : t.length = 32) (hi : i < 32) : (encI (d :: t))[1 + i]? = some (.i .i64 (toX t i)) := by
  rw [encI_get, Nat.add_comm 1 i, List.getElem?_cons_succ, toX_get (by omega)]; rfl
theorem encX_set {d : Int} {t : List Int} {i : Nat} {v : Int} : (encI (d :: t)).set (1 + i) (.i .i64 v) = encI (d :: t.set i v) := by
  rw [encI_set, Nat.add_comm 1 i, List.set_cons_succ]

/-- A place of an index that stands in a row. -/
theorem ldX {h : Heap} {id : Nat} {d : Int} {t : List Int} {rw : Bool} (hr : rd h id = some ⟨encI (d :: t), rw⟩) (ht : t.length = 32) {i : Nat} (hi : i < 32) : aload1 h (.c (.p id (1 + i))) = some (.c (.i .i64 (toX t i))) :=
  load1_of hr (encX_get ht hi) (by simp [Cell.isX])
theorem adX {id i : Nat} (hi : i < 32) : aiAddrA 32 1 (.c (.p id (0 + 1))) (.c (.i .i64 (i : Int))) = some (.c (.p id (1 + i))) := by rw [iAddrA_of hi]; simp

theorem index_depth_eq {d : Int} {t : List Int} {h : Heap} : S_index_depth [.a (encI (d :: t))] h = some (.c (.i .i64 (depX d : Nat)), h) := by
  have key : ∀ g, ∃ g', R_index_depth 0 [.a (encI (d :: t))] g = some (.c (.i .i64 (depX d : Nat)), g') := by
    intro g
    have e1 : amin (.c (.i .i64 d)) (.c (.i .i64 5)) = some (.c (.i .i64 (min d 5))) := by
      simp only [amin]
      by_cases h : (5 : Int) < d
      · rw [if_pos h, Int.min_eq_right (by omega)]
      · rw [if_neg h, Int.min_eq_left (by omega)]
    have e2 : amax (.c (.i .i64 0)) (.c (.i .i64 (min d 5))) = some (.c (.i .i64 (depX d : Nat))) := by
      rw [← depX_max]
      simp only [amax]
      by_cases h : (min d 5 : Int) > 0
      · rw [if_pos h, Int.max_eq_right (by omega)]
      · rw [if_neg h, Int.max_eq_left (by omega)]
    have e3 : aload1 (g ++ [some (Row.mk (encI (d :: t)) true)]) (.c (.p g.length 0)) = some (.c (.i .i64 d)) := load1_of (rd_new) rfl rfl
    rw [R_index_depth_eq]
    generalize hz : encI (d :: t) = z at *
    exact ⟨_, by simp only [afAddr_p, List.append_nil, if_true, if_false, bnd_some, mp_some, cnd_t, cnd_f, gd_no, gd_tt, gd_tf, gd_ft, gd_ff, alenS_s, alen_sl, alen_ns, abin_add, abin_sub, abin_mul, abin_eql, abin_neq, abin_lss, abin_leq, abin_gtr, abin_geq, abin_seql, abin_sneq, abin_slss, aun_not, aun_neg, agn_some, aeqN_nf, aeqN_f, aeqN_np, aeqN_p, anilc_p, aeqB_t, aeqB_f, aconv_i, apick_b, cond_true, cond_false, decide_true, decide_false, Bool.not_true, Bool.not_false, aext_t, ofPart_c, ofPart_a, part?_c, part?_a, cells?_c, cells?_a, tupN_2, tupN_3, Option.map_some, Option.some.injEq, List.getElem?_cons_zero, List.getElem?_cons_succ, not_true_eq_false, not_false_eq_true, quiet_same, bytesI_length, Option.join_some, List.append_assoc, List.cons_append, List.nil_append, List.length_append, List.length_cons, List.length_nil, Nat.zero_add, Nat.add_zero, rd_at, rd_at0, set_at, set_at0, List.set_cons_zero, List.set_cons_succ, ne_eq, decide_not, quiet_ext, newOk_some, List.cons_prefix_cons, List.nil_prefix, List.drop_succ_cons, List.drop_zero, List.all_cons, List.all_nil, Bool.and_true, true_and, and_true, e3, e1, e2] <;> rfl⟩
  obtain ⟨g', e⟩ := key (ro h)
  exact S_index_depth_flat e rfl

theorem shl_one {k : Nat} (hk : k ≤ 5) : abin .shl (.c (.i .i64 1)) (.c (.i .u64 (k : Int))) = some (.c (.i .i64 ((2 ^ k : Nat) : Int))) := by
  rw [abin_shl (by omega)]
  have h1 : Nat.min (k : Int).toNat (IntKind.i64).bits = k := by
    have : (IntKind.i64).bits = 64 := rfl
    rw [this, Int.toNat_natCast]; exact Nat.min_eq_left (by omega)
  have h2 := pow_le32 hk
  rw [h1, Int.one_mul]
  have e : (2 : Int) ^ k = ((2 ^ k : Nat) : Int) := by simp
  rw [e]
  generalize 2 ^ k = y at h2 ⊢
  rw [wrap_i64 (by omega) (by omega)]
theorem wrap_u64n {k : Nat} (hk : k ≤ 64) : IntKind.wrap .u64 (k : Int) = (k : Int) := wrap_u64 (by omega) (by omega)

theorem index_many_eq {d : Int} {t : List Int} {h : Heap} (ht : t.length = 32) : S_index_many [.a (encI (d :: t))] h = some (.c (.i .i64 (manyX d : Nat)), h) := by
  have key : ∀ g, ∃ g', R_index_many 0 [.a (encI (d :: t))] g = some (.c (.i .i64 (manyX d : Nat)), g') := by
    intro g
    have hl := encX_length (d := d) ht
    have hd := fun h => index_depth_eq (d := d) (t := t) (h := h)
    have e1 := shl_one (depX_le d)
    have e2 := wrap_u64n (k := depX d) (by have := depX_le d; omega)
    rw [R_index_many_eq]
    unfold manyX
    generalize encI (d :: t) = z at *
    exact ⟨_, by simp only [afAddr_p, List.append_nil, if_true, if_false, bnd_some, mp_some, cnd_t, cnd_f, gd_no, gd_tt, gd_tf, gd_ft, gd_ff, alenS_s, alen_sl, alen_ns, abin_add, abin_sub, abin_mul, abin_eql, abin_neq, abin_lss, abin_leq, abin_gtr, abin_geq, abin_seql, abin_sneq, abin_slss, aun_not, aun_neg, agn_some, aeqN_nf, aeqN_f, aeqN_np, aeqN_p, anilc_p, aeqB_t, aeqB_f, aconv_i, apick_b, cond_true, cond_false, decide_true, decide_false, Bool.not_true, Bool.not_false, aext_t, ofPart_c, ofPart_a, part?_c, part?_a, cells?_c, cells?_a, tupN_2, tupN_3, Option.map_some, Option.some.injEq, List.getElem?_cons_zero, List.getElem?_cons_succ, not_true_eq_false, not_false_eq_true, quiet_same, bytesI_length, Option.join_some, List.append_assoc, List.cons_append, List.nil_append, List.length_append, List.length_cons, List.length_nil, Nat.zero_add, Nat.add_zero, rd_at, rd_at0, set_at, set_at0, List.set_cons_zero, List.set_cons_succ, ne_eq, decide_not, quiet_ext, newOk_some, List.cons_prefix_cons, List.nil_prefix, List.drop_succ_cons, List.drop_zero, List.all_cons, List.all_nil, Bool.and_true, true_and, and_true, aloadN_at, aloadN_at0, aload1_at, aload1_at0, astoreN_at, astoreN_at0, astore1_at, astore1_at0, aslA_at, aslA_at0, ldN_all, ld1_row, stN_all, st1_row, slr_all, Nat.reduceAdd, Nat.reduceMul, Nat.reduceLT, hl, hd, e1, e2] <;> rfl⟩
  obtain ⟨g', e⟩ := key (ro h)
  exact S_index_many_flat e rfl

/-! ### The first place of a block -/

def firstX (t : List Int) (i : Nat) : Bool := (List.range i).all fun k => !decide (toX t k = toX t i)

theorem first_loop {d : Int} {t : List Int} {g : Heap} {i q : Nat} (ht : t.length = 32) (hi : i < 32) : ∀ e k m : Nat, k + e = i → e < m →
    index_first_l0 q m (.c (.i .i64 (i : Int))) (.c (.p g.length 0)) (.c (.i .i64 (i : Int))) (.c (.i .i64 (k : Int))) (g ++ [some ⟨encI (d :: t), true⟩]) =
      some (.c (.b ((List.range' k e).all fun k => !decide (toX t k = toX t i))), g ++ [some ⟨encI (d :: t), true⟩])
  | e, k, 0, _, hm => by omega
  | 0, k, m + 1, hk, hm => by
    have c0 : ¬ (k : Int) < i := by omega
    rw [index_first_l0_eq]
    simp only [afAddr_p, List.append_nil, if_true, if_false, bnd_some, mp_some, cnd_t, cnd_f, gd_no, gd_tt, gd_tf, gd_ft, gd_ff, alenS_s, alen_sl, alen_ns, abin_add, abin_sub, abin_mul, abin_eql, abin_neq, abin_lss, abin_leq, abin_gtr, abin_geq, abin_seql, abin_sneq, abin_slss, aun_not, aun_neg, agn_some, aeqN_nf, aeqN_f, aeqN_np, aeqN_p, anilc_p, aeqB_t, aeqB_f, aconv_i, apick_b, cond_true, cond_false, decide_true, decide_false, Bool.not_true, Bool.not_false, aext_t, ofPart_c, ofPart_a, part?_c, part?_a, cells?_c, cells?_a, tupN_2, tupN_3, Option.map_some, Option.some.injEq, List.getElem?_cons_zero, List.getElem?_cons_succ, not_true_eq_false, not_false_eq_true, quiet_same, bytesI_length, Option.join_some, List.append_assoc, List.cons_append, List.nil_append, List.length_append, List.length_cons, List.length_nil, Nat.zero_add, Nat.add_zero, rd_at, rd_at0, set_at, set_at0, List.set_cons_zero, List.set_cons_succ, ne_eq, decide_not, quiet_ext, newOk_some, List.cons_prefix_cons, List.nil_prefix, List.drop_succ_cons, List.drop_zero, List.all_cons, List.all_nil, Bool.and_true, true_and, and_true, c0, List.range'_zero]
  | e + 1, k, m + 1, hk, hm => by
    have ih := first_loop (d := d) (g := g) (q := q) ht hi e (k + 1) m (by omega) (by omega)
    have c0 : (k : Int) < i := by omega
    have a1 := adX (id := g.length) (i := k) (by omega)
    have a2 := adX (id := g.length) (i := i) (by omega)
    have l1 := ldX (h := g ++ [some (Row.mk (encI (d :: t)) true)]) (id := g.length) rd_new ht (i := k) (by omega)
    have l2 := ldX (h := g ++ [some (Row.mk (encI (d :: t)) true)]) (id := g.length) rd_new ht (i := i) (by omega)
    rw [index_first_l0_eq, List.range'_succ, List.all_cons]
    by_cases c : toX t k = toX t i
    · rw [decide_eq_true c, Bool.not_true, Bool.false_and]
      rw [c] at l1
      simp only [afAddr_p, List.append_nil, if_true, if_false, bnd_some, mp_some, cnd_t, cnd_f, gd_no, gd_tt, gd_tf, gd_ft, gd_ff, alenS_s, alen_sl, alen_ns, abin_add, abin_sub, abin_mul, abin_eql, abin_neq, abin_lss, abin_leq, abin_gtr, abin_geq, abin_seql, abin_sneq, abin_slss, aun_not, aun_neg, agn_some, aeqN_nf, aeqN_f, aeqN_np, aeqN_p, anilc_p, aeqB_t, aeqB_f, aconv_i, apick_b, cond_true, cond_false, decide_true, decide_false, Bool.not_true, Bool.not_false, aext_t, ofPart_c, ofPart_a, part?_c, part?_a, cells?_c, cells?_a, tupN_2, tupN_3, Option.map_some, Option.some.injEq, List.getElem?_cons_zero, List.getElem?_cons_succ, not_true_eq_false, not_false_eq_true, quiet_same, bytesI_length, Option.join_some, List.append_assoc, List.cons_append, List.nil_append, List.length_append, List.length_cons, List.length_nil, Nat.zero_add, Nat.add_zero, rd_at, rd_at0, set_at, set_at0, List.set_cons_zero, List.set_cons_succ, ne_eq, decide_not, quiet_ext, newOk_some, List.cons_prefix_cons, List.nil_prefix, List.drop_succ_cons, List.drop_zero, List.all_cons, List.all_nil, Bool.and_true, true_and, and_true, c0, a1, a2, l1, l2]
    · rw [decide_eq_false c, Bool.not_false, Bool.true_and]
      simp only [afAddr_p, List.append_nil, if_true, if_false, bnd_some, mp_some, cnd_t, cnd_f, gd_no, gd_tt, gd_tf, gd_ft, gd_ff, alenS_s, alen_sl, alen_ns, abin_add, abin_sub, abin_mul, abin_eql, abin_neq, abin_lss, abin_leq, abin_gtr, abin_geq, abin_seql, abin_sneq, abin_slss, aun_not, aun_neg, agn_some, aeqN_nf, aeqN_f, aeqN_np, aeqN_p, anilc_p, aeqB_t, aeqB_f, aconv_i, apick_b, cond_true, cond_false, decide_true, decide_false, Bool.not_true, Bool.not_false, aext_t, ofPart_c, ofPart_a, part?_c, part?_a, cells?_c, cells?_a, tupN_2, tupN_3, Option.map_some, Option.some.injEq, List.getElem?_cons_zero, List.getElem?_cons_succ, not_true_eq_false, not_false_eq_true, quiet_same, bytesI_length, Option.join_some, List.append_assoc, List.cons_append, List.nil_append, List.length_append, List.length_cons, List.length_nil, Nat.zero_add, Nat.add_zero, rd_at, rd_at0, set_at, set_at0, List.set_cons_zero, List.set_cons_succ, ne_eq, decide_not, quiet_ext, newOk_some, List.cons_prefix_cons, List.nil_prefix, List.drop_succ_cons, List.drop_zero, List.all_cons, List.all_nil, Bool.and_true, true_and, and_true, c0, a1, a2, l1, l2, c, wi_succ (show k + 1 < 9223372036854775808 by omega)]
      exact ih

theorem index_first_eq {d : Int} {t : List Int} {i : Nat} {h : Heap} (ht : t.length = 32) (hi : i < 32) : S_index_first [.a (encI (d :: t)), .c (.i .i64 (i : Int))] h = some (.c (.b (firstX t i)), h) := by
  have key : ∀ N, i < N → ∀ g, ∃ g', R_index_first N [.a (encI (d :: t)), .c (.i .i64 (i : Int))] g = some (.c (.b (firstX t i)), g') := by
    intro N hN g
    have e := first_loop (d := d) (g := g) (q := N) ht hi i 0 N (by omega) hN
    rw [R_index_first_eq]
    unfold firstX
    rw [List.range_eq_range']
    exact ⟨_, by simp only [afAddr_p, List.append_nil, if_true, if_false, bnd_some, mp_some, cnd_t, cnd_f, gd_no, gd_tt, gd_tf, gd_ft, gd_ff, alenS_s, alen_sl, alen_ns, abin_add, abin_sub, abin_mul, abin_eql, abin_neq, abin_lss, abin_leq, abin_gtr, abin_geq, abin_seql, abin_sneq, abin_slss, aun_not, aun_neg, agn_some, aeqN_nf, aeqN_f, aeqN_np, aeqN_p, anilc_p, aeqB_t, aeqB_f, aconv_i, apick_b, cond_true, cond_false, decide_true, decide_false, Bool.not_true, Bool.not_false, aext_t, ofPart_c, ofPart_a, part?_c, part?_a, cells?_c, cells?_a, tupN_2, tupN_3, Option.map_some, Option.some.injEq, List.getElem?_cons_zero, List.getElem?_cons_succ, not_true_eq_false, not_false_eq_true, quiet_same, bytesI_length, Option.join_some, List.append_assoc, List.cons_append, List.nil_append, List.length_append, List.length_cons, List.length_nil, Nat.zero_add, Nat.add_zero, rd_at, rd_at0, set_at, set_at0, List.set_cons_zero, List.set_cons_succ, ne_eq, decide_not, quiet_ext, newOk_some, List.cons_prefix_cons, List.nil_prefix, List.drop_succ_cons, List.drop_zero, List.all_cons, List.all_nil, Bool.and_true, true_and, and_true]; exact e⟩
  obtain ⟨g', e⟩ := key (i + 1) (by omega) (ro h)
  exact S_index_first_flat e rfl

/-! ### The places of a class -/

def placesX (n p b : Nat) : List Nat := (List.range n).filter fun k => k % 2 ^ b == p % 2 ^ b
def encN (l : List Nat) : List Int := l.map fun (n : Nat) => (n : Int)
theorem encN_length (l : List Nat) : (encN l).length = l.length := by simp [encN]
def bX (d b : Int) : Nat := (max 0 (min b (depX d : Nat))).toNat
theorem bX_le (d b : Int) : bX d b ≤ depX d := by unfold bX; omega
def plX (d p b : Int) : List Nat := if 0 ≤ p ∧ p < (manyX d : Nat) then placesX (manyX d) p.toNat (bX d b) else []

/-- Those below an end. -/
def belX (n s r i : Nat) : List Nat := (List.range n).filter fun k => decide (k < i) && (k % s == r)

theorem belX_next {n s r i : Nat} (hs : 0 < s) (hi : i < n) (hr : i % s = r) : belX n s r (i + s) = belX n s r i ++ [i] := by
  unfold belX
  have e : List.range n = List.range i ++ (i :: List.range' (i + 1) (n - i - 1)) := by
    have e1 : List.range n = List.range' 0 (i + (n - i - 1 + 1)) := by
      rw [List.range_eq_range']; congr 1; omega
    rw [e1, ← List.range'_append_1, List.range_eq_range', Nat.zero_add, List.range'_succ]
  rw [e, List.filter_append, List.filter_append, List.filter_cons, List.filter_cons]
  have h1 : (List.range i).filter (fun k => decide (k < i + s) && (k % s == r)) = (List.range i).filter (fun k => decide (k < i) && (k % s == r)) := by
    refine List.filter_congr fun k hk => ?_
    have := List.mem_range.1 hk
    rw [decide_eq_true (show k < i + s by omega), decide_eq_true this]
  have h2 : (List.range' (i + 1) (n - i - 1)).filter (fun k => decide (k < i + s) && (k % s == r)) = [] := by
    rw [List.filter_eq_nil_iff]
    intro k hk
    have hk := List.mem_range'_1.1 hk
    by_cases c : k < i + s
    · have : k % s ≠ r := by
        intro e
        have e1 := Nat.div_add_mod k s
        have e2 := Nat.div_add_mod i s
        rw [e] at e1
        rw [hr] at e2
        have e3 : s * (k / s) < s * (i / s) + s := by omega
        have e4 : s * (i / s) < s * (k / s) := by omega
        have e5 : i / s < k / s := Nat.lt_of_mul_lt_mul_left e4
        have e6 : s * (i / s + 1) ≤ s * (k / s) := Nat.mul_le_mul_left _ e5
        rw [Nat.mul_add] at e6
        omega
      simp [this]
    · simp [c]
  have h3 : (List.range' (i + 1) (n - i - 1)).filter (fun k => decide (k < i) && (k % s == r)) = [] := by
    rw [List.filter_eq_nil_iff]
    intro k hk
    have hk := List.mem_range'_1.1 hk
    rw [decide_eq_false (by omega)]; simp
  rw [h1, h2, h3, hr]
  simp [hs]
theorem belX_end {n s r i : Nat} (hi : n ≤ i) : belX n s r i = (List.range n).filter fun k => k % s == r := by
  unfold belX
  refine List.filter_congr fun k hk => ?_
  have := List.mem_range.1 hk
  rw [decide_eq_true (show k < i by omega), Bool.true_and]
theorem belX_begin {n s r : Nat} : belX n s r r = [] := by
  unfold belX
  rw [List.filter_eq_nil_iff]
  intro k hk
  by_cases c : k < r
  · have : k % s ≤ k := Nat.mod_le _ _
    have : ¬ k % s = r := by omega
    simp [this]
  · simp [c]
theorem belX_length (n s r i : Nat) : (belX n s r i).length ≤ n := by
  unfold belX
  exact Nat.le_trans (List.length_filter_le _ _) (by simp)

theorem places_loop {d : Int} {t : List Int} {g : Heap} {s r q : Nat} (ht : t.length = 32) (hs : 0 < s) (hs2 : s ≤ 32) : ∀ (e i m : Nat) (h : Heap) (id : Nat), manyX d ≤ i + e → i ≤ 64 → e < m → i % s = r → Low (g ++ [some (Row.mk (encI (d :: t)) true)]).length (g ++ [some (Row.mk (encI (d :: t)) true)]) h → (g ++ [some (Row.mk (encI (d :: t)) true)]).length ≤ id → rd h id = some ⟨encI (encN (belX (manyX d) s r i)), true⟩ →
    ∃ v h', index_Places_l0 q m (.c (.p g.length 0)) (.c (.i .i64 (s : Int))) (.c (.sl id 0 (belX (manyX d) s r i).length 1)) (.c (.i .i64 (i : Int))) h = some (v, h') ∧
      Out g.length h' v 1 ((List.range (manyX d)).filter fun k => k % s == r).length (encI (encN ((List.range (manyX d)).filter fun k => k % s == r)))
  | e, i, 0, h, id, _, _, hm, _, _, _, _ => by omega
  | e, i, m + 1, h, id, hi, hi2, hm, hr, hlow, hid, hrd => by
    have hB := encX_length (d := d) ht
    have s1 := loadAll (h := h) (id := g.length) (cs := encI (d :: t)) (hlow.rd (by simp)) hB
    have hM := fun h => index_many_eq (d := d) (h := h) ht
    have hm32 := manyX_le d
    have hbl := belX_length (manyX d) s r i
    rw [List.length_append] at hid
    rw [index_Places_l0_eq]
    by_cases c : i < manyX d
    · obtain ⟨e, rfl⟩ : ∃ e', e = e' + 1 := ⟨e - 1, by omega⟩
      have c0 : (i : Int) < (manyX d : Nat) := by omega
      have en := belX_next hs c hr
      obtain ⟨h1, a1, a2, a3, a4, a5⟩ := push (ys := [.i .i64 (i : Int)]) (sz := 1) (n := (belX (manyX d) s r i).length) hlow hrd (by rw [encI_length, encN_length]; omega) (by rw [List.length_append]; exact hid) rfl (by omega) (by omega)
      have he : encI (encN (belX (manyX d) s r i)) ++ [.i .i64 (i : Int)] = encI (encN (belX (manyX d) s r (i + s))) := by rw [en]; simp [encI, encN]
      rw [he] at a2
      obtain ⟨v, h', f1, f2⟩ := places_loop (q := q) ht hs hs2 e (i + s) m h1 (h.length + 1) (by omega) (by omega) (by omega) (by rw [Nat.add_mod_right]; exact hr) a3 a4 a2
      have hl1 : (belX (manyX d) s r (i + s)).length = (belX (manyX d) s r i).length + 1 := by rw [en]; simp
      rw [hl1] at f1
      have ef : afill [Cell.i .i64 0] [(0, 1, .c (.i .i64 (i : Int)))] = some [.i .i64 (i : Int)] := rfl
      refine ⟨v, h', ?_, f2⟩
      simp only [afAddr_p, List.append_nil, if_true, if_false, bnd_some, mp_some, cnd_t, cnd_f, gd_no, gd_tt, gd_tf, gd_ft, gd_ff, alenS_s, alen_sl, alen_ns, abin_add, abin_sub, abin_mul, abin_eql, abin_neq, abin_lss, abin_leq, abin_gtr, abin_geq, abin_seql, abin_sneq, abin_slss, aun_not, aun_neg, agn_some, aeqN_nf, aeqN_f, aeqN_np, aeqN_p, anilc_p, aeqB_t, aeqB_f, aconv_i, apick_b, cond_true, cond_false, decide_true, decide_false, Bool.not_true, Bool.not_false, aext_t, ofPart_c, ofPart_a, part?_c, part?_a, cells?_c, cells?_a, tupN_2, tupN_3, Option.map_some, Option.some.injEq, List.getElem?_cons_zero, List.getElem?_cons_succ, not_true_eq_false, not_false_eq_true, quiet_same, bytesI_length, Option.join_some, List.append_assoc, List.cons_append, List.nil_append, List.length_append, List.length_cons, List.length_nil, Nat.zero_add, Nat.add_zero, rd_at, rd_at0, set_at, set_at0, List.set_cons_zero, List.set_cons_succ, ne_eq, decide_not, quiet_ext, newOk_some, List.cons_prefix_cons, List.nil_prefix, List.drop_succ_cons, List.drop_zero, List.all_cons, List.all_nil, Bool.and_true, true_and, and_true, s1, hM, c0, ef, a1, wi_add (show i + s < 9223372036854775808 by omega)]
      exact f1
    · have c0 : ¬ (i : Int) < (manyX d : Nat) := by omega
      rw [belX_end (by omega)] at hrd ⊢
      refine ⟨_, _, by simp only [afAddr_p, List.append_nil, if_true, if_false, bnd_some, mp_some, cnd_t, cnd_f, gd_no, gd_tt, gd_tf, gd_ft, gd_ff, alenS_s, alen_sl, alen_ns, abin_add, abin_sub, abin_mul, abin_eql, abin_neq, abin_lss, abin_leq, abin_gtr, abin_geq, abin_seql, abin_sneq, abin_slss, aun_not, aun_neg, agn_some, aeqN_nf, aeqN_f, aeqN_np, aeqN_p, anilc_p, aeqB_t, aeqB_f, aconv_i, apick_b, cond_true, cond_false, decide_true, decide_false, Bool.not_true, Bool.not_false, aext_t, ofPart_c, ofPart_a, part?_c, part?_a, cells?_c, cells?_a, tupN_2, tupN_3, Option.map_some, Option.some.injEq, List.getElem?_cons_zero, List.getElem?_cons_succ, not_true_eq_false, not_false_eq_true, quiet_same, bytesI_length, Option.join_some, List.append_assoc, List.cons_append, List.nil_append, List.length_append, List.length_cons, List.length_nil, Nat.zero_add, Nat.add_zero, rd_at, rd_at0, set_at, set_at0, List.set_cons_zero, List.set_cons_succ, ne_eq, decide_not, quiet_ext, newOk_some, List.cons_prefix_cons, List.nil_prefix, List.drop_succ_cons, List.drop_zero, List.all_cons, List.all_nil, Bool.and_true, true_and, and_true, s1, hM, c0] <;> rfl, by rw [encI_length, encN_length]; omega, _, rfl, by omega, hrd⟩

theorem amm {b : Int} {d : Nat} : ∃ w, amin (.c (.i .i64 b)) (.c (.i .i64 (d : Int))) = some (.c (.i .i64 w)) ∧ amax (.c (.i .i64 0)) (.c (.i .i64 w)) = some (.c (.i .i64 ((max 0 (min b d)).toNat : Nat))) := by
  refine ⟨min b d, ?_, ?_⟩
  · simp only [amin]
    by_cases h : (d : Int) < b
    · rw [if_pos h, Int.min_eq_right (by omega)]
    · rw [if_neg h, Int.min_eq_left (by omega)]
  · simp only [amax]
    by_cases h : (min b d : Int) > 0
    · rw [if_pos h, Int.max_eq_right (by omega), Int.toNat_of_nonneg (by omega)]
    · rw [if_neg h, Int.max_eq_left (by omega)]; rfl

theorem index_Places_eq {d : Int} {t : List Int} {p b : Int} {h : Heap} (ht : t.length = 32) :
    S_index_Places [.a (encI (d :: t)), .c (.i .i64 p), .c (.i .i64 b)] h = some (.c (.sl h.length 0 (plX d p b).length 1), h ++ [some ⟨encI (encN (plX d p b)), true⟩]) := by
  have key : ∀ N, 64 < N → ∀ g, ∃ v g', R_index_Places N [.a (encI (d :: t)), .c (.i .i64 p), .c (.i .i64 b)] g = some (v, g') ∧ Out g.length g' v 1 (plX d p b).length (encI (encN (plX d p b))) := by
    intro N hN g
    have hB := encX_length (d := d) ht
    have hM := fun h => index_many_eq (d := d) (h := h) ht
    have hD := fun h => index_depth_eq (d := d) (t := t) (h := h)
    have hm32 := manyX_le d
    rw [R_index_Places_eq]
    unfold plX
    by_cases c1 : p < 0
    · rw [if_neg (by omega)]
      have e1 : List.map (fun (n : Nat) => (n : Int)) [] = [] := rfl
      refine ⟨.c (.sl (g.length + 2) 0 0 1), g ++ [some (Row.mk (encI (d :: t)) true), some (Row.mk [] true), some (Row.mk [] true)], ?_, rfl, g.length + 2, rfl, by omega, by simp [encI, encN]⟩
      generalize encI (d :: t) = z at *
      simp only [afAddr_p, List.append_nil, if_true, if_false, bnd_some, mp_some, cnd_t, cnd_f, gd_no, gd_tt, gd_tf, gd_ft, gd_ff, alenS_s, alen_sl, alen_ns, abin_add, abin_sub, abin_mul, abin_eql, abin_neq, abin_lss, abin_leq, abin_gtr, abin_geq, abin_seql, abin_sneq, abin_slss, aun_not, aun_neg, agn_some, aeqN_nf, aeqN_f, aeqN_np, aeqN_p, anilc_p, aeqB_t, aeqB_f, aconv_i, apick_b, cond_true, cond_false, decide_true, decide_false, Bool.not_true, Bool.not_false, aext_t, ofPart_c, ofPart_a, part?_c, part?_a, cells?_c, cells?_a, tupN_2, tupN_3, Option.map_some, Option.some.injEq, List.getElem?_cons_zero, List.getElem?_cons_succ, not_true_eq_false, not_false_eq_true, quiet_same, bytesI_length, Option.join_some, List.append_assoc, List.cons_append, List.nil_append, List.length_append, List.length_cons, List.length_nil, Nat.zero_add, Nat.add_zero, rd_at, rd_at0, set_at, set_at0, List.set_cons_zero, List.set_cons_succ, ne_eq, decide_not, quiet_ext, newOk_some, List.cons_prefix_cons, List.nil_prefix, List.drop_succ_cons, List.drop_zero, List.all_cons, List.all_nil, Bool.and_true, true_and, and_true, c1]
    · by_cases c2 : ((manyX d : Nat) : Int) ≤ p
      · rw [if_neg (by omega)]
        refine ⟨.c (.sl (g.length + 2) 0 0 1), g ++ [some (Row.mk (encI (d :: t)) true), some (Row.mk [] true), some (Row.mk [] true)], ?_, rfl, g.length + 2, rfl, by omega, by simp [encI, encN]⟩
        generalize encI (d :: t) = z at *
        simp only [afAddr_p, List.append_nil, if_true, if_false, bnd_some, mp_some, cnd_t, cnd_f, gd_no, gd_tt, gd_tf, gd_ft, gd_ff, alenS_s, alen_sl, alen_ns, abin_add, abin_sub, abin_mul, abin_eql, abin_neq, abin_lss, abin_leq, abin_gtr, abin_geq, abin_seql, abin_sneq, abin_slss, aun_not, aun_neg, agn_some, aeqN_nf, aeqN_f, aeqN_np, aeqN_p, anilc_p, aeqB_t, aeqB_f, aconv_i, apick_b, cond_true, cond_false, decide_true, decide_false, Bool.not_true, Bool.not_false, aext_t, ofPart_c, ofPart_a, part?_c, part?_a, cells?_c, cells?_a, tupN_2, tupN_3, Option.map_some, Option.some.injEq, List.getElem?_cons_zero, List.getElem?_cons_succ, not_true_eq_false, not_false_eq_true, quiet_same, bytesI_length, Option.join_some, List.append_assoc, List.cons_append, List.nil_append, List.length_append, List.length_cons, List.length_nil, Nat.zero_add, Nat.add_zero, rd_at, rd_at0, set_at, set_at0, List.set_cons_zero, List.set_cons_succ, ne_eq, decide_not, quiet_ext, newOk_some, List.cons_prefix_cons, List.nil_prefix, List.drop_succ_cons, List.drop_zero, List.all_cons, List.all_nil, Bool.and_true, true_and, and_true, aloadN_at, aloadN_at0, aload1_at, aload1_at0, astoreN_at, astoreN_at0, astore1_at, astore1_at0, aslA_at, aslA_at0, ldN_all, ld1_row, stN_all, st1_row, slr_all, Nat.reduceAdd, Nat.reduceMul, Nat.reduceLT, hB, hM, c1, c2]
      · rw [if_pos (by omega)]
        obtain ⟨p, rfl⟩ : ∃ n : Nat, p = n := ⟨p.toNat, by omega⟩
        rw [Int.toNat_natCast]
        obtain ⟨w, m1, m2⟩ := amm (b := b) (d := depX d)
        have hbx := bX_le d b
        have hdl := depX_le d
        change amax _ _ = some (.c (.i .i64 ((bX d b : Nat) : Int))) at m2
        have e1 := shl_one (k := bX d b) (by omega)
        have e2 := wrap_u64n (k := bX d b) (by omega)
        have hp0 : 0 < 2 ^ bX d b := Nat.pow_pos (by omega)
        have hp1 := pow_le32 (show bX d b ≤ 5 by omega)
        have e3 : abin .rem (.c (.i .i64 (p : Int))) (.c (.i .i64 ((2 ^ bX d b : Nat) : Int))) = some (.c (.i .i64 ((p % 2 ^ bX d b : Nat) : Int))) := by
          rw [rem_i (by omega) (by omega)]; simp
        have hpm : p % 2 ^ bX d b < 2 ^ bX d b := Nat.mod_lt _ hp0
        unfold placesX
        generalize 2 ^ bX d b = s at *
        obtain ⟨v, g', f1, f2⟩ := places_loop (g := g) (d := d) (t := t) (q := N) (s := s) (r := p % s) ht hp0 hp1 (manyX d) (p % s) N (g ++ [some (Row.mk (encI (d :: t)) true), some (Row.mk [] true), some (Row.mk [] true)]) (g.length + 2) (by omega) (by omega) (by omega) (Nat.mod_mod _ _)
          (by have := (Low.refl (h := g ++ [some (Row.mk (encI (d :: t)) true)]) (Nat.le_refl _)).new [some ⟨[], true⟩, some ⟨[], true⟩]
              simpa using this) (by simp) (by rw [belX_begin]; simp [encI, encN])
        rw [belX_begin] at f1
        refine ⟨v, g', ?_, f2⟩
        generalize encI (d :: t) = z at *
        simp only [afAddr_p, List.append_nil, if_true, if_false, bnd_some, mp_some, cnd_t, cnd_f, gd_no, gd_tt, gd_tf, gd_ft, gd_ff, alenS_s, alen_sl, alen_ns, abin_add, abin_sub, abin_mul, abin_eql, abin_neq, abin_lss, abin_leq, abin_gtr, abin_geq, abin_seql, abin_sneq, abin_slss, aun_not, aun_neg, agn_some, aeqN_nf, aeqN_f, aeqN_np, aeqN_p, anilc_p, aeqB_t, aeqB_f, aconv_i, apick_b, cond_true, cond_false, decide_true, decide_false, Bool.not_true, Bool.not_false, aext_t, ofPart_c, ofPart_a, part?_c, part?_a, cells?_c, cells?_a, tupN_2, tupN_3, Option.map_some, Option.some.injEq, List.getElem?_cons_zero, List.getElem?_cons_succ, not_true_eq_false, not_false_eq_true, quiet_same, bytesI_length, Option.join_some, List.append_assoc, List.cons_append, List.nil_append, List.length_append, List.length_cons, List.length_nil, Nat.zero_add, Nat.add_zero, rd_at, rd_at0, set_at, set_at0, List.set_cons_zero, List.set_cons_succ, ne_eq, decide_not, quiet_ext, newOk_some, List.cons_prefix_cons, List.nil_prefix, List.drop_succ_cons, List.drop_zero, List.all_cons, List.all_nil, Bool.and_true, true_and, and_true, aloadN_at, aloadN_at0, aload1_at, aload1_at0, astoreN_at, astoreN_at0, astore1_at, astore1_at0, aslA_at, aslA_at0, ldN_all, ld1_row, stN_all, st1_row, slr_all, Nat.reduceAdd, Nat.reduceMul, Nat.reduceLT, hB, hM, hD, c1, c2, m1, m2, e1, e2, e3] at f1 ⊢
        exact f1
  obtain ⟨v, g', e, ho⟩ := key (h.length + 65) (by omega) (ro h)
  exact S_index_Places_out e (by simpa [ro_length] using ho) (by simp)

/-! ### How many bits a class has -/

theorem encI_encN_get {l : List Nat} {i : Nat} (hi : i < l.length) : (encI (encN l))[i]? = some (.i .i64 ((l[i] : Nat) : Int)) := by
  rw [encI_get]; unfold encN; rw [List.getElem?_map, List.getElem?_eq_getElem hi]; rfl

def wholeX (t : List Int) (l : List Nat) (no : Int) : Bool := l.all fun k => decide (toX t k = no)

theorem whole_loop {d no : Int} {t : List Int} {g : Heap} {v : Val} {l : List Nat} {q : Nat} (ht : t.length = 32) (hl : ∀ k ∈ l, k < 32) (hv : Has g v 1 l.length (encI (encN l))) (hll : l.length < 9223372036854775807) : ∀ e i m : Nat, i + e = l.length → e < m →
    index_whole_l0 q m (.c (.i .i64 no)) (.c (.p g.length 0)) v (.c (.i .i64 (l.length : Nat))) (.c (.i .i64 (i : Int))) (g ++ [some ⟨encI (d :: t), true⟩]) = some (.c (.b (wholeX t (l.drop i) no)), g ++ [some ⟨encI (d :: t), true⟩])
  | e, i, 0, _, hm => by omega
  | 0, i, m + 1, hi, hm => by
    have c0 : ¬ (i : Int) < (l.length : Nat) := by omega
    rw [index_whole_l0_eq, List.drop_of_length_le (by omega)]
    simp only [afAddr_p, List.append_nil, if_true, if_false, bnd_some, mp_some, cnd_t, cnd_f, gd_no, gd_tt, gd_tf, gd_ft, gd_ff, alenS_s, alen_sl, alen_ns, abin_add, abin_sub, abin_mul, abin_eql, abin_neq, abin_lss, abin_leq, abin_gtr, abin_geq, abin_seql, abin_sneq, abin_slss, aun_not, aun_neg, agn_some, aeqN_nf, aeqN_f, aeqN_np, aeqN_p, anilc_p, aeqB_t, aeqB_f, aconv_i, apick_b, cond_true, cond_false, decide_true, decide_false, Bool.not_true, Bool.not_false, aext_t, ofPart_c, ofPart_a, part?_c, part?_a, cells?_c, cells?_a, tupN_2, tupN_3, Option.map_some, Option.some.injEq, List.getElem?_cons_zero, List.getElem?_cons_succ, not_true_eq_false, not_false_eq_true, quiet_same, bytesI_length, Option.join_some, List.append_assoc, List.cons_append, List.nil_append, List.length_append, List.length_cons, List.length_nil, Nat.zero_add, Nat.add_zero, rd_at, rd_at0, set_at, set_at0, List.set_cons_zero, List.set_cons_succ, ne_eq, decide_not, quiet_ext, newOk_some, List.cons_prefix_cons, List.nil_prefix, List.drop_succ_cons, List.drop_zero, List.all_cons, List.all_nil, Bool.and_true, true_and, and_true, c0, wholeX]
  | e + 1, i, m + 1, hi, hm => by
    have ih := whole_loop (d := d) (no := no) (q := q) ht hl hv hll e (i + 1) m (by omega) (by omega)
    have c0 : (i : Int) < (l.length : Nat) := by omega
    obtain ⟨id, off, ev, hid, k1, k2⟩ := (hv.more [some ⟨encI (d :: t), true⟩]).sl (by omega)
    have hx := k1 i _ (encI_encN_get (by omega))
    have eb : aiAddrL 1 v (.c (.i .i64 (i : Int))) = some (.c (.p id (off + i))) := by rw [ev, iAddrL_of (by omega)]; simp
    have hk := hl l[i] (List.getElem_mem (by omega))
    have a1 := adX (id := g.length) (i := l[i]) hk
    have l1 := ldX (h := g ++ [some (Row.mk (encI (d :: t)) true)]) (id := g.length) rd_new ht (i := l[i]) hk
    rw [index_whole_l0_eq, List.drop_eq_getElem_cons (by omega : i < l.length), wholeX, List.all_cons]
    rw [wholeX] at ih
    by_cases c : toX t l[i] = no
    · rw [decide_eq_true c, Bool.true_and]
      rw [c] at l1
      simp only [afAddr_p, List.append_nil, if_true, if_false, bnd_some, mp_some, cnd_t, cnd_f, gd_no, gd_tt, gd_tf, gd_ft, gd_ff, alenS_s, alen_sl, alen_ns, abin_add, abin_sub, abin_mul, abin_eql, abin_neq, abin_lss, abin_leq, abin_gtr, abin_geq, abin_seql, abin_sneq, abin_slss, aun_not, aun_neg, agn_some, aeqN_nf, aeqN_f, aeqN_np, aeqN_p, anilc_p, aeqB_t, aeqB_f, aconv_i, apick_b, cond_true, cond_false, decide_true, decide_false, Bool.not_true, Bool.not_false, aext_t, ofPart_c, ofPart_a, part?_c, part?_a, cells?_c, cells?_a, tupN_2, tupN_3, Option.map_some, Option.some.injEq, List.getElem?_cons_zero, List.getElem?_cons_succ, not_true_eq_false, not_false_eq_true, quiet_same, bytesI_length, Option.join_some, List.append_assoc, List.cons_append, List.nil_append, List.length_append, List.length_cons, List.length_nil, Nat.zero_add, Nat.add_zero, rd_at, rd_at0, set_at, set_at0, List.set_cons_zero, List.set_cons_succ, ne_eq, decide_not, quiet_ext, newOk_some, List.cons_prefix_cons, List.nil_prefix, List.drop_succ_cons, List.drop_zero, List.all_cons, List.all_nil, Bool.and_true, true_and, and_true, c0, eb, hx, a1, l1, wi_succ (show i + 1 < 9223372036854775808 by omega)]
      exact ih
    · rw [decide_eq_false c, Bool.false_and]
      simp only [afAddr_p, List.append_nil, if_true, if_false, bnd_some, mp_some, cnd_t, cnd_f, gd_no, gd_tt, gd_tf, gd_ft, gd_ff, alenS_s, alen_sl, alen_ns, abin_add, abin_sub, abin_mul, abin_eql, abin_neq, abin_lss, abin_leq, abin_gtr, abin_geq, abin_seql, abin_sneq, abin_slss, aun_not, aun_neg, agn_some, aeqN_nf, aeqN_f, aeqN_np, aeqN_p, anilc_p, aeqB_t, aeqB_f, aconv_i, apick_b, cond_true, cond_false, decide_true, decide_false, Bool.not_true, Bool.not_false, aext_t, ofPart_c, ofPart_a, part?_c, part?_a, cells?_c, cells?_a, tupN_2, tupN_3, Option.map_some, Option.some.injEq, List.getElem?_cons_zero, List.getElem?_cons_succ, not_true_eq_false, not_false_eq_true, quiet_same, bytesI_length, Option.join_some, List.append_assoc, List.cons_append, List.nil_append, List.length_append, List.length_cons, List.length_nil, Nat.zero_add, Nat.add_zero, rd_at, rd_at0, set_at, set_at0, List.set_cons_zero, List.set_cons_succ, ne_eq, decide_not, quiet_ext, newOk_some, List.cons_prefix_cons, List.nil_prefix, List.drop_succ_cons, List.drop_zero, List.all_cons, List.all_nil, Bool.and_true, true_and, and_true, c0, eb, hx, a1, l1, c]

theorem index_whole_eq {d no : Int} {t : List Int} {h : Heap} {v : Val} {l : List Nat} (ht : t.length = 32) (hl : ∀ k ∈ l, k < 32) (hv : Has h v 1 l.length (encI (encN l))) (hll : l.length < 9223372036854775807) :
    S_index_whole [.a (encI (d :: t)), v, .c (.i .i64 no)] h = some (.c (.b (wholeX t l no)), h) := by
  have key : ∀ N, l.length < N → ∀ g, Has g v 1 l.length (encI (encN l)) → ∃ g', R_index_whole N [.a (encI (d :: t)), v, .c (.i .i64 no)] g = some (.c (.b (wholeX t l no)), g') := by
    intro N hN g hv
    have e := whole_loop (d := d) (no := no) (q := N) ht hl hv hll l.length 0 N (by omega) hN
    rw [List.drop_zero] at e
    rw [R_index_whole_eq]
    exact ⟨_, by simp only [afAddr_p, List.append_nil, if_true, if_false, bnd_some, mp_some, cnd_t, cnd_f, gd_no, gd_tt, gd_tf, gd_ft, gd_ff, alenS_s, alen_sl, alen_ns, abin_add, abin_sub, abin_mul, abin_eql, abin_neq, abin_lss, abin_leq, abin_gtr, abin_geq, abin_seql, abin_sneq, abin_slss, aun_not, aun_neg, agn_some, aeqN_nf, aeqN_f, aeqN_np, aeqN_p, anilc_p, aeqB_t, aeqB_f, aconv_i, apick_b, cond_true, cond_false, decide_true, decide_false, Bool.not_true, Bool.not_false, aext_t, ofPart_c, ofPart_a, part?_c, part?_a, cells?_c, cells?_a, tupN_2, tupN_3, Option.map_some, Option.some.injEq, List.getElem?_cons_zero, List.getElem?_cons_succ, not_true_eq_false, not_false_eq_true, quiet_same, bytesI_length, Option.join_some, List.append_assoc, List.cons_append, List.nil_append, List.length_append, List.length_cons, List.length_nil, Nat.zero_add, Nat.add_zero, rd_at, rd_at0, set_at, set_at0, List.set_cons_zero, List.set_cons_succ, ne_eq, decide_not, quiet_ext, newOk_some, List.cons_prefix_cons, List.nil_prefix, List.drop_succ_cons, List.drop_zero, List.all_cons, List.all_nil, Bool.and_true, true_and, and_true, hv.len]; exact e⟩
  obtain ⟨g', e⟩ := key (l.length + 1) (by omega) (ro h) hv.ro
  exact S_index_whole_flat e rfl

theorem placesX_lt {n p b : Nat} (hn : n ≤ 32) : ∀ k ∈ placesX n p b, k < 32 := by
  intro k hk
  have := List.mem_range.1 (List.mem_filter.1 hk).1
  omega
theorem placesX_length (n p b : Nat) : (placesX n p b).length ≤ n := Nat.le_trans (List.length_filter_le _ _) (by simp)
theorem plX_of {d : Int} {p b : Nat} (hp : p < manyX d) (hb : b ≤ depX d) : plX d p b = placesX (manyX d) p b := by
  unfold plX
  have : bX d b = b := by unfold bX; omega
  rw [if_pos ⟨by omega, by omega⟩, this, Int.toNat_natCast]
theorem plX_lt (d p b : Int) : ∀ k ∈ plX d p b, k < 32 := by
  intro k hk
  unfold plX at hk
  split at hk
  · exact placesX_lt (manyX_le d) k hk
  · cases hk
theorem plX_length (d p b : Int) : (plX d p b).length ≤ 32 := by
  unfold plX
  split
  · exact Nat.le_trans (placesX_length _ _ _) (manyX_le d)
  · simp

/-- Have all places of a class the block of this one? -/
def allX (n : Nat) (t : List Int) (p b : Nat) : Bool := !decide (toX t p = 0) && wholeX t (placesX n p b) (toX t p)
def bitsFrom (n : Nat) (t : List Int) (p : Nat) : Nat → Nat → Nat
  | b, 0 => b
  | b, e + 1 => bif allX n t p b then b else bitsFrom n t p (b + 1) e
def bitsX (d : Int) (t : List Int) (p : Nat) : Nat := bitsFrom (manyX d) t p 0 (depX d)

theorem bits_loop {d : Int} {t : List Int} {g : Heap} {p q : Nat} (ht : t.length = 32) (hp : p < manyX d) : ∀ (e b m : Nat) (h : Heap), b + e = depX d → e < m → Low (g ++ [some (Row.mk (encI (d :: t)) true)]).length (g ++ [some (Row.mk (encI (d :: t)) true)]) h →
    ∃ h', index_Bits_l0 q m (.c (.i .i64 (p : Int))) (.c (.p g.length 0)) (.c (.i .i64 (depX d : Nat))) (.c (.i .i64 (b : Int))) h = some (.c (.i .i64 (bitsFrom (manyX d) t p b e : Nat)), h')
  | e, b, 0, h, _, hm, _ => by omega
  | 0, b, m + 1, h, hb, hm, hlow => by
    have e0 : b = depX d := by omega
    subst e0
    have c0 : ¬ ((depX d : Nat) : Int) < (depX d : Nat) := by omega
    have hB := encX_length (d := d) ht
    have s1 := loadAll (h := h) (id := g.length) (cs := encI (d :: t)) (hlow.rd (by simp)) hB
    have hD := fun h => index_depth_eq (d := d) (t := t) (h := h)
    rw [index_Bits_l0_eq]
    generalize encI (d :: t) = z at *
    exact ⟨_, by simp only [afAddr_p, List.append_nil, if_true, if_false, bnd_some, mp_some, cnd_t, cnd_f, gd_no, gd_tt, gd_tf, gd_ft, gd_ff, alenS_s, alen_sl, alen_ns, abin_add, abin_sub, abin_mul, abin_eql, abin_neq, abin_lss, abin_leq, abin_gtr, abin_geq, abin_seql, abin_sneq, abin_slss, aun_not, aun_neg, agn_some, aeqN_nf, aeqN_f, aeqN_np, aeqN_p, anilc_p, aeqB_t, aeqB_f, aconv_i, apick_b, cond_true, cond_false, decide_true, decide_false, Bool.not_true, Bool.not_false, aext_t, ofPart_c, ofPart_a, part?_c, part?_a, cells?_c, cells?_a, tupN_2, tupN_3, Option.map_some, Option.some.injEq, List.getElem?_cons_zero, List.getElem?_cons_succ, not_true_eq_false, not_false_eq_true, quiet_same, bytesI_length, Option.join_some, List.append_assoc, List.cons_append, List.nil_append, List.length_append, List.length_cons, List.length_nil, Nat.zero_add, Nat.add_zero, rd_at, rd_at0, set_at, set_at0, List.set_cons_zero, List.set_cons_succ, ne_eq, decide_not, quiet_ext, newOk_some, List.cons_prefix_cons, List.nil_prefix, List.drop_succ_cons, List.drop_zero, List.all_cons, List.all_nil, Bool.and_true, true_and, and_true, c0, s1, hD, bitsFrom] <;> rfl⟩
  | e + 1, b, m + 1, h, hb, hm, hlow => by
    have hm32 := manyX_le d
    have hdl := depX_le d
    have c0 : (b : Int) < (depX d : Nat) := by omega
    have hB := encX_length (d := d) ht
    have hrd : rd h g.length = some ⟨encI (d :: t), true⟩ := hlow.rd (by simp)
    have s1 := loadAll (h := h) (id := g.length) (cs := encI (d :: t)) hrd hB
    have a1 := adX (id := g.length) (i := p) (by omega)
    have l1 := ldX (h := h) (id := g.length) hrd ht (i := p) (by omega)
    have hP := index_Places_eq (d := d) (p := p) (b := b) (h := h) ht
    rw [plX_of hp (by omega)] at hP
    have hq := quiet_grows ((Grows.rfl' (h := h)).new (encI (encN (placesX (manyX d) p b)))) (v := .c (.sl h.length 0 (placesX (manyX d) p b).length 1))
    have hW := index_whole_eq (d := d) (no := toX t p) (h := h ++ [some ⟨encI (encN (placesX (manyX d) p b)), true⟩]) (v := .c (.sl h.length 0 (placesX (manyX d) p b).length 1)) ht (placesX_lt (p := p) (b := b) hm32) (Has.row (rw := true) rd_new (by rw [encI_length, encN_length]; omega) (noX_encI _)) (by have := placesX_length (manyX d) p b; omega)
    have l2 := ldX (h := h ++ [some ⟨encI (encN (placesX (manyX d) p b)), true⟩]) (id := g.length) (rd_append hrd) ht (i := p) (by omega)
    rw [index_Bits_l0_eq, bitsFrom]
    unfold allX
    by_cases cz : toX t p = 0
    · obtain ⟨h', ih⟩ := bits_loop (q := q) ht hp e (b + 1) m h (by omega) (by omega) hlow
      rw [decide_eq_true cz, Bool.not_true, Bool.false_and, cond_false]
      rw [cz] at l1
      refine ⟨h', ?_⟩
      generalize encI (d :: t) = z at *
      simp only [afAddr_p, List.append_nil, if_true, if_false, bnd_some, mp_some, cnd_t, cnd_f, gd_no, gd_tt, gd_tf, gd_ft, gd_ff, alenS_s, alen_sl, alen_ns, abin_add, abin_sub, abin_mul, abin_eql, abin_neq, abin_lss, abin_leq, abin_gtr, abin_geq, abin_seql, abin_sneq, abin_slss, aun_not, aun_neg, agn_some, aeqN_nf, aeqN_f, aeqN_np, aeqN_p, anilc_p, aeqB_t, aeqB_f, aconv_i, apick_b, cond_true, cond_false, decide_true, decide_false, Bool.not_true, Bool.not_false, aext_t, ofPart_c, ofPart_a, part?_c, part?_a, cells?_c, cells?_a, tupN_2, tupN_3, Option.map_some, Option.some.injEq, List.getElem?_cons_zero, List.getElem?_cons_succ, not_true_eq_false, not_false_eq_true, quiet_same, bytesI_length, Option.join_some, List.append_assoc, List.cons_append, List.nil_append, List.length_append, List.length_cons, List.length_nil, Nat.zero_add, Nat.add_zero, rd_at, rd_at0, set_at, set_at0, List.set_cons_zero, List.set_cons_succ, ne_eq, decide_not, quiet_ext, newOk_some, List.cons_prefix_cons, List.nil_prefix, List.drop_succ_cons, List.drop_zero, List.all_cons, List.all_nil, Bool.and_true, true_and, and_true, c0, a1, l1, wi_succ (show b + 1 < 9223372036854775808 by omega)]
      exact ih
    · rw [decide_eq_false cz, Bool.not_false, Bool.true_and]
      cases cw : wholeX t (placesX (manyX d) p b) (toX t p) with
      | true =>
        rw [cw] at hW
        rw [cond_true]
        generalize encI (d :: t) = z at *
        exact ⟨_, by simp only [afAddr_p, List.append_nil, if_true, if_false, bnd_some, mp_some, cnd_t, cnd_f, gd_no, gd_tt, gd_tf, gd_ft, gd_ff, alenS_s, alen_sl, alen_ns, abin_add, abin_sub, abin_mul, abin_eql, abin_neq, abin_lss, abin_leq, abin_gtr, abin_geq, abin_seql, abin_sneq, abin_slss, aun_not, aun_neg, agn_some, aeqN_nf, aeqN_f, aeqN_np, aeqN_p, anilc_p, aeqB_t, aeqB_f, aconv_i, apick_b, cond_true, cond_false, decide_true, decide_false, Bool.not_true, Bool.not_false, aext_t, ofPart_c, ofPart_a, part?_c, part?_a, cells?_c, cells?_a, tupN_2, tupN_3, Option.map_some, Option.some.injEq, List.getElem?_cons_zero, List.getElem?_cons_succ, not_true_eq_false, not_false_eq_true, quiet_same, bytesI_length, Option.join_some, List.append_assoc, List.cons_append, List.nil_append, List.length_append, List.length_cons, List.length_nil, Nat.zero_add, Nat.add_zero, rd_at, rd_at0, set_at, set_at0, List.set_cons_zero, List.set_cons_succ, ne_eq, decide_not, quiet_ext, newOk_some, List.cons_prefix_cons, List.nil_prefix, List.drop_succ_cons, List.drop_zero, List.all_cons, List.all_nil, Bool.and_true, true_and, and_true, c0, a1, l1, cz, s1, hP, hq, l2, hW] <;> rfl⟩
      | false =>
        rw [cw] at hW
        obtain ⟨h', ih⟩ := bits_loop (q := q) ht hp e (b + 1) m (h ++ [some ⟨encI (encN (placesX (manyX d) p b)), true⟩]) (by omega) (by omega) (hlow.new _)
        rw [cond_false]
        refine ⟨h', ?_⟩
        generalize encI (d :: t) = z at *
        simp only [afAddr_p, List.append_nil, if_true, if_false, bnd_some, mp_some, cnd_t, cnd_f, gd_no, gd_tt, gd_tf, gd_ft, gd_ff, alenS_s, alen_sl, alen_ns, abin_add, abin_sub, abin_mul, abin_eql, abin_neq, abin_lss, abin_leq, abin_gtr, abin_geq, abin_seql, abin_sneq, abin_slss, aun_not, aun_neg, agn_some, aeqN_nf, aeqN_f, aeqN_np, aeqN_p, anilc_p, aeqB_t, aeqB_f, aconv_i, apick_b, cond_true, cond_false, decide_true, decide_false, Bool.not_true, Bool.not_false, aext_t, ofPart_c, ofPart_a, part?_c, part?_a, cells?_c, cells?_a, tupN_2, tupN_3, Option.map_some, Option.some.injEq, List.getElem?_cons_zero, List.getElem?_cons_succ, not_true_eq_false, not_false_eq_true, quiet_same, bytesI_length, Option.join_some, List.append_assoc, List.cons_append, List.nil_append, List.length_append, List.length_cons, List.length_nil, Nat.zero_add, Nat.add_zero, rd_at, rd_at0, set_at, set_at0, List.set_cons_zero, List.set_cons_succ, ne_eq, decide_not, quiet_ext, newOk_some, List.cons_prefix_cons, List.nil_prefix, List.drop_succ_cons, List.drop_zero, List.all_cons, List.all_nil, Bool.and_true, true_and, and_true, c0, a1, l1, cz, s1, hP, hq, l2, hW, wi_succ (show b + 1 < 9223372036854775808 by omega)]
        exact ih

def bitX (d : Int) (t : List Int) (p : Int) : Nat := if 0 ≤ p ∧ p < (manyX d : Nat) then bitsX d t p.toNat else 0

theorem index_Bits_eq {d : Int} {t : List Int} {p : Int} {h : Heap} (ht : t.length = 32) : S_index_Bits [.a (encI (d :: t)), .c (.i .i64 p)] h = some (.c (.i .i64 (bitX d t p : Nat)), h) := by
  have key : ∀ N, 5 < N → ∀ g, ∃ g', R_index_Bits N [.a (encI (d :: t)), .c (.i .i64 p)] g = some (.c (.i .i64 (bitX d t p : Nat)), g') := by
    intro N hN g
    have hB := encX_length (d := d) ht
    have hM := fun h => index_many_eq (d := d) (h := h) ht
    have hD := fun h => index_depth_eq (d := d) (t := t) (h := h)
    have hdl := depX_le d
    rw [R_index_Bits_eq]
    unfold bitX
    by_cases c1 : p < 0
    · rw [if_neg (by omega)]
      generalize encI (d :: t) = z at *
      exact ⟨_, by simp only [afAddr_p, List.append_nil, if_true, if_false, bnd_some, mp_some, cnd_t, cnd_f, gd_no, gd_tt, gd_tf, gd_ft, gd_ff, alenS_s, alen_sl, alen_ns, abin_add, abin_sub, abin_mul, abin_eql, abin_neq, abin_lss, abin_leq, abin_gtr, abin_geq, abin_seql, abin_sneq, abin_slss, aun_not, aun_neg, agn_some, aeqN_nf, aeqN_f, aeqN_np, aeqN_p, anilc_p, aeqB_t, aeqB_f, aconv_i, apick_b, cond_true, cond_false, decide_true, decide_false, Bool.not_true, Bool.not_false, aext_t, ofPart_c, ofPart_a, part?_c, part?_a, cells?_c, cells?_a, tupN_2, tupN_3, Option.map_some, Option.some.injEq, List.getElem?_cons_zero, List.getElem?_cons_succ, not_true_eq_false, not_false_eq_true, quiet_same, bytesI_length, Option.join_some, List.append_assoc, List.cons_append, List.nil_append, List.length_append, List.length_cons, List.length_nil, Nat.zero_add, Nat.add_zero, rd_at, rd_at0, set_at, set_at0, List.set_cons_zero, List.set_cons_succ, ne_eq, decide_not, quiet_ext, newOk_some, List.cons_prefix_cons, List.nil_prefix, List.drop_succ_cons, List.drop_zero, List.all_cons, List.all_nil, Bool.and_true, true_and, and_true, c1] <;> rfl⟩
    · by_cases c2 : ((manyX d : Nat) : Int) ≤ p
      · rw [if_neg (by omega)]
        generalize encI (d :: t) = z at *
        exact ⟨_, by simp only [afAddr_p, List.append_nil, if_true, if_false, bnd_some, mp_some, cnd_t, cnd_f, gd_no, gd_tt, gd_tf, gd_ft, gd_ff, alenS_s, alen_sl, alen_ns, abin_add, abin_sub, abin_mul, abin_eql, abin_neq, abin_lss, abin_leq, abin_gtr, abin_geq, abin_seql, abin_sneq, abin_slss, aun_not, aun_neg, agn_some, aeqN_nf, aeqN_f, aeqN_np, aeqN_p, anilc_p, aeqB_t, aeqB_f, aconv_i, apick_b, cond_true, cond_false, decide_true, decide_false, Bool.not_true, Bool.not_false, aext_t, ofPart_c, ofPart_a, part?_c, part?_a, cells?_c, cells?_a, tupN_2, tupN_3, Option.map_some, Option.some.injEq, List.getElem?_cons_zero, List.getElem?_cons_succ, not_true_eq_false, not_false_eq_true, quiet_same, bytesI_length, Option.join_some, List.append_assoc, List.cons_append, List.nil_append, List.length_append, List.length_cons, List.length_nil, Nat.zero_add, Nat.add_zero, rd_at, rd_at0, set_at, set_at0, List.set_cons_zero, List.set_cons_succ, ne_eq, decide_not, quiet_ext, newOk_some, List.cons_prefix_cons, List.nil_prefix, List.drop_succ_cons, List.drop_zero, List.all_cons, List.all_nil, Bool.and_true, true_and, and_true, aloadN_at, aloadN_at0, aload1_at, aload1_at0, astoreN_at, astoreN_at0, astore1_at, astore1_at0, aslA_at, aslA_at0, ldN_all, ld1_row, stN_all, st1_row, slr_all, Nat.reduceAdd, Nat.reduceMul, Nat.reduceLT, hB, hM, c1, c2] <;> rfl⟩
      · rw [if_pos (by omega)]
        obtain ⟨p, rfl⟩ : ∃ n : Nat, p = n := ⟨p.toNat, by omega⟩
        rw [Int.toNat_natCast]
        obtain ⟨h', e⟩ := bits_loop (g := g) (q := N) ht (show p < manyX d by omega) (depX d) 0 N (g ++ [some (Row.mk (encI (d :: t)) true)]) (by omega) (by omega) (Low.refl (Nat.le_refl _))
        unfold bitsX
        refine ⟨h', ?_⟩
        generalize encI (d :: t) = z at *
        simp only [afAddr_p, List.append_nil, if_true, if_false, bnd_some, mp_some, cnd_t, cnd_f, gd_no, gd_tt, gd_tf, gd_ft, gd_ff, alenS_s, alen_sl, alen_ns, abin_add, abin_sub, abin_mul, abin_eql, abin_neq, abin_lss, abin_leq, abin_gtr, abin_geq, abin_seql, abin_sneq, abin_slss, aun_not, aun_neg, agn_some, aeqN_nf, aeqN_f, aeqN_np, aeqN_p, anilc_p, aeqB_t, aeqB_f, aconv_i, apick_b, cond_true, cond_false, decide_true, decide_false, Bool.not_true, Bool.not_false, aext_t, ofPart_c, ofPart_a, part?_c, part?_a, cells?_c, cells?_a, tupN_2, tupN_3, Option.map_some, Option.some.injEq, List.getElem?_cons_zero, List.getElem?_cons_succ, not_true_eq_false, not_false_eq_true, quiet_same, bytesI_length, Option.join_some, List.append_assoc, List.cons_append, List.nil_append, List.length_append, List.length_cons, List.length_nil, Nat.zero_add, Nat.add_zero, rd_at, rd_at0, set_at, set_at0, List.set_cons_zero, List.set_cons_succ, ne_eq, decide_not, quiet_ext, newOk_some, List.cons_prefix_cons, List.nil_prefix, List.drop_succ_cons, List.drop_zero, List.all_cons, List.all_nil, Bool.and_true, true_and, and_true, aloadN_at, aloadN_at0, aload1_at, aload1_at0, astoreN_at, astoreN_at0, astore1_at, astore1_at0, aslA_at, aslA_at0, ldN_all, ld1_row, stN_all, st1_row, slr_all, Nat.reduceAdd, Nat.reduceMul, Nat.reduceLT, hB, hM, hD, c1, c2]
        exact e
  obtain ⟨g', e⟩ := key (h.length + 6) (by omega) (ro h)
  exact S_index_Bits_flat e rfl
theorem bitX_of {d : Int} {t : List Int} {p : Nat} (hp : p < manyX d) : bitX d t p = bitsX d t p := by
  unfold bitX; rw [if_pos ⟨by omega, by omega⟩, Int.toNat_natCast]

end Go.Proofs.Ytbbkpmbepljhkaa
