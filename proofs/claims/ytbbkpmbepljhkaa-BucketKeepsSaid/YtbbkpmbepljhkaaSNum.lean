/- What the package of numbers computes. -/
import Derived.Test.YtbbkpmbepljhkaaEscU
import Derived.Test.YtbbkpmbepljhkaaGNum
set_option linter.all false
namespace Go.Proofs.Ytbbkpmbepljhkaa
open Go Go.Esc

/-- Are so many bytes at a place of so many? -/
def thereI (at' width all : Int) : Bool := decide (0 ≤ at') && decide (1 ≤ width) && decide (width ≤ all) && decide (at' ≤ all - width)

theorem thereI_true {a w n : Int} : thereI a w n = true ↔ 0 ≤ a ∧ 1 ≤ w ∧ w ≤ n ∧ a ≤ n - w := by
  unfold thereI; simp [and_assoc]

theorem there_eq {a w n : Int} {h : Heap} (hn : n < 9223372036854775808) :
    S_num_there [.c (.i .i64 a), .c (.i .i64 w), .c (.i .i64 n)] h = some (.c (.b (thereI a w n)), h) := by
  refine S_num_there_flat (n := 0) (h2 := ro h) ?_ rfl
  rw [R_num_there_eq]
  unfold thereI
  by_cases h1 : 0 ≤ a
  · by_cases h2 : 1 ≤ w
    · by_cases h3 : w ≤ n
      · have e : IntKind.wrap .i64 (n - w) = n - w := wrap_i64 (by omega) (by omega)
        simp [h1, h2, h3, e]
      · simp [h1, h2, h3]
    · simp [h1, h2]
  · simp [h1]

def getN (l : List UInt8) (a w : Int) : Option Nat := if w ≤ 8 ∧ thereI a w l.length = true then some (le ((l.drop a.toNat).take w.toNat)) else none

/-! ### Blocks -/

theorem num_At_loop {l : List UInt8} {h : Heap} {a w k : Nat} (hw : w ≤ 4) (haw : a + w ≤ 256) (hl : l.length = 256) : ∀ d i m, i + d = w → d < m →
    num_At_l0 k m (.c (.i .i64 a)) (.c (.p h.length 0)) (.c (.i .i64 (le ((l.drop a).take i)))) (.c (.i .i64 w)) (.c (.i .i64 i)) (h ++ [some ⟨encB l, true⟩]) = some (.c (.i .i64 (le ((l.drop a).take w))), h ++ [some ⟨encB l, true⟩])
  | d, i, 0, _, hm => by omega
  | 0, i, m + 1, hi, hm => by
    have e : i = w := by omega
    subst e
    rw [num_At_l0_eq]
    simp
  | d + 1, i, m + 1, hi, hm => by
    have ih := num_At_loop (h := h) (k := k) hw haw hl d (i + 1) m (by omega) (by omega)
    have hx := load1_of (h := h ++ [some ⟨encB l, true⟩]) (id := h.length) (off := a + i) (c := .i .u8 l[a + i].toNat) rd_new (by rw [encB_get, List.getElem?_eq_getElem (by omega)]; rfl) rfl
    have hb := l[a + i].toNat_lt
    have hlen : ((l.drop a).take i).length = i := by simp; omega
    have hle := le_lt ((l.drop a).take i)
    rw [hlen] at hle
    have hp := pow256_le (show i ≤ 4 by omega)
    have hbp := byte_pow_lt (x := l[a + i]) (show i < 4 by omega)
    have e2 : IntKind.wrap .i64 (8 * (i : Int)) = 8 * i := wrap_i64 (by omega) (by omega)
    have e3 : IntKind.wrap .u64 (8 * (i : Int)) = 8 * i := wrap_u64 (by omega) (by omega)
    have e5 : IntKind.wrap .i64 (l[a + i].toNat : Int) = l[a + i].toNat := wrap_i64 (by omega) (by omega)
    have e6 := shl_step (k := .i64) (x := l[a + i]) (show i < 8 by omega) (wrap_i64 (by omega) (by omega)) rfl
    have e7 : abin .or (.c (.i .i64 (le ((l.drop a).take i) : Nat))) (.c (.i .i64 ((l[a + i].toNat * 256 ^ i : Nat) : Int))) = some (.c (.i .i64 (le ((l.drop a).take (i + 1)) : Nat))) := by
      rw [or_i64 (by omega) (by omega), take_succ_get (by omega), ← or_step, hlen]
    have ea : aiAddrA 256 1 (.c (.p h.length 0)) (.c (.i .i64 ((a + i : Nat) : Int))) = some (.c (.p h.length (a + i))) := by rw [iAddrA_of (by omega)]; simp
    have h1' : (i : Int) < w := by omega
    rw [num_At_l0_eq]
    simp only [afAddr_p, List.append_nil, if_true, if_false, bnd_some, mp_some, cnd_t, cnd_f, gd_no, gd_tt, gd_tf, gd_ft, gd_ff, alenS_s, alen_sl, alen_ns, abin_add, abin_sub, abin_mul, abin_eql, abin_neq, abin_lss, abin_leq, abin_gtr, abin_geq, abin_seql, abin_sneq, abin_slss, aun_not, aun_neg, agn_some, aeqN_nf, aeqN_f, aeqN_np, aeqN_p, anilc_p, aeqB_t, aeqB_f, aconv_i, apick_b, cond_true, cond_false, decide_true, decide_false, Bool.not_true, Bool.not_false, aext_t, ofPart_c, ofPart_a, part?_c, part?_a, cells?_c, cells?_a, tupN_2, tupN_3, Option.map_some, Option.some.injEq, List.getElem?_cons_zero, List.getElem?_cons_succ, not_true_eq_false, not_false_eq_true, quiet_same, bytesI_length, Option.join_some, List.append_assoc, List.cons_append, List.nil_append, List.length_append, List.length_cons, List.length_nil, Nat.zero_add, Nat.add_zero, rd_at, rd_at0, set_at, set_at0, List.set_cons_zero, List.set_cons_succ, ne_eq, decide_not, quiet_ext, newOk_some, List.cons_prefix_cons, List.nil_prefix, List.drop_succ_cons, List.drop_zero, List.all_cons, List.all_nil, Bool.and_true, true_and, and_true, h1', wi_add (show a + i < 9223372036854775808 by omega), e2, e3, ea, hx, e5, e6, e7, wi_succ (show i + 1 < 9223372036854775808 by omega)]
    exact ih

/-- The number at a place of a block. -/
def atN (l : List UInt8) (a w : Int) : Nat := if w ≤ 4 ∧ thereI a w 256 = true then le ((l.drop a.toNat).take w.toNat) else 0

theorem num_At_eq {l : List UInt8} {h : Heap} (hl : l.length = 256) {a w : Int} :
    S_num_At [.a (encB l), .c (.i .i64 a), .c (.i .i64 w)] h = some (.c (.i .i64 (atN l a w)), h) := by
  refine S_num_At_flat (n := w.toNat + 1) (h2 := ro h ++ [some ⟨encB l, true⟩]) ?_ (by simp)
  rw [R_num_At_eq]
  unfold atN
  by_cases c1 : 4 < w
  · have c1' : ¬ w ≤ 4 := by omega
    simp [c1, c1']
  · have c1' : w ≤ 4 := by omega
    cases c2 : thereI a w 256 with
    | false => simp [c1, there_eq (show (256 : Int) < 9223372036854775808 by omega), c2]
    | true =>
      simp [c1, c1', there_eq (show (256 : Int) < 9223372036854775808 by omega), c2]
      rw [thereI_true] at c2
      have := num_At_loop (h := ro h) (a := a.toNat) (w := w.toNat) (k := w.toNat + 1) (by omega) (by omega) hl w.toNat 0 (w.toNat + 1) (by omega) (by omega)
      simp only [show ((a.toNat : Nat) : Int) = a by omega, show ((w.toNat : Nat) : Int) = w by omega] at this
      simpa [le] using this

theorem num_With_loop {l : List UInt8} {z : List Cell} {h : Heap} {a w k : Nat} {v : Int} (hw : w ≤ 4) (haw : a + w ≤ 256) (hl : l.length = 256) (hz : z.length = 256) : ∀ d i m, i + d = w → d < m →
    num_With_l0 k m (.c (.i .i64 a)) (.c (.i .i64 v)) (.c (.p h.length 0)) (.c (.p (h.length + 1) 0)) (.c (.i .i64 w)) (.c (.i .i64 i)) (h ++ [some ⟨encB (layB l a (bytesI i v)), true⟩, some ⟨z, true⟩]) =
      some (.a (encB (layB l a (bytesI w v))), h ++ [some ⟨encB (layB l a (bytesI w v)), true⟩, some ⟨encB (layB l a (bytesI w v)), true⟩])
  | d, i, 0, _, hm => by omega
  | 0, i, m + 1, hi, hm => by
    have e : i = w := by omega
    subst e
    have hle : (encB (layB l a (bytesI i v))).length = 256 := by rw [encB_length, layB_length (by simp; omega), hl]
    have s1 := loadAll (h := h ++ [some ⟨encB (layB l a (bytesI i v)), true⟩, some ⟨z, true⟩]) (id := h.length) (cs := encB (layB l a (bytesI i v))) (by simp) hle
    have s2 := storeAll (h := h ++ [some ⟨encB (layB l a (bytesI i v)), true⟩, some ⟨z, true⟩]) (id := h.length + 1) (cs := z) (xs := encB (layB l a (bytesI i v))) (by simp) hz hle
    have s3 := loadAll (h := h ++ [some ⟨encB (layB l a (bytesI i v)), true⟩, some ⟨encB (layB l a (bytesI i v)), true⟩]) (id := h.length + 1) (cs := encB (layB l a (bytesI i v))) (by simp) hle
    have h1' : ¬ (i : Int) < i := by omega
    rw [num_With_l0_eq]
    simp only [afAddr_p, List.append_nil, if_true, if_false, bnd_some, mp_some, cnd_t, cnd_f, gd_no, gd_tt, gd_tf, gd_ft, gd_ff, alenS_s, alen_sl, alen_ns, abin_add, abin_sub, abin_mul, abin_eql, abin_neq, abin_lss, abin_leq, abin_gtr, abin_geq, abin_seql, abin_sneq, abin_slss, aun_not, aun_neg, agn_some, aeqN_nf, aeqN_f, aeqN_np, aeqN_p, anilc_p, aeqB_t, aeqB_f, aconv_i, apick_b, cond_true, cond_false, decide_true, decide_false, Bool.not_true, Bool.not_false, aext_t, ofPart_c, ofPart_a, part?_c, part?_a, cells?_c, cells?_a, tupN_2, tupN_3, Option.map_some, Option.some.injEq, List.getElem?_cons_zero, List.getElem?_cons_succ, not_true_eq_false, not_false_eq_true, quiet_same, bytesI_length, Option.join_some, List.append_assoc, List.cons_append, List.nil_append, List.length_append, List.length_cons, List.length_nil, Nat.zero_add, Nat.add_zero, rd_at, rd_at0, set_at, set_at0, List.set_cons_zero, List.set_cons_succ, ne_eq, decide_not, quiet_ext, newOk_some, List.cons_prefix_cons, List.nil_prefix, List.drop_succ_cons, List.drop_zero, List.all_cons, List.all_nil, Bool.and_true, true_and, and_true, h1', s1, s2, s3]
  | d + 1, i, m + 1, hi, hm => by
    have ih := num_With_loop (h := h) (k := k) (v := v) hw haw hl hz d (i + 1) m (by omega) (by omega)
    have e2 : IntKind.wrap .i64 (8 * (i : Int)) = 8 * i := wrap_i64 (by omega) (by omega)
    have e3 : IntKind.wrap .u64 (8 * (i : Int)) = 8 * i := wrap_u64 (by omega) (by omega)
    have e4 : abin .shr (.c (.i .i64 v)) (.c (.i .u64 (8 * (i : Int)))) = some (.c (.i .i64 (v / 2 ^ (Nat.min (8 * (i : Int)).toNat 64)))) := abin_shr (by omega)
    have ea : aiAddrA 256 1 (.c (.p h.length 0)) (.c (.i .i64 ((a + i : Nat) : Int))) = some (.c (.p h.length (a + i))) := by rw [iAddrA_of (by omega)]; simp
    have hst := store1_of (h := h ++ [some ⟨encB (layB l a (bytesI i v)), true⟩, some ⟨z, true⟩]) (id := h.length) (off := a + i) (cs := encB (layB l a (bytesI i v))) (x := .i .u8 (byI v i).toNat) (by simp)
      (by rw [encB_length, layB_length (by simp; omega)]; omega)
    have e5 : (layB l a (bytesI i v)).set (a + i) (byI v i) = layB l a (bytesI (i + 1) v) := by
      rw [bytesI_succ]
      have := layB_snoc (l := l) (xs := bytesI i v) (a := a) (x := byI v i) (by simp; omega)
      simpa using this
    rw [encB_set, e5] at hst
    have h1' : (i : Int) < w := by omega
    rw [num_With_l0_eq]
    simp only [afAddr_p, List.append_nil, if_true, if_false, bnd_some, mp_some, cnd_t, cnd_f, gd_no, gd_tt, gd_tf, gd_ft, gd_ff, alenS_s, alen_sl, alen_ns, abin_add, abin_sub, abin_mul, abin_eql, abin_neq, abin_lss, abin_leq, abin_gtr, abin_geq, abin_seql, abin_sneq, abin_slss, aun_not, aun_neg, agn_some, aeqN_nf, aeqN_f, aeqN_np, aeqN_p, anilc_p, aeqB_t, aeqB_f, aconv_i, apick_b, cond_true, cond_false, decide_true, decide_false, Bool.not_true, Bool.not_false, aext_t, ofPart_c, ofPart_a, part?_c, part?_a, cells?_c, cells?_a, tupN_2, tupN_3, Option.map_some, Option.some.injEq, List.getElem?_cons_zero, List.getElem?_cons_succ, not_true_eq_false, not_false_eq_true, quiet_same, bytesI_length, Option.join_some, List.append_assoc, List.cons_append, List.nil_append, List.length_append, List.length_cons, List.length_nil, Nat.zero_add, Nat.add_zero, rd_at, rd_at0, set_at, set_at0, List.set_cons_zero, List.set_cons_succ, ne_eq, decide_not, quiet_ext, newOk_some, List.cons_prefix_cons, List.nil_prefix, List.drop_succ_cons, List.drop_zero, List.all_cons, List.all_nil, Bool.and_true, true_and, and_true, h1', wi_add (show a + i < 9223372036854775808 by omega), e2, e3, e4, byte_step (v := v) (show i < 8 by omega), ea, hst, wi_succ (show i + 1 < 9223372036854775808 by omega)]
    exact ih

/-- A block with a number at a place. -/
def withB (l : List UInt8) (a w v : Int) : List UInt8 := if w ≤ 4 ∧ thereI a w 256 = true then layB l a.toNat (bytesI w.toNat v) else l

theorem withB_length {l : List UInt8} {a w v : Int} (hl : l.length = 256) : (withB l a w v).length = 256 := by
  unfold withB
  split
  · rename_i h
    rw [thereI_true] at h
    rw [layB_length (by simp; omega), hl]
  · exact hl

theorem num_With_run {l : List UInt8} {g : Heap} (hl : l.length = 256) {a w v : Int} :
    ∃ g', R_num_With (w.toNat + 1) [.a (encB l), .c (.i .i64 a), .c (.i .i64 w), .c (.i .i64 v)] g = some (.a (encB (withB l a w v)), g') := by
  have hle : (encB l).length = 256 := by rw [encB_length, hl]
  have hz : (List.replicate 256 (Cell.i .u8 0)).length = 256 := List.length_replicate
  rw [R_num_With_eq]
  generalize List.replicate 256 (Cell.i .u8 0) = z at *
  have s1 := loadAll (h := g ++ [some ⟨encB l, true⟩, some ⟨z, true⟩]) (id := g.length) (cs := encB l) (n := 256) (by simp) hle
  have s2 := storeAll (h := g ++ [some ⟨encB l, true⟩, some ⟨z, true⟩]) (id := g.length + 1) (cs := z) (xs := encB l) (by simp) hz hle
  have s3 := loadAll (h := g ++ [some ⟨encB l, true⟩, some ⟨encB l, true⟩]) (id := g.length + 1) (cs := encB l) (n := 256) (by simp) hle
  unfold withB
  by_cases c1 : 4 < w
  · rw [if_neg (by omega)]
    exact ⟨_, by simp only [afAddr_p, List.append_nil, if_true, if_false, bnd_some, mp_some, cnd_t, cnd_f, gd_no, gd_tt, gd_tf, gd_ft, gd_ff, alenS_s, alen_sl, alen_ns, abin_add, abin_sub, abin_mul, abin_eql, abin_neq, abin_lss, abin_leq, abin_gtr, abin_geq, abin_seql, abin_sneq, abin_slss, aun_not, aun_neg, agn_some, aeqN_nf, aeqN_f, aeqN_np, aeqN_p, anilc_p, aeqB_t, aeqB_f, aconv_i, apick_b, cond_true, cond_false, decide_true, decide_false, Bool.not_true, Bool.not_false, aext_t, ofPart_c, ofPart_a, part?_c, part?_a, cells?_c, cells?_a, tupN_2, tupN_3, Option.map_some, Option.some.injEq, List.getElem?_cons_zero, List.getElem?_cons_succ, not_true_eq_false, not_false_eq_true, quiet_same, bytesI_length, Option.join_some, List.append_assoc, List.cons_append, List.nil_append, List.length_append, List.length_cons, List.length_nil, Nat.zero_add, Nat.add_zero, rd_at, rd_at0, set_at, set_at0, List.set_cons_zero, List.set_cons_succ, ne_eq, decide_not, quiet_ext, newOk_some, List.cons_prefix_cons, List.nil_prefix, List.drop_succ_cons, List.drop_zero, List.all_cons, List.all_nil, Bool.and_true, true_and, and_true, c1, s1, s2, s3]; rfl⟩
  · have c1' : w ≤ 4 := by omega
    cases c2 : thereI a w 256 with
    | false =>
      rw [if_neg (by simp)]
      exact ⟨_, by simp only [afAddr_p, List.append_nil, if_true, if_false, bnd_some, mp_some, cnd_t, cnd_f, gd_no, gd_tt, gd_tf, gd_ft, gd_ff, alenS_s, alen_sl, alen_ns, abin_add, abin_sub, abin_mul, abin_eql, abin_neq, abin_lss, abin_leq, abin_gtr, abin_geq, abin_seql, abin_sneq, abin_slss, aun_not, aun_neg, agn_some, aeqN_nf, aeqN_f, aeqN_np, aeqN_p, anilc_p, aeqB_t, aeqB_f, aconv_i, apick_b, cond_true, cond_false, decide_true, decide_false, Bool.not_true, Bool.not_false, aext_t, ofPart_c, ofPart_a, part?_c, part?_a, cells?_c, cells?_a, tupN_2, tupN_3, Option.map_some, Option.some.injEq, List.getElem?_cons_zero, List.getElem?_cons_succ, not_true_eq_false, not_false_eq_true, quiet_same, bytesI_length, Option.join_some, List.append_assoc, List.cons_append, List.nil_append, List.length_append, List.length_cons, List.length_nil, Nat.zero_add, Nat.add_zero, rd_at, rd_at0, set_at, set_at0, List.set_cons_zero, List.set_cons_succ, ne_eq, decide_not, quiet_ext, newOk_some, List.cons_prefix_cons, List.nil_prefix, List.drop_succ_cons, List.drop_zero, List.all_cons, List.all_nil, Bool.and_true, true_and, and_true, c1, there_eq (show (256 : Int) < 9223372036854775808 by omega), c2, s1, s2, s3]; rfl⟩
    | true =>
      rw [if_pos ⟨c1', rfl⟩]
      have c3 := thereI_true.1 c2
      have := num_With_loop (h := g) (a := a.toNat) (w := w.toNat) (k := w.toNat + 1) (v := v) (z := z) (by omega) (by omega) hl hz w.toNat 0 (w.toNat + 1) (by omega) (by omega)
      simp only [show ((a.toNat : Nat) : Int) = a by omega, show ((w.toNat : Nat) : Int) = w by omega, show bytesI 0 v = [] from rfl, layB_nil] at this
      exact ⟨_, by simp only [afAddr_p, List.append_nil, if_true, if_false, bnd_some, mp_some, cnd_t, cnd_f, gd_no, gd_tt, gd_tf, gd_ft, gd_ff, alenS_s, alen_sl, alen_ns, abin_add, abin_sub, abin_mul, abin_eql, abin_neq, abin_lss, abin_leq, abin_gtr, abin_geq, abin_seql, abin_sneq, abin_slss, aun_not, aun_neg, agn_some, aeqN_nf, aeqN_f, aeqN_np, aeqN_p, anilc_p, aeqB_t, aeqB_f, aconv_i, apick_b, cond_true, cond_false, decide_true, decide_false, Bool.not_true, Bool.not_false, aext_t, ofPart_c, ofPart_a, part?_c, part?_a, cells?_c, cells?_a, tupN_2, tupN_3, Option.map_some, Option.some.injEq, List.getElem?_cons_zero, List.getElem?_cons_succ, not_true_eq_false, not_false_eq_true, quiet_same, bytesI_length, Option.join_some, List.append_assoc, List.cons_append, List.nil_append, List.length_append, List.length_cons, List.length_nil, Nat.zero_add, Nat.add_zero, rd_at, rd_at0, set_at, set_at0, List.set_cons_zero, List.set_cons_succ, ne_eq, decide_not, quiet_ext, newOk_some, List.cons_prefix_cons, List.nil_prefix, List.drop_succ_cons, List.drop_zero, List.all_cons, List.all_nil, Bool.and_true, true_and, and_true, c1, there_eq (show (256 : Int) < 9223372036854775808 by omega), c2]; exact this⟩

theorem num_With_eq {l : List UInt8} {h : Heap} (hl : l.length = 256) {a w v : Int} :
    S_num_With [.a (encB l), .c (.i .i64 a), .c (.i .i64 w), .c (.i .i64 v)] h = some (.a (encB (withB l a w v)), h) := by
  obtain ⟨g, e⟩ := num_With_run (g := ro h) hl (a := a) (w := w) (v := v)
  exact S_num_With_flat e (by simp)

/-! ### Bytes cut out, and laid -/

theorem num_Cut_loop {l : List UInt8} {h : Heap} {b id a n k : Nat} (haw : a + n ≤ 256) (hl : l.length = 256) : ∀ d i m, i + d = n → d < m →
    num_Cut_l0 k m (.c (.i .i64 a)) (.c (.p h.length 0)) (.c (.sl (h.length + 2) 0 n 1)) (.c (.i .i64 n)) (.c (.i .i64 i)) (h ++ [some ⟨encB l, true⟩, some ⟨[], true⟩, some ⟨encB ((l.drop a).take i ++ zeros (n - i)), true⟩]) =
      some (.c (.sl (h.length + 2) 0 n 1), h ++ [some ⟨encB l, true⟩, some ⟨[], true⟩, some ⟨encB ((l.drop a).take n), true⟩])
  | d, i, 0, _, hm => by omega
  | 0, i, m + 1, hi, hm => by
    have e : i = n := by omega
    subst e
    have h1' : ¬ (i : Int) < i := by omega
    rw [num_Cut_l0_eq]
    simp only [afAddr_p, List.append_nil, if_true, if_false, bnd_some, mp_some, cnd_t, cnd_f, gd_no, gd_tt, gd_tf, gd_ft, gd_ff, alenS_s, alen_sl, alen_ns, abin_add, abin_sub, abin_mul, abin_eql, abin_neq, abin_lss, abin_leq, abin_gtr, abin_geq, abin_seql, abin_sneq, abin_slss, aun_not, aun_neg, agn_some, aeqN_nf, aeqN_f, aeqN_np, aeqN_p, anilc_p, aeqB_t, aeqB_f, aconv_i, apick_b, cond_true, cond_false, decide_true, decide_false, Bool.not_true, Bool.not_false, aext_t, ofPart_c, ofPart_a, part?_c, part?_a, cells?_c, cells?_a, tupN_2, tupN_3, Option.map_some, Option.some.injEq, List.getElem?_cons_zero, List.getElem?_cons_succ, not_true_eq_false, not_false_eq_true, quiet_same, bytesI_length, Option.join_some, List.append_assoc, List.cons_append, List.nil_append, List.length_append, List.length_cons, List.length_nil, Nat.zero_add, Nat.add_zero, rd_at, rd_at0, set_at, set_at0, List.set_cons_zero, List.set_cons_succ, ne_eq, decide_not, quiet_ext, newOk_some, List.cons_prefix_cons, List.nil_prefix, List.drop_succ_cons, List.drop_zero, List.all_cons, List.all_nil, Bool.and_true, true_and, and_true, h1']
    simp [zeros]
  | d + 1, i, m + 1, hi, hm => by
    have ih := num_Cut_loop (h := h) (b := b) (id := id) (k := k) haw hl d (i + 1) m (by omega) (by omega)
    have ea : aiAddrA 256 1 (.c (.p h.length 0)) (.c (.i .i64 ((a + i : Nat) : Int))) = some (.c (.p h.length (a + i))) := by rw [iAddrA_of (by omega)]; simp
    have eb : aiAddrL 1 (.c (.sl (h.length + 2) 0 n 1)) (.c (.i .i64 (i : Int))) = some (.c (.p (h.length + 2) i)) := by rw [iAddrL_of (by omega)]; simp
    have hx := load1_of (h := h ++ [some ⟨encB l, true⟩, some ⟨[], true⟩, some ⟨encB ((l.drop a).take i ++ zeros (n - i)), true⟩]) (id := h.length) (off := a + i) (c := .i .u8 l[a + i].toNat) (cs := encB l) (rw := true) (by simp) (by rw [encB_get, List.getElem?_eq_getElem (by omega)]; rfl) rfl
    have hst := store1_of (h := h ++ [some ⟨encB l, true⟩, some ⟨[], true⟩, some ⟨encB ((l.drop a).take i ++ zeros (n - i)), true⟩]) (id := h.length + 2) (off := i) (cs := encB ((l.drop a).take i ++ zeros (n - i))) (x := .i .u8 l[a + i].toNat) (by simp)
      (by rw [encB_length]; simp; omega)
    have e5 : ((l.drop a).take i ++ zeros (n - i)).set i l[a + i] = (l.drop a).take (i + 1) ++ zeros (n - (i + 1)) := by
      have hlen : ((l.drop a).take i).length = i := by simp; omega
      rw [List.set_append_right _ _ (by omega), hlen, Nat.sub_self, take_succ_get (by omega), List.append_assoc]
      refine congrArg ((l.drop a).take i ++ ·) ?_
      have : n - i = n - (i + 1) + 1 := by omega
      rw [this]
      unfold zeros
      rw [List.replicate_succ, List.set_cons_zero]; rfl
    rw [encB_set, e5] at hst
    have h1' : (i : Int) < n := by omega
    rw [num_Cut_l0_eq]
    simp only [afAddr_p, List.append_nil, if_true, if_false, bnd_some, mp_some, cnd_t, cnd_f, gd_no, gd_tt, gd_tf, gd_ft, gd_ff, alenS_s, alen_sl, alen_ns, abin_add, abin_sub, abin_mul, abin_eql, abin_neq, abin_lss, abin_leq, abin_gtr, abin_geq, abin_seql, abin_sneq, abin_slss, aun_not, aun_neg, agn_some, aeqN_nf, aeqN_f, aeqN_np, aeqN_p, anilc_p, aeqB_t, aeqB_f, aconv_i, apick_b, cond_true, cond_false, decide_true, decide_false, Bool.not_true, Bool.not_false, aext_t, ofPart_c, ofPart_a, part?_c, part?_a, cells?_c, cells?_a, tupN_2, tupN_3, Option.map_some, Option.some.injEq, List.getElem?_cons_zero, List.getElem?_cons_succ, not_true_eq_false, not_false_eq_true, quiet_same, bytesI_length, Option.join_some, List.append_assoc, List.cons_append, List.nil_append, List.length_append, List.length_cons, List.length_nil, Nat.zero_add, Nat.add_zero, rd_at, rd_at0, set_at, set_at0, List.set_cons_zero, List.set_cons_succ, ne_eq, decide_not, quiet_ext, newOk_some, List.cons_prefix_cons, List.nil_prefix, List.drop_succ_cons, List.drop_zero, List.all_cons, List.all_nil, Bool.and_true, true_and, and_true, h1', wi_add (show a + i < 9223372036854775808 by omega), ea, hx, eb, hst, wi_succ (show i + 1 < 9223372036854775808 by omega)]
    exact ih

/-- What is cut out of a block. -/
def cutB (l : List UInt8) (a n : Int) : List UInt8 := if 0 ≤ a then (l.drop a.toNat).take n.toNat else []

theorem rows_zero (n : Nat) : rows [Cell.i .u8 0] n = encB (zeros n) := by
  unfold rows zeros
  induction n with
  | zero => rfl
  | succ n ih => rw [List.replicate_succ, List.flatten_cons, ih, List.replicate_succ]; rfl

theorem num_Cut_run {l : List UInt8} {g : Heap} (hl : l.length = 256) {a n : Int} :
    ∃ v g', R_num_Cut ((min n (256 - a)).toNat + 1) [.a (encB l), .c (.i .i64 a), .c (.i .i64 n)] g = some (v, g') ∧ Out g.length g' v 1 (cutB l a n).length (encB (cutB l a n)) := by
  have hle : (encB l).length = 256 := by rw [encB_length, hl]
  rw [R_num_Cut_eq]
  unfold cutB
  by_cases c1 : a < 0
  · rw [if_neg (by omega)]
    exact ⟨_, _, by simp only [afAddr_p, List.append_nil, if_true, if_false, bnd_some, mp_some, cnd_t, cnd_f, gd_no, gd_tt, gd_tf, gd_ft, gd_ff, alenS_s, alen_sl, alen_ns, abin_add, abin_sub, abin_mul, abin_eql, abin_neq, abin_lss, abin_leq, abin_gtr, abin_geq, abin_seql, abin_sneq, abin_slss, aun_not, aun_neg, agn_some, aeqN_nf, aeqN_f, aeqN_np, aeqN_p, anilc_p, aeqB_t, aeqB_f, aconv_i, apick_b, cond_true, cond_false, decide_true, decide_false, Bool.not_true, Bool.not_false, aext_t, ofPart_c, ofPart_a, part?_c, part?_a, cells?_c, cells?_a, tupN_2, tupN_3, Option.map_some, Option.some.injEq, List.getElem?_cons_zero, List.getElem?_cons_succ, not_true_eq_false, not_false_eq_true, quiet_same, bytesI_length, Option.join_some, List.append_assoc, List.cons_append, List.nil_append, List.length_append, List.length_cons, List.length_nil, Nat.zero_add, Nat.add_zero, rd_at, rd_at0, set_at, set_at0, List.set_cons_zero, List.set_cons_succ, ne_eq, decide_not, quiet_ext, newOk_some, List.cons_prefix_cons, List.nil_prefix, List.drop_succ_cons, List.drop_zero, List.all_cons, List.all_nil, Bool.and_true, true_and, and_true, c1]; rfl, by simp [encB_length], _, rfl, by simp, by simp; rfl⟩
  · rw [if_pos (by omega)]
    by_cases c2 : 256 ≤ a
    · have e : l.drop a.toNat = [] := List.drop_of_length_le (by omega)
      rw [e, List.take_nil]
      exact ⟨_, _, by simp only [afAddr_p, List.append_nil, if_true, if_false, bnd_some, mp_some, cnd_t, cnd_f, gd_no, gd_tt, gd_tf, gd_ft, gd_ff, alenS_s, alen_sl, alen_ns, abin_add, abin_sub, abin_mul, abin_eql, abin_neq, abin_lss, abin_leq, abin_gtr, abin_geq, abin_seql, abin_sneq, abin_slss, aun_not, aun_neg, agn_some, aeqN_nf, aeqN_f, aeqN_np, aeqN_p, anilc_p, aeqB_t, aeqB_f, aconv_i, apick_b, cond_true, cond_false, decide_true, decide_false, Bool.not_true, Bool.not_false, aext_t, ofPart_c, ofPart_a, part?_c, part?_a, cells?_c, cells?_a, tupN_2, tupN_3, Option.map_some, Option.some.injEq, List.getElem?_cons_zero, List.getElem?_cons_succ, not_true_eq_false, not_false_eq_true, quiet_same, bytesI_length, Option.join_some, List.append_assoc, List.cons_append, List.nil_append, List.length_append, List.length_cons, List.length_nil, Nat.zero_add, Nat.add_zero, rd_at, rd_at0, set_at, set_at0, List.set_cons_zero, List.set_cons_succ, ne_eq, decide_not, quiet_ext, newOk_some, List.cons_prefix_cons, List.nil_prefix, List.drop_succ_cons, List.drop_zero, List.all_cons, List.all_nil, Bool.and_true, true_and, and_true, c1, c2]; rfl, by simp [encB_length], _, rfl, by simp, by simp; rfl⟩
    · by_cases c3 : n < 1
      · have e : n.toNat = 0 := by omega
        rw [e]
        exact ⟨_, _, by simp only [afAddr_p, List.append_nil, if_true, if_false, bnd_some, mp_some, cnd_t, cnd_f, gd_no, gd_tt, gd_tf, gd_ft, gd_ff, alenS_s, alen_sl, alen_ns, abin_add, abin_sub, abin_mul, abin_eql, abin_neq, abin_lss, abin_leq, abin_gtr, abin_geq, abin_seql, abin_sneq, abin_slss, aun_not, aun_neg, agn_some, aeqN_nf, aeqN_f, aeqN_np, aeqN_p, anilc_p, aeqB_t, aeqB_f, aconv_i, apick_b, cond_true, cond_false, decide_true, decide_false, Bool.not_true, Bool.not_false, aext_t, ofPart_c, ofPart_a, part?_c, part?_a, cells?_c, cells?_a, tupN_2, tupN_3, Option.map_some, Option.some.injEq, List.getElem?_cons_zero, List.getElem?_cons_succ, not_true_eq_false, not_false_eq_true, quiet_same, bytesI_length, Option.join_some, List.append_assoc, List.cons_append, List.nil_append, List.length_append, List.length_cons, List.length_nil, Nat.zero_add, Nat.add_zero, rd_at, rd_at0, set_at, set_at0, List.set_cons_zero, List.set_cons_succ, ne_eq, decide_not, quiet_ext, newOk_some, List.cons_prefix_cons, List.nil_prefix, List.drop_succ_cons, List.drop_zero, List.all_cons, List.all_nil, Bool.and_true, true_and, and_true, c1, c2, c3]; rfl, by simp [encB_length], _, rfl, by simp, by simp; rfl⟩
      · have e1 : IntKind.wrap .i64 (256 - a) = 256 - a := wrap_i64 (by omega) (by omega)
        have e2 : amin (.c (.i .i64 n)) (.c (.i .i64 (256 - a))) = some (.c (.i .i64 ((min n (256 - a)).toNat : Nat))) := by
          simp only [amin]
          congr 3
          by_cases h : 256 - a < n
          · rw [if_pos h]; omega
          · rw [if_neg h]; omega
        generalize hN : (min n (256 - a)).toNat = N at *
        have e3 : amkn (.c (.i .i64 (N : Int))) (.c (.i .i64 (N : Int))) = some N := by
          have : nat? (.c (.i .i64 (N : Int))) = some N := by simp only [nat?]; rw [if_pos (by omega)]; simp
          simp [amkn, this]
        have e4 : (l.drop a.toNat).take n.toNat = (l.drop a.toNat).take N := by
          by_cases h : 256 - a < n
          · rw [List.take_of_length_le (by simp; omega), List.take_of_length_le (by simp; omega)]
          · have : n.toNat = N := by omega
            rw [this]
        have e5 : ((l.drop a.toNat).take N).length = N := by simp; omega
        rw [e4, e5]
        have := num_Cut_loop (h := g) (b := 0) (id := 0) (a := a.toNat) (n := N) (k := N + 1) (by omega) hl N 0 (N + 1) (by omega) (by omega)
        simp only [show ((a.toNat : Nat) : Int) = a by omega, List.take_zero, List.nil_append, Nat.sub_zero] at this
        exact ⟨_, _, by simp only [afAddr_p, List.append_nil, if_true, if_false, bnd_some, mp_some, cnd_t, cnd_f, gd_no, gd_tt, gd_tf, gd_ft, gd_ff, alenS_s, alen_sl, alen_ns, abin_add, abin_sub, abin_mul, abin_eql, abin_neq, abin_lss, abin_leq, abin_gtr, abin_geq, abin_seql, abin_sneq, abin_slss, aun_not, aun_neg, agn_some, aeqN_nf, aeqN_f, aeqN_np, aeqN_p, anilc_p, aeqB_t, aeqB_f, aconv_i, apick_b, cond_true, cond_false, decide_true, decide_false, Bool.not_true, Bool.not_false, aext_t, ofPart_c, ofPart_a, part?_c, part?_a, cells?_c, cells?_a, tupN_2, tupN_3, Option.map_some, Option.some.injEq, List.getElem?_cons_zero, List.getElem?_cons_succ, not_true_eq_false, not_false_eq_true, quiet_same, bytesI_length, Option.join_some, List.append_assoc, List.cons_append, List.nil_append, List.length_append, List.length_cons, List.length_nil, Nat.zero_add, Nat.add_zero, rd_at, rd_at0, set_at, set_at0, List.set_cons_zero, List.set_cons_succ, ne_eq, decide_not, quiet_ext, newOk_some, List.cons_prefix_cons, List.nil_prefix, List.drop_succ_cons, List.drop_zero, List.all_cons, List.all_nil, Bool.and_true, true_and, and_true, c1, c2, c3, e1, e2, e3, rows_zero]; exact this, by simp [encB_length, e5], _, rfl, by omega, by simp⟩

theorem num_Cut_eq {l : List UInt8} {h : Heap} (hl : l.length = 256) {a n : Int} :
    S_num_Cut [.a (encB l), .c (.i .i64 a), .c (.i .i64 n)] h = some (.c (.sl h.length 0 (cutB l a n).length 1), h ++ [some ⟨encB (cutB l a n), true⟩]) := by
  obtain ⟨v, g, e, ho⟩ := num_Cut_run (g := ro h) hl (a := a) (n := n)
  exact S_num_Cut_out e (by simpa [ro_length] using ho) (by simp)

theorem num_Lay_loop {v : Val} {nv : Nat} {data l : List UInt8} {z : List Cell} {h : Heap} (hv : Has h v 1 nv (encB data)) {a k : Nat} (ha : a < 256) (hl : l.length = 256) (hz : z.length = 256) (hd : data.length < 9223372036854775808) : ∀ d i m, i + d = data.length → d < m → i ≤ 256 - a →
    num_Lay_l0 k m (.c (.i .i64 a)) (.c (.p h.length 0)) (.c (.p (h.length + 1) 0)) v (.c (.i .i64 data.length)) (.c (.i .i64 i)) (h ++ [some ⟨encB (layB l a (data.take i)), true⟩, some ⟨z, true⟩]) =
      some (.a (encB (layB l a (data.take (256 - a)))), h ++ [some ⟨encB (layB l a (data.take (256 - a))), true⟩, some ⟨encB (layB l a (data.take (256 - a))), true⟩])
  | d, i, 0, _, hm, _ => by omega
  | d, i, m + 1, hi, hm, hia => by
    have hll : ∀ i, i ≤ 256 - a → (encB (layB l a (data.take i))).length = 256 := fun i hi => by rw [encB_length, layB_length (by simp; omega), hl]
    have fin : data.take i = data.take (256 - a) → num_Lay_j0 k (.c (.p h.length 0)) (.c (.p (h.length + 1) 0)) (h ++ [some ⟨encB (layB l a (data.take i)), true⟩, some ⟨z, true⟩]) =
      some (.a (encB (layB l a (data.take (256 - a)))), h ++ [some ⟨encB (layB l a (data.take (256 - a))), true⟩, some ⟨encB (layB l a (data.take (256 - a))), true⟩]) := fun e => by
      rw [e]
      have hle := hll (256 - a) (Nat.le_refl _)
      have s1 := loadAll (h := h ++ [some ⟨encB (layB l a (data.take (256 - a))), true⟩, some ⟨z, true⟩]) (id := h.length) (cs := encB (layB l a (data.take (256 - a)))) (by simp) hle
      have s2 := storeAll (h := h ++ [some ⟨encB (layB l a (data.take (256 - a))), true⟩, some ⟨z, true⟩]) (id := h.length + 1) (cs := z) (xs := encB (layB l a (data.take (256 - a)))) (by simp) hz hle
      have s3 := loadAll (h := h ++ [some ⟨encB (layB l a (data.take (256 - a))), true⟩, some ⟨encB (layB l a (data.take (256 - a))), true⟩]) (id := h.length + 1) (cs := encB (layB l a (data.take (256 - a)))) (by simp) hle
      rw [num_Lay_j0_eq]
      simp only [afAddr_p, List.append_nil, if_true, if_false, bnd_some, mp_some, cnd_t, cnd_f, gd_no, gd_tt, gd_tf, gd_ft, gd_ff, alenS_s, alen_sl, alen_ns, abin_add, abin_sub, abin_mul, abin_eql, abin_neq, abin_lss, abin_leq, abin_gtr, abin_geq, abin_seql, abin_sneq, abin_slss, aun_not, aun_neg, agn_some, aeqN_nf, aeqN_f, aeqN_np, aeqN_p, anilc_p, aeqB_t, aeqB_f, aconv_i, apick_b, cond_true, cond_false, decide_true, decide_false, Bool.not_true, Bool.not_false, aext_t, ofPart_c, ofPart_a, part?_c, part?_a, cells?_c, cells?_a, tupN_2, tupN_3, Option.map_some, Option.some.injEq, List.getElem?_cons_zero, List.getElem?_cons_succ, not_true_eq_false, not_false_eq_true, quiet_same, bytesI_length, Option.join_some, List.append_assoc, List.cons_append, List.nil_append, List.length_append, List.length_cons, List.length_nil, Nat.zero_add, Nat.add_zero, rd_at, rd_at0, set_at, set_at0, List.set_cons_zero, List.set_cons_succ, ne_eq, decide_not, quiet_ext, newOk_some, List.cons_prefix_cons, List.nil_prefix, List.drop_succ_cons, List.drop_zero, List.all_cons, List.all_nil, Bool.and_true, true_and, and_true, s1, s2, s3]
    rw [num_Lay_l0_eq]
    by_cases c1 : i < data.length
    · obtain ⟨d, rfl⟩ : ∃ e, d = e + 1 := ⟨d - 1, by omega⟩
      have hnv : data.length = nv := by simpa [encB_length] using hv.length
      obtain ⟨id, off, rfl, hid, h1, h2⟩ := (hv.more [some ⟨encB (layB l a (data.take i)), true⟩, some ⟨z, true⟩]).sl (by omega)
      have hx := h1 i (.i .u8 data[i].toNat) (by rw [encB_get, List.getElem?_eq_getElem (by omega)]; rfl)
      have eb : aiAddrL 1 (.c (.sl id off nv 1)) (.c (.i .i64 (i : Int))) = some (.c (.p id (off + i))) := by rw [iAddrL_of (by omega)]; simp
      have e1 : IntKind.wrap .i64 (256 - (a : Int)) = 256 - a := wrap_i64 (by omega) (by omega)
      have c1' : (i : Int) < data.length := by omega
      by_cases c2 : 256 - a ≤ i
      · have c2' : (256 : Int) - a ≤ i := by omega
        simp only [afAddr_p, List.append_nil, if_true, if_false, bnd_some, mp_some, cnd_t, cnd_f, gd_no, gd_tt, gd_tf, gd_ft, gd_ff, alenS_s, alen_sl, alen_ns, abin_add, abin_sub, abin_mul, abin_eql, abin_neq, abin_lss, abin_leq, abin_gtr, abin_geq, abin_seql, abin_sneq, abin_slss, aun_not, aun_neg, agn_some, aeqN_nf, aeqN_f, aeqN_np, aeqN_p, anilc_p, aeqB_t, aeqB_f, aconv_i, apick_b, cond_true, cond_false, decide_true, decide_false, Bool.not_true, Bool.not_false, aext_t, ofPart_c, ofPart_a, part?_c, part?_a, cells?_c, cells?_a, tupN_2, tupN_3, Option.map_some, Option.some.injEq, List.getElem?_cons_zero, List.getElem?_cons_succ, not_true_eq_false, not_false_eq_true, quiet_same, bytesI_length, Option.join_some, List.append_assoc, List.cons_append, List.nil_append, List.length_append, List.length_cons, List.length_nil, Nat.zero_add, Nat.add_zero, rd_at, rd_at0, set_at, set_at0, List.set_cons_zero, List.set_cons_succ, ne_eq, decide_not, quiet_ext, newOk_some, List.cons_prefix_cons, List.nil_prefix, List.drop_succ_cons, List.drop_zero, List.all_cons, List.all_nil, Bool.and_true, true_and, and_true, c1', eb, hx, e1, c2']
        exact fin (by rw [show i = 256 - a by omega])
      · have c2' : ¬ (256 : Int) - a ≤ i := by omega
        have ih := num_Lay_loop hv (l := l) (z := z) (k := k) ha hl hz hd d (i + 1) m (by omega) (by omega) (by omega)
        have ea : aiAddrA 256 1 (.c (.p h.length 0)) (.c (.i .i64 ((a + i : Nat) : Int))) = some (.c (.p h.length (a + i))) := by rw [iAddrA_of (by omega)]; simp
        have hst := store1_of (h := h ++ [some ⟨encB (layB l a (data.take i)), true⟩, some ⟨z, true⟩]) (id := h.length) (off := a + i) (cs := encB (layB l a (data.take i))) (x := .i .u8 data[i].toNat) (by simp)
          (by rw [hll i hia]; omega)
        have e5 : (layB l a (data.take i)).set (a + i) data[i] = layB l a (data.take (i + 1)) := by
          have := layB_snoc (l := l) (xs := data.take i) (a := a) (x := data[i]) (by simp; omega)
          rw [List.length_take, Nat.min_eq_left (by omega)] at this
          rw [this, List.take_succ_eq_append_getElem c1]
        rw [encB_set, e5] at hst
        simp only [afAddr_p, List.append_nil, if_true, if_false, bnd_some, mp_some, cnd_t, cnd_f, gd_no, gd_tt, gd_tf, gd_ft, gd_ff, alenS_s, alen_sl, alen_ns, abin_add, abin_sub, abin_mul, abin_eql, abin_neq, abin_lss, abin_leq, abin_gtr, abin_geq, abin_seql, abin_sneq, abin_slss, aun_not, aun_neg, agn_some, aeqN_nf, aeqN_f, aeqN_np, aeqN_p, anilc_p, aeqB_t, aeqB_f, aconv_i, apick_b, cond_true, cond_false, decide_true, decide_false, Bool.not_true, Bool.not_false, aext_t, ofPart_c, ofPart_a, part?_c, part?_a, cells?_c, cells?_a, tupN_2, tupN_3, Option.map_some, Option.some.injEq, List.getElem?_cons_zero, List.getElem?_cons_succ, not_true_eq_false, not_false_eq_true, quiet_same, bytesI_length, Option.join_some, List.append_assoc, List.cons_append, List.nil_append, List.length_append, List.length_cons, List.length_nil, Nat.zero_add, Nat.add_zero, rd_at, rd_at0, set_at, set_at0, List.set_cons_zero, List.set_cons_succ, ne_eq, decide_not, quiet_ext, newOk_some, List.cons_prefix_cons, List.nil_prefix, List.drop_succ_cons, List.drop_zero, List.all_cons, List.all_nil, Bool.and_true, true_and, and_true, c1', eb, hx, e1, c2', wi_add (show a + i < 9223372036854775808 by omega), ea, hst, wi_succ (show i + 1 < 9223372036854775808 by omega)]
        exact ih
    · have c1' : ¬ (i : Int) < data.length := by omega
      simp only [afAddr_p, List.append_nil, if_true, if_false, bnd_some, mp_some, cnd_t, cnd_f, gd_no, gd_tt, gd_tf, gd_ft, gd_ff, alenS_s, alen_sl, alen_ns, abin_add, abin_sub, abin_mul, abin_eql, abin_neq, abin_lss, abin_leq, abin_gtr, abin_geq, abin_seql, abin_sneq, abin_slss, aun_not, aun_neg, agn_some, aeqN_nf, aeqN_f, aeqN_np, aeqN_p, anilc_p, aeqB_t, aeqB_f, aconv_i, apick_b, cond_true, cond_false, decide_true, decide_false, Bool.not_true, Bool.not_false, aext_t, ofPart_c, ofPart_a, part?_c, part?_a, cells?_c, cells?_a, tupN_2, tupN_3, Option.map_some, Option.some.injEq, List.getElem?_cons_zero, List.getElem?_cons_succ, not_true_eq_false, not_false_eq_true, quiet_same, bytesI_length, Option.join_some, List.append_assoc, List.cons_append, List.nil_append, List.length_append, List.length_cons, List.length_nil, Nat.zero_add, Nat.add_zero, rd_at, rd_at0, set_at, set_at0, List.set_cons_zero, List.set_cons_succ, ne_eq, decide_not, quiet_ext, newOk_some, List.cons_prefix_cons, List.nil_prefix, List.drop_succ_cons, List.drop_zero, List.all_cons, List.all_nil, Bool.and_true, true_and, and_true, c1']
      exact fin (by rw [List.take_of_length_le (by omega), List.take_of_length_le (by omega)])

/-- A block with bytes laid from a place on, as far as it goes. -/
def layI (l : List UInt8) (a : Int) (data : List UInt8) : List UInt8 := if 0 ≤ a ∧ a < 256 then layB l a.toNat (data.take (256 - a.toNat)) else l

theorem layI_length {l : List UInt8} {a : Int} {data : List UInt8} (hl : l.length = 256) : (layI l a data).length = 256 := by
  unfold layI
  split
  · rw [layB_length (by simp; omega), hl]
  · exact hl

theorem num_Lay_run {v : Val} {nv : Nat} {data l : List UInt8} {g : Heap} (hv : Has g v 1 nv (encB data)) (hl : l.length = 256) (hd : data.length < 9223372036854775808) {a : Int} :
    ∃ g', R_num_Lay (data.length + 1) [.a (encB l), .c (.i .i64 a), v] g = some (.a (encB (layI l a data)), g') := by
  have hle : (encB l).length = 256 := by rw [encB_length, hl]
  have hz : (List.replicate 256 (Cell.i .u8 0)).length = 256 := List.length_replicate
  have hnv : data.length = nv := by simpa [encB_length] using hv.length
  rw [R_num_Lay_eq]
  generalize List.replicate 256 (Cell.i .u8 0) = z at *
  have s1 := loadAll (h := g ++ [some ⟨encB l, true⟩, some ⟨z, true⟩]) (id := g.length) (cs := encB l) (n := 256) (by simp) hle
  have s2 := storeAll (h := g ++ [some ⟨encB l, true⟩, some ⟨z, true⟩]) (id := g.length + 1) (cs := z) (xs := encB l) (by simp) hz hle
  have s3 := loadAll (h := g ++ [some ⟨encB l, true⟩, some ⟨encB l, true⟩]) (id := g.length + 1) (cs := encB l) (n := 256) (by simp) hle
  unfold layI
  by_cases c1 : a < 0
  · rw [if_neg (by omega)]
    exact ⟨_, by simp only [afAddr_p, List.append_nil, if_true, if_false, bnd_some, mp_some, cnd_t, cnd_f, gd_no, gd_tt, gd_tf, gd_ft, gd_ff, alenS_s, alen_sl, alen_ns, abin_add, abin_sub, abin_mul, abin_eql, abin_neq, abin_lss, abin_leq, abin_gtr, abin_geq, abin_seql, abin_sneq, abin_slss, aun_not, aun_neg, agn_some, aeqN_nf, aeqN_f, aeqN_np, aeqN_p, anilc_p, aeqB_t, aeqB_f, aconv_i, apick_b, cond_true, cond_false, decide_true, decide_false, Bool.not_true, Bool.not_false, aext_t, ofPart_c, ofPart_a, part?_c, part?_a, cells?_c, cells?_a, tupN_2, tupN_3, Option.map_some, Option.some.injEq, List.getElem?_cons_zero, List.getElem?_cons_succ, not_true_eq_false, not_false_eq_true, quiet_same, bytesI_length, Option.join_some, List.append_assoc, List.cons_append, List.nil_append, List.length_append, List.length_cons, List.length_nil, Nat.zero_add, Nat.add_zero, rd_at, rd_at0, set_at, set_at0, List.set_cons_zero, List.set_cons_succ, ne_eq, decide_not, quiet_ext, newOk_some, List.cons_prefix_cons, List.nil_prefix, List.drop_succ_cons, List.drop_zero, List.all_cons, List.all_nil, Bool.and_true, true_and, and_true, c1, s1, s2, s3]; rfl⟩
  · by_cases c2 : 256 ≤ a
    · rw [if_neg (by omega)]
      exact ⟨_, by simp only [afAddr_p, List.append_nil, if_true, if_false, bnd_some, mp_some, cnd_t, cnd_f, gd_no, gd_tt, gd_tf, gd_ft, gd_ff, alenS_s, alen_sl, alen_ns, abin_add, abin_sub, abin_mul, abin_eql, abin_neq, abin_lss, abin_leq, abin_gtr, abin_geq, abin_seql, abin_sneq, abin_slss, aun_not, aun_neg, agn_some, aeqN_nf, aeqN_f, aeqN_np, aeqN_p, anilc_p, aeqB_t, aeqB_f, aconv_i, apick_b, cond_true, cond_false, decide_true, decide_false, Bool.not_true, Bool.not_false, aext_t, ofPart_c, ofPart_a, part?_c, part?_a, cells?_c, cells?_a, tupN_2, tupN_3, Option.map_some, Option.some.injEq, List.getElem?_cons_zero, List.getElem?_cons_succ, not_true_eq_false, not_false_eq_true, quiet_same, bytesI_length, Option.join_some, List.append_assoc, List.cons_append, List.nil_append, List.length_append, List.length_cons, List.length_nil, Nat.zero_add, Nat.add_zero, rd_at, rd_at0, set_at, set_at0, List.set_cons_zero, List.set_cons_succ, ne_eq, decide_not, quiet_ext, newOk_some, List.cons_prefix_cons, List.nil_prefix, List.drop_succ_cons, List.drop_zero, List.all_cons, List.all_nil, Bool.and_true, true_and, and_true, c1, c2, s1, s2, s3]; rfl⟩
    · rw [if_pos (by omega)]
      have := num_Lay_loop hv (l := l) (a := a.toNat) (k := data.length + 1) (z := z) (by omega) hl hz hd data.length 0 (data.length + 1) (by omega) (by omega) (by omega)
      simp only [show ((a.toNat : Nat) : Int) = a by omega, List.take_zero, layB_nil] at this
      exact ⟨_, by simp only [afAddr_p, List.append_nil, if_true, if_false, bnd_some, mp_some, cnd_t, cnd_f, gd_no, gd_tt, gd_tf, gd_ft, gd_ff, alenS_s, alen_sl, alen_ns, abin_add, abin_sub, abin_mul, abin_eql, abin_neq, abin_lss, abin_leq, abin_gtr, abin_geq, abin_seql, abin_sneq, abin_slss, aun_not, aun_neg, agn_some, aeqN_nf, aeqN_f, aeqN_np, aeqN_p, anilc_p, aeqB_t, aeqB_f, aconv_i, apick_b, cond_true, cond_false, decide_true, decide_false, Bool.not_true, Bool.not_false, aext_t, ofPart_c, ofPart_a, part?_c, part?_a, cells?_c, cells?_a, tupN_2, tupN_3, Option.map_some, Option.some.injEq, List.getElem?_cons_zero, List.getElem?_cons_succ, not_true_eq_false, not_false_eq_true, quiet_same, bytesI_length, Option.join_some, List.append_assoc, List.cons_append, List.nil_append, List.length_append, List.length_cons, List.length_nil, Nat.zero_add, Nat.add_zero, rd_at, rd_at0, set_at, set_at0, List.set_cons_zero, List.set_cons_succ, ne_eq, decide_not, quiet_ext, newOk_some, List.cons_prefix_cons, List.nil_prefix, List.drop_succ_cons, List.drop_zero, List.all_cons, List.all_nil, Bool.and_true, true_and, and_true, c1, c2, hv.len, ← hnv]; exact this⟩

theorem num_Lay_eq {v : Val} {nv : Nat} {data l : List UInt8} {h : Heap} (hv : Has h v 1 nv (encB data)) (hl : l.length = 256) (hd : data.length < 9223372036854775808) {a : Int} :
    S_num_Lay [.a (encB l), .c (.i .i64 a), v] h = some (.a (encB (layI l a data)), h) := by
  obtain ⟨g, e⟩ := num_Lay_run hv.ro hl hd (a := a)
  exact S_num_Lay_flat e (by simp)

theorem num_Of_eq {v : Val} {nv : Nat} {data : List UInt8} {h : Heap} (hv : Has h v 1 nv (encB data)) (hd : data.length < 9223372036854775808) :
    S_num_Of [v] h = some (.a (encB (layI (zeros 256) 0 data)), h) := by
  have key : ∀ g, Has g v 1 nv (encB data) → ∃ g', R_num_Of 0 [v] g = some (.a (encB (layI (zeros 256) 0 data)), g') := by
    intro g hv
    rw [R_num_Of_eq]
    have hz : (encB (zeros 256)).length = 256 := by rw [encB_length]; exact zeros_length
    have hz0 : (zeros 256).length = 256 := zeros_length
    rw [zeros_enc]
    generalize zeros 256 = Z at *
    have e := num_Lay_eq (hv.more [some ⟨encB Z, true⟩]) hz0 hd (a := 0)
    have hl2 : (encB (layI Z 0 data)).length = 256 := by rw [encB_length, layI_length hz0]
    have s2 := storeAll (h := g ++ [some ⟨encB Z, true⟩]) (id := g.length) (cs := encB Z) (xs := encB (layI Z 0 data)) (by simp) hz hl2
    have s3 := loadAll (h := g ++ [some ⟨encB (layI Z 0 data), true⟩]) (id := g.length) (cs := encB (layI Z 0 data)) (n := 256) (by simp) hl2
    exact ⟨_, by simp only [afAddr_p, List.append_nil, if_true, if_false, bnd_some, mp_some, cnd_t, cnd_f, gd_no, gd_tt, gd_tf, gd_ft, gd_ff, alenS_s, alen_sl, alen_ns, abin_add, abin_sub, abin_mul, abin_eql, abin_neq, abin_lss, abin_leq, abin_gtr, abin_geq, abin_seql, abin_sneq, abin_slss, aun_not, aun_neg, agn_some, aeqN_nf, aeqN_f, aeqN_np, aeqN_p, anilc_p, aeqB_t, aeqB_f, aconv_i, apick_b, cond_true, cond_false, decide_true, decide_false, Bool.not_true, Bool.not_false, aext_t, ofPart_c, ofPart_a, part?_c, part?_a, cells?_c, cells?_a, tupN_2, tupN_3, Option.map_some, Option.some.injEq, List.getElem?_cons_zero, List.getElem?_cons_succ, not_true_eq_false, not_false_eq_true, quiet_same, bytesI_length, Option.join_some, List.append_assoc, List.cons_append, List.nil_append, List.length_append, List.length_cons, List.length_nil, Nat.zero_add, Nat.add_zero, rd_at, rd_at0, set_at, set_at0, List.set_cons_zero, List.set_cons_succ, ne_eq, decide_not, quiet_ext, newOk_some, List.cons_prefix_cons, List.nil_prefix, List.drop_succ_cons, List.drop_zero, List.all_cons, List.all_nil, Bool.and_true, true_and, and_true, afill, e, s2, s3]; rfl⟩
  obtain ⟨g, e⟩ := key _ hv.ro
  exact S_num_Of_flat e (by simp)

end Go.Proofs.Ytbbkpmbepljhkaa
