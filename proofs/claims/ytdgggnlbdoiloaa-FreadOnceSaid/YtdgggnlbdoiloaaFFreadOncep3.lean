/- What the proof of this claim leans on, part 3. -/
import Derived.Test.YtdgggnlbdoiloaaFFreadOncep2
set_option linter.all false
section
namespace Go.Proofs.Ytdgggnlbdoiloaa
open Go Go.Esc

def thereI (at' width all : Int) : Bool := decide (0 ≤ at') && decide (1 ≤ width) && decide (width ≤ all) && decide (at' ≤ all - width)

theorem thereI_true {a w n : Int} : thereI a w n = true ↔ 0 ≤ a ∧ 1 ≤ w ∧ w ≤ n ∧ a ≤ n - w := by
  unfold thereI; simp [and_assoc]

theorem there_eq {a w n : Int} {h : Heap} (hn : n < 9223372036854775808) :
    S_num_there [.c (.i .i64 a), .c (.i .i64 w), .c (.i .i64 n)] h = some (.c (.b (thereI a w n)), h) := by
  refine S_num_there_flat (n := 0) (h2 := ro h) ?_ rfl
  rw [R_num_there_eq]
  unfold thereI
  by_cases h1 : 0 ≤ a
  · by_cases h2 : 1 ≤ w
    · by_cases h3 : w ≤ n
      · have e : IntKind.wrap .i64 (n - w) = n - w := wrap_i64 (by omega) (by omega)
        simp [h1, h2, h3, e]
      · simp [h1, h2, h3]
    · simp [h1, h2]
  · simp [h1]

def getN (l : List UInt8) (a w : Int) : Option Nat := if w ≤ 8 ∧ thereI a w l.length = true then some (le ((l.drop a.toNat).take w.toNat)) else none

theorem num_At_loop {l : List UInt8} {h : Heap} {a w k : Nat} (hw : w ≤ 4) (haw : a + w ≤ 256) (hl : l.length = 256) : ∀ d i m, i + d = w → d < m →
    num_At_l0 k m (.c (.i .i64 a)) (.c (.p h.length 0)) (.c (.i .i64 (le ((l.drop a).take i)))) (.c (.i .i64 w)) (.c (.i .i64 i)) (h ++ [some ⟨encB l, true⟩]) = some (.c (.i .i64 (le ((l.drop a).take w))), h ++ [some ⟨encB l, true⟩])
  | d, i, 0, _, hm => by omega
  | 0, i, m + 1, hi, hm => by
    have e : i = w := by omega
    subst e
    rw [num_At_l0_eq]
    simp
  | d + 1, i, m + 1, hi, hm => by
    have ih := num_At_loop (h := h) (k := k) hw haw hl d (i + 1) m (by omega) (by omega)
    have hx := load1_of (h := h ++ [some ⟨encB l, true⟩]) (id := h.length) (off := a + i) (c := .i .u8 l[a + i].toNat) rd_new (by rw [encB_get, List.getElem?_eq_getElem (by omega)]; rfl) rfl
    have hb := l[a + i].toNat_lt
    have hlen : ((l.drop a).take i).length = i := by simp; omega
    have hle := le_lt ((l.drop a).take i)
    rw [hlen] at hle
    have hp := pow256_le (show i ≤ 4 by omega)
    have hbp := byte_pow_lt (x := l[a + i]) (show i < 4 by omega)
    have e2 : IntKind.wrap .i64 (8 * (i : Int)) = 8 * i := wrap_i64 (by omega) (by omega)
    have e3 : IntKind.wrap .u64 (8 * (i : Int)) = 8 * i := wrap_u64 (by omega) (by omega)
    have e5 : IntKind.wrap .i64 (l[a + i].toNat : Int) = l[a + i].toNat := wrap_i64 (by omega) (by omega)
    have e6 := shl_step (k := .i64) (x := l[a + i]) (show i < 8 by omega) (wrap_i64 (by omega) (by omega)) rfl
    have e7 : abin .or (.c (.i .i64 (le ((l.drop a).take i) : Nat))) (.c (.i .i64 ((l[a + i].toNat * 256 ^ i : Nat) : Int))) = some (.c (.i .i64 (le ((l.drop a).take (i + 1)) : Nat))) := by
      rw [or_i64 (by omega) (by omega), take_succ_get (by omega), ← or_step, hlen]
    have ea : aiAddrA 256 1 (.c (.p h.length 0)) (.c (.i .i64 ((a + i : Nat) : Int))) = some (.c (.p h.length (a + i))) := by rw [iAddrA_of (by omega)]; simp
    have h1' : (i : Int) < w := by omega
    rw [num_At_l0_eq]
    simp only [esc, h1', wi_add (show a + i < 9223372036854775808 by omega), e2, e3, ea, hx, e5, e6, e7, wi_succ (show i + 1 < 9223372036854775808 by omega)]
    exact ih

def atN (l : List UInt8) (a w : Int) : Nat := if w ≤ 4 ∧ thereI a w 256 = true then le ((l.drop a.toNat).take w.toNat) else 0

theorem num_At_eq {l : List UInt8} {h : Heap} (hl : l.length = 256) {a w : Int} :
    S_num_At [.a (encB l), .c (.i .i64 a), .c (.i .i64 w)] h = some (.c (.i .i64 (atN l a w)), h) := by
  refine S_num_At_flat (n := w.toNat + 1) (h2 := ro h ++ [some ⟨encB l, true⟩]) ?_ (by simp)
  rw [R_num_At_eq]
  unfold atN
  by_cases c1 : 4 < w
  · have c1' : ¬ w ≤ 4 := by omega
    simp [c1, c1']
  · have c1' : w ≤ 4 := by omega
    cases c2 : thereI a w 256 with
    | false => simp [c1, there_eq (show (256 : Int) < 9223372036854775808 by omega), c2]
    | true =>
      simp [c1, c1', there_eq (show (256 : Int) < 9223372036854775808 by omega), c2]
      rw [thereI_true] at c2
      have := num_At_loop (h := ro h) (a := a.toNat) (w := w.toNat) (k := w.toNat + 1) (by omega) (by omega) hl w.toNat 0 (w.toNat + 1) (by omega) (by omega)
      simp only [show ((a.toNat : Nat) : Int) = a by omega, show ((w.toNat : Nat) : Int) = w by omega] at this
      simpa [le] using this

theorem num_With_loop {l : List UInt8} {z : List Cell} {h : Heap} {a w k : Nat} {v : Int} (hw : w ≤ 4) (haw : a + w ≤ 256) (hl : l.length = 256) (hz : z.length = 256) : ∀ d i m, i + d = w → d < m →
    num_With_l0 k m (.c (.i .i64 a)) (.c (.i .i64 v)) (.c (.p h.length 0)) (.c (.p (h.length + 1) 0)) (.c (.i .i64 w)) (.c (.i .i64 i)) (h ++ [some ⟨encB (layB l a (bytesI i v)), true⟩, some ⟨z, true⟩]) =
      some (.a (encB (layB l a (bytesI w v))), h ++ [some ⟨encB (layB l a (bytesI w v)), true⟩, some ⟨encB (layB l a (bytesI w v)), true⟩])
  | d, i, 0, _, hm => by omega
  | 0, i, m + 1, hi, hm => by
    have e : i = w := by omega
    subst e
    have hle : (encB (layB l a (bytesI i v))).length = 256 := by rw [encB_length, layB_length (by simp; omega), hl]
    have s1 := loadAll (h := h ++ [some ⟨encB (layB l a (bytesI i v)), true⟩, some ⟨z, true⟩]) (id := h.length) (cs := encB (layB l a (bytesI i v))) (by simp) hle
    have s2 := storeAll (h := h ++ [some ⟨encB (layB l a (bytesI i v)), true⟩, some ⟨z, true⟩]) (id := h.length + 1) (cs := z) (xs := encB (layB l a (bytesI i v))) (by simp) hz hle
    have s3 := loadAll (h := h ++ [some ⟨encB (layB l a (bytesI i v)), true⟩, some ⟨encB (layB l a (bytesI i v)), true⟩]) (id := h.length + 1) (cs := encB (layB l a (bytesI i v))) (by simp) hle
    have h1' : ¬ (i : Int) < i := by omega
    rw [num_With_l0_eq]
    simp only [esc, h1', s1, s2, s3]
  | d + 1, i, m + 1, hi, hm => by
    have ih := num_With_loop (h := h) (k := k) (v := v) hw haw hl hz d (i + 1) m (by omega) (by omega)
    have e2 : IntKind.wrap .i64 (8 * (i : Int)) = 8 * i := wrap_i64 (by omega) (by omega)
    have e3 : IntKind.wrap .u64 (8 * (i : Int)) = 8 * i := wrap_u64 (by omega) (by omega)
    have e4 : abin .shr (.c (.i .i64 v)) (.c (.i .u64 (8 * (i : Int)))) = some (.c (.i .i64 (v / 2 ^ (Nat.min (8 * (i : Int)).toNat 64)))) := abin_shr (by omega)
    have ea : aiAddrA 256 1 (.c (.p h.length 0)) (.c (.i .i64 ((a + i : Nat) : Int))) = some (.c (.p h.length (a + i))) := by rw [iAddrA_of (by omega)]; simp
    have hst := store1_of (h := h ++ [some ⟨encB (layB l a (bytesI i v)), true⟩, some ⟨z, true⟩]) (id := h.length) (off := a + i) (cs := encB (layB l a (bytesI i v))) (x := .i .u8 (byI v i).toNat) (by simp)
      (by rw [encB_length, layB_length (by simp; omega)]; omega)
    have e5 : (layB l a (bytesI i v)).set (a + i) (byI v i) = layB l a (bytesI (i + 1) v) := by
      rw [bytesI_succ]
      have := layB_snoc (l := l) (xs := bytesI i v) (a := a) (x := byI v i) (by simp; omega)
      simpa using this
    rw [encB_set, e5] at hst
    have h1' : (i : Int) < w := by omega
    rw [num_With_l0_eq]
    simp only [esc, h1', wi_add (show a + i < 9223372036854775808 by omega), e2, e3, e4, byte_step (v := v) (show i < 8 by omega), ea, hst, wi_succ (show i + 1 < 9223372036854775808 by omega)]
    exact ih

def withB (l : List UInt8) (a w v : Int) : List UInt8 := if w ≤ 4 ∧ thereI a w 256 = true then layB l a.toNat (bytesI w.toNat v) else l

theorem num_With_run {l : List UInt8} {g : Heap} (hl : l.length = 256) {a w v : Int} :
    ∃ g', R_num_With (w.toNat + 1) [.a (encB l), .c (.i .i64 a), .c (.i .i64 w), .c (.i .i64 v)] g = some (.a (encB (withB l a w v)), g') := by
  have hle : (encB l).length = 256 := by rw [encB_length, hl]
  have hz : (List.replicate 256 (Cell.i .u8 0)).length = 256 := List.length_replicate
  rw [R_num_With_eq]
  generalize List.replicate 256 (Cell.i .u8 0) = z at *
  have s1 := loadAll (h := g ++ [some ⟨encB l, true⟩, some ⟨z, true⟩]) (id := g.length) (cs := encB l) (n := 256) (by simp) hle
  have s2 := storeAll (h := g ++ [some ⟨encB l, true⟩, some ⟨z, true⟩]) (id := g.length + 1) (cs := z) (xs := encB l) (by simp) hz hle
  have s3 := loadAll (h := g ++ [some ⟨encB l, true⟩, some ⟨encB l, true⟩]) (id := g.length + 1) (cs := encB l) (n := 256) (by simp) hle
  unfold withB
  by_cases c1 : 4 < w
  · rw [if_neg (by omega)]
    exact ⟨_, by simp only [esc, c1, s1, s2, s3]; rfl⟩
  · have c1' : w ≤ 4 := by omega
    cases c2 : thereI a w 256 with
    | false =>
      rw [if_neg (by simp)]
      exact ⟨_, by simp only [esc, c1, there_eq (show (256 : Int) < 9223372036854775808 by omega), c2, s1, s2, s3]; rfl⟩
    | true =>
      rw [if_pos ⟨c1', rfl⟩]
      have c3 := thereI_true.1 c2
      have := num_With_loop (h := g) (a := a.toNat) (w := w.toNat) (k := w.toNat + 1) (v := v) (z := z) (by omega) (by omega) hl hz w.toNat 0 (w.toNat + 1) (by omega) (by omega)
      simp only [show ((a.toNat : Nat) : Int) = a by omega, show ((w.toNat : Nat) : Int) = w by omega, show bytesI 0 v = [] from rfl, layB_nil] at this
      exact ⟨_, by simp only [esc, c1, there_eq (show (256 : Int) < 9223372036854775808 by omega), c2]; exact this⟩

theorem num_With_eq {l : List UInt8} {h : Heap} (hl : l.length = 256) {a w v : Int} :
    S_num_With [.a (encB l), .c (.i .i64 a), .c (.i .i64 w), .c (.i .i64 v)] h = some (.a (encB (withB l a w v)), h) := by
  obtain ⟨g, e⟩ := num_With_run (g := ro h) hl (a := a) (w := w) (v := v)
  exact S_num_With_flat e (by simp)

theorem num_Cut_loop {l : List UInt8} {h : Heap} {b id a n k : Nat} (haw : a + n ≤ 256) (hl : l.length = 256) : ∀ d i m, i + d = n → d < m →
    num_Cut_l0 k m (.c (.i .i64 a)) (.c (.p h.length 0)) (.c (.sl (h.length + 2) 0 n 1)) (.c (.i .i64 n)) (.c (.i .i64 i)) (h ++ [some ⟨encB l, true⟩, some ⟨[], true⟩, some ⟨encB ((l.drop a).take i ++ zeros (n - i)), true⟩]) =
      some (.c (.sl (h.length + 2) 0 n 1), h ++ [some ⟨encB l, true⟩, some ⟨[], true⟩, some ⟨encB ((l.drop a).take n), true⟩])
  | d, i, 0, _, hm => by omega
  | 0, i, m + 1, hi, hm => by
    have e : i = n := by omega
    subst e
    have h1' : ¬ (i : Int) < i := by omega
    rw [num_Cut_l0_eq]
    simp only [esc, h1']
    simp [zeros]
  | d + 1, i, m + 1, hi, hm => by
    have ih := num_Cut_loop (h := h) (b := b) (id := id) (k := k) haw hl d (i + 1) m (by omega) (by omega)
    have ea : aiAddrA 256 1 (.c (.p h.length 0)) (.c (.i .i64 ((a + i : Nat) : Int))) = some (.c (.p h.length (a + i))) := by rw [iAddrA_of (by omega)]; simp
    have eb : aiAddrL 1 (.c (.sl (h.length + 2) 0 n 1)) (.c (.i .i64 (i : Int))) = some (.c (.p (h.length + 2) i)) := by rw [iAddrL_of (by omega)]; simp
    have hx := load1_of (h := h ++ [some ⟨encB l, true⟩, some ⟨[], true⟩, some ⟨encB ((l.drop a).take i ++ zeros (n - i)), true⟩]) (id := h.length) (off := a + i) (c := .i .u8 l[a + i].toNat) (cs := encB l) (rw := true) (by simp) (by rw [encB_get, List.getElem?_eq_getElem (by omega)]; rfl) rfl
    have hst := store1_of (h := h ++ [some ⟨encB l, true⟩, some ⟨[], true⟩, some ⟨encB ((l.drop a).take i ++ zeros (n - i)), true⟩]) (id := h.length + 2) (off := i) (cs := encB ((l.drop a).take i ++ zeros (n - i))) (x := .i .u8 l[a + i].toNat) (by simp)
      (by rw [encB_length]; simp; omega)
    have e5 : ((l.drop a).take i ++ zeros (n - i)).set i l[a + i] = (l.drop a).take (i + 1) ++ zeros (n - (i + 1)) := by
      have hlen : ((l.drop a).take i).length = i := by simp; omega
      rw [List.set_append_right _ _ (by omega), hlen, Nat.sub_self, take_succ_get (by omega), List.append_assoc]
      refine congrArg ((l.drop a).take i ++ ·) ?_
      have : n - i = n - (i + 1) + 1 := by omega
      rw [this]
      unfold zeros
      rw [List.replicate_succ, List.set_cons_zero]; rfl
    rw [encB_set, e5] at hst
    have h1' : (i : Int) < n := by omega
    rw [num_Cut_l0_eq]
    simp only [esc, h1', wi_add (show a + i < 9223372036854775808 by omega), ea, hx, eb, hst, wi_succ (show i + 1 < 9223372036854775808 by omega)]
    exact ih

def cutB (l : List UInt8) (a n : Int) : List UInt8 := if 0 ≤ a then (l.drop a.toNat).take n.toNat else []

theorem rows_zero (n : Nat) : rows [Cell.i .u8 0] n = encB (zeros n) := by
  unfold rows zeros
  induction n with
  | zero => rfl
  | succ n ih => rw [List.replicate_succ, List.flatten_cons, ih, List.replicate_succ]; rfl

theorem num_Cut_run {l : List UInt8} {g : Heap} (hl : l.length = 256) {a n : Int} :
    ∃ v g', R_num_Cut ((min n (256 - a)).toNat + 1) [.a (encB l), .c (.i .i64 a), .c (.i .i64 n)] g = some (v, g') ∧ Out g.length g' v 1 (cutB l a n).length (encB (cutB l a n)) := by
  have hle : (encB l).length = 256 := by rw [encB_length, hl]
  rw [R_num_Cut_eq]
  unfold cutB
  by_cases c1 : a < 0
  · rw [if_neg (by omega)]
    exact ⟨_, _, by simp only [esc, c1]; rfl, by simp [encB_length], _, rfl, by simp, by simp; rfl⟩
  · rw [if_pos (by omega)]
    by_cases c2 : 256 ≤ a
    · have e : l.drop a.toNat = [] := List.drop_of_length_le (by omega)
      rw [e, List.take_nil]
      exact ⟨_, _, by simp only [esc, c1, c2]; rfl, by simp [encB_length], _, rfl, by simp, by simp; rfl⟩
    · by_cases c3 : n < 1
      · have e : n.toNat = 0 := by omega
        rw [e]
        exact ⟨_, _, by simp only [esc, c1, c2, c3]; rfl, by simp [encB_length], _, rfl, by simp, by simp; rfl⟩
      · have e1 : IntKind.wrap .i64 (256 - a) = 256 - a := wrap_i64 (by omega) (by omega)
        have e2 : amin (.c (.i .i64 n)) (.c (.i .i64 (256 - a))) = some (.c (.i .i64 ((min n (256 - a)).toNat : Nat))) := by
          simp only [amin]
          congr 3
          by_cases h : 256 - a < n
          · rw [if_pos h]; omega
          · rw [if_neg h]; omega
        generalize hN : (min n (256 - a)).toNat = N at *
        have e3 : amkn (.c (.i .i64 (N : Int))) (.c (.i .i64 (N : Int))) = some N := by
          have : nat? (.c (.i .i64 (N : Int))) = some N := by simp only [nat?]; rw [if_pos (by omega)]; simp
          simp [amkn, this]
        have e4 : (l.drop a.toNat).take n.toNat = (l.drop a.toNat).take N := by
          by_cases h : 256 - a < n
          · rw [List.take_of_length_le (by simp; omega), List.take_of_length_le (by simp; omega)]
          · have : n.toNat = N := by omega
            rw [this]
        have e5 : ((l.drop a.toNat).take N).length = N := by simp; omega
        rw [e4, e5]
        have := num_Cut_loop (h := g) (b := 0) (id := 0) (a := a.toNat) (n := N) (k := N + 1) (by omega) hl N 0 (N + 1) (by omega) (by omega)
        simp only [show ((a.toNat : Nat) : Int) = a by omega, List.take_zero, List.nil_append, Nat.sub_zero] at this
        exact ⟨_, _, by simp only [esc, c1, c2, c3, e1, e2, e3, rows_zero]; exact this, by simp [encB_length, e5], _, rfl, by omega, by simp⟩

theorem num_Cut_eq {l : List UInt8} {h : Heap} (hl : l.length = 256) {a n : Int} :
    S_num_Cut [.a (encB l), .c (.i .i64 a), .c (.i .i64 n)] h = some (.c (.sl h.length 0 (cutB l a n).length 1), h ++ [some ⟨encB (cutB l a n), true⟩]) := by
  obtain ⟨v, g, e, ho⟩ := num_Cut_run (g := ro h) hl (a := a) (n := n)
  exact S_num_Cut_out e (by simpa [ro_length] using ho) (by simp)

theorem num_Lay_loop {v : Val} {nv : Nat} {data l : List UInt8} {z : List Cell} {h : Heap} (hv : Has h v 1 nv (encB data)) {a k : Nat} (ha : a < 256) (hl : l.length = 256) (hz : z.length = 256) (hd : data.length < 9223372036854775808) : ∀ d i m, i + d = data.length → d < m → i ≤ 256 - a →
    num_Lay_l0 k m (.c (.i .i64 a)) (.c (.p h.length 0)) (.c (.p (h.length + 1) 0)) v (.c (.i .i64 data.length)) (.c (.i .i64 i)) (h ++ [some ⟨encB (layB l a (data.take i)), true⟩, some ⟨z, true⟩]) =
      some (.a (encB (layB l a (data.take (256 - a)))), h ++ [some ⟨encB (layB l a (data.take (256 - a))), true⟩, some ⟨encB (layB l a (data.take (256 - a))), true⟩])
  | d, i, 0, _, hm, _ => by omega
  | d, i, m + 1, hi, hm, hia => by
    have hll : ∀ i, i ≤ 256 - a → (encB (layB l a (data.take i))).length = 256 := fun i hi => by rw [encB_length, layB_length (by simp; omega), hl]
    have fin : data.take i = data.take (256 - a) → num_Lay_j0 k (.c (.p h.length 0)) (.c (.p (h.length + 1) 0)) (h ++ [some ⟨encB (layB l a (data.take i)), true⟩, some ⟨z, true⟩]) =
      some (.a (encB (layB l a (data.take (256 - a)))), h ++ [some ⟨encB (layB l a (data.take (256 - a))), true⟩, some ⟨encB (layB l a (data.take (256 - a))), true⟩]) := fun e => by
      rw [e]
      have hle := hll (256 - a) (Nat.le_refl _)
      have s1 := loadAll (h := h ++ [some ⟨encB (layB l a (data.take (256 - a))), true⟩, some ⟨z, true⟩]) (id := h.length) (cs := encB (layB l a (data.take (256 - a)))) (by simp) hle
      have s2 := storeAll (h := h ++ [some ⟨encB (layB l a (data.take (256 - a))), true⟩, some ⟨z, true⟩]) (id := h.length + 1) (cs := z) (xs := encB (layB l a (data.take (256 - a)))) (by simp) hz hle
      have s3 := loadAll (h := h ++ [some ⟨encB (layB l a (data.take (256 - a))), true⟩, some ⟨encB (layB l a (data.take (256 - a))), true⟩]) (id := h.length + 1) (cs := encB (layB l a (data.take (256 - a)))) (by simp) hle
      rw [num_Lay_j0_eq]
      simp only [esc, s1, s2, s3]
    rw [num_Lay_l0_eq]
    by_cases c1 : i < data.length
    · obtain ⟨d, rfl⟩ : ∃ e, d = e + 1 := ⟨d - 1, by omega⟩
      have hnv : data.length = nv := by simpa [encB_length] using hv.length
      obtain ⟨id, off, rfl, hid, h1, h2⟩ := (hv.more [some ⟨encB (layB l a (data.take i)), true⟩, some ⟨z, true⟩]).sl (by omega)
      have hx := h1 i (.i .u8 data[i].toNat) (by rw [encB_get, List.getElem?_eq_getElem (by omega)]; rfl)
      have eb : aiAddrL 1 (.c (.sl id off nv 1)) (.c (.i .i64 (i : Int))) = some (.c (.p id (off + i))) := by rw [iAddrL_of (by omega)]; simp
      have e1 : IntKind.wrap .i64 (256 - (a : Int)) = 256 - a := wrap_i64 (by omega) (by omega)
      have c1' : (i : Int) < data.length := by omega
      by_cases c2 : 256 - a ≤ i
      · have c2' : (256 : Int) - a ≤ i := by omega
        simp only [esc, c1', eb, hx, e1, c2']
        exact fin (by rw [show i = 256 - a by omega])
      · have c2' : ¬ (256 : Int) - a ≤ i := by omega
        have ih := num_Lay_loop hv (l := l) (z := z) (k := k) ha hl hz hd d (i + 1) m (by omega) (by omega) (by omega)
        have ea : aiAddrA 256 1 (.c (.p h.length 0)) (.c (.i .i64 ((a + i : Nat) : Int))) = some (.c (.p h.length (a + i))) := by rw [iAddrA_of (by omega)]; simp
        have hst := store1_of (h := h ++ [some ⟨encB (layB l a (data.take i)), true⟩, some ⟨z, true⟩]) (id := h.length) (off := a + i) (cs := encB (layB l a (data.take i))) (x := .i .u8 data[i].toNat) (by simp)
          (by rw [hll i hia]; omega)
        have e5 : (layB l a (data.take i)).set (a + i) data[i] = layB l a (data.take (i + 1)) := by
          have := layB_snoc (l := l) (xs := data.take i) (a := a) (x := data[i]) (by simp; omega)
          rw [List.length_take, Nat.min_eq_left (by omega)] at this
          rw [this, List.take_succ_eq_append_getElem c1]
        rw [encB_set, e5] at hst
        simp only [esc, c1', eb, hx, e1, c2', wi_add (show a + i < 9223372036854775808 by omega), ea, hst, wi_succ (show i + 1 < 9223372036854775808 by omega)]
        exact ih
    · have c1' : ¬ (i : Int) < data.length := by omega
      simp only [esc, c1']
      exact fin (by rw [List.take_of_length_le (by omega), List.take_of_length_le (by omega)])

def layI (l : List UInt8) (a : Int) (data : List UInt8) : List UInt8 := if 0 ≤ a ∧ a < 256 then layB l a.toNat (data.take (256 - a.toNat)) else l

theorem layI_length {l : List UInt8} {a : Int} {data : List UInt8} (hl : l.length = 256) : (layI l a data).length = 256 := by
  unfold layI
  split
  · rw [layB_length (by simp; omega), hl]
  · exact hl

theorem num_Lay_run {v : Val} {nv : Nat} {data l : List UInt8} {g : Heap} (hv : Has g v 1 nv (encB data)) (hl : l.length = 256) (hd : data.length < 9223372036854775808) {a : Int} :
    ∃ g', R_num_Lay (data.length + 1) [.a (encB l), .c (.i .i64 a), v] g = some (.a (encB (layI l a data)), g') := by
  have hle : (encB l).length = 256 := by rw [encB_length, hl]
  have hz : (List.replicate 256 (Cell.i .u8 0)).length = 256 := List.length_replicate
  have hnv : data.length = nv := by simpa [encB_length] using hv.length
  rw [R_num_Lay_eq]
  generalize List.replicate 256 (Cell.i .u8 0) = z at *
  have s1 := loadAll (h := g ++ [some ⟨encB l, true⟩, some ⟨z, true⟩]) (id := g.length) (cs := encB l) (n := 256) (by simp) hle
  have s2 := storeAll (h := g ++ [some ⟨encB l, true⟩, some ⟨z, true⟩]) (id := g.length + 1) (cs := z) (xs := encB l) (by simp) hz hle
  have s3 := loadAll (h := g ++ [some ⟨encB l, true⟩, some ⟨encB l, true⟩]) (id := g.length + 1) (cs := encB l) (n := 256) (by simp) hle
  unfold layI
  by_cases c1 : a < 0
  · rw [if_neg (by omega)]
    exact ⟨_, by simp only [esc, c1, s1, s2, s3]; rfl⟩
  · by_cases c2 : 256 ≤ a
    · rw [if_neg (by omega)]
      exact ⟨_, by simp only [esc, c1, c2, s1, s2, s3]; rfl⟩
    · rw [if_pos (by omega)]
      have := num_Lay_loop hv (l := l) (a := a.toNat) (k := data.length + 1) (z := z) (by omega) hl hz hd data.length 0 (data.length + 1) (by omega) (by omega) (by omega)
      simp only [show ((a.toNat : Nat) : Int) = a by omega, List.take_zero, layB_nil] at this
      exact ⟨_, by simp only [esc, c1, c2, hv.len, ← hnv]; exact this⟩

theorem num_Lay_eq {v : Val} {nv : Nat} {data l : List UInt8} {h : Heap} (hv : Has h v 1 nv (encB data)) (hl : l.length = 256) (hd : data.length < 9223372036854775808) {a : Int} :
    S_num_Lay [.a (encB l), .c (.i .i64 a), v] h = some (.a (encB (layI l a data)), h) := by
  obtain ⟨g, e⟩ := num_Lay_run hv.ro hl hd (a := a)
  exact S_num_Lay_flat e (by simp)

theorem num_Of_eq {v : Val} {nv : Nat} {data : List UInt8} {h : Heap} (hv : Has h v 1 nv (encB data)) (hd : data.length < 9223372036854775808) :
    S_num_Of [v] h = some (.a (encB (layI (zeros 256) 0 data)), h) := by
  have key : ∀ g, Has g v 1 nv (encB data) → ∃ g', R_num_Of 0 [v] g = some (.a (encB (layI (zeros 256) 0 data)), g') := by
    intro g hv
    rw [R_num_Of_eq]
    have hz : (encB (zeros 256)).length = 256 := by rw [encB_length]; exact zeros_length
    have hz0 : (zeros 256).length = 256 := zeros_length
    rw [zeros_enc]
    generalize zeros 256 = Z at *
    have e := num_Lay_eq (hv.more [some ⟨encB Z, true⟩]) hz0 hd (a := 0)
    have hl2 : (encB (layI Z 0 data)).length = 256 := by rw [encB_length, layI_length hz0]
    have s2 := storeAll (h := g ++ [some ⟨encB Z, true⟩]) (id := g.length) (cs := encB Z) (xs := encB (layI Z 0 data)) (by simp) hz hl2
    have s3 := loadAll (h := g ++ [some ⟨encB (layI Z 0 data), true⟩]) (id := g.length) (cs := encB (layI Z 0 data)) (n := 256) (by simp) hl2
    exact ⟨_, by simp only [esc, afill, e, s2, s3]; rfl⟩
  obtain ⟨g, e⟩ := key _ hv.ro
  exact S_num_Of_flat e (by simp)

end Go.Proofs.Ytdgggnlbdoiloaa
end
noncomputable section
namespace Go.Proofs.Ytdgggnlbdoiloaa
open Go Go.Esc
set_option maxRecDepth 100000
def er01_Same_o0 : List AOper := [aO 4 (.mv (.v (.c (.b false))))]
def er01_Same_c0 : ACode := .ops er01_Same_o0
def er01_Same_o1 : List AOper := [aO 6 (.mv (.t 0)), aO 7 (.len (.t 6)), aO 8 (.mv (.t 1)), aO 9 (.len (.t 8)), aO 10 (.bin .neq (.t 7) (.t 9))]
def er01_Same_c1 : ACode := .ops er01_Same_o1
def er01_Same_o2 : List AOper := [aO 4 (.mv (.v (.c (.b false))))]
def er01_Same_c2 : ACode := .ops er01_Same_o2
def er01_Same_c3 : ACode := .seq [4] er01_Same_c2 .ret
def er01_Same_c4 : ACode := .cond (.t 10) er01_Same_c3 .skip
def er01_Same_c5 : ACode := .seq [0, 1, 10] er01_Same_c1 er01_Same_c4
def er01_Same_o3 : List AOper := [aO 5 (.mv (.v (.c (.i .i64 0))))]
def er01_Same_c6 : ACode := .ops er01_Same_o3
def er01_Same_o4 : List AOper := [aO 11 (.mv (.t 5)), aO 12 (.mv (.t 0)), aO 13 (.len (.t 12)), aO 14 (.bin .lss (.t 11) (.t 13))]
def er01_Same_c7 : ACode := .ops er01_Same_o4
def er01_Same_c8 : ACode := .cond (.t 14) .skip (.exit 0)
def er01_Same_c9 : ACode := .seq [0, 1, 5, 14] er01_Same_c7 er01_Same_c8
def er01_Same_o5 : List AOper := [aO 17 (.mv (.t 0)), aO 18 (.mv (.t 5)), aO 19 (.iAddrL 1 (.t 17) (.t 18)), aO 20 (.load1 (.t 19)), aO 21 (.mv (.t 1)), aO 22 (.mv (.t 5)), aO 23 (.iAddrL 1 (.t 21) (.t 22)), aO 24 (.load1 (.t 23))]
def er01_Same_o6 : List AOper := [aO 25 (.bin .neq (.t 20) (.t 24))]
def er01_Same_c10 : ACode := .draw 0 er01_Same_o5 er01_Same_o6
def er01_Same_o7 : List AOper := [aO 4 (.mv (.v (.c (.b false))))]
def er01_Same_c11 : ACode := .ops er01_Same_o7
def er01_Same_c12 : ACode := .seq [4] er01_Same_c11 .ret
def er01_Same_c13 : ACode := .cond (.t 25) er01_Same_c12 .skip
def er01_Same_c14 : ACode := .seq [0, 1, 5, 25] er01_Same_c10 er01_Same_c13
def er01_Same_c15 : ACode := .block 1 er01_Same_c14
def er01_Same_o8 : List AOper := [aO 15 (.mv (.t 5)), aO 16 (.bin .add (.t 15) (.v (.c (.i .i64 1)))), aO 5 (.mv (.t 16))]
def er01_Same_c16 : ACode := .ops er01_Same_o8
def er01_Same_c17 : ACode := .seq [0, 1, 5] er01_Same_c15 er01_Same_c16
def er01_Same_c18 : ACode := .seq [0, 1, 5] er01_Same_c9 er01_Same_c17
def er01_Same_c19 : ACode := .loop [0, 1, 5] er01_Same_c18
def er01_Same_c20 : ACode := .block 0 er01_Same_c19
def er01_Same_c21 : ACode := .seq [0, 1, 5] er01_Same_c6 er01_Same_c20
def er01_Same_o9 : List AOper := [aO 4 (.mv (.v (.c (.b true))))]
def er01_Same_c22 : ACode := .ops er01_Same_o9
def er01_Same_c23 : ACode := .seq [4] er01_Same_c22 .ret
def er01_Same_c24 : ACode := .seq [] er01_Same_c21 er01_Same_c23
def er01_Same_c25 : ACode := .seq [0, 1] er01_Same_c5 er01_Same_c24
def er01_Same_c26 : ACode := .seq [0, 1] er01_Same_c0 er01_Same_c25
def A_er01_Same : AFn := ⟨er01_Same_c26, [.tmp 4]⟩
def E_er01_Same : Sums := disp0
def er01_Same_c0_d (n : Nat) : SmV := smOps E_er01_Same er01_Same_o0
def er01_Same_c1_d (n : Nat) : SmV := smOps E_er01_Same er01_Same_o1
def er01_Same_c2_d (n : Nat) : SmV := smOps E_er01_Same er01_Same_o2
def er01_Same_c3_d (n : Nat) : SmV := smSeq [4] (er01_Same_c2_d n) smRet
def er01_Same_c4_d (n : Nat) : SmV := smCond (.t 10) (er01_Same_c3_d n) smSkip
def er01_Same_c5_d (n : Nat) : SmV := smSeq [0, 1, 10] (er01_Same_c1_d n) (er01_Same_c4_d n)
def er01_Same_c6_d (n : Nat) : SmV := smOps E_er01_Same er01_Same_o3
def er01_Same_c7_d (n : Nat) : SmV := smOps E_er01_Same er01_Same_o4
def er01_Same_c8_d (n : Nat) : SmV := smCond (.t 14) smSkip (smExit 0)
def er01_Same_c9_d (n : Nat) : SmV := smSeq [0, 1, 5, 14] (er01_Same_c7_d n) (er01_Same_c8_d n)
def er01_Same_c10_d (n : Nat) : SmV := smDraw E_er01_Same 0 er01_Same_o5 er01_Same_o6
def er01_Same_c11_d (n : Nat) : SmV := smOps E_er01_Same er01_Same_o7
def er01_Same_c12_d (n : Nat) : SmV := smSeq [4] (er01_Same_c11_d n) smRet
def er01_Same_c13_d (n : Nat) : SmV := smCond (.t 25) (er01_Same_c12_d n) smSkip
def er01_Same_c14_d (n : Nat) : SmV := smSeq [0, 1, 5, 25] (er01_Same_c10_d n) (er01_Same_c13_d n)
def er01_Same_c15_d (n : Nat) : SmV := smBlock 1 (er01_Same_c14_d n)
def er01_Same_c16_d (n : Nat) : SmV := smOps E_er01_Same er01_Same_o8
def er01_Same_c17_d (n : Nat) : SmV := smSeq [0, 1, 5] (er01_Same_c15_d n) (er01_Same_c16_d n)
def er01_Same_c18_d (n : Nat) : SmV := smSeq [0, 1, 5] (er01_Same_c9_d n) (er01_Same_c17_d n)
def er01_Same_c19_d (n : Nat) : SmV := smLoop n [0, 1, 5] (er01_Same_c18_d n)
def er01_Same_c20_d (n : Nat) : SmV := smBlock 0 (er01_Same_c19_d n)
def er01_Same_c21_d (n : Nat) : SmV := smSeq [0, 1, 5] (er01_Same_c6_d n) (er01_Same_c20_d n)
def er01_Same_c22_d (n : Nat) : SmV := smOps E_er01_Same er01_Same_o9
def er01_Same_c23_d (n : Nat) : SmV := smSeq [4] (er01_Same_c22_d n) smRet
def er01_Same_c24_d (n : Nat) : SmV := smSeq [] (er01_Same_c21_d n) (er01_Same_c23_d n)
def er01_Same_c25_d (n : Nat) : SmV := smSeq [0, 1] (er01_Same_c5_d n) (er01_Same_c24_d n)
def er01_Same_c26_d (n : Nat) : SmV := smSeq [0, 1] (er01_Same_c0_d n) (er01_Same_c25_d n)
def er01_Same_k0 (n : Nat) : AExit → Env → Heap → OptV := fun x e h => match x with | .normal => hold ((er01_Same_c23_d n) A_er01_Same.fin (e.keep []) h) | .exit id => A_er01_Same.fin (.exit id) e h | .ret => A_er01_Same.fin .ret e h
def er01_Same_k1 (n : Nat) : AExit → Env → Heap → OptV := fun x e h => match x with | .exit i => bif Nat.beq i 0 then (er01_Same_k0 n) .normal e h else (er01_Same_k0 n) (.exit i) e h | .normal => (er01_Same_k0 n) .normal e h | .ret => (er01_Same_k0 n) .ret e h
def er01_Same_l0 (n m : Nat) (x0 x1 x5 : Val) (h : Heap) : OptV := around (er01_Same_c18_d n) [0, 1, 5] (er01_Same_k1 n) m [(0, x0), (1, x1), (5, x5)] h
def R_er01_Same (n : Nat) (args : List Val) (h : Heap) : OptV := (er01_Same_c26_d n) A_er01_Same.fin (params 0 args) h
theorem R_er01_Same_eq (n : Nat) (a0 a1 : Val) (h : Heap) : R_er01_Same n [a0, a1] h = bnd (alen a0) fun v1 => bnd (alen a1) fun v2 => bnd (abin .neq v1 v2) fun v3 => cnd v3 (some ((.c (.b false)), h)) (er01_Same_l0 n n a0 a1 (.c (.i .i64 0)) h) := by kernel_rfl
theorem er01_Same_l0_eq (n m : Nat) (x0 x1 x5 : Val) (h : Heap) : er01_Same_l0 n (m + 1) x0 x1 x5 h = bnd (alen x0) fun v4 => bnd (abin .lss x5 v4) fun v5 => cnd v5 (bnd (aiAddrL 1 x0 x5) fun v6 => bnd (aload1 h v6) fun v7 => bnd (aiAddrL 1 x1 x5) fun v8 => bnd (aload1 h v8) fun v9 => bnd (abin .neq v7 v9) fun v10 => cnd v10 (some ((.c (.b false)), (h ++ []))) (bnd (abin .add x5 (.c (.i .i64 1))) fun v11 => er01_Same_l0 n m x0 x1 v11 ((h ++ [])))) (some ((.c (.b true)), h)) := by kernel_rfl
theorem K_er01_Same : FnK Try.prog 21 A_er01_Same E_er01_Same R_er01_Same := .mk' (sound0) Try.func21 (by kernel_rfl) (by intro n args h; kernel_rfl)
def S_er01_Same : Fun := tidy (Lim A_er01_Same E_er01_Same)
theorem S_er01_Same_ok : SOk Try.prog 21 S_er01_Same := K_er01_Same.sok
theorem S_er01_Same_flat {n : Nat} {args : List Val} {h h2 : Heap} {v : Val} (he : R_er01_Same n args (ro h) = some (v, h2)) (hf : v.flat = true) : S_er01_Same args h = some (v, h) := K_er01_Same.flat he hf
end Go.Proofs.Ytdgggnlbdoiloaa
end
section
namespace Go.Proofs.Ytdgggnlbdoiloaa
open Go Go.Esc

theorem ref01_Same_loop {v u : Val} {nv nu : Nat} {l r : List UInt8} {h : Heap} (hv : Has h v 1 nv (encB l)) (hu : Has h u 1 nu (encB r)) (hlr : l.length = r.length) (hl : l.length < 9223372036854775807) {k : Nat} : ∀ d i m, i + d = l.length → d < m →
    er01_Same_l0 k m v u (.c (.i .i64 i)) h = some (.c (.b (decide (l.drop i = r.drop i))), h)
  | d, i, 0, _, hm => by omega
  | 0, i, m + 1, hi, hm => by
    have hnv : l.length = nv := by simpa [encB_length] using hv.length
    have e1 : l.drop i = [] := List.drop_of_length_le (by omega)
    have e2 : r.drop i = [] := List.drop_of_length_le (by omega)
    have h1' : ¬ (i : Int) < l.length := by omega
    rw [er01_Same_l0_eq]
    simp only [esc, hv.len, ← hnv, h1', e1, e2]
  | d + 1, i, m + 1, hi, hm => by
    have ih := ref01_Same_loop hv hu hlr hl (k := k) d (i + 1) m (by omega) (by omega)
    have hnv : l.length = nv := by simpa [encB_length] using hv.length
    have hnu : r.length = nu := by simpa [encB_length] using hu.length
    have hlen := hv.len
    obtain ⟨id, off, rfl, hid, h1, h2⟩ := hv.sl (by omega)
    obtain ⟨id', off', rfl, hid', h1', h2'⟩ := hu.sl (by omega)
    have hx := h1 i (.i .u8 l[i].toNat) (by rw [encB_get, List.getElem?_eq_getElem (by omega)]; rfl)
    have hy := h1' i (.i .u8 r[i].toNat) (by rw [encB_get, List.getElem?_eq_getElem (by omega)]; rfl)
    have ea : aiAddrL 1 (.c (.sl id off nv 1)) (.c (.i .i64 (i : Int))) = some (.c (.p id (off + i))) := by rw [iAddrL_of (by omega)]; simp
    have eb : aiAddrL 1 (.c (.sl id' off' nu 1)) (.c (.i .i64 (i : Int))) = some (.c (.p id' (off' + i))) := by rw [iAddrL_of (by omega)]; simp
    have c1 : (i : Int) < nv := by omega
    rw [er01_Same_l0_eq, List.drop_eq_getElem_cons (by omega : i < l.length), List.drop_eq_getElem_cons (by omega : i < r.length)]
    by_cases c : l[i] = r[i]
    · simp only [esc, c1, ea, eb, hx, hy, c, wi_succ (show i + 1 < 9223372036854775808 by omega), List.cons.injEq, true_and]
      exact ih
    · have c' : ¬ (l[i].toNat : Int) = r[i].toNat := fun e => c (UInt8.toNat_inj.1 (by omega))
      simp only [esc, c1, ea, eb, hx, hy, c', c, List.cons.injEq, false_and]

theorem ref01_Same_eq {v u : Val} {nv nu : Nat} {l r : List UInt8} {h : Heap} (hv : Has h v 1 nv (encB l)) (hu : Has h u 1 nu (encB r)) (hl : l.length < 9223372036854775807) :
    S_er01_Same [v, u] h = some (.c (.b (decide (l = r))), h) := by
  refine S_er01_Same_flat (n := l.length + 1) (h2 := ro h) ?_ (by simp)
  have hnv : l.length = nv := by simpa [encB_length] using hv.length
  have hnu : r.length = nu := by simpa [encB_length] using hu.length
  rw [R_er01_Same_eq]
  by_cases c : l.length = r.length
  · have := ref01_Same_loop hv.ro hu.ro c hl (k := l.length + 1) l.length 0 (l.length + 1) (by omega) (by omega)
    simp only [List.drop_zero] at this
    have c' : (nv : Int) = nu := by omega
    simp only [esc, hv.len, hu.len, c']
    exact this
  · have c' : ¬ (nv : Int) = nu := by omega
    have c2 : ¬ l = r := fun e => c (by rw [e])
    simp only [esc, hv.len, hu.len, c', c2]

end Go.Proofs.Ytdgggnlbdoiloaa
end
section
namespace Go.Proofs.Ytdgggnlbdoiloaa
open Go Go.Esc

theorem num_Get_loop {v : Val} {nv : Nat} {l : List UInt8} {h : Heap} (hv : Has h v 1 nv (encB l)) {a w k : Nat} (hw : w ≤ 8) (haw : a + w ≤ l.length) (hl : l.length < 9223372036854775808) : ∀ d i m, i + d = w → d < m →
    num_Get_l0 k m v (.c (.i .i64 a)) (.c (.i .u64 (le ((l.drop a).take i)))) (.c (.i .i64 w)) (.c (.i .i64 i)) h = some (.t [.c (.i .u64 (le ((l.drop a).take w))), .c (.b true)], h)
  | d, i, 0, _, hm => by omega
  | 0, i, m + 1, hi, hm => by
    have e : i = w := by omega
    subst e
    rw [num_Get_l0_eq]
    simp
  | d + 1, i, m + 1, hi, hm => by
    have ih := num_Get_loop hv (k := k) hw haw hl d (i + 1) m (by omega) (by omega)
    have hnv : l.length = nv := by simpa [encB_length] using hv.length
    obtain ⟨id, off, rfl, hid, h1, h2⟩ := hv.sl (by omega)
    have hx := h1 (a + i) (.i .u8 l[a + i].toNat) (by rw [encB_get, List.getElem?_eq_getElem (by omega)]; rfl)
    have hb := l[a + i].toNat_lt
    have hlen : ((l.drop a).take i).length = i := by simp; omega
    have hle := le_lt ((l.drop a).take i)
    rw [hlen] at hle
    have hp := pow256_le (show i ≤ 8 by omega)
    have hbp := byte_pow_lt (x := l[a + i]) (show i < 8 by omega)
    have e2 : IntKind.wrap .i64 (8 * (i : Int)) = 8 * i := wrap_i64 (by omega) (by omega)
    have e3 : IntKind.wrap .u64 (8 * (i : Int)) = 8 * i := wrap_u64 (by omega) (by omega)
    have e5 : IntKind.wrap .u64 (l[a + i].toNat : Int) = l[a + i].toNat := wrap_u64 (by omega) (by omega)
    have e6 := shl_step (k := .u64) (x := l[a + i]) (show i < 8 by omega) (wrap_u64 (by omega) (by omega)) rfl
    have e7 : abin .or (.c (.i .u64 (le ((l.drop a).take i) : Nat))) (.c (.i .u64 ((l[a + i].toNat * 256 ^ i : Nat) : Int))) = some (.c (.i .u64 (le ((l.drop a).take (i + 1)) : Nat))) := by
      rw [or_u64 (by omega) (by omega), take_succ_get (by omega), ← or_step, hlen]
    have ea : aiAddrL 1 (.c (.sl id off nv 1)) (.c (.i .i64 ((a + i : Nat) : Int))) = some (.c (.p id (off + (a + i)))) := by rw [iAddrL_of (by omega)]; simp
    have h1' : (i : Int) < w := by omega
    rw [num_Get_l0_eq]
    simp only [esc, h1', wi_add (show a + i < 9223372036854775808 by omega), e2, e3, ea, hx, e5, e6, e7, wi_succ (show i + 1 < 9223372036854775808 by omega)]
    exact ih


theorem num_Get_eq {v : Val} {nv : Nat} {l : List UInt8} {h : Heap} (hv : Has h v 1 nv (encB l)) {a w : Int} (hl : l.length < 9223372036854775808) :
    S_num_Get [v, .c (.i .i64 a), .c (.i .i64 w)] h = some (.t [.c (.i .u64 ((getN l a w).getD 0 : Nat)), .c (.b (getN l a w).isSome)], h) := by
  refine S_num_Get_flat (n := w.toNat + 1) (h2 := ro h) ?_ (by simp)
  rw [R_num_Get_eq]
  have hv' := hv.ro
  have hnv : l.length = nv := by simpa [encB_length] using hv.length
  unfold getN
  by_cases c1 : 8 < w
  · have c1' : ¬ w ≤ 8 := by omega
    simp [c1, c1']
  · have c1' : w ≤ 8 := by omega
    cases c2 : thereI a w l.length with
    | false => simp [c1, hv'.len, ← hnv, there_eq (show (l.length : Int) < 9223372036854775808 by omega), c2]
    | true =>
      simp [c1, c1', hv'.len, ← hnv, there_eq (show (l.length : Int) < 9223372036854775808 by omega), c2]
      rw [thereI_true] at c2
      have := num_Get_loop hv' (a := a.toNat) (w := w.toNat) (k := w.toNat + 1) (by omega) (by omega) hl w.toNat 0 (w.toNat + 1) (by omega) (by omega)
      simp only [show ((a.toNat : Nat) : Int) = a by omega, show ((w.toNat : Nat) : Int) = w by omega] at this
      simpa [le] using this

theorem num_Put_loop {l : List UInt8} {b id a w k : Nat} {v : Int} (hw : w ≤ 8) (haw : a + w ≤ l.length) (hl : l.length < 9223372036854775808) : ∀ d i m (h : Heap), i + d = w → d < m → b ≤ id → b ≤ h.length → rd h id = some ⟨encB (layB l a (bytesI i v)), true⟩ →
    ∃ h', num_Put_l0 k m (.c (.i .i64 a)) (.c (.i .u64 v)) (.c (.sl id 0 l.length 1)) (.c (.i .i64 w)) (.c (.i .i64 i)) h = some (.t [.c (.sl id 0 l.length 1), .c (.b true)], h') ∧ rd h' id = some ⟨encB (layB l a (bytesI w v)), true⟩
  | d, i, 0, h, _, hm, _, _, _ => by omega
  | 0, i, m + 1, h, hi, hm, _, _, hr => by
    have e : i = w := by omega
    subst e
    have h1' : ¬ (i : Int) < i := by omega
    rw [num_Put_l0_eq]
    exact ⟨h, by simp only [esc, h1'], hr⟩
  | d + 1, i, m + 1, h, hi, hm, hb, hbl, hr => by
    have e2 : IntKind.wrap .i64 (8 * (i : Int)) = 8 * i := wrap_i64 (by omega) (by omega)
    have e3 : IntKind.wrap .u64 (8 * (i : Int)) = 8 * i := wrap_u64 (by omega) (by omega)
    have e4 : abin .shr (.c (.i .u64 v)) (.c (.i .u64 (8 * (i : Int)))) = some (.c (.i .u64 (v / 2 ^ (Nat.min (8 * (i : Int)).toNat 64)))) := abin_shr (by omega)
    have ea : aiAddrL 1 (.c (.sl id 0 l.length 1)) (.c (.i .i64 ((a + i : Nat) : Int))) = some (.c (.p id (a + i))) := by rw [iAddrL_of (by omega)]; simp
    have hst := store1_of (off := a + i) (x := .i .u8 (byI v i).toNat) hr (by rw [encB_length, layB_length (by simp; omega)]; omega)
    have e5 : (layB l a (bytesI i v)).set (a + i) (byI v i) = layB l a (bytesI (i + 1) v) := by
      rw [bytesI_succ]
      have := layB_snoc (l := l) (xs := bytesI i v) (a := a) (x := byI v i) (by simp; omega)
      simpa using this
    rw [encB_set, e5] at hst
    obtain ⟨h', ih, hr'⟩ := num_Put_loop (b := b) (k := k) (v := v) hw haw hl d (i + 1) m (h.set id (some ⟨encB (layB l a (bytesI (i + 1) v)), true⟩)) (by omega) (by omega) hb (by simpa using hbl) (rd_set_same (rd_lt hr))
    have h1' : (i : Int) < w := by omega
    rw [num_Put_l0_eq]
    exact ⟨h', by simp only [esc, h1', wi_add (show a + i < 9223372036854775808 by omega), e2, e3, e4, byte_step (v := v) (show i < 8 by omega), ea, hst, wi_succ (show i + 1 < 9223372036854775808 by omega)]; exact ih, hr'⟩

def putN (l : List UInt8) (a w v : Int) : Option (List UInt8) := if w ≤ 8 ∧ thereI a w l.length = true then some (layB l a.toNat (bytesI w.toNat v)) else none

theorem num_Put_eq {x : Val} {nv : Nat} {l : List UInt8} {h : Heap} (hv : Has h x 1 nv (encB l)) {a w v : Int} (hl : l.length ≤ 1073741824) :
    S_num_Put [x, .c (.i .i64 a), .c (.i .i64 w), .c (.i .u64 v)] h = some (.t [.c (.sl h.length 0 ((putN l a w v).getD []).length 1), .c (.b (putN l a w v).isSome)], h ++ [some ⟨encB ((putN l a w v).getD []), true⟩]) := by
  have hnv : l.length = nv := by simpa [encB_length] using hv.length
  have key : ∀ g, Has g x 1 nv (encB l) → ∃ id g', R_num_Put (w.toNat + 1) [x, .c (.i .i64 a), .c (.i .i64 w), .c (.i .u64 v)] g = some (.t [.c (.sl id 0 ((putN l a w v).getD []).length 1), .c (.b (putN l a w v).isSome)], g') ∧ g.length ≤ id ∧ rd g' id = some ⟨encB ((putN l a w v).getD []), true⟩ := by
    intro g hv
    rw [R_num_Put_eq]
    have hvm := hv.more [some ⟨[], true⟩]
    unfold putN
    by_cases c1 : 8 < w
    · rw [if_neg (by omega)]
      exact ⟨_, _, by simp only [esc, c1]; rfl, by simp, by simp; rfl⟩
    · cases c2 : thereI a w l.length with
      | false =>
        rw [if_neg (by simp)]
        exact ⟨_, _, by simp only [esc, c1, hvm.len, ← hnv, there_eq (show (l.length : Int) < 9223372036854775808 by omega), c2]; rfl, by simp, by simp; rfl⟩
      | true =>
        rw [if_pos ⟨by omega, rfl⟩]
        have c3 := thereI_true.1 c2
        have hvm2 := hv.more [some ⟨[], true⟩, some ⟨[], true⟩]
        have e1 : aapp (g ++ [some ⟨[], true⟩, some ⟨[], true⟩]) 1 (.c (.sl (g.length + 1) 0 0 1)) x = some (.c (.sl (g.length + 2) 0 l.length 1), g ++ [some ⟨[], true⟩, none, some ⟨encB l, true⟩]) := by
          simp [aapp, hvm2.add, encB_length]
          exact hl
        obtain ⟨g', e2, hr⟩ := num_Put_loop (l := l) (b := g.length) (id := g.length + 2) (a := a.toNat) (w := w.toNat) (k := w.toNat + 1) (v := v) (by omega) (by omega) (by omega) w.toNat 0 (w.toNat + 1) (g ++ [some ⟨[], true⟩, none, some ⟨encB l, true⟩]) (by omega) (by omega) (by omega) (by simp) (by simp [bytesI, layB_nil])
        simp only [show ((a.toNat : Nat) : Int) = a by omega, show ((w.toNat : Nat) : Int) = w by omega] at e2
        have hlen : ((some (layB l a.toNat (bytesI w.toNat v))).getD []).length = l.length := by
          simp only [Option.getD_some]; rw [layB_length (by simp; omega)]
        rw [hlen]
        exact ⟨g.length + 2, g', by simp only [esc, c1, hvm.len, ← hnv, there_eq (show (l.length : Int) < 9223372036854775808 by omega), c2, afill, e1]; exact e2, by omega, hr⟩
  obtain ⟨id, g', e, hb, hr⟩ := key _ hv.ro
  have hb' : h.length ≤ id := by simpa [ro_length] using hb
  have := S_num_Put_tidy e (v2 := .t [.c (.sl h.length 0 ((putN l a w v).getD []).length 1), .c (.b (putN l a w v).isSome)]) (ids := [id]) (by
    have e2 : canonC g' h.length [id] [.b (putN l a w v).isSome] = some ([.b (putN l a w v).isSome], [id]) := canonC_flat (by simp)
    simp [canonV, canonP, canonC, hb', show ¬ id < h.length by omega, newRow_of hr (by simp : flats (encB ((putN l a w v).getD [])) = true)])
  rw [this]
  simp [hr]

end Go.Proofs.Ytdgggnlbdoiloaa
end
section
namespace Go.Proofs.Ytdgggnlbdoiloaa
open Go Go.Esc

def padB (n : Nat) (l : List UInt8) : List UInt8 := l ++ zeros (n - l.length)
theorem padB_length {n : Nat} {l : List UInt8} (h : l.length ≤ n) : (padB n l).length = n := by
  unfold padB; rw [List.length_append, zeros_length]; omega
theorem padB_lay {l xs : List UInt8} {a : Nat} (h1 : l.length ≤ a) (h2 : a + xs.length ≤ 256) : layB (padB 256 l) a xs = padB 256 (l ++ zeros (a - l.length) ++ xs) := by
  unfold layB padB
  have e1 : (l ++ zeros (256 - l.length)).take a = l ++ zeros (a - l.length) := by
    rw [List.take_append, List.take_of_length_le h1]
    unfold zeros
    rw [List.take_replicate, Nat.min_eq_left (by omega)]
  have e2 : (l ++ zeros (256 - l.length)).drop (a + xs.length) = zeros (256 - (l ++ zeros (a - l.length) ++ xs).length) := by
    rw [List.drop_append, List.drop_of_length_le (by omega), List.nil_append]
    unfold zeros
    rw [List.drop_replicate]
    congr 1
    simp
    omega
  rw [e1, e2]
  simp only [List.append_assoc]

theorem withB_pad {l : List UInt8} {a w : Nat} {v : Int} (h1 : l.length ≤ a) (h2 : a + w ≤ 256) (hw : 1 ≤ w) (hw4 : w ≤ 4) : withB (padB 256 l) a w v = padB 256 (l ++ zeros (a - l.length) ++ bytesI w v) := by
  unfold withB
  rw [if_pos ⟨by omega, thereI_true.2 (by omega)⟩]
  simp only [Int.toNat_natCast]
  exact padB_lay h1 (by simp; exact h2)

def fieldN (b : List UInt8) (a w : Nat) : Int := ((le ((b.drop a).take w) : Nat) : Int)
theorem of_pad {b : List UInt8} (hb : b.length ≤ 256) : layI (zeros 256) 0 b = padB 256 b := by
  unfold layI layB padB
  rw [if_pos (by omega)]
  simp only [Int.toNat_zero, List.take_zero, List.nil_append, Nat.sub_zero, Nat.zero_add]
  rw [List.take_of_length_le hb]
  unfold zeros
  rw [List.drop_replicate]

end Go.Proofs.Ytdgggnlbdoiloaa
end
noncomputable section
namespace Go.Proofs.Ytdgggnlbdoiloaa
open Go Go.Esc
set_option maxRecDepth 100000
def mix_More_o0 : List AOper := [aO 4 (.mv (.v (.c (.i .u32 0))))]
def mix_More_c0 : ACode := .ops mix_More_o0
def mix_More_o1 : List AOper := [aO 6 (.mv (.t 1)), aO 7 (.lenS (.t 6)), aO 8 (.mv (.v (.c (.i .i64 0))))]
def mix_More_c1 : ACode := .ops mix_More_o1
def mix_More_o2 : List AOper := [aO 9 (.bin .lss (.t 8) (.t 7))]
def mix_More_c2 : ACode := .ops mix_More_o2
def mix_More_c3 : ACode := .cond (.t 9) .skip (.exit 0)
def mix_More_o3 : List AOper := [aO 10 (.mv (.t 8)), aO 5 (.mv (.t 10))]
def mix_More_c4 : ACode := .ops mix_More_o3
def mix_More_o4 : List AOper := [aO 11 (.mv (.t 0)), aO 12 (.mv (.t 1)), aO 13 (.mv (.t 5)), aO 14 (.idxS (.t 12) (.t 13)), aO 15 (.conv .u32 (.t 14)), aO 16 (.bin .xor (.t 11) (.t 15)), aO 17 (.bin .mul (.t 16) (.v (.c (.i .u32 16777619)))), aO 0 (.mv (.t 17))]
def mix_More_c5 : ACode := .ops mix_More_o4
def mix_More_c6 : ACode := .seq [0, 1, 5, 7, 8] mix_More_c4 mix_More_c5
def mix_More_c7 : ACode := .block 1 mix_More_c6
def mix_More_o5 : List AOper := [aO 18 (.bin .add (.t 8) (.v (.c (.i .i64 1)))), aO 8 (.mv (.t 18))]
def mix_More_c8 : ACode := .ops mix_More_o5
def mix_More_c9 : ACode := .seq [0, 1, 7, 8] mix_More_c7 mix_More_c8
def mix_More_c10 : ACode := .seq [0, 1, 7, 8] mix_More_c3 mix_More_c9
def mix_More_c11 : ACode := .seq [0, 1, 7, 8, 9] mix_More_c2 mix_More_c10
def mix_More_c12 : ACode := .loop [0, 1, 7, 8] mix_More_c11
def mix_More_c13 : ACode := .block 0 mix_More_c12
def mix_More_c14 : ACode := .seq [0, 1, 7, 8] mix_More_c1 mix_More_c13
def mix_More_o6 : List AOper := [aO 19 (.mv (.t 0)), aO 4 (.mv (.t 19))]
def mix_More_c15 : ACode := .ops mix_More_o6
def mix_More_c16 : ACode := .seq [4] mix_More_c15 .ret
def mix_More_c17 : ACode := .seq [0] mix_More_c14 mix_More_c16
def mix_More_c18 : ACode := .seq [0, 1] mix_More_c0 mix_More_c17
def A_mix_More : AFn := ⟨mix_More_c18, [.tmp 4]⟩
def E_mix_More : Sums := disp0
def mix_More_c0_d (n : Nat) : SmV := smOps E_mix_More mix_More_o0
def mix_More_c1_d (n : Nat) : SmV := smOps E_mix_More mix_More_o1
def mix_More_c2_d (n : Nat) : SmV := smOps E_mix_More mix_More_o2
def mix_More_c3_d (n : Nat) : SmV := smCond (.t 9) smSkip (smExit 0)
def mix_More_c4_d (n : Nat) : SmV := smOps E_mix_More mix_More_o3
def mix_More_c5_d (n : Nat) : SmV := smOps E_mix_More mix_More_o4
def mix_More_c6_d (n : Nat) : SmV := smSeq [0, 1, 5, 7, 8] (mix_More_c4_d n) (mix_More_c5_d n)
def mix_More_c7_d (n : Nat) : SmV := smBlock 1 (mix_More_c6_d n)
def mix_More_c8_d (n : Nat) : SmV := smOps E_mix_More mix_More_o5
def mix_More_c9_d (n : Nat) : SmV := smSeq [0, 1, 7, 8] (mix_More_c7_d n) (mix_More_c8_d n)
def mix_More_c10_d (n : Nat) : SmV := smSeq [0, 1, 7, 8] (mix_More_c3_d n) (mix_More_c9_d n)
def mix_More_c11_d (n : Nat) : SmV := smSeq [0, 1, 7, 8, 9] (mix_More_c2_d n) (mix_More_c10_d n)
def mix_More_c12_d (n : Nat) : SmV := smLoop n [0, 1, 7, 8] (mix_More_c11_d n)
def mix_More_c13_d (n : Nat) : SmV := smBlock 0 (mix_More_c12_d n)
def mix_More_c14_d (n : Nat) : SmV := smSeq [0, 1, 7, 8] (mix_More_c1_d n) (mix_More_c13_d n)
def mix_More_c15_d (n : Nat) : SmV := smOps E_mix_More mix_More_o6
def mix_More_c16_d (n : Nat) : SmV := smSeq [4] (mix_More_c15_d n) smRet
def mix_More_c17_d (n : Nat) : SmV := smSeq [0] (mix_More_c14_d n) (mix_More_c16_d n)
def mix_More_c18_d (n : Nat) : SmV := smSeq [0, 1] (mix_More_c0_d n) (mix_More_c17_d n)
def mix_More_k0 (n : Nat) : AExit → Env → Heap → OptV := fun x e h => match x with | .normal => hold ((mix_More_c16_d n) A_mix_More.fin (e.keep [0]) h) | .exit id => A_mix_More.fin (.exit id) e h | .ret => A_mix_More.fin .ret e h
def mix_More_k1 (n : Nat) : AExit → Env → Heap → OptV := fun x e h => match x with | .exit i => bif Nat.beq i 0 then (mix_More_k0 n) .normal e h else (mix_More_k0 n) (.exit i) e h | .normal => (mix_More_k0 n) .normal e h | .ret => (mix_More_k0 n) .ret e h
def mix_More_l0 (n m : Nat) (x0 x1 x7 x8 : Val) (h : Heap) : OptV := around (mix_More_c11_d n) [0, 1, 7, 8] (mix_More_k1 n) m [(0, x0), (1, x1), (7, x7), (8, x8)] h
def R_mix_More (n : Nat) (args : List Val) (h : Heap) : OptV := (mix_More_c18_d n) A_mix_More.fin (params 0 args) h
theorem R_mix_More_eq (n : Nat) (a0 a1 : Val) (h : Heap) : R_mix_More n [a0, a1] h = bnd (alenS a1) fun v1 => mix_More_l0 n n a0 a1 v1 (.c (.i .i64 0)) h := by kernel_rfl
theorem mix_More_l0_eq (n m : Nat) (x0 x1 x7 x8 : Val) (h : Heap) : mix_More_l0 n (m + 1) x0 x1 x7 x8 h = bnd (abin .lss x8 x7) fun v2 => cnd v2 (bnd (aidxS x1 x8) fun v3 => bnd (aconv .u32 v3) fun v4 => bnd (abin .xor x0 v4) fun v5 => bnd (abin .mul v5 (.c (.i .u32 16777619))) fun v6 => bnd (abin .add x8 (.c (.i .i64 1))) fun v7 => mix_More_l0 n m v6 x1 x7 v7 h) (some (x0, h)) := by kernel_rfl
theorem K_mix_More : FnK Try.prog 132 A_mix_More E_mix_More R_mix_More := .mk' (sound0) Try.func132 (by kernel_rfl) (by intro n args h; kernel_rfl)
def S_mix_More : Fun := tidy (Lim A_mix_More E_mix_More)
theorem S_mix_More_ok : SOk Try.prog 132 S_mix_More := K_mix_More.sok
theorem S_mix_More_flat {n : Nat} {args : List Val} {h h2 : Heap} {v : Val} (he : R_mix_More n args (ro h) = some (v, h2)) (hf : v.flat = true) : S_mix_More args h = some (v, h) := K_mix_More.flat he hf
def mix_Of_o0 : List AOper := [aO 2 (.mv (.v (.c (.i .u32 0))))]
def mix_Of_c0 : ACode := .ops mix_Of_o0
def mix_Of_o1 : List AOper := [aO 3 (.mv (.t 0)), aO 4 (.call 132 [(.v (.c (.i .u32 2166136261))), (.t 3)]), aO 2 (.mv (.t 4))]
def mix_Of_c1 : ACode := .ops mix_Of_o1
def mix_Of_c2 : ACode := .seq [2] mix_Of_c1 .ret
def mix_Of_c3 : ACode := .seq [0] mix_Of_c0 mix_Of_c2
def A_mix_Of : AFn := ⟨mix_Of_c3, [.tmp 2]⟩
def E_mix_Of : Sums := disp 132 S_mix_More disp0
def mix_Of_c0_d (n : Nat) : SmV := smOps E_mix_Of mix_Of_o0
def mix_Of_c1_d (n : Nat) : SmV := smOps E_mix_Of mix_Of_o1
def mix_Of_c2_d (n : Nat) : SmV := smSeq [2] (mix_Of_c1_d n) smRet
def mix_Of_c3_d (n : Nat) : SmV := smSeq [0] (mix_Of_c0_d n) (mix_Of_c2_d n)
def R_mix_Of (n : Nat) (args : List Val) (h : Heap) : OptV := (mix_Of_c3_d n) A_mix_Of.fin (params 0 args) h
theorem R_mix_Of_eq (n : Nat) (a0 : Val) (h : Heap) : R_mix_Of n [a0] h = bnd (S_mix_More [.c (.i .u32 2166136261), a0] h) fun p1 => some (p1.1, p1.2) := by kernel_rfl
theorem K_mix_Of : FnK Try.prog 99 A_mix_Of E_mix_Of R_mix_Of := .mk' (sound1 S_mix_More_ok sound0) Try.func99 (by kernel_rfl) (by intro n args h; kernel_rfl)
def S_mix_Of : Fun := tidy (Lim A_mix_Of E_mix_Of)
theorem S_mix_Of_ok : SOk Try.prog 99 S_mix_Of := K_mix_Of.sok
theorem S_mix_Of_flat {n : Nat} {args : List Val} {h h2 : Heap} {v : Val} (he : R_mix_Of n args (ro h) = some (v, h2)) (hf : v.flat = true) : S_mix_Of args h = some (v, h) := K_mix_Of.flat he hf
end Go.Proofs.Ytdgggnlbdoiloaa
end
section
namespace Go.Proofs.Ytdgggnlbdoiloaa
open Go Go.Esc

def mixS (h : Nat) (c : UInt8) : Nat := ((h ^^^ c.toNat) * 16777619) % 4294967296
def mixFrom (h : Nat) (s : List UInt8) : Nat := s.foldl mixS h
def mixH (s : List UInt8) : Nat := mixFrom 2166136261 s

theorem mixS_lt {h : Nat} {c : UInt8} : mixS h c < 4294967296 := Nat.mod_lt _ (by omega)
theorem mixFrom_lt {s : List UInt8} : ∀ {h : Nat}, h < 4294967296 → mixFrom h s < 4294967296 := by
  induction s with
  | nil => intro h hh; exact hh
  | cons c s ih => intro h _; exact ih mixS_lt
theorem mixH_lt {s : List UInt8} : mixH s < 4294967296 := mixFrom_lt (by omega)

theorem wrap_u32_mod {a : Int} : IntKind.wrap .u32 a = a % 4294967296 := by
  simp only [IntKind.wrap, IntKind.bits, IntKind.signed, Bool.false_and]
  rfl

theorem mix_More_loop {s : List UInt8} (hs : s.length < 9223372036854775807) {q : Nat} {h : Heap} : ∀ (d i m H : Nat), i + d = s.length → d < m → H < 4294967296 →
    mix_More_l0 q m (.c (.i .u32 H)) (.c (.s s)) (.c (.i .i64 s.length)) (.c (.i .i64 i)) h = some (.c (.i .u32 ((mixFrom H (s.drop i) : Nat) : Int)), h)
  | d, i, 0, H, _, hm, _ => by omega
  | 0, i, m + 1, H, hi, hm, hH => by
    have c0 : ¬ (i : Int) < s.length := by omega
    rw [mix_More_l0_eq, List.drop_of_length_le (by omega)]
    simp only [esc, c0, mixFrom, List.foldl_nil]
  | d + 1, i, m + 1, H, hi, hm, hH => by
    have h2 : i < s.length := by omega
    have hb := s[i].toNat_lt
    have ih := mix_More_loop hs (q := q) (h := h) d (i + 1) m (mixS H s[i]) (by omega) (by omega) mixS_lt
    have c0 : (i : Int) < s.length := by omega
    have e1 : IntKind.wrap .u32 (s[i].toNat : Int) = s[i].toNat := wrap_u32 (by omega) (by omega)
    have e2 := xor_u32 (a := H) (b := s[i].toNat) hH (by omega)
    have e3 : IntKind.wrap .u32 (((H ^^^ s[i].toNat : Nat) : Int) * 16777619) = ((mixS H s[i] : Nat) : Int) := by
      rw [wrap_u32_mod]; unfold mixS; omega
    rw [mix_More_l0_eq, List.drop_eq_getElem_cons h2]
    simp only [esc, c0, idxS_of h2, e1, e2, e3, wi_succ (show i + 1 < 9223372036854775808 by omega)]
    exact ih

theorem mix_Of_eq {s : List UInt8} (hs : s.length < 9223372036854775807) {h : Heap} : S_mix_Of [.c (.s s)] h = some (.c (.i .u32 ((mixH s : Nat) : Int)), h) := by
  have hm : ∀ h, S_mix_More [.c (.i .u32 2166136261), .c (.s s)] h = some (.c (.i .u32 ((mixH s : Nat) : Int)), h) := fun h => by
    refine S_mix_More_flat (n := s.length + 1) (h2 := ro h) ?_ rfl
    rw [R_mix_More_eq]
    have := mix_More_loop hs (q := s.length + 1) (h := ro h) s.length 0 (s.length + 1) 2166136261 (by omega) (by omega) (by omega)
    simp only [esc]
    exact this
  refine S_mix_Of_flat (n := 0) (h2 := ro h) ?_ rfl
  rw [R_mix_Of_eq]
  simp only [esc, hm]

end Go.Proofs.Ytdgggnlbdoiloaa
end
noncomputable section
namespace Go.Proofs.Ytdgggnlbdoiloaa
open Go Go.Esc
set_option maxRecDepth 100000
def super_Check_o0 : List AOper := [aO 1 (.box (.t 0)), aO 2 (.mv (.v (.c (.i .i64 0))))]
def super_Check_c0 : ACode := .ops super_Check_o0
def super_Check_o1 : List AOper := [aO 4 (.fAddr (.t 1) 0), aO 5 (.load1 (.t 4)), aO 6 (.bin .lss (.t 5) (.v (.c (.i .i64 16)))), aO 3 (.mv (.t 6))]
def super_Check_c1 : ACode := .ops super_Check_o1
def super_Check_o2 : List AOper := [aO 7 (.fAddr (.t 1) 0), aO 8 (.load1 (.t 7)), aO 9 (.bin .gtr (.t 8) (.v (.c (.i .i64 512)))), aO 3 (.mv (.t 9))]
def super_Check_c2 : ACode := .ops super_Check_o2
def super_Check_c3 : ACode := .cond (.t 3) .skip super_Check_c2
def super_Check_c4 : ACode := .seq [1, 3] super_Check_c1 super_Check_c3
def super_Check_o3 : List AOper := [aO 2 (.mv (.v (.c (.i .i64 1))))]
def super_Check_c5 : ACode := .ops super_Check_o3
def super_Check_c6 : ACode := .seq [2] super_Check_c5 .ret
def super_Check_o4 : List AOper := [aO 11 (.fAddr (.t 1) 1), aO 12 (.load1 (.t 11)), aO 13 (.bin .lss (.t 12) (.v (.c (.i .i64 8)))), aO 10 (.mv (.t 13))]
def super_Check_c7 : ACode := .ops super_Check_o4
def super_Check_o5 : List AOper := [aO 14 (.fAddr (.t 1) 1), aO 15 (.load1 (.t 14)), aO 16 (.bin .gtr (.t 15) (.v (.c (.i .i64 128)))), aO 10 (.mv (.t 16))]
def super_Check_c8 : ACode := .ops super_Check_o5
def super_Check_o6 : List AOper := [aO 17 (.fAddr (.t 1) 1), aO 18 (.load1 (.t 17)), aO 19 (.bin .rem (.t 18) (.v (.c (.i .i64 8)))), aO 20 (.bin .neq (.t 19) (.v (.c (.i .i64 0)))), aO 10 (.mv (.t 20))]
def super_Check_c9 : ACode := .ops super_Check_o6
def super_Check_c10 : ACode := .cond (.t 10) .skip super_Check_c9
def super_Check_c11 : ACode := .seq [1, 10] super_Check_c8 super_Check_c10
def super_Check_c12 : ACode := .cond (.t 10) .skip super_Check_c11
def super_Check_c13 : ACode := .seq [1, 10] super_Check_c7 super_Check_c12
def super_Check_o7 : List AOper := [aO 2 (.mv (.v (.c (.i .i64 1))))]
def super_Check_c14 : ACode := .ops super_Check_o7
def super_Check_c15 : ACode := .seq [2] super_Check_c14 .ret
def super_Check_o8 : List AOper := [aO 22 (.fAddr (.t 1) 1), aO 23 (.load1 (.t 22)), aO 24 (.bin .quo (.t 23) (.v (.c (.i .i64 8)))), aO 25 (.bin .add (.v (.c (.i .i64 2))) (.t 24)), aO 26 (.fAddr (.t 1) 0), aO 27 (.load1 (.t 26)), aO 28 (.bin .geq (.t 25) (.t 27)), aO 21 (.mv (.t 28))]
def super_Check_c16 : ACode := .ops super_Check_o8
def super_Check_o9 : List AOper := [aO 2 (.mv (.v (.c (.i .i64 1))))]
def super_Check_c17 : ACode := .ops super_Check_o9
def super_Check_c18 : ACode := .seq [2] super_Check_c17 .ret
def super_Check_c19 : ACode := .cond (.t 21) super_Check_c18 .skip
def super_Check_c20 : ACode := .seq [21] super_Check_c16 super_Check_c19
def super_Check_c21 : ACode := .cond (.t 10) super_Check_c15 super_Check_c20
def super_Check_c22 : ACode := .seq [1, 10] super_Check_c13 super_Check_c21
def super_Check_c23 : ACode := .cond (.t 3) super_Check_c6 super_Check_c22
def super_Check_c24 : ACode := .seq [1, 3] super_Check_c4 super_Check_c23
def super_Check_c25 : ACode := .block 0 super_Check_c24
def super_Check_o10 : List AOper := [aO 2 (.mv (.v (.c (.i .i64 0))))]
def super_Check_c26 : ACode := .ops super_Check_o10
def super_Check_c27 : ACode := .seq [2] super_Check_c26 .ret
def super_Check_c28 : ACode := .seq [] super_Check_c25 super_Check_c27
def super_Check_c29 : ACode := .seq [1] super_Check_c0 super_Check_c28
def A_super_Check : AFn := ⟨super_Check_c29, [.tmp 2]⟩
def E_super_Check : Sums := disp0
def super_Check_c0_d (n : Nat) : SmV := smOps E_super_Check super_Check_o0
def super_Check_c1_d (n : Nat) : SmV := smOps E_super_Check super_Check_o1
def super_Check_c2_d (n : Nat) : SmV := smOps E_super_Check super_Check_o2
def super_Check_c3_d (n : Nat) : SmV := smCond (.t 3) smSkip (super_Check_c2_d n)
def super_Check_c4_d (n : Nat) : SmV := smSeq [1, 3] (super_Check_c1_d n) (super_Check_c3_d n)
def super_Check_c5_d (n : Nat) : SmV := smOps E_super_Check super_Check_o3
def super_Check_c6_d (n : Nat) : SmV := smSeq [2] (super_Check_c5_d n) smRet
def super_Check_c7_d (n : Nat) : SmV := smOps E_super_Check super_Check_o4
def super_Check_c8_d (n : Nat) : SmV := smOps E_super_Check super_Check_o5
def super_Check_c9_d (n : Nat) : SmV := smOps E_super_Check super_Check_o6
def super_Check_c10_d (n : Nat) : SmV := smCond (.t 10) smSkip (super_Check_c9_d n)
def super_Check_c11_d (n : Nat) : SmV := smSeq [1, 10] (super_Check_c8_d n) (super_Check_c10_d n)
def super_Check_c12_d (n : Nat) : SmV := smCond (.t 10) smSkip (super_Check_c11_d n)
def super_Check_c13_d (n : Nat) : SmV := smSeq [1, 10] (super_Check_c7_d n) (super_Check_c12_d n)
def super_Check_c14_d (n : Nat) : SmV := smOps E_super_Check super_Check_o7
def super_Check_c15_d (n : Nat) : SmV := smSeq [2] (super_Check_c14_d n) smRet
def super_Check_c16_d (n : Nat) : SmV := smOps E_super_Check super_Check_o8
def super_Check_c17_d (n : Nat) : SmV := smOps E_super_Check super_Check_o9
def super_Check_c18_d (n : Nat) : SmV := smSeq [2] (super_Check_c17_d n) smRet
def super_Check_c19_d (n : Nat) : SmV := smCond (.t 21) (super_Check_c18_d n) smSkip
def super_Check_c20_d (n : Nat) : SmV := smSeq [21] (super_Check_c16_d n) (super_Check_c19_d n)
def super_Check_c21_d (n : Nat) : SmV := smCond (.t 10) (super_Check_c15_d n) (super_Check_c20_d n)
def super_Check_c22_d (n : Nat) : SmV := smSeq [1, 10] (super_Check_c13_d n) (super_Check_c21_d n)
def super_Check_c23_d (n : Nat) : SmV := smCond (.t 3) (super_Check_c6_d n) (super_Check_c22_d n)
def super_Check_c24_d (n : Nat) : SmV := smSeq [1, 3] (super_Check_c4_d n) (super_Check_c23_d n)
def super_Check_c25_d (n : Nat) : SmV := smBlock 0 (super_Check_c24_d n)
def super_Check_c26_d (n : Nat) : SmV := smOps E_super_Check super_Check_o10
def super_Check_c27_d (n : Nat) : SmV := smSeq [2] (super_Check_c26_d n) smRet
def super_Check_c28_d (n : Nat) : SmV := smSeq [] (super_Check_c25_d n) (super_Check_c27_d n)
def super_Check_c29_d (n : Nat) : SmV := smSeq [1] (super_Check_c0_d n) (super_Check_c28_d n)
def super_Check_k0 (n : Nat) : AExit → Env → Heap → OptV := fun x e h => match x with | .normal => hold ((super_Check_c27_d n) A_super_Check.fin (e.keep []) h) | .exit id => A_super_Check.fin (.exit id) e h | .ret => A_super_Check.fin .ret e h
def super_Check_k1 (n : Nat) : AExit → Env → Heap → OptV := fun x e h => match x with | .exit i => bif Nat.beq i 0 then (super_Check_k0 n) .normal e h else (super_Check_k0 n) (.exit i) e h | .normal => (super_Check_k0 n) .normal e h | .ret => (super_Check_k0 n) .ret e h
def super_Check_j0 (n : Nat) (x1 x3 : Val) (h : Heap) : OptV := hold ((super_Check_c23_d n) (super_Check_k1 n) [(1, x1), (3, x3)] h)
def R_super_Check (n : Nat) (args : List Val) (h : Heap) : OptV := (super_Check_c29_d n) A_super_Check.fin (params 0 args) h
def super_Check_j1 (n : Nat) (x1 x10 : Val) (h : Heap) : OptV := hold ((super_Check_c21_d n) (super_Check_k1 n) [(1, x1), (10, x10)] h)
theorem R_super_Check_eq (n : Nat) (a0 : Val) (h : Heap) : R_super_Check n [a0] h = bnd (cells? a0) fun c1 => bnd (afAddr ((.c (.p h.length 0))) 0) fun v2 => bnd (aload1 ((h ++ [some (Row.mk (c1) true)])) v2) fun v3 => bnd (abin .lss v3 (.c (.i .i64 16))) fun v4 => cnd v4 (super_Check_j0 n ((.c (.p h.length 0))) v4 ((h ++ [some (Row.mk (c1) true)]))) (bnd (afAddr ((.c (.p h.length 0))) 0) fun v5 => bnd (aload1 ((h ++ [some (Row.mk (c1) true)])) v5) fun v6 => bnd (abin .gtr v6 (.c (.i .i64 512))) fun v7 => super_Check_j0 n ((.c (.p h.length 0))) v7 ((h ++ [some (Row.mk (c1) true)]))) := by kernel_rfl
theorem super_Check_j0_eq (n : Nat) (x1 x3 : Val) (h : Heap) : super_Check_j0 n x1 x3 h = cnd x3 (some ((.c (.i .i64 1)), h)) (bnd (afAddr x1 1) fun v8 => bnd (aload1 h v8) fun v9 => bnd (abin .lss v9 (.c (.i .i64 8))) fun v10 => cnd v10 (super_Check_j1 n x1 v10 h) (bnd (afAddr x1 1) fun v11 => bnd (aload1 h v11) fun v12 => bnd (abin .gtr v12 (.c (.i .i64 128))) fun v13 => cnd v13 (super_Check_j1 n x1 v13 h) (bnd (afAddr x1 1) fun v14 => bnd (aload1 h v14) fun v15 => bnd (abin .rem v15 (.c (.i .i64 8))) fun v16 => bnd (abin .neq v16 (.c (.i .i64 0))) fun v17 => super_Check_j1 n x1 v17 h))) := by kernel_rfl
theorem super_Check_j1_eq (n : Nat) (x1 x10 : Val) (h : Heap) : super_Check_j1 n x1 x10 h = cnd x10 (some ((.c (.i .i64 1)), h)) (bnd (afAddr x1 1) fun v18 => bnd (aload1 h v18) fun v19 => bnd (abin .quo v19 (.c (.i .i64 8))) fun v20 => bnd (abin .add (.c (.i .i64 2)) v20) fun v21 => bnd (afAddr x1 0) fun v22 => bnd (aload1 h v22) fun v23 => bnd (abin .geq v21 v23) fun v24 => cnd v24 (some ((.c (.i .i64 1)), h)) (some ((.c (.i .i64 0)), h))) := by kernel_rfl
theorem K_super_Check : FnK Try.prog 70 A_super_Check E_super_Check R_super_Check := .mk' (sound0) Try.func70 (by kernel_rfl) (by intro n args h; kernel_rfl)
def S_super_Check : Fun := tidy (Lim A_super_Check E_super_Check)
theorem S_super_Check_ok : SOk Try.prog 70 S_super_Check := K_super_Check.sok
theorem S_super_Check_flat {n : Nat} {args : List Val} {h h2 : Heap} {v : Val} (he : R_super_Check n args (ro h) = some (v, h2)) (hf : v.flat = true) : S_super_Check args h = some (v, h) := K_super_Check.flat he hf
def super_Put_o0 : List AOper := [aO 1 (.box (.t 0)), aO 2 (.alloc (List.replicate 256 (.i .u8 0))), aO 3 (.mv (.v (.c (.i .i64 0))))]
def super_Put_c0 : ACode := .ops super_Put_o0
def super_Put_o1 : List AOper := [aO 9 (.loadN 3 (.t 1)), aO 10 (.call 70 [(.t 9)]), aO 4 (.mv (.t 10))]
def super_Put_c1 : ACode := .ops super_Put_o1
def super_Put_o2 : List AOper := [aO 11 (.mv (.t 4)), aO 12 (.bin .neq (.t 11) (.v (.c (.i .i64 0))))]
def super_Put_c2 : ACode := .ops super_Put_o2
def super_Put_o3 : List AOper := [aO 13 (.build (List.replicate 256 (.i .u8 0)) []), aO 14 (.mv (.t 4)), { dst := none, op := .storeN 256 (.t 2) (.t 13) }, aO 3 (.mv (.t 14))]
def super_Put_c3 : ACode := .ops super_Put_o3
def super_Put_c4 : ACode := .seq [2, 3] super_Put_c3 .ret
def super_Put_c5 : ACode := .cond (.t 12) super_Put_c4 .skip
def super_Put_c6 : ACode := .seq [1, 2, 4, 12] super_Put_c2 super_Put_c5
def super_Put_c7 : ACode := .seq [1, 2, 4] super_Put_c1 super_Put_c6
def super_Put_o4 : List AOper := [aO 15 (.buildSl 1 8 ([.i .u8 0, .i .u8 0, .i .u8 0, .i .u8 0, .i .u8 0, .i .u8 0, .i .u8 0, .i .u8 0]) [(0, 1, (.v (.c (.i .u8 101)))), (1, 1, (.v (.c (.i .u8 115)))), (2, 1, (.v (.c (.i .u8 99)))), (3, 1, (.v (.c (.i .u8 104)))), (4, 1, (.v (.c (.i .u8 101)))), (5, 1, (.v (.c (.i .u8 97)))), (6, 1, (.v (.c (.i .u8 116)))), (7, 1, (.v (.c (.i .u8 49))))]), aO 16 (.mark (.t 15)), aO 17 (.call 95 [(.t 16)]), aO 5 (.alloc (List.replicate 256 (.i .u8 0))), { dst := none, op := .storeN 256 (.t 5) (.t 17) }]
def super_Put_c8 : ACode := .ops super_Put_o4
def super_Put_o5 : List AOper := [aO 18 (.loadN 256 (.t 5)), aO 19 (.fAddr (.t 1) 0), aO 20 (.load1 (.t 19)), aO 21 (.call 96 [(.t 18), (.v (.c (.i .i64 8))), (.v (.c (.i .i64 2))), (.t 20)]), { dst := none, op := .storeN 256 (.t 5) (.t 21) }]
def super_Put_c9 : ACode := .ops super_Put_o5
def super_Put_o6 : List AOper := [aO 22 (.loadN 256 (.t 5)), aO 23 (.fAddr (.t 1) 1), aO 24 (.load1 (.t 23)), aO 25 (.call 96 [(.t 22), (.v (.c (.i .i64 10))), (.v (.c (.i .i64 2))), (.t 24)]), { dst := none, op := .storeN 256 (.t 5) (.t 25) }]
def super_Put_c10 : ACode := .ops super_Put_o6
def super_Put_o7 : List AOper := [{ dst := some 27, op := .mkSl 1 ([.i .u8 0]) (.v (.c (.i .i64 8))) (.v (.c (.i .i64 8))), slot := some 0 }, aO 28 (.fAddr (.t 1) 2), aO 29 (.load1 (.t 28)), aO 30 (.call 97 [(.t 27), (.v (.c (.i .i64 0))), (.v (.c (.i .i64 8))), (.t 29)]), aO 26 (.mv (.t 30)), aO 31 (.ext (.t 26) 0), aO 32 (.ext (.t 26) 1), aO 6 (.mv (.t 31))]
def super_Put_o8 : List AOper := [aO 7 (.mv (.t 32))]
def super_Put_c11 : ACode := .draw 1 super_Put_o7 super_Put_o8
def super_Put_o9 : List AOper := [aO 33 (.loadN 256 (.t 5)), aO 34 (.mv (.t 6)), aO 35 (.call 98 [(.t 33), (.v (.c (.i .i64 12))), (.t 34)]), { dst := none, op := .storeN 256 (.t 5) (.t 35) }]
def super_Put_c12 : ACode := .ops super_Put_o9
def super_Put_o10 : List AOper := [aO 36 (.loadN 256 (.t 5)), aO 37 (.call 57 [(.t 36), (.v (.c (.i .i64 0))), (.v (.c (.i .i64 20)))]), aO 38 (.b2s (.t 37)), aO 39 (.call 99 [(.t 38)]), aO 8 (.mv (.t 39))]
def super_Put_c13 : ACode := .ops super_Put_o10
def super_Put_o11 : List AOper := [aO 40 (.loadN 256 (.t 5)), aO 41 (.mv (.t 8)), aO 42 (.conv .i64 (.t 41)), aO 43 (.call 96 [(.t 40), (.v (.c (.i .i64 20))), (.v (.c (.i .i64 4))), (.t 42)]), { dst := none, op := .storeN 256 (.t 2) (.t 43) }, aO 3 (.mv (.v (.c (.i .i64 0))))]
def super_Put_c14 : ACode := .ops super_Put_o11
def super_Put_c15 : ACode := .seq [2, 3] super_Put_c14 .ret
def super_Put_c16 : ACode := .seq [2, 5, 8] super_Put_c13 super_Put_c15
def super_Put_c17 : ACode := .seq [2, 5] super_Put_c12 super_Put_c16
def super_Put_c18 : ACode := .seq [2, 5, 6] super_Put_c11 super_Put_c17
def super_Put_c19 : ACode := .seq [1, 2, 5] super_Put_c10 super_Put_c18
def super_Put_c20 : ACode := .seq [1, 2, 5] super_Put_c9 super_Put_c19
def super_Put_c21 : ACode := .seq [1, 2, 5] super_Put_c8 super_Put_c20
def super_Put_c22 : ACode := .seq [1, 2] super_Put_c7 super_Put_c21
def super_Put_c23 : ACode := .seq [1, 2] super_Put_c0 super_Put_c22
def A_super_Put : AFn := ⟨super_Put_c23, [.cellN 2 256, .tmp 3]⟩
def E_super_Put : Sums := disp 70 S_super_Check (disp 95 S_num_Of (disp 96 S_num_With (disp 97 S_num_Put (disp 98 S_num_Lay (disp 57 S_num_Cut (disp 99 S_mix_Of disp0))))))
def super_Put_c0_d (n : Nat) : SmV := smOps E_super_Put super_Put_o0
def super_Put_c1_d (n : Nat) : SmV := smOps E_super_Put super_Put_o1
def super_Put_c2_d (n : Nat) : SmV := smOps E_super_Put super_Put_o2
def super_Put_c3_d (n : Nat) : SmV := smOps E_super_Put super_Put_o3
def super_Put_c4_d (n : Nat) : SmV := smSeq [2, 3] (super_Put_c3_d n) smRet
def super_Put_c5_d (n : Nat) : SmV := smCond (.t 12) (super_Put_c4_d n) smSkip
def super_Put_c6_d (n : Nat) : SmV := smSeq [1, 2, 4, 12] (super_Put_c2_d n) (super_Put_c5_d n)
def super_Put_c7_d (n : Nat) : SmV := smSeq [1, 2, 4] (super_Put_c1_d n) (super_Put_c6_d n)
def super_Put_c8_d (n : Nat) : SmV := smOps E_super_Put super_Put_o4
def super_Put_c9_d (n : Nat) : SmV := smOps E_super_Put super_Put_o5
def super_Put_c10_d (n : Nat) : SmV := smOps E_super_Put super_Put_o6
def super_Put_c11_d (n : Nat) : SmV := smDraw E_super_Put 1 super_Put_o7 super_Put_o8
def super_Put_c12_d (n : Nat) : SmV := smOps E_super_Put super_Put_o9
def super_Put_c13_d (n : Nat) : SmV := smOps E_super_Put super_Put_o10
def super_Put_c14_d (n : Nat) : SmV := smOps E_super_Put super_Put_o11
def super_Put_c15_d (n : Nat) : SmV := smSeq [2, 3] (super_Put_c14_d n) smRet
def super_Put_c16_d (n : Nat) : SmV := smSeq [2, 5, 8] (super_Put_c13_d n) (super_Put_c15_d n)
def super_Put_c17_d (n : Nat) : SmV := smSeq [2, 5] (super_Put_c12_d n) (super_Put_c16_d n)
def super_Put_c18_d (n : Nat) : SmV := smSeq [2, 5, 6] (super_Put_c11_d n) (super_Put_c17_d n)
def super_Put_c19_d (n : Nat) : SmV := smSeq [1, 2, 5] (super_Put_c10_d n) (super_Put_c18_d n)
def super_Put_c20_d (n : Nat) : SmV := smSeq [1, 2, 5] (super_Put_c9_d n) (super_Put_c19_d n)
def super_Put_c21_d (n : Nat) : SmV := smSeq [1, 2, 5] (super_Put_c8_d n) (super_Put_c20_d n)
def super_Put_c22_d (n : Nat) : SmV := smSeq [1, 2] (super_Put_c7_d n) (super_Put_c21_d n)
def super_Put_c23_d (n : Nat) : SmV := smSeq [1, 2] (super_Put_c0_d n) (super_Put_c22_d n)
def R_super_Put (n : Nat) (args : List Val) (h : Heap) : OptV := (super_Put_c23_d n) A_super_Put.fin (params 0 args) h
theorem R_super_Put_eq (n : Nat) (a0 : Val) (h : Heap) : R_super_Put n [a0] h = bnd (cells? a0) fun c1 => bnd (aloadN (((h ++ [some (Row.mk (c1) true)]) ++ [some (Row.mk (List.replicate 256 (.i .u8 0)) true)])) 3 ((.c (.p h.length 0)))) fun v2 => bnd (S_super_Check [v2] (((h ++ [some (Row.mk (c1) true)]) ++ [some (Row.mk (List.replicate 256 (.i .u8 0)) true)]))) fun p3 => bnd (abin .neq p3.1 (.c (.i .i64 0))) fun v4 => cnd v4 (bnd (afill (List.replicate 256 (.i .u8 0)) []) fun c5 => bnd (astoreN p3.2 256 ((.c (.p ((h ++ [some (Row.mk (c1) true)])).length 0))) ((.a c5))) fun h6 => tupN [aloadN h6 256 ((.c (.p ((h ++ [some (Row.mk (c1) true)])).length 0))), some p3.1] h6) (bnd (afill ([.i .u8 0, .i .u8 0, .i .u8 0, .i .u8 0, .i .u8 0, .i .u8 0, .i .u8 0, .i .u8 0]) [(0, 1, .c (.i .u8 101)), (1, 1, .c (.i .u8 115)), (2, 1, .c (.i .u8 99)), (3, 1, .c (.i .u8 104)), (4, 1, .c (.i .u8 101)), (5, 1, .c (.i .u8 97)), (6, 1, .c (.i .u8 116)), (7, 1, .c (.i .u8 49))]) fun c7 => bnd (amark ((p3.2 ++ [some (Row.mk (c7) true)])) ((.c (.sl p3.2.length 0 8 1)))) fun v8 => bnd (S_num_Of [v8] ((p3.2 ++ [some (Row.mk (c7) true)]))) fun p9 => bnd (astoreN ((p9.2 ++ [some (Row.mk (List.replicate 256 (.i .u8 0)) true)])) 256 ((.c (.p p9.2.length 0))) p9.1) fun h10 => bnd (aloadN h10 256 ((.c (.p p9.2.length 0)))) fun v11 => bnd (afAddr ((.c (.p h.length 0))) 0) fun v12 => bnd (aload1 h10 v12) fun v13 => bnd (S_num_With [v11, .c (.i .i64 8), .c (.i .i64 2), v13] h10) fun p14 => bnd (astoreN p14.2 256 ((.c (.p p9.2.length 0))) p14.1) fun h15 => bnd (aloadN h15 256 ((.c (.p p9.2.length 0)))) fun v16 => bnd (afAddr ((.c (.p h.length 0))) 1) fun v17 => bnd (aload1 h15 v17) fun v18 => bnd (S_num_With [v16, .c (.i .i64 10), .c (.i .i64 2), v18] h15) fun p19 => bnd (astoreN p19.2 256 ((.c (.p p9.2.length 0))) p19.1) fun h20 => bnd (amkn (.c (.i .i64 8)) (.c (.i .i64 8))) fun n21 => bnd (afAddr ((.c (.p h.length 0))) 2) fun v22 => bnd (aload1 h20 v22) fun v23 => bnd (quiet ((((h20 ++ [none])).set (h20.length + 0) (some (Row.mk (rows ([.i .u8 0]) n21) true)))) (S_num_Put [(.c (.sl (h20.length + 0) 0 n21 1)), .c (.i .i64 0), .c (.i .i64 8), v23] ((((h20 ++ [none])).set (h20.length + 0) (some (Row.mk (rows ([.i .u8 0]) n21) true)))))) fun p24 => bnd (aext p24.1 0) fun v25 => bnd (aext p24.1 1) fun v26 => bnd (aloadN p24.2 256 ((.c (.p p9.2.length 0)))) fun v27 => bnd (S_num_Lay [v27, .c (.i .i64 12), v25] p24.2) fun p28 => bnd (astoreN p28.2 256 ((.c (.p p9.2.length 0))) p28.1) fun h29 => bnd (aloadN h29 256 ((.c (.p p9.2.length 0)))) fun v30 => bnd (S_num_Cut [v30, .c (.i .i64 0), .c (.i .i64 20)] h29) fun p31 => bnd (ab2s p31.2 p31.1) fun v32 => bnd (S_mix_Of [v32] p31.2) fun p33 => bnd (aloadN p33.2 256 ((.c (.p p9.2.length 0)))) fun v34 => bnd (aconv .i64 p33.1) fun v35 => bnd (S_num_With [v34, .c (.i .i64 20), .c (.i .i64 4), v35] p33.2) fun p36 => bnd (astoreN p36.2 256 ((.c (.p ((h ++ [some (Row.mk (c1) true)])).length 0))) p36.1) fun h37 => tupN [aloadN h37 256 ((.c (.p ((h ++ [some (Row.mk (c1) true)])).length 0))), some (.c (.i .i64 0))] h37) := by kernel_rfl
theorem K_super_Put : FnK Try.prog 52 A_super_Put E_super_Put R_super_Put := .mk' (sound1 S_super_Check_ok (sound1 S_num_Of_ok (sound1 S_num_With_ok (sound1 S_num_Put_ok (sound1 S_num_Lay_ok (sound1 S_num_Cut_ok (sound1 S_mix_Of_ok sound0))))))) Try.func52 (by kernel_rfl) (by intro n args h; kernel_rfl)
def S_super_Put : Fun := tidy (Lim A_super_Put E_super_Put)
theorem S_super_Put_ok : SOk Try.prog 52 S_super_Put := K_super_Put.sok
theorem S_super_Put_flat {n : Nat} {args : List Val} {h h2 : Heap} {v : Val} (he : R_super_Put n args (ro h) = some (v, h2)) (hf : v.flat = true) : S_super_Put args h = some (v, h) := K_super_Put.flat he hf
def super_Get_o0 : List AOper := [aO 1 (.box (.t 0)), aO 2 (.alloc ([.i .i64 0, .i .i64 0, .i .u64 0])), aO 3 (.mv (.v (.c (.i .i64 0))))]
def super_Get_c0 : ACode := .ops super_Get_o0
def super_Get_o1 : List AOper := [aO 10 (.loadN 256 (.t 1)), aO 11 (.call 57 [(.t 10), (.v (.c (.i .i64 12))), (.v (.c (.i .i64 8)))]), aO 12 (.call 100 [(.t 11), (.v (.c (.i .i64 0))), (.v (.c (.i .i64 8)))]), aO 9 (.mv (.t 12)), aO 13 (.ext (.t 9) 0), aO 14 (.ext (.t 9) 1), aO 4 (.mv (.t 13)), aO 5 (.mv (.t 14))]
def super_Get_c1 : ACode := .ops super_Get_o1
def super_Get_o2 : List AOper := [aO 15 (.loadN 256 (.t 1)), aO 16 (.call 101 [(.t 15), (.v (.c (.i .i64 8))), (.v (.c (.i .i64 2)))]), aO 17 (.loadN 256 (.t 1)), aO 18 (.call 101 [(.t 17), (.v (.c (.i .i64 10))), (.v (.c (.i .i64 2)))]), aO 19 (.mv (.t 4)), aO 20 (.build ([.i .i64 0, .i .i64 0, .i .u64 0]) [(0, 1, (.t 16)), (1, 1, (.t 18)), (2, 1, (.t 19))]), { dst := some 6, op := .alloc ([.i .i64 0, .i .i64 0, .i .u64 0]), slot := some 0 }]
def super_Get_o3 : List AOper := [{ dst := none, op := .storeN 3 (.t 6) (.t 20) }]
def super_Get_c2 : ACode := .draw 1 super_Get_o2 super_Get_o3
def super_Get_o4 : List AOper := [aO 22 (.loadN 3 (.t 6)), aO 23 (.call 52 [(.t 22)]), aO 21 (.mv (.t 23)), aO 24 (.ext (.t 21) 0), aO 25 (.ext (.t 21) 1), aO 7 (.alloc (List.replicate 256 (.i .u8 0))), { dst := none, op := .storeN 256 (.t 7) (.t 24) }, aO 8 (.mv (.t 25))]
def super_Get_c3 : ACode := .ops super_Get_o4
def super_Get_o5 : List AOper := [aO 26 (.mv (.t 8)), aO 27 (.bin .neq (.t 26) (.v (.c (.i .i64 0)))), aO 28 (.mv (.t 27)), { dst := some 29, op := .loadN 256 (.t 7), guard := some (28, false) }, { dst := some 30, op := .loadN 256 (.t 1), guard := some (28, false) }, { dst := some 31, op := .eqA true (List.replicate 256 (.i .u8)) (.t 29) (.t 30), guard := some (28, false) }, aO 32 (.pick (.t 28) (.v (.c (.b true))) (.t 31))]
def super_Get_c4 : ACode := .ops super_Get_o5
def super_Get_o6 : List AOper := [aO 33 (.build ([.i .i64 0, .i .i64 0, .i .u64 0]) []), { dst := none, op := .storeN 3 (.t 2) (.t 33) }, aO 3 (.mv (.v (.c (.i .i64 13))))]
def super_Get_c5 : ACode := .ops super_Get_o6
def super_Get_c6 : ACode := .seq [2, 3] super_Get_c5 .ret
def super_Get_c7 : ACode := .cond (.t 32) super_Get_c6 .skip
def super_Get_c8 : ACode := .seq [2, 6, 32] super_Get_c4 super_Get_c7
def super_Get_c9 : ACode := .seq [1, 2, 6, 7, 8] super_Get_c3 super_Get_c8
def super_Get_o7 : List AOper := [aO 34 (.loadN 3 (.t 6)), { dst := none, op := .storeN 3 (.t 2) (.t 34) }, aO 3 (.mv (.v (.c (.i .i64 0))))]
def super_Get_c10 : ACode := .ops super_Get_o7
def super_Get_c11 : ACode := .seq [2, 3] super_Get_c10 .ret
def super_Get_c12 : ACode := .seq [2, 6] super_Get_c9 super_Get_c11
def super_Get_c13 : ACode := .seq [1, 2, 6] super_Get_c2 super_Get_c12
def super_Get_c14 : ACode := .seq [1, 2, 4] super_Get_c1 super_Get_c13
def super_Get_c15 : ACode := .seq [1, 2] super_Get_c0 super_Get_c14
def A_super_Get : AFn := ⟨super_Get_c15, [.cellN 2 3, .tmp 3]⟩
def E_super_Get : Sums := disp 57 S_num_Cut (disp 100 S_num_Get (disp 101 S_num_At (disp 52 S_super_Put disp0)))
def super_Get_c0_d (n : Nat) : SmV := smOps E_super_Get super_Get_o0
def super_Get_c1_d (n : Nat) : SmV := smOps E_super_Get super_Get_o1
def super_Get_c2_d (n : Nat) : SmV := smDraw E_super_Get 1 super_Get_o2 super_Get_o3
def super_Get_c3_d (n : Nat) : SmV := smOps E_super_Get super_Get_o4
def super_Get_c4_d (n : Nat) : SmV := smOps E_super_Get super_Get_o5
def super_Get_c5_d (n : Nat) : SmV := smOps E_super_Get super_Get_o6
def super_Get_c6_d (n : Nat) : SmV := smSeq [2, 3] (super_Get_c5_d n) smRet
def super_Get_c7_d (n : Nat) : SmV := smCond (.t 32) (super_Get_c6_d n) smSkip
def super_Get_c8_d (n : Nat) : SmV := smSeq [2, 6, 32] (super_Get_c4_d n) (super_Get_c7_d n)
def super_Get_c9_d (n : Nat) : SmV := smSeq [1, 2, 6, 7, 8] (super_Get_c3_d n) (super_Get_c8_d n)
def super_Get_c10_d (n : Nat) : SmV := smOps E_super_Get super_Get_o7
def super_Get_c11_d (n : Nat) : SmV := smSeq [2, 3] (super_Get_c10_d n) smRet
def super_Get_c12_d (n : Nat) : SmV := smSeq [2, 6] (super_Get_c9_d n) (super_Get_c11_d n)
def super_Get_c13_d (n : Nat) : SmV := smSeq [1, 2, 6] (super_Get_c2_d n) (super_Get_c12_d n)
def super_Get_c14_d (n : Nat) : SmV := smSeq [1, 2, 4] (super_Get_c1_d n) (super_Get_c13_d n)
def super_Get_c15_d (n : Nat) : SmV := smSeq [1, 2] (super_Get_c0_d n) (super_Get_c14_d n)
def R_super_Get (n : Nat) (args : List Val) (h : Heap) : OptV := (super_Get_c15_d n) A_super_Get.fin (params 0 args) h
theorem R_super_Get_eq (n : Nat) (a0 : Val) (h : Heap) : R_super_Get n [a0] h = bnd (cells? a0) fun c1 => bnd (aloadN (((h ++ [some (Row.mk (c1) true)]) ++ [some (Row.mk ([.i .i64 0, .i .i64 0, .i .u64 0]) true)])) 256 ((.c (.p h.length 0)))) fun v2 => bnd (S_num_Cut [v2, .c (.i .i64 12), .c (.i .i64 8)] (((h ++ [some (Row.mk (c1) true)]) ++ [some (Row.mk ([.i .i64 0, .i .i64 0, .i .u64 0]) true)]))) fun p3 => bnd (S_num_Get [p3.1, .c (.i .i64 0), .c (.i .i64 8)] p3.2) fun p4 => bnd (aext p4.1 0) fun v5 => bnd (aext p4.1 1) fun v6 => bnd (aloadN p4.2 256 ((.c (.p h.length 0)))) fun v7 => bnd (quiet ((p4.2 ++ [none])) (S_num_At [v7, .c (.i .i64 8), .c (.i .i64 2)] ((p4.2 ++ [none])))) fun p8 => bnd (aloadN p4.2 256 ((.c (.p h.length 0)))) fun v9 => bnd (quiet p8.2 (S_num_At [v9, .c (.i .i64 10), .c (.i .i64 2)] p8.2)) fun p10 => bnd (afill ([.i .i64 0, .i .i64 0, .i .u64 0]) [(0, 1, p8.1), (1, 1, p10.1), (2, 1, v5)]) fun c11 => bnd (astoreN ((p10.2.set (p4.2.length + 0) (some (Row.mk ([.i .i64 0, .i .i64 0, .i .u64 0]) true)))) 3 ((.c (.p (p4.2.length + 0) 0))) ((.a c11))) fun h12 => bnd (aloadN h12 3 ((.c (.p (p4.2.length + 0) 0)))) fun v13 => bnd (S_super_Put [v13] h12) fun p14 => bnd (aext p14.1 0) fun v15 => bnd (aext p14.1 1) fun v16 => bnd (astoreN ((p14.2 ++ [some (Row.mk (List.replicate 256 (.i .u8 0)) true)])) 256 ((.c (.p p14.2.length 0))) v15) fun h17 => bnd (abin .neq v16 (.c (.i .i64 0))) fun v18 => bnd (gd v18 false (bnd (aloadN h17 256 ((.c (.p p14.2.length 0)))) fun v19 => some (v19, h17)) (some (.no, h17))) fun p20 => bnd (gd v18 false (bnd (aloadN p20.2 256 ((.c (.p h.length 0)))) fun v21 => some (v21, p20.2)) (some (.no, p20.2))) fun p22 => bnd (gd v18 false (bnd (aeq true (List.replicate 256 (.i .u8)) p20.1 p22.1) fun v23 => some (v23, p22.2)) (some (.no, p22.2))) fun p24 => bnd (apick v18 (.c (.b true)) p24.1) fun v25 => cnd v25 (bnd (afill ([.i .i64 0, .i .i64 0, .i .u64 0]) []) fun c26 => bnd (astoreN p24.2 3 ((.c (.p ((h ++ [some (Row.mk (c1) true)])).length 0))) ((.a c26))) fun h27 => tupN [aloadN h27 3 ((.c (.p ((h ++ [some (Row.mk (c1) true)])).length 0))), some (.c (.i .i64 13))] h27) (bnd (aloadN p24.2 3 ((.c (.p (p4.2.length + 0) 0)))) fun v28 => bnd (astoreN p24.2 3 ((.c (.p ((h ++ [some (Row.mk (c1) true)])).length 0))) v28) fun h29 => tupN [aloadN h29 3 ((.c (.p ((h ++ [some (Row.mk (c1) true)])).length 0))), some (.c (.i .i64 0))] h29) := by kernel_rfl
theorem K_super_Get : FnK Try.prog 53 A_super_Get E_super_Get R_super_Get := .mk' (sound1 S_num_Cut_ok (sound1 S_num_Get_ok (sound1 S_num_At_ok (sound1 S_super_Put_ok sound0)))) Try.func53 (by kernel_rfl) (by intro n args h; kernel_rfl)
def S_super_Get : Fun := tidy (Lim A_super_Get E_super_Get)
theorem S_super_Get_ok : SOk Try.prog 53 S_super_Get := K_super_Get.sok
theorem S_super_Get_flat {n : Nat} {args : List Val} {h h2 : Heap} {v : Val} (he : R_super_Get n args (ro h) = some (v, h2)) (hf : v.flat = true) : S_super_Get args h = some (v, h) := K_super_Get.flat he hf
end Go.Proofs.Ytdgggnlbdoiloaa
end
noncomputable section
namespace Go.Proofs.Ytdgggnlbdoiloaa
open Go Go.Esc
set_option maxRecDepth 100000
def geom_ok_o0 : List AOper := [aO 1 (.box (.t 0)), aO 2 (.mv (.v (.c (.b false))))]
def geom_ok_c0 : ACode := .ops geom_ok_o0
def geom_ok_o1 : List AOper := [aO 3 (.loadN 3 (.t 1)), aO 4 (.call 70 [(.t 3)]), aO 5 (.bin .eql (.t 4) (.v (.c (.i .i64 0)))), aO 2 (.mv (.t 5))]
def geom_ok_c1 : ACode := .ops geom_ok_o1
def geom_ok_c2 : ACode := .seq [2] geom_ok_c1 .ret
def geom_ok_c3 : ACode := .seq [1] geom_ok_c0 geom_ok_c2
def A_geom_ok : AFn := ⟨geom_ok_c3, [.tmp 2]⟩
def E_geom_ok : Sums := disp 70 S_super_Check disp0
def geom_ok_c0_d (n : Nat) : SmV := smOps E_geom_ok geom_ok_o0
def geom_ok_c1_d (n : Nat) : SmV := smOps E_geom_ok geom_ok_o1
def geom_ok_c2_d (n : Nat) : SmV := smSeq [2] (geom_ok_c1_d n) smRet
def geom_ok_c3_d (n : Nat) : SmV := smSeq [1] (geom_ok_c0_d n) (geom_ok_c2_d n)
def R_geom_ok (n : Nat) (args : List Val) (h : Heap) : OptV := (geom_ok_c3_d n) A_geom_ok.fin (params 0 args) h
theorem R_geom_ok_eq (n : Nat) (a0 : Val) (h : Heap) : R_geom_ok n [a0] h = bnd (cells? a0) fun c1 => bnd (aloadN ((h ++ [some (Row.mk (c1) true)])) 3 ((.c (.p h.length 0)))) fun v2 => bnd (S_super_Check [v2] ((h ++ [some (Row.mk (c1) true)]))) fun p3 => bnd (abin .eql p3.1 (.c (.i .i64 0))) fun v4 => some (v4, p3.2) := by kernel_rfl
theorem K_geom_ok : FnK Try.prog 63 A_geom_ok E_geom_ok R_geom_ok := .mk' (sound1 S_super_Check_ok sound0) Try.func63 (by kernel_rfl) (by intro n args h; kernel_rfl)
def S_geom_ok : Fun := tidy (Lim A_geom_ok E_geom_ok)
theorem S_geom_ok_ok : SOk Try.prog 63 S_geom_ok := K_geom_ok.sok
theorem S_geom_ok_flat {n : Nat} {args : List Val} {h h2 : Heap} {v : Val} (he : R_geom_ok n args (ro h) = some (v, h2)) (hf : v.flat = true) : S_geom_ok args h = some (v, h) := K_geom_ok.flat he hf
def geom_Map_o0 : List AOper := [aO 0 (.mv (.v (.c (.i .i64 0))))]
def geom_Map_c0 : ACode := .ops geom_Map_o0
def geom_Map_o1 : List AOper := [aO 0 (.mv (.v (.c (.i .i64 1))))]
def geom_Map_c1 : ACode := .ops geom_Map_o1
def geom_Map_c2 : ACode := .seq [0] geom_Map_c1 .ret
def geom_Map_c3 : ACode := .seq [] geom_Map_c0 geom_Map_c2
def A_geom_Map : AFn := ⟨geom_Map_c3, [.tmp 0]⟩
def E_geom_Map : Sums := disp0
def geom_Map_c0_d (n : Nat) : SmV := smOps E_geom_Map geom_Map_o0
def geom_Map_c1_d (n : Nat) : SmV := smOps E_geom_Map geom_Map_o1
def geom_Map_c2_d (n : Nat) : SmV := smSeq [0] (geom_Map_c1_d n) smRet
def geom_Map_c3_d (n : Nat) : SmV := smSeq [] (geom_Map_c0_d n) (geom_Map_c2_d n)
def R_geom_Map (n : Nat) (args : List Val) (h : Heap) : OptV := (geom_Map_c3_d n) A_geom_Map.fin (params 0 args) h
theorem R_geom_Map_eq (n : Nat) (h : Heap) : R_geom_Map n [] h = some ((.c (.i .i64 1)), h) := by kernel_rfl
theorem K_geom_Map : FnK Try.prog 72 A_geom_Map E_geom_Map R_geom_Map := .mk' (sound0) Try.func72 (by kernel_rfl) (by intro n args h; kernel_rfl)
def S_geom_Map : Fun := tidy (Lim A_geom_Map E_geom_Map)
theorem S_geom_Map_ok : SOk Try.prog 72 S_geom_Map := K_geom_Map.sok
theorem S_geom_Map_flat {n : Nat} {args : List Val} {h h2 : Heap} {v : Val} (he : R_geom_Map n args (ro h) = some (v, h2)) (hf : v.flat = true) : S_geom_Map args h = some (v, h) := K_geom_Map.flat he hf
def geom_Table_o0 : List AOper := [aO 1 (.box (.t 0)), aO 2 (.mv (.v (.c (.i .i64 0)))), aO 3 (.mv (.v (.c (.i .i64 0))))]
def geom_Table_c0 : ACode := .ops geom_Table_o0
def geom_Table_o1 : List AOper := [aO 4 (.loadN 3 (.t 1)), aO 5 (.call 63 [(.t 4)]), aO 6 (.un .not (.t 5))]
def geom_Table_c1 : ACode := .ops geom_Table_o1
def geom_Table_o2 : List AOper := [aO 2 (.mv (.v (.c (.i .i64 0)))), aO 3 (.mv (.v (.c (.i .i64 0))))]
def geom_Table_c2 : ACode := .ops geom_Table_o2
def geom_Table_c3 : ACode := .seq [2, 3] geom_Table_c2 .ret
def geom_Table_c4 : ACode := .cond (.t 6) geom_Table_c3 .skip
def geom_Table_c5 : ACode := .seq [1, 6] geom_Table_c1 geom_Table_c4
def geom_Table_o3 : List AOper := [aO 7 (.call 72 []), aO 8 (.bin .add (.t 7) (.v (.c (.i .i64 1)))), aO 9 (.fAddr (.t 1) 1), aO 10 (.load1 (.t 9)), aO 11 (.bin .quo (.t 10) (.v (.c (.i .i64 8)))), aO 2 (.mv (.t 8))]
def geom_Table_o4 : List AOper := [aO 3 (.mv (.t 11))]
def geom_Table_c6 : ACode := .draw 0 geom_Table_o3 geom_Table_o4
def geom_Table_c7 : ACode := .seq [2, 3] geom_Table_c6 .ret
def geom_Table_c8 : ACode := .seq [1] geom_Table_c5 geom_Table_c7
def geom_Table_c9 : ACode := .seq [1] geom_Table_c0 geom_Table_c8
def A_geom_Table : AFn := ⟨geom_Table_c9, [.tmp 2, .tmp 3]⟩
def E_geom_Table : Sums := disp 63 S_geom_ok (disp 72 S_geom_Map disp0)
def geom_Table_c0_d (n : Nat) : SmV := smOps E_geom_Table geom_Table_o0
def geom_Table_c1_d (n : Nat) : SmV := smOps E_geom_Table geom_Table_o1
def geom_Table_c2_d (n : Nat) : SmV := smOps E_geom_Table geom_Table_o2
def geom_Table_c3_d (n : Nat) : SmV := smSeq [2, 3] (geom_Table_c2_d n) smRet
def geom_Table_c4_d (n : Nat) : SmV := smCond (.t 6) (geom_Table_c3_d n) smSkip
def geom_Table_c5_d (n : Nat) : SmV := smSeq [1, 6] (geom_Table_c1_d n) (geom_Table_c4_d n)
def geom_Table_c6_d (n : Nat) : SmV := smDraw E_geom_Table 0 geom_Table_o3 geom_Table_o4
def geom_Table_c7_d (n : Nat) : SmV := smSeq [2, 3] (geom_Table_c6_d n) smRet
def geom_Table_c8_d (n : Nat) : SmV := smSeq [1] (geom_Table_c5_d n) (geom_Table_c7_d n)
def geom_Table_c9_d (n : Nat) : SmV := smSeq [1] (geom_Table_c0_d n) (geom_Table_c8_d n)
def R_geom_Table (n : Nat) (args : List Val) (h : Heap) : OptV := (geom_Table_c9_d n) A_geom_Table.fin (params 0 args) h
theorem R_geom_Table_eq (n : Nat) (a0 : Val) (h : Heap) : R_geom_Table n [a0] h = bnd (cells? a0) fun c1 => bnd (aloadN ((h ++ [some (Row.mk (c1) true)])) 3 ((.c (.p h.length 0)))) fun v2 => bnd (S_geom_ok [v2] ((h ++ [some (Row.mk (c1) true)]))) fun p3 => bnd (aun .not p3.1) fun v4 => cnd v4 (tupN [some (.c (.i .i64 0)), some (.c (.i .i64 0))] p3.2) (bnd (quiet ((p3.2 ++ [])) (S_geom_Map [] ((p3.2 ++ [])))) fun p5 => bnd (abin .add p5.1 (.c (.i .i64 1))) fun v6 => bnd (afAddr ((.c (.p h.length 0))) 1) fun v7 => bnd (aload1 p3.2 v7) fun v8 => bnd (abin .quo v8 (.c (.i .i64 8))) fun v9 => tupN [some v6, some v9] p5.2) := by kernel_rfl
theorem K_geom_Table : FnK Try.prog 103 A_geom_Table E_geom_Table R_geom_Table := .mk' (sound1 S_geom_ok_ok (sound1 S_geom_Map_ok sound0)) Try.func103 (by kernel_rfl) (by intro n args h; kernel_rfl)
def S_geom_Table : Fun := tidy (Lim A_geom_Table E_geom_Table)
theorem S_geom_Table_ok : SOk Try.prog 103 S_geom_Table := K_geom_Table.sok
theorem S_geom_Table_flat {n : Nat} {args : List Val} {h h2 : Heap} {v : Val} (he : R_geom_Table n args (ro h) = some (v, h2)) (hf : v.flat = true) : S_geom_Table args h = some (v, h) := K_geom_Table.flat he hf
def geom_Data_o0 : List AOper := [aO 1 (.box (.t 0)), aO 2 (.mv (.v (.c (.i .i64 0))))]
def geom_Data_c0 : ACode := .ops geom_Data_o0
def geom_Data_o1 : List AOper := [aO 6 (.loadN 3 (.t 1)), aO 7 (.call 103 [(.t 6)]), aO 5 (.mv (.t 7)), aO 8 (.ext (.t 5) 0), aO 9 (.ext (.t 5) 1), aO 3 (.mv (.t 8)), aO 4 (.mv (.t 9))]
def geom_Data_c1 : ACode := .ops geom_Data_o1
def geom_Data_o2 : List AOper := [aO 10 (.mv (.t 3)), aO 11 (.mv (.t 4)), aO 12 (.bin .add (.t 10) (.t 11)), aO 2 (.mv (.t 12))]
def geom_Data_c2 : ACode := .ops geom_Data_o2
def geom_Data_c3 : ACode := .seq [2] geom_Data_c2 .ret
def geom_Data_c4 : ACode := .seq [3, 4] geom_Data_c1 geom_Data_c3
def geom_Data_c5 : ACode := .seq [1] geom_Data_c0 geom_Data_c4
def A_geom_Data : AFn := ⟨geom_Data_c5, [.tmp 2]⟩
def E_geom_Data : Sums := disp 103 S_geom_Table disp0
def geom_Data_c0_d (n : Nat) : SmV := smOps E_geom_Data geom_Data_o0
def geom_Data_c1_d (n : Nat) : SmV := smOps E_geom_Data geom_Data_o1
def geom_Data_c2_d (n : Nat) : SmV := smOps E_geom_Data geom_Data_o2
def geom_Data_c3_d (n : Nat) : SmV := smSeq [2] (geom_Data_c2_d n) smRet
def geom_Data_c4_d (n : Nat) : SmV := smSeq [3, 4] (geom_Data_c1_d n) (geom_Data_c3_d n)
def geom_Data_c5_d (n : Nat) : SmV := smSeq [1] (geom_Data_c0_d n) (geom_Data_c4_d n)
def R_geom_Data (n : Nat) (args : List Val) (h : Heap) : OptV := (geom_Data_c5_d n) A_geom_Data.fin (params 0 args) h
theorem R_geom_Data_eq (n : Nat) (a0 : Val) (h : Heap) : R_geom_Data n [a0] h = bnd (cells? a0) fun c1 => bnd (aloadN ((h ++ [some (Row.mk (c1) true)])) 3 ((.c (.p h.length 0)))) fun v2 => bnd (S_geom_Table [v2] ((h ++ [some (Row.mk (c1) true)]))) fun p3 => bnd (aext p3.1 0) fun v4 => bnd (aext p3.1 1) fun v5 => bnd (abin .add v4 v5) fun v6 => some (v6, p3.2) := by kernel_rfl
theorem K_geom_Data : FnK Try.prog 64 A_geom_Data E_geom_Data R_geom_Data := .mk' (sound1 S_geom_Table_ok sound0) Try.func64 (by kernel_rfl) (by intro n args h; kernel_rfl)
def S_geom_Data : Fun := tidy (Lim A_geom_Data E_geom_Data)
theorem S_geom_Data_ok : SOk Try.prog 64 S_geom_Data := K_geom_Data.sok
theorem S_geom_Data_flat {n : Nat} {args : List Val} {h h2 : Heap} {v : Val} (he : R_geom_Data n args (ro h) = some (v, h2)) (hf : v.flat = true) : S_geom_Data args h = some (v, h) := K_geom_Data.flat he hf
def geom_IsData_o0 : List AOper := [aO 2 (.box (.t 0)), aO 4 (.mv (.v (.c (.b false))))]
def geom_IsData_c0 : ACode := .ops geom_IsData_o0
def geom_IsData_o1 : List AOper := [aO 5 (.loadN 3 (.t 2)), aO 6 (.call 63 [(.t 5)]), aO 7 (.mv (.t 6)), { dst := some 8, op := .mv (.t 1), guard := some (7, true) }, { dst := some 9, op := .loadN 3 (.t 2), guard := some (7, true) }, { dst := some 10, op := .call 64 [(.t 9)], guard := some (7, true) }, { dst := some 11, op := .bin .geq (.t 8) (.t 10), guard := some (7, true) }, aO 12 (.pick (.t 7) (.t 11) (.v (.c (.b false)))), aO 13 (.mv (.t 12)), { dst := some 14, op := .mv (.t 1), guard := some (13, true) }, { dst := some 15, op := .fAddr (.t 2) 0, guard := some (13, true) }, { dst := some 16, op := .load1 (.t 15), guard := some (13, true) }, { dst := some 17, op := .bin .lss (.t 14) (.t 16), guard := some (13, true) }, aO 18 (.pick (.t 13) (.t 17) (.v (.c (.b false)))), aO 4 (.mv (.t 18))]
def geom_IsData_c1 : ACode := .ops geom_IsData_o1
def geom_IsData_c2 : ACode := .seq [4] geom_IsData_c1 .ret
def geom_IsData_c3 : ACode := .seq [1, 2] geom_IsData_c0 geom_IsData_c2
def A_geom_IsData : AFn := ⟨geom_IsData_c3, [.tmp 4]⟩
def E_geom_IsData : Sums := disp 63 S_geom_ok (disp 64 S_geom_Data disp0)
def geom_IsData_c0_d (n : Nat) : SmV := smOps E_geom_IsData geom_IsData_o0
def geom_IsData_c1_d (n : Nat) : SmV := smOps E_geom_IsData geom_IsData_o1
def geom_IsData_c2_d (n : Nat) : SmV := smSeq [4] (geom_IsData_c1_d n) smRet
def geom_IsData_c3_d (n : Nat) : SmV := smSeq [1, 2] (geom_IsData_c0_d n) (geom_IsData_c2_d n)
def R_geom_IsData (n : Nat) (args : List Val) (h : Heap) : OptV := (geom_IsData_c3_d n) A_geom_IsData.fin (params 0 args) h
theorem R_geom_IsData_eq (n : Nat) (a0 a1 : Val) (h : Heap) : R_geom_IsData n [a0, a1] h = bnd (cells? a0) fun c1 => bnd (aloadN ((h ++ [some (Row.mk (c1) true)])) 3 ((.c (.p h.length 0)))) fun v2 => bnd (S_geom_ok [v2] ((h ++ [some (Row.mk (c1) true)]))) fun p3 => bnd (gd p3.1 true (some (a1, p3.2)) (some (.no, p3.2))) fun p4 => bnd (gd p3.1 true (bnd (aloadN p4.2 3 ((.c (.p h.length 0)))) fun v5 => some (v5, p4.2)) (some (.no, p4.2))) fun p6 => bnd (gd p3.1 true (bnd (S_geom_Data [p6.1] p6.2) fun p7 => some (p7.1, p7.2)) (some (.no, p6.2))) fun p8 => bnd (gd p3.1 true (bnd (abin .geq p4.1 p8.1) fun v9 => some (v9, p8.2)) (some (.no, p8.2))) fun p10 => bnd (apick p3.1 p10.1 (.c (.b false))) fun v11 => bnd (gd v11 true (some (a1, p10.2)) (some (.no, p10.2))) fun p12 => bnd (gd v11 true (bnd (afAddr ((.c (.p h.length 0))) 0) fun v13 => some (v13, p12.2)) (some (.no, p12.2))) fun p14 => bnd (gd v11 true (bnd (aload1 p14.2 p14.1) fun v15 => some (v15, p14.2)) (some (.no, p14.2))) fun p16 => bnd (gd v11 true (bnd (abin .lss p12.1 p16.1) fun v17 => some (v17, p16.2)) (some (.no, p16.2))) fun p18 => bnd (apick v11 p18.1 (.c (.b false))) fun v19 => some (v19, p18.2) := by kernel_rfl
theorem K_geom_IsData : FnK Try.prog 25 A_geom_IsData E_geom_IsData R_geom_IsData := .mk' (sound1 S_geom_ok_ok (sound1 S_geom_Data_ok sound0)) Try.func25 (by kernel_rfl) (by intro n args h; kernel_rfl)
def S_geom_IsData : Fun := tidy (Lim A_geom_IsData E_geom_IsData)
theorem S_geom_IsData_ok : SOk Try.prog 25 S_geom_IsData := K_geom_IsData.sok
theorem S_geom_IsData_flat {n : Nat} {args : List Val} {h h2 : Heap} {v : Val} (he : R_geom_IsData n args (ro h) = some (v, h2)) (hf : v.flat = true) : S_geom_IsData args h = some (v, h) := K_geom_IsData.flat he hf
end Go.Proofs.Ytdgggnlbdoiloaa
end
section
namespace Go.Proofs.Ytdgggnlbdoiloaa
open Go Go.Esc

def mayL (b n : Int) : Bool := decide (16 ≤ b) && decide (b ≤ 512) && decide (8 ≤ n) && decide (n ≤ 128) && decide (n % 8 = 0) && decide (2 + n / 8 < b)

theorem mayL_true {b n : Int} : mayL b n = true ↔ 16 ≤ b ∧ b ≤ 512 ∧ 8 ≤ n ∧ n ≤ 128 ∧ n % 8 = 0 ∧ 2 + n / 8 < b := by
  unfold mayL; simp [and_assoc]
theorem mayL_false {b n : Int} : mayL b n = false ↔ ¬ (16 ≤ b ∧ b ≤ 512 ∧ 8 ≤ n ∧ n ≤ 128 ∧ n % 8 = 0 ∧ 2 + n / 8 < b) := by
  rw [← mayL_true]; simp

abbrev layC (b n m : Int) : List Cell := [.i .i64 b, .i .i64 n, .i .u64 m]

theorem super_Check_eq {b n m : Int} {h : Heap} : S_super_Check [.a (layC b n m)] h = some (.c (.i .i64 (bif mayL b n then 0 else 1)), h) := by
  have key : ∀ g, ∃ g', R_super_Check 0 [.a (layC b n m)] g = some (.c (.i .i64 (bif mayL b n then 0 else 1)), g') := by
    intro g
    rw [R_super_Check_eq]
    have bad : mayL b n = false → (some (Val.c (.i .i64 1), g ++ [some ⟨layC b n m, true⟩])) = some (.c (.i .i64 (bif mayL b n then 0 else 1)), g ++ [some ⟨layC b n m, true⟩]) := fun h => by rw [h]; rfl
    by_cases c1 : b < 16
    · rw [mayL_false.2 (by omega)]
      exact ⟨_, by simp only [esc, esh, Nat.reduceAdd, Nat.reduceMul, Nat.reduceLT, c1, super_Check_j0_eq] <;> rfl⟩
    · by_cases c2 : 512 < b
      · rw [mayL_false.2 (by omega)]
        exact ⟨_, by simp only [esc, esh, Nat.reduceAdd, Nat.reduceMul, Nat.reduceLT, c1, c2, super_Check_j0_eq] <;> rfl⟩
      · by_cases c3 : n < 8
        · rw [mayL_false.2 (by omega)]
          exact ⟨_, by simp only [esc, esh, Nat.reduceAdd, Nat.reduceMul, Nat.reduceLT, c1, c2, c3, super_Check_j0_eq, super_Check_j1_eq] <;> rfl⟩
        · by_cases c4 : 128 < n
          · rw [mayL_false.2 (by omega)]
            exact ⟨_, by simp only [esc, esh, Nat.reduceAdd, Nat.reduceMul, Nat.reduceLT, c1, c2, c3, c4, super_Check_j0_eq, super_Check_j1_eq] <;> rfl⟩
          · have e1 := rem_i (a := n) (b := 8) (k := .i64) (by omega) (by omega)
            by_cases c5 : n % 8 = 0
            · have e2 := quo_i64 (a := n) (b := 8) (by omega) (by omega) (by omega)
              have e3 : IntKind.wrap .i64 (2 + n / 8) = 2 + n / 8 := wrap_i64 (by omega) (by omega)
              by_cases c6 : b ≤ 2 + n / 8
              · rw [mayL_false.2 (by omega)]
                exact ⟨_, by simp only [esc, esh, Nat.reduceAdd, Nat.reduceMul, Nat.reduceLT, c1, c2, c3, c4, e1, c5, e2, e3, c6, super_Check_j0_eq, super_Check_j1_eq] <;> rfl⟩
              · rw [mayL_true.2 (by omega)]
                exact ⟨_, by simp only [esc, esh, Nat.reduceAdd, Nat.reduceMul, Nat.reduceLT, c1, c2, c3, c4, e1, c5, e2, e3, c6, super_Check_j0_eq, super_Check_j1_eq] <;> rfl⟩
            · rw [mayL_false.2 (by omega)]
              exact ⟨_, by simp only [esc, esh, Nat.reduceAdd, Nat.reduceMul, Nat.reduceLT, c1, c2, c3, c4, e1, c5, super_Check_j0_eq, super_Check_j1_eq] <;> rfl⟩
  obtain ⟨g', e⟩ := key (ro h)
  exact S_super_Check_flat e (by simp)

theorem geom_ok_eq {b n m : Int} {h : Heap} : S_geom_ok [.a (layC b n m)] h = some (.c (.b (mayL b n)), h) := by
  have key : ∀ g, ∃ g', R_geom_ok 0 [.a (layC b n m)] g = some (.c (.b (mayL b n)), g') := by
    intro g
    rw [R_geom_ok_eq]
    cases c : mayL b n with
    | true => exact ⟨_, by simp only [esc, esh, Nat.reduceAdd, Nat.reduceMul, Nat.reduceLT, super_Check_eq, c] <;> rfl⟩
    | false => exact ⟨_, by simp only [esc, esh, Nat.reduceAdd, Nat.reduceMul, Nat.reduceLT, super_Check_eq, c, Int.reduceEq] <;> rfl⟩
  obtain ⟨g', e⟩ := key (ro h)
  exact S_geom_ok_flat e (by simp)

theorem geom_Map_eq {h : Heap} : S_geom_Map [] h = some (.c (.i .i64 1), h) :=
  S_geom_Map_flat (n := 0) (h2 := ro h) (by rw [R_geom_Map_eq]) rfl

def tabF (b n : Int) : Int := bif mayL b n then 2 else 0
def tabN (b n : Int) : Int := bif mayL b n then n / 8 else 0
def datF (b n : Int) : Int := tabF b n + tabN b n

theorem geom_Table_eq {b n m : Int} {h : Heap} : S_geom_Table [.a (layC b n m)] h = some (.t [.c (.i .i64 (tabF b n)), .c (.i .i64 (tabN b n))], h) := by
  have key : ∀ g, ∃ g', R_geom_Table 0 [.a (layC b n m)] g = some (.t [.c (.i .i64 (tabF b n)), .c (.i .i64 (tabN b n))], g') := by
    intro g
    rw [R_geom_Table_eq]
    unfold tabF tabN
    cases c : mayL b n with
    | true =>
      have c' := mayL_true.1 c
      have e2 := quo_i64 (a := n) (b := 8) (by omega) (by omega) (by omega)
      have e3 : IntKind.wrap .i64 (1 + 1) = 2 := wrap_i64 (by omega) (by omega)
      exact ⟨_, by simp only [esc, esh, Nat.reduceAdd, Nat.reduceMul, Nat.reduceLT, geom_ok_eq, c, geom_Map_eq, e2, e3] <;> rfl⟩
    | false => exact ⟨_, by simp only [esc, esh, Nat.reduceAdd, Nat.reduceMul, Nat.reduceLT, geom_ok_eq, c] <;> rfl⟩
  obtain ⟨g', e⟩ := key (ro h)
  exact S_geom_Table_flat e (by simp)

theorem datF_range {b n : Int} : 0 ≤ datF b n ∧ datF b n ≤ 18 := by
  unfold datF tabF tabN
  cases c : mayL b n with
  | true => have := mayL_true.1 c; simp only [cond_true]; omega
  | false => simp only [cond_false]; omega

theorem geom_Data_eq {b n m : Int} {h : Heap} : S_geom_Data [.a (layC b n m)] h = some (.c (.i .i64 (datF b n)), h) := by
  have key : ∀ g, ∃ g', R_geom_Data 0 [.a (layC b n m)] g = some (.c (.i .i64 (datF b n)), g') := by
    intro g
    rw [R_geom_Data_eq]
    have hr := datF_range (b := b) (n := n)
    have e3 : IntKind.wrap .i64 (tabF b n + tabN b n) = datF b n := wrap_i64 (by unfold datF at hr; omega) (by unfold datF at hr; omega)
    exact ⟨_, by simp only [esc, esh, Nat.reduceAdd, Nat.reduceMul, Nat.reduceLT, geom_Table_eq, e3] <;> rfl⟩
  obtain ⟨g', e⟩ := key (ro h)
  exact S_geom_Data_flat e (by simp)

def isDatL (b n i : Int) : Bool := mayL b n && decide (datF b n ≤ i) && decide (i < b)

theorem geom_IsData_eq {b n m i : Int} {h : Heap} : S_geom_IsData [.a (layC b n m), .c (.i .i64 i)] h = some (.c (.b (isDatL b n i)), h) := by
  have key : ∀ g, ∃ g', R_geom_IsData 0 [.a (layC b n m), .c (.i .i64 i)] g = some (.c (.b (isDatL b n i)), g') := by
    intro g
    rw [R_geom_IsData_eq]
    unfold isDatL
    cases c : mayL b n with
    | true =>
      by_cases c1 : datF b n ≤ i
      · exact ⟨_, by simp only [esc, esh, Nat.reduceAdd, Nat.reduceMul, Nat.reduceLT, geom_ok_eq, geom_Data_eq, c, c1] <;> rfl⟩
      · exact ⟨_, by simp only [esc, esh, Nat.reduceAdd, Nat.reduceMul, Nat.reduceLT, geom_ok_eq, geom_Data_eq, c, c1] <;> rfl⟩
    | false => exact ⟨_, by simp only [esc, esh, Nat.reduceAdd, Nat.reduceMul, Nat.reduceLT, geom_ok_eq, c] <;> rfl⟩
  obtain ⟨g', e⟩ := key (ro h)
  exact S_geom_IsData_flat e (by simp)

end Go.Proofs.Ytdgggnlbdoiloaa
end
section
namespace Go.Proofs.Ytdgggnlbdoiloaa
open Go Go.Esc

theorem amark_of {h : Heap} {id off len sz : Nat} {cs : List Cell} (hr : rd h id = some ⟨cs, true⟩) (hn : 0 < len) : amark h (.c (.sl id off len sz)) = some (.c (.sl id off len sz)) := by
  simp [amark, hr, hn]

def magicB : List UInt8 := [101, 115, 99, 104, 101, 97, 116, 49]
def supH (b n m : Int) : List UInt8 := magicB ++ bytesI 2 b ++ bytesI 2 n ++ bytesI 8 m
def supB (b n m : Int) : List UInt8 := padB 256 (supH b n m ++ bytesI 4 (mixH (supH b n m) : Nat))
theorem supH_length {b n m : Int} : (supH b n m).length = 20 := by simp [supH, magicB]
theorem supB_length {b n m : Int} : (supB b n m).length = 256 := padB_length (by rw [List.length_append, supH_length, bytesI_length]; omega)

theorem layI_pad {l xs : List UInt8} {a : Nat} (h1 : l.length ≤ a) (h2 : a + xs.length ≤ 256) (h3 : a < 256) : layI (padB 256 l) a xs = padB 256 (l ++ zeros (a - l.length) ++ xs) := by
  unfold layI
  rw [if_pos (by omega)]
  simp only [Int.toNat_natCast]
  rw [List.take_of_length_le (by omega), padB_lay h1 h2]

theorem super_Put_eq {b n m : Int} {h : Heap} (hm0 : 0 ≤ m) (hm1 : m < 18446744073709551616) :
    S_super_Put [.a (layC b n m)] h = some (.t [.a (encB (bif mayL b n then supB b n m else zeros 256)), .c (.i .i64 (bif mayL b n then 0 else 1))], h) := by
  have key : ∀ g, ∃ g', R_super_Put 0 [.a (layC b n m)] g = some (.t [.a (encB (bif mayL b n then supB b n m else zeros 256)), .c (.i .i64 (bif mayL b n then 0 else 1))], g') := by
    intro g
    have hz : (encB (zeros 256)).length = 256 := by rw [encB_length]; exact zeros_length
    have haf : afill (List.replicate 256 (Cell.i .u8 0)) [] = some (List.replicate 256 (Cell.i .u8 0)) := rfl
    rw [zeros_enc] at haf
    rw [R_super_Put_eq, zeros_enc]
    cases c : mayL b n with
    | false =>
      simp only [cond_false]
      generalize zeros 256 = z at *
      exact ⟨_, by simp only [esc, esh, Nat.reduceAdd, Nat.reduceMul, Nat.reduceLT, super_Check_eq, c, haf, hz, Int.reduceEq] <;> rfl⟩
    | true =>
      simp only [cond_true]
      have e7 : afill [Cell.i .u8 0, .i .u8 0, .i .u8 0, .i .u8 0, .i .u8 0, .i .u8 0, .i .u8 0, .i .u8 0] [(0, 1, .c (.i .u8 101)), (1, 1, .c (.i .u8 115)), (2, 1, .c (.i .u8 99)), (3, 1, .c (.i .u8 104)), (4, 1, .c (.i .u8 101)), (5, 1, .c (.i .u8 97)), (6, 1, .c (.i .u8 116)), (7, 1, .c (.i .u8 49))] = some (encB magicB) := rfl
      have hmk := amark_of (h := g ++ [some ⟨layC b n m, true⟩, some ⟨encB (zeros 256), true⟩, some ⟨encB magicB, true⟩]) (id := g.length + 2) (off := 0) (len := 8) (sz := 1) (cs := encB magicB) (by simp) (by omega)
      have ho := num_Of_eq (h := g ++ [some ⟨layC b n m, true⟩, some ⟨encB (zeros 256), true⟩, some ⟨encB magicB, true⟩]) (v := .c (.sl (g.length + 2) 0 8 1)) (nv := 8) (data := magicB) (Has.tr (by simp) (by simp [encB_length, magicB]) (noX_encB _)) (by decide)
      rw [of_pad (by decide)] at ho
      have lm : magicB.length = 8 := rfl
      have w1 := fun h => num_With_eq (h := h) (l := padB 256 magicB) (padB_length (by decide)) (a := 8) (w := 2) (v := b)
      have e1 := withB_pad (l := magicB) (a := 8) (w := 2) (v := b) (by decide) (by omega) (by omega) (by omega)
      simp only [lm, Nat.sub_self, show zeros 0 = [] from rfl, List.append_nil, Int.cast_ofNat_Int] at e1
      simp only [e1] at w1
      have l1 : (magicB ++ bytesI 2 b).length = 10 := by simp [lm]
      have w2 := fun h => num_With_eq (h := h) (l := padB 256 (magicB ++ bytesI 2 b)) (padB_length (by omega)) (a := 10) (w := 2) (v := n)
      have e2 := withB_pad (l := magicB ++ bytesI 2 b) (a := 10) (w := 2) (v := n) (by omega) (by omega) (by omega) (by omega)
      simp only [l1, Nat.sub_self, show zeros 0 = [] from rfl, List.append_nil, Int.cast_ofNat_Int] at e2
      simp only [e2] at w2
      have l2 : (magicB ++ bytesI 2 b ++ bytesI 2 n).length = 12 := by simp [lm]
      have L0 : (encB (padB 256 magicB)).length = 256 := by rw [encB_length, padB_length (by decide)]
      have L1 : (encB (padB 256 (magicB ++ bytesI 2 b))).length = 256 := by rw [encB_length, padB_length (by omega)]
      have L2 : (encB (padB 256 (magicB ++ bytesI 2 b ++ bytesI 2 n))).length = 256 := by rw [encB_length, padB_length (by omega)]
      have L3 : (encB (padB 256 (supH b n m))).length = 256 := by rw [encB_length, padB_length (by rw [supH_length]; omega)]
      have L4 : (encB (supB b n m)).length = 256 := by rw [encB_length, supB_length]
      have mk8 : amkn (.c (.i .i64 8)) (.c (.i .i64 8)) = some 8 := rfl
      have hp := num_Put_eq (h := g ++ [some ⟨layC b n m, true⟩, some ⟨encB (zeros 256), true⟩, some ⟨encB magicB, true⟩, some ⟨encB (padB 256 (magicB ++ bytesI 2 b ++ bytesI 2 n)), true⟩, some ⟨encB (zeros 8), true⟩]) (x := .c (.sl (g.length + 4) 0 8 1)) (nv := 8) (l := zeros 8) (a := 0) (w := 8) (v := m) (Has.tr (by simp) (by simp [encB_length]) (noX_encB _)) (by simp)
      have ep : putN (zeros 8) 0 8 m = some (bytesI 8 m) := by
        unfold putN
        rw [if_pos ⟨by omega, by decide⟩]
        unfold layB
        simp [zeros]
      rw [ep] at hp
      simp only [Option.getD_some, Option.isSome_some, bytesI_length] at hp
      have hl := num_Lay_eq (h := g ++ [some ⟨layC b n m, true⟩, some ⟨encB (zeros 256), true⟩, some ⟨encB magicB, true⟩, some ⟨encB (padB 256 (magicB ++ bytesI 2 b ++ bytesI 2 n)), true⟩, some ⟨encB (zeros 8), true⟩, some ⟨encB (bytesI 8 m), true⟩]) (v := .c (.sl (g.length + 5) 0 8 1)) (nv := 8) (data := bytesI 8 m) (l := padB 256 (magicB ++ bytesI 2 b ++ bytesI 2 n)) (a := 12) (Has.tr (by simp) (by simp [encB_length]) (noX_encB _)) (padB_length (by omega)) (by simp)
      have e3 := layI_pad (l := magicB ++ bytesI 2 b ++ bytesI 2 n) (xs := bytesI 8 m) (a := 12) (by omega) (by simp) (by omega)
      simp only [l2, Nat.sub_self, show zeros 0 = [] from rfl, List.append_nil, Int.cast_ofNat_Int] at e3
      rw [e3] at hl
      have hc := fun h => num_Cut_eq (h := h) (l := padB 256 (supH b n m)) (padB_length (by rw [supH_length]; omega)) (a := 0) (n := 20)
      have e4 : cutB (padB 256 (supH b n m)) 0 20 = supH b n m := by
        unfold cutB padB
        rw [if_pos (by omega)]
        simp only [Int.toNat_zero, List.drop_zero]
        exact List.take_left' supH_length
      simp only [e4, supH_length] at hc
      have hstr := (Has.tr (h := g ++ [some ⟨layC b n m, true⟩, some ⟨encB (zeros 256), true⟩, some ⟨encB magicB, true⟩, some ⟨encB (padB 256 (supH b n m)), true⟩, some ⟨encB (zeros 8), true⟩, some ⟨encB (bytesI 8 m), true⟩, some ⟨encB (supH b n m), true⟩]) (id := g.length + 6) (sz := 1) (n := 20) (cs := encB (supH b n m)) (by simp) (by rw [encB_length, supH_length]) (noX_encB _)).str
      have hmx := fun h => mix_Of_eq (s := supH b n m) (h := h) (by rw [supH_length]; omega)
      have hmlt := mixH_lt (s := supH b n m)
      have e5 : IntKind.wrap .i64 ((mixH (supH b n m) : Nat) : Int) = (mixH (supH b n m) : Nat) := wrap_i64 (by omega) (by omega)
      have w3 := fun h => num_With_eq (h := h) (l := padB 256 (supH b n m)) (padB_length (by rw [supH_length]; omega)) (a := 20) (w := 4) (v := (mixH (supH b n m) : Nat))
      have e6 := withB_pad (l := supH b n m) (a := 20) (w := 4) (v := (mixH (supH b n m) : Nat)) (by rw [supH_length]; omega) (by omega) (by omega) (by omega)
      simp only [supH_length, Nat.sub_self, show zeros 0 = [] from rfl, List.append_nil, Int.cast_ofNat_Int] at e6
      simp only [e6] at w3
      have eS : magicB ++ bytesI 2 b ++ bytesI 2 n ++ bytesI 8 m = supH b n m := rfl
      rw [eS] at hl
      have rz := rows_zero 8
      change ∀ h, S_num_With [_, _, _, _] h = some (.a (encB (supB b n m)), h) at w3
      generalize supB b n m = SB at *
      generalize padB 256 magicB = P0 at *
      generalize padB 256 (magicB ++ bytesI 2 b) = P1 at *
      generalize padB 256 (magicB ++ bytesI 2 b ++ bytesI 2 n) = P2 at *
      generalize padB 256 (supH b n m) = P3 at *
      simp only [esc] at hp
      generalize zeros 256 = z at *
      generalize zeros 8 = z8 at *
      exact ⟨_, by simp only [esc, esh, Nat.reduceAdd, Nat.reduceMul, Nat.reduceLT, super_Check_eq, c, e7, hmk, ho, hz, L0, w1, L1, w2, L2, mk8, rz, hp, hl, L3, hc, hstr, hmx, e5, w3, L4] <;> rfl⟩
  obtain ⟨g', e⟩ := key (ro h)
  exact S_super_Put_flat e (by simp)

theorem at_field {b : List UInt8} {a w : Nat} (hb : b.length = 256) (h1 : a + w ≤ 256) (hw : 1 ≤ w) (hw4 : w ≤ 4) : ((atN b a w : Nat) : Int) = fieldN b a w := by
  unfold atN fieldN
  rw [if_pos ⟨by omega, thereI_true.2 (by omega)⟩]
  simp only [Int.toNat_natCast]

theorem getN_cut {b : List UInt8} (hb : b.length = 256) : getN (cutB b 12 8) 0 8 = some (le ((b.drop 12).take 8)) := by
  have hc : cutB b 12 8 = (b.drop 12).take 8 := by
    unfold cutB
    rw [if_pos (by omega)]; rfl
  have hl : ((b.drop 12).take 8).length = 8 := by simp; omega
  unfold getN
  rw [hc, hl, if_pos ⟨by omega, by decide⟩]
  simp only [Int.toNat_zero, List.drop_zero]
  rw [List.take_of_length_le (by rw [hl]; decide)]

def okS (b : List UInt8) : Bool := mayL (fieldN b 8 2) (fieldN b 10 2) && decide (supB (fieldN b 8 2) (fieldN b 10 2) (fieldN b 12 8) = b)
def layS (b : List UInt8) : List Cell := bif okS b then layC (fieldN b 8 2) (fieldN b 10 2) (fieldN b 12 8) else layC 0 0 0

theorem field8_range (b : List UInt8) : 0 ≤ fieldN b 12 8 ∧ fieldN b 12 8 < 18446744073709551616 := by
  unfold fieldN
  have h1 := le_lt ((b.drop 12).take 8)
  have h2 : ((b.drop 12).take 8).length ≤ 8 := by simp; omega
  have h3 := pow256_le h2
  have h4 : (256 : Nat) ^ 8 = 18446744073709551616 := by decide
  omega


end Go.Proofs.Ytdgggnlbdoiloaa
end
section
namespace Go.Proofs.Ytdgggnlbdoiloaa
open Go Go.Esc

theorem super_Get_eq {b : List UInt8} {h : Heap} (hb : b.length = 256) : S_super_Get [.a (encB b)] h = some (.t [.a (layS b), .c (.i .i64 (bif okS b then 0 else 13))], h) := by
  have key : ∀ g, ∃ g', R_super_Get 0 [.a (encB b)] g = some (.t [.a (layS b), .c (.i .i64 (bif okS b then 0 else 13))], g') := by
    intro g
    have hl : (encB b).length = 256 := by rw [encB_length, hb]
    have hc := num_Cut_eq (h := g ++ [some ⟨encB b, true⟩, some ⟨layC 0 0 0, true⟩]) hb (a := 12) (n := 8)
    have hcl : (cutB b 12 8).length = 8 := by unfold cutB; rw [if_pos (by omega)]; simp; omega
    rw [hcl] at hc
    have hg := num_Get_eq (h := g ++ [some ⟨encB b, true⟩, some ⟨layC 0 0 0, true⟩, some ⟨encB (cutB b 12 8), true⟩]) (v := .c (.sl (g.length + 2) 0 8 1)) (nv := 8) (l := cutB b 12 8) (Has.tr (by simp) (by rw [encB_length, hcl]) (noX_encB _)) (a := 0) (w := 8) (by rw [hcl]; omega)
    rw [getN_cut hb] at hg
    simp only [Option.getD_some, Option.isSome_some] at hg
    have a1 := fun h => num_At_eq (h := h) hb (a := 8) (w := 2)
    have a2 := fun h => num_At_eq (h := h) hb (a := 10) (w := 2)
    have f1 := at_field (a := 8) (w := 2) hb (by omega) (by omega) (by omega)
    have f2 := at_field (a := 10) (w := 2) hb (by omega) (by omega) (by omega)
    simp only [Int.cast_ofNat_Int] at f1 f2
    simp only [f1] at a1
    simp only [f2] at a2
    have e12 : ((le ((b.drop 12).take 8) : Nat) : Int) = fieldN b 12 8 := rfl
    rw [e12] at hg
    have ef : ∀ x y z : Int, afill (layC 0 0 0) [(0, 1, .c (.i .i64 x)), (1, 1, .c (.i .i64 y)), (2, 1, .c (.i .u64 z))] = some (layC x y z) := fun _ _ _ => rfl
    have ef0 : afill (layC 0 0 0) [] = some (layC 0 0 0) := rfl
    have hp := fun h => super_Put_eq (b := fieldN b 8 2) (n := fieldN b 10 2) (m := fieldN b 12 8) (h := h) (field8_range b).1 (field8_range b).2
    have hz : (List.replicate 256 (Cell.i .u8 0)).length = 256 := List.length_replicate
    have hS : (encB (supB (fieldN b 8 2) (fieldN b 10 2) (fieldN b 12 8))).length = 256 := by rw [encB_length, supB_length]
    have hZ : (encB (zeros 256)).length = 256 := by rw [encB_length]; exact zeros_length
    have hq := aeq_t (l := supB (fieldN b 8 2) (fieldN b 10 2) (fieldN b 12 8)) (m := b) (n := 256) supB_length hb
    simp only [esc] at hc
    rw [R_super_Get_eq]
    unfold layS okS
    generalize List.replicate 256 (Cell.i .u8 0) = z at *
    cases c : mayL (fieldN b 8 2) (fieldN b 10 2) with
    | false =>
      simp only [c, cond_false] at hp
      generalize zeros 256 = zz at *
      exact ⟨_, by simp only [esc, esh, Nat.reduceAdd, Nat.reduceMul, Nat.reduceLT, hl, hc, hg, a1, a2, ef, ef0, hp, hz, hZ, Bool.false_and, Int.reduceEq] <;> rfl⟩
    | true =>
      simp only [c, cond_true] at hp
      cases c2 : decide (supB (fieldN b 8 2) (fieldN b 10 2) (fieldN b 12 8) = b) with
      | false =>
        rw [c2] at hq
        exact ⟨_, by simp only [esc, esh, Nat.reduceAdd, Nat.reduceMul, Nat.reduceLT, hl, hc, hg, a1, a2, ef, ef0, hp, hz, hS, hq, Bool.and_false] <;> rfl⟩
      | true =>
        rw [c2] at hq
        exact ⟨_, by simp only [esc, esh, Nat.reduceAdd, Nat.reduceMul, Nat.reduceLT, hl, hc, hg, a1, a2, ef, ef0, hp, hz, hS, hq, Bool.and_true] <;> rfl⟩
  obtain ⟨g', e⟩ := key (ro h)
  refine S_super_Get_flat e ?_
  unfold layS
  cases okS b <;> simp


end Go.Proofs.Ytdgggnlbdoiloaa
end
noncomputable section
namespace Go.Proofs.Ytdgggnlbdoiloaa
open Go Go.Esc
set_option maxRecDepth 100000
def view_Of_o0 : List AOper := [aO 2 (.alloc ([.i .i64 0, .i .i64 0, .i .u64 0, .nf])), aO 3 (.mv (.v (.c (.i .i64 0))))]
def view_Of_c0 : ACode := .ops view_Of_o0
def view_Of_o1 : List AOper := [aO 7 (.mv (.t 0)), aO 8 (.len (.t 7)), aO 9 (.bin .eql (.t 8) (.v (.c (.i .i64 0))))]
def view_Of_c1 : ACode := .ops view_Of_o1
def view_Of_o2 : List AOper := [aO 10 (.build ([.i .i64 0, .i .i64 0, .i .u64 0, .nf]) []), { dst := none, op := .storeN 4 (.t 2) (.t 10) }, aO 3 (.mv (.v (.c (.i .i64 13))))]
def view_Of_c2 : ACode := .ops view_Of_o2
def view_Of_c3 : ACode := .seq [2, 3] view_Of_c2 .ret
def view_Of_c4 : ACode := .cond (.t 9) view_Of_c3 .skip
def view_Of_c5 : ACode := .seq [0, 2, 9] view_Of_c1 view_Of_c4
def view_Of_o3 : List AOper := [aO 12 (.mv (.t 0)), aO 13 (.iAddrL 256 (.t 12) (.v (.c (.i .i64 0)))), aO 14 (.loadN 256 (.t 13)), aO 15 (.call 53 [(.t 14)]), aO 11 (.mv (.t 15)), aO 16 (.ext (.t 11) 0), aO 17 (.ext (.t 11) 1), aO 4 (.alloc ([.i .i64 0, .i .i64 0, .i .u64 0])), { dst := none, op := .storeN 3 (.t 4) (.t 16) }, aO 5 (.mv (.t 17))]
def view_Of_c6 : ACode := .ops view_Of_o3
def view_Of_o4 : List AOper := [aO 18 (.mv (.t 5)), aO 19 (.bin .neq (.t 18) (.v (.c (.i .i64 0)))), aO 20 (.mv (.t 19)), { dst := some 21, op := .fAddr (.t 4) 0, guard := some (20, false) }, { dst := some 22, op := .load1 (.t 21), guard := some (20, false) }, { dst := some 23, op := .mv (.t 0), guard := some (20, false) }, { dst := some 24, op := .len (.t 23), guard := some (20, false) }, { dst := some 25, op := .bin .neq (.t 22) (.t 24), guard := some (20, false) }, aO 26 (.pick (.t 20) (.v (.c (.b true))) (.t 25))]
def view_Of_c7 : ACode := .ops view_Of_o4
def view_Of_o5 : List AOper := [aO 27 (.build ([.i .i64 0, .i .i64 0, .i .u64 0, .nf]) []), { dst := none, op := .storeN 4 (.t 2) (.t 27) }, aO 3 (.mv (.v (.c (.i .i64 13))))]
def view_Of_c8 : ACode := .ops view_Of_o5
def view_Of_c9 : ACode := .seq [2, 3] view_Of_c8 .ret
def view_Of_c10 : ACode := .cond (.t 26) view_Of_c9 .skip
def view_Of_c11 : ACode := .seq [0, 2, 4, 26] view_Of_c7 view_Of_c10
def view_Of_o6 : List AOper := [aO 28 (.buildSl 256 0 ([]) []), aO 29 (.mv (.t 0)), aO 30 (.app 256 (.t 28) (.t 29)), aO 6 (.alloc ([.ns])), { dst := none, op := .store1 (.t 6) (.t 30) }]
def view_Of_c12 : ACode := .ops view_Of_o6
def view_Of_o7 : List AOper := [aO 31 (.loadN 3 (.t 4)), aO 32 (.mkf 54 [(.t 6)]), aO 33 (.build ([.i .i64 0, .i .i64 0, .i .u64 0, .nf]) [(0, 3, (.t 31)), (3, 1, (.t 32))]), { dst := none, op := .storeN 4 (.t 2) (.t 33) }, aO 3 (.mv (.v (.c (.i .i64 0))))]
def view_Of_c13 : ACode := .ops view_Of_o7
def view_Of_c14 : ACode := .seq [2, 3] view_Of_c13 .ret
def view_Of_c15 : ACode := .seq [2, 4, 6] view_Of_c12 view_Of_c14
def view_Of_c16 : ACode := .seq [0, 2, 4] view_Of_c11 view_Of_c15
def view_Of_c17 : ACode := .seq [0, 2, 4, 5] view_Of_c6 view_Of_c16
def view_Of_c18 : ACode := .seq [0, 2] view_Of_c5 view_Of_c17
def view_Of_c19 : ACode := .seq [0, 2] view_Of_c0 view_Of_c18
def A_view_Of : AFn := ⟨view_Of_c19, [.cellN 2 4, .tmp 3]⟩
def E_view_Of : Sums := disp 53 S_super_Get disp0
def view_Of_c0_d (n : Nat) : SmV := smOps E_view_Of view_Of_o0
def view_Of_c1_d (n : Nat) : SmV := smOps E_view_Of view_Of_o1
def view_Of_c2_d (n : Nat) : SmV := smOps E_view_Of view_Of_o2
def view_Of_c3_d (n : Nat) : SmV := smSeq [2, 3] (view_Of_c2_d n) smRet
def view_Of_c4_d (n : Nat) : SmV := smCond (.t 9) (view_Of_c3_d n) smSkip
def view_Of_c5_d (n : Nat) : SmV := smSeq [0, 2, 9] (view_Of_c1_d n) (view_Of_c4_d n)
def view_Of_c6_d (n : Nat) : SmV := smOps E_view_Of view_Of_o3
def view_Of_c7_d (n : Nat) : SmV := smOps E_view_Of view_Of_o4
def view_Of_c8_d (n : Nat) : SmV := smOps E_view_Of view_Of_o5
def view_Of_c9_d (n : Nat) : SmV := smSeq [2, 3] (view_Of_c8_d n) smRet
def view_Of_c10_d (n : Nat) : SmV := smCond (.t 26) (view_Of_c9_d n) smSkip
def view_Of_c11_d (n : Nat) : SmV := smSeq [0, 2, 4, 26] (view_Of_c7_d n) (view_Of_c10_d n)
def view_Of_c12_d (n : Nat) : SmV := smOps E_view_Of view_Of_o6
def view_Of_c13_d (n : Nat) : SmV := smOps E_view_Of view_Of_o7
def view_Of_c14_d (n : Nat) : SmV := smSeq [2, 3] (view_Of_c13_d n) smRet
def view_Of_c15_d (n : Nat) : SmV := smSeq [2, 4, 6] (view_Of_c12_d n) (view_Of_c14_d n)
def view_Of_c16_d (n : Nat) : SmV := smSeq [0, 2, 4] (view_Of_c11_d n) (view_Of_c15_d n)
def view_Of_c17_d (n : Nat) : SmV := smSeq [0, 2, 4, 5] (view_Of_c6_d n) (view_Of_c16_d n)
def view_Of_c18_d (n : Nat) : SmV := smSeq [0, 2] (view_Of_c5_d n) (view_Of_c17_d n)
def view_Of_c19_d (n : Nat) : SmV := smSeq [0, 2] (view_Of_c0_d n) (view_Of_c18_d n)
def R_view_Of (n : Nat) (args : List Val) (h : Heap) : OptV := (view_Of_c19_d n) A_view_Of.fin (params 0 args) h
theorem R_view_Of_eq (n : Nat) (a0 : Val) (h : Heap) : R_view_Of n [a0] h = bnd (alen a0) fun v1 => bnd (abin .eql v1 (.c (.i .i64 0))) fun v2 => cnd v2 (bnd (afill ([.i .i64 0, .i .i64 0, .i .u64 0, .nf]) []) fun c3 => bnd (astoreN ((h ++ [some (Row.mk ([.i .i64 0, .i .i64 0, .i .u64 0, .nf]) true)])) 4 ((.c (.p h.length 0))) ((.a c3))) fun h4 => tupN [aloadN h4 4 ((.c (.p h.length 0))), some (.c (.i .i64 13))] h4) (bnd (aiAddrL 256 a0 (.c (.i .i64 0))) fun v5 => bnd (aloadN ((h ++ [some (Row.mk ([.i .i64 0, .i .i64 0, .i .u64 0, .nf]) true)])) 256 v5) fun v6 => bnd (S_super_Get [v6] ((h ++ [some (Row.mk ([.i .i64 0, .i .i64 0, .i .u64 0, .nf]) true)]))) fun p7 => bnd (aext p7.1 0) fun v8 => bnd (aext p7.1 1) fun v9 => bnd (astoreN ((p7.2 ++ [some (Row.mk ([.i .i64 0, .i .i64 0, .i .u64 0]) true)])) 3 ((.c (.p p7.2.length 0))) v8) fun h10 => bnd (abin .neq v9 (.c (.i .i64 0))) fun v11 => bnd (gd v11 false (bnd (afAddr ((.c (.p p7.2.length 0))) 0) fun v12 => some (v12, h10)) (some (.no, h10))) fun p13 => bnd (gd v11 false (bnd (aload1 p13.2 p13.1) fun v14 => some (v14, p13.2)) (some (.no, p13.2))) fun p15 => bnd (gd v11 false (some (a0, p15.2)) (some (.no, p15.2))) fun p16 => bnd (gd v11 false (bnd (alen p16.1) fun v17 => some (v17, p16.2)) (some (.no, p16.2))) fun p18 => bnd (gd v11 false (bnd (abin .neq p15.1 p18.1) fun v19 => some (v19, p18.2)) (some (.no, p18.2))) fun p20 => bnd (apick v11 (.c (.b true)) p20.1) fun v21 => cnd v21 (bnd (afill ([.i .i64 0, .i .i64 0, .i .u64 0, .nf]) []) fun c22 => bnd (astoreN p20.2 4 ((.c (.p h.length 0))) ((.a c22))) fun h23 => tupN [aloadN h23 4 ((.c (.p h.length 0))), some (.c (.i .i64 13))] h23) (bnd (afill ([]) []) fun c24 => bnd (aapp ((p20.2 ++ [some (Row.mk (c24) true)])) 256 ((.c (.sl p20.2.length 0 0 256))) a0) fun p25 => bnd (astore1 ((p25.2 ++ [some (Row.mk ([.ns]) true)])) ((.c (.p p25.2.length 0))) p25.1) fun h26 => bnd (aloadN h26 3 ((.c (.p p7.2.length 0)))) fun v27 => bnd (amkf 54 [(.c (.p p25.2.length 0))]) fun v28 => bnd (afill ([.i .i64 0, .i .i64 0, .i .u64 0, .nf]) [(0, 3, v27), (3, 1, v28)]) fun c29 => bnd (astoreN h26 4 ((.c (.p h.length 0))) ((.a c29))) fun h30 => tupN [aloadN h30 4 ((.c (.p h.length 0))), some (.c (.i .i64 0))] h30)) := by kernel_rfl
theorem K_view_Of : FnK Try.prog 15 A_view_Of E_view_Of R_view_Of := .mk' (sound1 S_super_Get_ok sound0) Try.func15 (by kernel_rfl) (by intro n args h; kernel_rfl)
def S_view_Of : Fun := Lim A_view_Of E_view_Of
theorem S_view_Of_ok : SOk Try.prog 15 S_view_Of := K_view_Of.ok
theorem S_view_Of_of {n : Nat} {args : List Val} {h : Heap} {p : Val × Heap} (he : R_view_Of n args h = some p) : S_view_Of args h = some p := K_view_Of.of he
def view_View_there_o0 : List AOper := [aO 2 (.box (.t 0)), aO 4 (.mv (.v (.c (.b false))))]
def view_View_there_c0 : ACode := .ops view_View_there_o0
def view_View_there_o1 : List AOper := [aO 5 (.fAddr (.t 2) 3), aO 6 (.load1 (.t 5)), aO 7 (.eqN true true (.t 6)), aO 8 (.mv (.t 7)), { dst := some 9, op := .mv (.t 1), guard := some (8, true) }, { dst := some 10, op := .bin .geq (.t 9) (.v (.c (.i .i64 0))), guard := some (8, true) }, aO 11 (.pick (.t 8) (.t 10) (.v (.c (.b false)))), aO 12 (.mv (.t 11)), { dst := some 13, op := .mv (.t 1), guard := some (12, true) }, { dst := some 14, op := .fAddr (.t 2) 0, guard := some (12, true) }, { dst := some 15, op := .fAddr (.t 14) 0, guard := some (12, true) }, { dst := some 16, op := .load1 (.t 15), guard := some (12, true) }, { dst := some 17, op := .bin .lss (.t 13) (.t 16), guard := some (12, true) }, aO 18 (.pick (.t 12) (.t 17) (.v (.c (.b false)))), aO 4 (.mv (.t 18))]
def view_View_there_c1 : ACode := .ops view_View_there_o1
def view_View_there_c2 : ACode := .seq [4] view_View_there_c1 .ret
def view_View_there_c3 : ACode := .seq [1, 2] view_View_there_c0 view_View_there_c2
def A_view_View_there : AFn := ⟨view_View_there_c3, [.tmp 4]⟩
def E_view_View_there : Sums := disp0
def view_View_there_c0_d (n : Nat) : SmV := smOps E_view_View_there view_View_there_o0
def view_View_there_c1_d (n : Nat) : SmV := smOps E_view_View_there view_View_there_o1
def view_View_there_c2_d (n : Nat) : SmV := smSeq [4] (view_View_there_c1_d n) smRet
def view_View_there_c3_d (n : Nat) : SmV := smSeq [1, 2] (view_View_there_c0_d n) (view_View_there_c2_d n)
def R_view_View_there (n : Nat) (args : List Val) (h : Heap) : OptV := (view_View_there_c3_d n) A_view_View_there.fin (params 0 args) h
theorem R_view_View_there_eq (n : Nat) (a0 a1 : Val) (h : Heap) : R_view_View_there n [a0, a1] h = bnd (cells? a0) fun c1 => bnd (afAddr ((.c (.p h.length 0))) 3) fun v2 => bnd (aload1 ((h ++ [some (Row.mk (c1) true)])) v2) fun v3 => bnd (aeqN true true v3) fun v4 => bnd (gd v4 true (some (a1, (h ++ [some (Row.mk (c1) true)]))) (some (.no, (h ++ [some (Row.mk (c1) true)])))) fun p5 => bnd (gd v4 true (bnd (abin .geq p5.1 (.c (.i .i64 0))) fun v6 => some (v6, p5.2)) (some (.no, p5.2))) fun p7 => bnd (apick v4 p7.1 (.c (.b false))) fun v8 => bnd (gd v8 true (some (a1, p7.2)) (some (.no, p7.2))) fun p9 => bnd (gd v8 true (bnd (afAddr ((.c (.p h.length 0))) 0) fun v10 => some (v10, p9.2)) (some (.no, p9.2))) fun p11 => bnd (gd v8 true (bnd (afAddr p11.1 0) fun v12 => some (v12, p11.2)) (some (.no, p11.2))) fun p13 => bnd (gd v8 true (bnd (aload1 p13.2 p13.1) fun v14 => some (v14, p13.2)) (some (.no, p13.2))) fun p15 => bnd (gd v8 true (bnd (abin .lss p9.1 p15.1) fun v16 => some (v16, p15.2)) (some (.no, p15.2))) fun p17 => bnd (apick v8 p17.1 (.c (.b false))) fun v18 => some (v18, p17.2) := by kernel_rfl
theorem K_view_View_there : FnK Try.prog 76 A_view_View_there E_view_View_there R_view_View_there := .mk' (sound0) Try.func76 (by kernel_rfl) (by intro n args h; kernel_rfl)
def S_view_View_there : Fun := tidy (Lim A_view_View_there E_view_View_there)
theorem S_view_View_there_ok : SOk Try.prog 76 S_view_View_there := K_view_View_there.sok
theorem S_view_View_there_flat {n : Nat} {args : List Val} {h h2 : Heap} {v : Val} (he : R_view_View_there n args (ro h) = some (v, h2)) (hf : v.flat = true) : S_view_View_there args h = some (v, h) := K_view_View_there.flat he hf
def view_Of_1_o0 : List AOper := [aO 3 (.alloc (List.replicate 256 (.i .u8 0)))]
def view_Of_1_c0 : ACode := .ops view_Of_1_o0
def view_Of_1_o1 : List AOper := [aO 4 (.load1 (.t 1)), aO 5 (.mv (.t 0)), aO 6 (.iAddrL 256 (.t 4) (.t 5)), aO 7 (.loadN 256 (.t 6)), { dst := none, op := .storeN 256 (.t 3) (.t 7) }]
def view_Of_1_c1 : ACode := .ops view_Of_1_o1
def view_Of_1_c2 : ACode := .seq [3] view_Of_1_c1 .ret
def view_Of_1_c3 : ACode := .seq [0, 1, 3] view_Of_1_c0 view_Of_1_c2
def A_view_Of_1 : AFn := ⟨view_Of_1_c3, [.cellN 3 256]⟩
def E_view_Of_1 : Sums := disp0
def view_Of_1_c0_d (n : Nat) : SmV := smOps E_view_Of_1 view_Of_1_o0
def view_Of_1_c1_d (n : Nat) : SmV := smOps E_view_Of_1 view_Of_1_o1
def view_Of_1_c2_d (n : Nat) : SmV := smSeq [3] (view_Of_1_c1_d n) smRet
def view_Of_1_c3_d (n : Nat) : SmV := smSeq [0, 1, 3] (view_Of_1_c0_d n) (view_Of_1_c2_d n)
def R_view_Of_1 (n : Nat) (args : List Val) (h : Heap) : OptV := (view_Of_1_c3_d n) A_view_Of_1.fin (params 0 args) h
theorem R_view_Of_1_eq (n : Nat) (a0 a1 : Val) (h : Heap) : R_view_Of_1 n [a0, a1] h = bnd (aload1 ((h ++ [some (Row.mk (List.replicate 256 (.i .u8 0)) true)])) a1) fun v1 => bnd (aiAddrL 256 v1 a0) fun v2 => bnd (aloadN ((h ++ [some (Row.mk (List.replicate 256 (.i .u8 0)) true)])) 256 v2) fun v3 => bnd (astoreN ((h ++ [some (Row.mk (List.replicate 256 (.i .u8 0)) true)])) 256 ((.c (.p h.length 0))) v3) fun h4 => mp (aloadN h4 256 ((.c (.p h.length 0)))) fun v => (v, h4) := by kernel_rfl
theorem K_view_Of_1 : FnK Try.prog 54 A_view_Of_1 E_view_Of_1 R_view_Of_1 := .mk' (sound0) Try.func54 (by kernel_rfl) (by intro n args h; kernel_rfl)
def S_view_Of_1 : Fun := tidy (Lim A_view_Of_1 E_view_Of_1)
theorem S_view_Of_1_ok : SOk Try.prog 54 S_view_Of_1 := K_view_Of_1.sok
theorem S_view_Of_1_flat {n : Nat} {args : List Val} {h h2 : Heap} {v : Val} (he : R_view_Of_1 n args (ro h) = some (v, h2)) (hf : v.flat = true) : S_view_Of_1 args h = some (v, h) := K_view_Of_1.flat he hf
def view_View_Block__Of_1_o0 : List AOper := [aO 2 (.box (.t 0)), aO 4 (.alloc (List.replicate 256 (.i .u8 0)))]
def view_View_Block__Of_1_c0 : ACode := .ops view_View_Block__Of_1_o0
def view_View_Block__Of_1_o1 : List AOper := [aO 5 (.loadN 4 (.t 2)), aO 6 (.mv (.t 1)), aO 7 (.call 76 [(.t 5), (.t 6)]), aO 8 (.un .not (.t 7))]
def view_View_Block__Of_1_c1 : ACode := .ops view_View_Block__Of_1_o1
def view_View_Block__Of_1_o2 : List AOper := [aO 9 (.build (List.replicate 256 (.i .u8 0)) []), { dst := none, op := .storeN 256 (.t 4) (.t 9) }]
def view_View_Block__Of_1_c2 : ACode := .ops view_View_Block__Of_1_o2
def view_View_Block__Of_1_c3 : ACode := .seq [4] view_View_Block__Of_1_c2 .ret
def view_View_Block__Of_1_c4 : ACode := .cond (.t 8) view_View_Block__Of_1_c3 .skip
def view_View_Block__Of_1_c5 : ACode := .seq [1, 2, 4, 8] view_View_Block__Of_1_c1 view_View_Block__Of_1_c4
def view_View_Block__Of_1_o3 : List AOper := [aO 10 (.fAddr (.t 2) 3), aO 11 (.load1 (.t 10)), aO 12 (.mv (.t 1)), aO 13 (.callV (.t 11) [(.t 12)]), { dst := none, op := .storeN 256 (.t 4) (.t 13) }]
def view_View_Block__Of_1_c6 : ACode := .ops view_View_Block__Of_1_o3
def view_View_Block__Of_1_c7 : ACode := .seq [4] view_View_Block__Of_1_c6 .ret
def view_View_Block__Of_1_c8 : ACode := .seq [1, 2, 4] view_View_Block__Of_1_c5 view_View_Block__Of_1_c7
def view_View_Block__Of_1_c9 : ACode := .seq [1, 2, 4] view_View_Block__Of_1_c0 view_View_Block__Of_1_c8
def A_view_View_Block__Of_1 : AFn := ⟨view_View_Block__Of_1_c9, [.cellN 4 256]⟩
def E_view_View_Block__Of_1 : Sums := disp 76 S_view_View_there (disp 54 S_view_Of_1 disp0)
def view_View_Block__Of_1_c0_d (n : Nat) : SmV := smOps E_view_View_Block__Of_1 view_View_Block__Of_1_o0
def view_View_Block__Of_1_c1_d (n : Nat) : SmV := smOps E_view_View_Block__Of_1 view_View_Block__Of_1_o1
def view_View_Block__Of_1_c2_d (n : Nat) : SmV := smOps E_view_View_Block__Of_1 view_View_Block__Of_1_o2
def view_View_Block__Of_1_c3_d (n : Nat) : SmV := smSeq [4] (view_View_Block__Of_1_c2_d n) smRet
def view_View_Block__Of_1_c4_d (n : Nat) : SmV := smCond (.t 8) (view_View_Block__Of_1_c3_d n) smSkip
def view_View_Block__Of_1_c5_d (n : Nat) : SmV := smSeq [1, 2, 4, 8] (view_View_Block__Of_1_c1_d n) (view_View_Block__Of_1_c4_d n)
def view_View_Block__Of_1_c6_d (n : Nat) : SmV := smOps E_view_View_Block__Of_1 view_View_Block__Of_1_o3
def view_View_Block__Of_1_c7_d (n : Nat) : SmV := smSeq [4] (view_View_Block__Of_1_c6_d n) smRet
def view_View_Block__Of_1_c8_d (n : Nat) : SmV := smSeq [1, 2, 4] (view_View_Block__Of_1_c5_d n) (view_View_Block__Of_1_c7_d n)
def view_View_Block__Of_1_c9_d (n : Nat) : SmV := smSeq [1, 2, 4] (view_View_Block__Of_1_c0_d n) (view_View_Block__Of_1_c8_d n)
def R_view_View_Block__Of_1 (n : Nat) (args : List Val) (h : Heap) : OptV := (view_View_Block__Of_1_c9_d n) A_view_View_Block__Of_1.fin (params 0 args) h
theorem R_view_View_Block__Of_1_eq (n : Nat) (a0 a1 : Val) (h : Heap) : R_view_View_Block__Of_1 n [a0, a1] h = bnd (cells? a0) fun c1 => bnd (aloadN (((h ++ [some (Row.mk (c1) true)]) ++ [some (Row.mk (List.replicate 256 (.i .u8 0)) true)])) 4 ((.c (.p h.length 0)))) fun v2 => bnd (S_view_View_there [v2, a1] (((h ++ [some (Row.mk (c1) true)]) ++ [some (Row.mk (List.replicate 256 (.i .u8 0)) true)]))) fun p3 => bnd (aun .not p3.1) fun v4 => cnd v4 (bnd (afill (List.replicate 256 (.i .u8 0)) []) fun c5 => bnd (astoreN p3.2 256 ((.c (.p ((h ++ [some (Row.mk (c1) true)])).length 0))) ((.a c5))) fun h6 => mp (aloadN h6 256 ((.c (.p ((h ++ [some (Row.mk (c1) true)])).length 0)))) fun v => (v, h6)) (bnd (afAddr ((.c (.p h.length 0))) 3) fun v7 => bnd (aload1 p3.2 v7) fun v8 => bnd (callv E_view_View_Block__Of_1 v8 [a1] p3.2) fun p9 => bnd (astoreN p9.2 256 ((.c (.p ((h ++ [some (Row.mk (c1) true)])).length 0))) p9.1) fun h10 => mp (aloadN h10 256 ((.c (.p ((h ++ [some (Row.mk (c1) true)])).length 0)))) fun v => (v, h10)) := by kernel_rfl
theorem K_view_View_Block__Of_1 : FnK Try.prog 38 A_view_View_Block__Of_1 E_view_View_Block__Of_1 R_view_View_Block__Of_1 := .mk' (sound1 S_view_View_there_ok (sound1 S_view_Of_1_ok sound0)) Try.func38 (by kernel_rfl) (by intro n args h; kernel_rfl)
def S_view_View_Block__Of_1 : Fun := tidy (Lim A_view_View_Block__Of_1 E_view_View_Block__Of_1)
theorem S_view_View_Block__Of_1_ok : SOk Try.prog 38 S_view_View_Block__Of_1 := K_view_View_Block__Of_1.sok
theorem S_view_View_Block__Of_1_flat {n : Nat} {args : List Val} {h h2 : Heap} {v : Val} (he : R_view_View_Block__Of_1 n args (ro h) = some (v, h2)) (hf : v.flat = true) : S_view_View_Block__Of_1 args h = some (v, h) := K_view_View_Block__Of_1.flat he hf
end Go.Proofs.Ytdgggnlbdoiloaa
end
section
namespace Go.Proofs.Ytdgggnlbdoiloaa
open Go Go.Esc

def IsView (h : Heap) (f : Cell) (D : Dev) : Prop := ∃ r q rw rw', f = .f 54 [(r, 0)] ∧ rd h r = some ⟨[.sl q 0 D.length 256], rw⟩ ∧ rd h q = some ⟨cellsD D, rw'⟩
theorem IsView.ro {h : Heap} {f : Cell} {D : Dev} (hv : IsView h f D) : IsView (ro h) f D := by
  obtain ⟨r, q, rw, rw', e, h1, h2⟩ := hv
  exact ⟨r, q, false, false, e, by rw [rd_ro, h1]; rfl, by rw [rd_ro, h2]; rfl⟩
theorem IsView.more {h : Heap} {f : Cell} {D : Dev} (hv : IsView h f D) (l : Heap) : IsView (h ++ l) f D := by
  obtain ⟨r, q, rw, rw', e, h1, h2⟩ := hv
  exact ⟨r, q, rw, rw', e, rd_append h1, rd_append h2⟩
theorem IsView.since {g h : Heap} {f : Cell} {D : Dev} (hv : IsView g f D) (h1 : Low g.length g h) : IsView h f D := by
  obtain ⟨r, q, rw, rw', e, h2, h3⟩ := hv
  exact ⟨r, q, rw, rw', e, h1.rd h2, h1.rd h3⟩
theorem IsView.get {h : Heap} {f : Cell} {D : Dev} (hv : IsView h f D) : ∃ id cs, f = .f id cs := by
  obtain ⟨r, q, rw, rw', e, _⟩ := hv
  exact ⟨_, _, e⟩

def vwC (b n m : Int) (f : Cell) : List Cell := [.i .i64 b, .i .i64 n, .i .u64 m, f]

section
variable {D : Dev} {n m : Int} {f : Cell}
theorem vw_l3 {b : Int} : ldN (some (Row.mk (vwC b n m f) true)) 0 3 = some (.a (layC b n m)) := rfl
theorem vw_l4 {b : Int} : ldN (some (Row.mk (vwC b n m f) true)) 0 4 = some (.a (vwC b n m f)) := rfl
end

theorem view_Of_1_eq {h : Heap} {r q : Nat} {rw rw' : Bool} {D : Dev} {no : Nat} (hD : okD D) (hno : no < D.length) (h1 : rd h r = some ⟨[.sl q 0 D.length 256], rw⟩) (h2 : rd h q = some ⟨cellsD D, rw'⟩) :
    S_view_Of_1 [.c (.i .i64 (no : Int)), .c (.p r 0)] h = some (.a (encB D[no]), h) := by
  have key : ∀ g rw rw', rd g r = some ⟨[.sl q 0 D.length 256], rw⟩ → rd g q = some ⟨cellsD D, rw'⟩ → ∃ g', R_view_Of_1 0 [.c (.i .i64 (no : Int)), .c (.p r 0)] g = some (.a (encB D[no]), g') := by
    intro g rw rw' h1 h2
    have hz : (List.replicate 256 (Cell.i .u8 0)).length = 256 := List.length_replicate
    have hB : (encB D[no]).length = 256 := by rw [encB_length, hD.at hno]
    have l1 : aload1 (g ++ [some (Row.mk (List.replicate 256 (.i .u8 0)) true)]) (.c (.p r 0)) = some (.c (.sl q 0 D.length 256)) := load1_of (cs := [.sl q 0 D.length 256]) (rd_append h1) rfl (by cases rw <;> rfl)
    have a1 : aiAddrL 256 (.c (.sl q 0 D.length 256)) (.c (.i .i64 (no : Int))) = some (.c (.p q (0 + no * 256))) := iAddrL_of hno
    have l2 : aloadN (g ++ [some (Row.mk (List.replicate 256 (.i .u8 0)) true)]) 256 (.c (.p q (0 + no * 256))) = some (.a (encB D[no])) := by
      rw [loadN_of (cs := cellsD D) (rw := rw') (rd_append h2) (by rw [cellsD_length hD]; omega) (by
        rw [Nat.zero_add, cellsD_at hD hno, noX_encB]; simp), Nat.zero_add, cellsD_at hD hno]
    rw [Nat.zero_add] at a1 l2
    rw [R_view_Of_1_eq]
    generalize List.replicate 256 (Cell.i .u8 0) = z at *
    generalize encB D[no] = y at *
    exact ⟨_, by simp only [esc, esh, Nat.reduceAdd, Nat.reduceMul, Nat.reduceLT, l1, a1, l2, hz, hB] <;> rfl⟩
  obtain ⟨g', e⟩ := key (ro h) false false (by rw [rd_ro, h1]; rfl) (by rw [rd_ro, h2]; rfl)
  exact S_view_Of_1_flat e (by simp [Val.flat])

theorem view_there_eq {b n m no : Int} {f : Nat} {cs : List (Nat × Nat)} {h : Heap} : S_view_View_there [.a (vwC b n m (.f f cs)), .c (.i .i64 no)] h = some (.c (.b (decide (0 ≤ no) && decide (no < b))), h) := by
  have key : ∀ g, ∃ g', R_view_View_there 0 [.a (vwC b n m (.f f cs)), .c (.i .i64 no)] g = some (.c (.b (decide (0 ≤ no) && decide (no < b))), g') := by
    intro g
    rw [R_view_View_there_eq]
    unfold vwC
    by_cases c1 : 0 ≤ no
    · exact ⟨_, by simp only [esc, esh, Nat.reduceAdd, Nat.reduceMul, Nat.reduceLT, c1] <;> rfl⟩
    · exact ⟨_, by simp only [esc, esh, Nat.reduceAdd, Nat.reduceMul, Nat.reduceLT, c1, Bool.false_and] <;> rfl⟩
  obtain ⟨g', e⟩ := key (ro h)
  exact S_view_View_there_flat e rfl
theorem view_Block_eq {n m no : Int} {f : Cell} {D : Dev} {h : Heap} (hD : okD D) (hv : IsView h f D) : S_view_View_Block__Of_1 [.a (vwC D.length n m f), .c (.i .i64 no)] h = some (.a (encB (blk D no)), h) := by
  have key : ∀ g, IsView g f D → ∃ g', R_view_View_Block__Of_1 0 [.a (vwC D.length n m f), .c (.i .i64 no)] g = some (.a (encB (blk D no)), g') := by
    intro g hv
    have hz : (encB (zeros 256)).length = 256 := by rw [encB_length]; exact zeros_length
    have hB : (encB (blk D no)).length = 256 := by rw [encB_length, blk_length hD]
    obtain ⟨r, q, rw', rw'', rfl, h1, h2⟩ := hv
    have hT := fun h => view_there_eq (b := D.length) (n := n) (m := m) (no := no) (f := 54) (cs := [(r, 0)]) (h := h)
    have hcv : ∀ (x : Val) (h : Heap), callv E_view_View_Block__Of_1 (.c (.f 54 [(r, 0)])) [x] h = S_view_Of_1 [x, .c (.p r 0)] h := fun _ _ => Eq.trans rfl rfl
    rw [R_view_View_Block__Of_1_eq, zeros_enc]
    by_cases c1 : 0 ≤ no ∧ no < D.length
    · have c2 := c1.1
      have c3 := c1.2
      obtain ⟨k, rfl⟩ : ∃ k : Nat, no = k := ⟨no.toNat, by omega⟩
      have e1 := blk_at (D := D) (i := k) (by omega)
      have hO := view_Of_1_eq (h := g ++ [some (Row.mk (vwC D.length n m (.f 54 [(r, 0)])) true), some (Row.mk (encB (zeros 256)) true)]) hD (show k < D.length by omega) (rd_append h1) (rd_append h2)
      rw [← e1] at hO
      simp only [c2, c3, decide_true, Bool.and_self] at hT
      generalize encB (zeros 256) = z at *
      generalize encB (blk D k) = y at *
      unfold vwC at *
      exact ⟨_, by simp only [esc, esh, Nat.reduceAdd, Nat.reduceMul, Nat.reduceLT, hT, hcv, hO, hz, hB] <;> rfl⟩
    · have e1 := blk_none (D := D) (i := no) (by omega)
      have ht : (decide (0 ≤ no) && decide (no < (D.length : Int))) = false := by
        rw [Bool.and_eq_false_iff, decide_eq_false_iff_not, decide_eq_false_iff_not]; omega
      simp only [ht] at hT
      rw [e1] at hB ⊢
      have ef : afill (encB (zeros 256)) [] = some (encB (zeros 256)) := rfl
      generalize encB (zeros 256) = z at *
      unfold vwC at *
      exact ⟨_, by simp only [esc, esh, Nat.reduceAdd, Nat.reduceMul, Nat.reduceLT, hT, ef, hz] <;> rfl⟩
  obtain ⟨g', e⟩ := key (ro h) hv.ro
  exact S_view_View_Block__Of_1_flat e (by simp [Val.flat])

theorem app_has {h : Heap} {id m sz : Nat} {ys : List Cell} {y : Val} (hr : rd h id = some ⟨[], true⟩) (hy : Has h y sz m ys) (hsz : 0 < sz) (hn : m ≤ 1073741824) :
    aapp h sz (.c (.sl id 0 0 sz)) y = some (.c (.sl h.length 0 m sz), h.set id none ++ [some ⟨ys, true⟩]) := by
  have h1 := hy.add
  have h2 : ys.length / sz = m := by rw [hy.length]; exact Nat.mul_div_cancel m hsz
  simp only [aapp, h1, hr, Option.bind_some, h2, List.nil_append, Nat.zero_add]
  rw [if_pos ⟨trivial, trivial, by simp, trivial, hn⟩]

def devL (D : Dev) : Bool := okS (D.headD []) && decide (fieldN (D.headD []) 8 2 = D.length)
def devN (D : Dev) : Int := fieldN (D.headD []) 10 2
def devM (D : Dev) : Int := fieldN (D.headD []) 12 8

theorem layS_ok {b : List UInt8} (h : okS b = true) : layS b = layC (fieldN b 8 2) (fieldN b 10 2) (fieldN b 12 8) := by unfold layS; rw [h]; rfl

theorem view_Of_ok {v : Val} {D : Dev} {h : Heap} (hv : Has h v 256 D.length (cellsD D)) (hD : okD D) (hn : devL D = true) (h60 : D.length ≤ 1073741824) :
    ∃ f t, S_view_Of [v] h = some (.t [.a (vwC D.length (devN D) (devM D) f), .c (.i .i64 0)], h ++ t) ∧ IsView (h ++ t) f D := by
  obtain ⟨b, E, rfl⟩ : ∃ b E, D = b :: E := by
    cases D with
    | nil => simp only [devL, List.headD_nil, List.length_nil, Bool.and_eq_true, decide_eq_true_eq] at hn; exact absurd hn.1 (by decide)
    | cons b E => exact ⟨b, E, rfl⟩
  have h0 : 0 < (b :: E).length := by simp
  have hv2 := hv.more [some (Row.mk [.i .i64 0, .i .i64 0, .i .u64 0, .nf] true)]
  unfold devL at hn
  simp only [List.headD_cons, Bool.and_eq_true, decide_eq_true_eq] at hn
  have ho := hn.1
  have hn2 := of_decide_eq_true hn.2
  have hv3 := hv.more [some (Row.mk [.i .i64 0, .i .i64 0, .i .u64 0, .nf] true), some (Row.mk (layC (b :: E).length (fieldN b 10 2) (fieldN b 12 8)) true), some (Row.mk [] true)]
  obtain ⟨id, off, rfl, hid, _, hB⟩ := hv2.sl h0
  have hBl : (encB b).length = 256 := by rw [encB_length, hD.cons.1]
  have l2 := hB 0 256 (by rw [cellsD_length hD]; omega)
  have ec : ((cellsD (b :: E)).drop 0).take 256 = encB b := by
    have := cellsD_at (i := 0) hD h0
    rwa [Nat.zero_mul] at this
  rw [ec, Nat.add_zero] at l2
  have a1 : aiAddrL 256 (.c (.sl id off (b :: E).length 256)) (.c (.i .i64 0)) = some (.c (.p id off)) := by
    have := iAddrL_of (k := .i64) (id := id) (off := off) (sz := 256) (j := 0) (len := (b :: E).length) h0
    rwa [Nat.zero_mul, Nat.add_zero] at this
  have hG := fun h => super_Get_eq (h := h) hD.cons.1
  have c0 : ¬ (((b :: E).length : Nat) : Int) = 0 := by omega
  have n13 : ¬ (13 : Int) = 0 := by decide
  simp only [ho, layS_ok ho, cond_true, hn2] at hG
  have eN : devN (b :: E) = fieldN b 10 2 := rfl
  have eM : devM (b :: E) = fieldN b 12 8 := rfl
  have hA := app_has (id := h.length + 2) (by simp) hv3 (by omega) h60
  have ef1 : afill ([] : List Cell) [] = some [] := rfl
  have hlt : id < h.length := by
    rcases hv with ⟨e, _⟩ | ⟨i, o, r, e, hr, _⟩
    · cases e
    · cases e; exact rd_lt hr
  rw [eN, eM]
  unfold IsView
  generalize cellsD (b :: E) = C at *
  have emk : amkf 54 [.c (.p (h.length + 4) 0)] = some (.c (.f 54 [(h.length + 4, 0)])) := rfl
  refine ⟨.f 54 [(h.length + 4, 0)], [some (Row.mk (vwC (b :: E).length (fieldN b 10 2) (fieldN b 12 8) (.f 54 [(h.length + 4, 0)])) true), some (Row.mk (layC (b :: E).length (fieldN b 10 2) (fieldN b 12 8)) true), none, some (Row.mk C true), some (Row.mk [.sl (h.length + 3) 0 (b :: E).length 256] true)], S_view_Of_of (n := 0) ?_, h.length + 4, h.length + 3, true, true, rfl, rd_at, rd_at⟩
  rw [R_view_Of_eq]
  generalize (b :: E).length = N at *
  generalize encB b = y at *
  generalize fieldN b 10 2 = n1 at *
  generalize fieldN b 12 8 = n2 at *
  have ef2 : ∀ x, afill [Cell.i .i64 0, .i .i64 0, .i .u64 0, .nf] [(0, 3, .a [.i .i64 (N : Int), .i .i64 n1, .i .u64 n2]), (3, 1, .c x)] = some [.i .i64 (N : Int), .i .i64 n1, .i .u64 n2, x] := fun _ => rfl
  unfold layC vwC at *
  simp only [esc, esh, Nat.reduceAdd, Nat.reduceMul, Nat.reduceLT] at hA
  simp only [esc, esh, Nat.reduceAdd, Nat.reduceMul, Nat.reduceLT, l2, a1, hG, n13, eq_self, c0, hA, ef1, ef2, emk] <;> rfl

end Go.Proofs.Ytdgggnlbdoiloaa
end
noncomputable section
namespace Go.Proofs.Ytdgggnlbdoiloaa
open Go Go.Esc
set_option maxRecDepth 100000
def points_there_o0 : List AOper := [aO 2 (.mv (.v (.c (.b false))))]
def points_there_c0 : ACode := .ops points_there_o0
def points_there_o1 : List AOper := [aO 3 (.mv (.t 0)), aO 4 (.bin .geq (.t 3) (.v (.c (.i .i64 0)))), aO 5 (.mv (.t 4)), { dst := some 6, op := .mv (.t 0), guard := some (5, true) }, { dst := some 7, op := .bin .lss (.t 6) (.v (.c (.i .i64 128))), guard := some (5, true) }, aO 8 (.pick (.t 5) (.t 7) (.v (.c (.b false)))), aO 2 (.mv (.t 8))]
def points_there_c1 : ACode := .ops points_there_o1
def points_there_c2 : ACode := .seq [2] points_there_c1 .ret
def points_there_c3 : ACode := .seq [0] points_there_c0 points_there_c2
def A_points_there : AFn := ⟨points_there_c3, [.tmp 2]⟩
def E_points_there : Sums := disp0
def points_there_c0_d (n : Nat) : SmV := smOps E_points_there points_there_o0
def points_there_c1_d (n : Nat) : SmV := smOps E_points_there points_there_o1
def points_there_c2_d (n : Nat) : SmV := smSeq [2] (points_there_c1_d n) smRet
def points_there_c3_d (n : Nat) : SmV := smSeq [0] (points_there_c0_d n) (points_there_c2_d n)
def R_points_there (n : Nat) (args : List Val) (h : Heap) : OptV := (points_there_c3_d n) A_points_there.fin (params 0 args) h
theorem R_points_there_eq (n : Nat) (a0 : Val) (h : Heap) : R_points_there n [a0] h = bnd (abin .geq a0 (.c (.i .i64 0))) fun v1 => bnd (gd v1 true (some (a0, h)) (some (.no, h))) fun p2 => bnd (gd v1 true (bnd (abin .lss p2.1 (.c (.i .i64 128))) fun v3 => some (v3, p2.2)) (some (.no, p2.2))) fun p4 => bnd (apick v1 p4.1 (.c (.b false))) fun v5 => some (v5, p4.2) := by kernel_rfl
theorem K_points_there : FnK Try.prog 107 A_points_there E_points_there R_points_there := .mk' (sound0) Try.func107 (by kernel_rfl) (by intro n args h; kernel_rfl)
def S_points_there : Fun := tidy (Lim A_points_there E_points_there)
theorem S_points_there_ok : SOk Try.prog 107 S_points_there := K_points_there.sok
theorem S_points_there_flat {n : Nat} {args : List Val} {h h2 : Heap} {v : Val} (he : R_points_there n args (ro h) = some (v, h2)) (hf : v.flat = true) : S_points_there args h = some (v, h) := K_points_there.flat he hf
def points_Get_o0 : List AOper := [aO 2 (.box (.t 0)), aO 4 (.mv (.v (.c (.i .i64 0))))]
def points_Get_c0 : ACode := .ops points_Get_o0
def points_Get_o1 : List AOper := [aO 5 (.mv (.t 1)), aO 6 (.call 107 [(.t 5)]), aO 7 (.un .not (.t 6))]
def points_Get_c1 : ACode := .ops points_Get_o1
def points_Get_o2 : List AOper := [aO 4 (.mv (.v (.c (.i .i64 0))))]
def points_Get_c2 : ACode := .ops points_Get_o2
def points_Get_c3 : ACode := .seq [4] points_Get_c2 .ret
def points_Get_c4 : ACode := .cond (.t 7) points_Get_c3 .skip
def points_Get_c5 : ACode := .seq [1, 2, 7] points_Get_c1 points_Get_c4
def points_Get_o3 : List AOper := [aO 8 (.loadN 256 (.t 2)), aO 9 (.mv (.t 1)), aO 10 (.bin .mul (.v (.c (.i .i64 2))) (.t 9)), aO 11 (.call 101 [(.t 8), (.t 10), (.v (.c (.i .i64 2)))]), aO 4 (.mv (.t 11))]
def points_Get_c6 : ACode := .ops points_Get_o3
def points_Get_c7 : ACode := .seq [4] points_Get_c6 .ret
def points_Get_c8 : ACode := .seq [1, 2] points_Get_c5 points_Get_c7
def points_Get_c9 : ACode := .seq [1, 2] points_Get_c0 points_Get_c8
def A_points_Get : AFn := ⟨points_Get_c9, [.tmp 4]⟩
def E_points_Get : Sums := disp 107 S_points_there (disp 101 S_num_At disp0)
def points_Get_c0_d (n : Nat) : SmV := smOps E_points_Get points_Get_o0
def points_Get_c1_d (n : Nat) : SmV := smOps E_points_Get points_Get_o1
def points_Get_c2_d (n : Nat) : SmV := smOps E_points_Get points_Get_o2
def points_Get_c3_d (n : Nat) : SmV := smSeq [4] (points_Get_c2_d n) smRet
def points_Get_c4_d (n : Nat) : SmV := smCond (.t 7) (points_Get_c3_d n) smSkip
def points_Get_c5_d (n : Nat) : SmV := smSeq [1, 2, 7] (points_Get_c1_d n) (points_Get_c4_d n)
def points_Get_c6_d (n : Nat) : SmV := smOps E_points_Get points_Get_o3
def points_Get_c7_d (n : Nat) : SmV := smSeq [4] (points_Get_c6_d n) smRet
def points_Get_c8_d (n : Nat) : SmV := smSeq [1, 2] (points_Get_c5_d n) (points_Get_c7_d n)
def points_Get_c9_d (n : Nat) : SmV := smSeq [1, 2] (points_Get_c0_d n) (points_Get_c8_d n)
def R_points_Get (n : Nat) (args : List Val) (h : Heap) : OptV := (points_Get_c9_d n) A_points_Get.fin (params 0 args) h
theorem R_points_Get_eq (n : Nat) (a0 a1 : Val) (h : Heap) : R_points_Get n [a0, a1] h = bnd (cells? a0) fun c1 => bnd (S_points_there [a1] ((h ++ [some (Row.mk (c1) true)]))) fun p2 => bnd (aun .not p2.1) fun v3 => cnd v3 (some ((.c (.i .i64 0)), p2.2)) (bnd (aloadN p2.2 256 ((.c (.p h.length 0)))) fun v4 => bnd (abin .mul (.c (.i .i64 2)) a1) fun v5 => bnd (S_num_At [v4, v5, .c (.i .i64 2)] p2.2) fun p6 => some (p6.1, p6.2)) := by kernel_rfl
theorem K_points_Get : FnK Try.prog 67 A_points_Get E_points_Get R_points_Get := .mk' (sound1 S_points_there_ok (sound1 S_num_At_ok sound0)) Try.func67 (by kernel_rfl) (by intro n args h; kernel_rfl)
def S_points_Get : Fun := tidy (Lim A_points_Get E_points_Get)
theorem S_points_Get_ok : SOk Try.prog 67 S_points_Get := K_points_Get.sok
theorem S_points_Get_flat {n : Nat} {args : List Val} {h h2 : Heap} {v : Val} (he : R_points_Get n args (ro h) = some (v, h2)) (hf : v.flat = true) : S_points_Get args h = some (v, h) := K_points_Get.flat he hf
end Go.Proofs.Ytdgggnlbdoiloaa
end
section
namespace Go.Proofs.Ytdgggnlbdoiloaa
open Go Go.Esc

def ptP (b : List UInt8) (i : Nat) : Int := fieldN b (2 * i) 2
theorem points_there_in {k : Nat} {h : Heap} (hk : k < 128) : S_points_there [.c (.i .i64 k)] h = some (.c (.b true), h) := by
  have key : ∀ g, ∃ g', R_points_there 0 [.c (.i .i64 k)] g = some (.c (.b true), g') := by
    intro g
    have c1 : (0 : Int) ≤ k := by omega
    have c2 : (k : Int) < 128 := by omega
    rw [R_points_there_eq]
    exact ⟨_, by simp only [esc, c1, c2] <;> rfl⟩
  obtain ⟨g', e⟩ := key (ro h)
  exact S_points_there_flat e rfl

theorem at_pt {b : List UInt8} {i : Nat} (hb : b.length = 256) (hi : i < 128) : ((atN b ((2 * i : Nat) : Int) 2 : Nat) : Int) = ptP b i := by
  unfold atN ptP fieldN
  rw [if_pos ⟨by omega, thereI_true.2 (by omega)⟩]
  simp only [Int.toNat_natCast]
  rfl

theorem wi_two {i : Nat} (hi : i < 128) : IntKind.wrap .i64 (2 * (i : Int)) = ((2 * i : Nat) : Int) := by rw [wrap_i64 (by omega) (by omega)]; omega

theorem points_Get_at {b : List UInt8} {k : Nat} {h : Heap} (hb : b.length = 256) (hk : k < 128) : S_points_Get [.a (encB b), .c (.i .i64 k)] h = some (.c (.i .i64 (ptP b k)), h) := by
  have key : ∀ g, ∃ g', R_points_Get 0 [.a (encB b), .c (.i .i64 k)] g = some (.c (.i .i64 (ptP b k)), g') := by
    intro g
    have hB : (encB b).length = 256 := by rw [encB_length, hb]
    have hT := fun h => points_there_in (h := h) hk
    have hA := fun h => num_At_eq (h := h) hb (a := ((2 * k : Nat) : Int)) (w := 2)
    rw [at_pt hb hk] at hA
    rw [R_points_Get_eq]
    exact ⟨_, by simp only [esc, esh, Nat.reduceAdd, Nat.reduceMul, Nat.reduceLT, hB, hT, wi_two hk, hA] <;> rfl⟩
  obtain ⟨g', e⟩ := key (ro h)
  exact S_points_Get_flat e rfl

end Go.Proofs.Ytdgggnlbdoiloaa
end
section
namespace Go.Proofs.Ytdgggnlbdoiloaa
open Go Go.Esc

def zI (n : Nat) : List Int := List.replicate n 0
end Go.Proofs.Ytdgggnlbdoiloaa
end
section
namespace Go.Proofs.Ytdgggnlbdoiloaa
open Go Go.Esc

abbrev inoC (k l s p : Int) (d : List Int) : List Cell := .i .i64 k :: .i .i64 l :: .i .i64 s :: .i .i64 p :: encI d

end Go.Proofs.Ytdgggnlbdoiloaa
end
noncomputable section
namespace Go.Proofs.Ytdgggnlbdoiloaa
open Go Go.Esc
set_option maxRecDepth 100000
def fmap_At_o0 : List AOper := [aO 3 (.box (.t 0)), aO 4 (.box (.t 1)), aO 6 (.mv (.v (.c (.i .i64 0))))]
def fmap_At_c0 : ACode := .ops fmap_At_o0
def fmap_At_o1 : List AOper := [aO 8 (.fAddr (.t 4) 0), aO 9 (.load1 (.t 8)), aO 10 (.bin .neq (.t 9) (.v (.c (.i .i64 1)))), aO 11 (.mv (.t 10)), { dst := some 12, op := .mv (.t 2), guard := some (11, false) }, { dst := some 13, op := .bin .lss (.t 12) (.v (.c (.i .i64 0))), guard := some (11, false) }, aO 14 (.pick (.t 11) (.v (.c (.b true))) (.t 13)), aO 15 (.mv (.t 14)), { dst := some 16, op := .mv (.t 2), guard := some (15, false) }, { dst := some 17, op := .bin .geq (.t 16) (.v (.c (.i .i64 134))), guard := some (15, false) }, aO 18 (.pick (.t 15) (.v (.c (.b true))) (.t 17))]
def fmap_At_c1 : ACode := .ops fmap_At_o1
def fmap_At_o2 : List AOper := [aO 6 (.mv (.v (.c (.i .i64 0))))]
def fmap_At_c2 : ACode := .ops fmap_At_o2
def fmap_At_c3 : ACode := .seq [6] fmap_At_c2 .ret
def fmap_At_c4 : ACode := .cond (.t 18) fmap_At_c3 .skip
def fmap_At_c5 : ACode := .seq [2, 3, 4, 18] fmap_At_c1 fmap_At_c4
def fmap_At_o3 : List AOper := [aO 7 (.mv (.v (.c (.i .i64 0))))]
def fmap_At_c6 : ACode := .ops fmap_At_o3
def fmap_At_o4 : List AOper := [aO 20 (.mv (.t 2)), aO 21 (.bin .lss (.t 20) (.v (.c (.i .i64 6)))), aO 19 (.mv (.t 21))]
def fmap_At_c7 : ACode := .ops fmap_At_o4
def fmap_At_o5 : List AOper := [aO 22 (.mv (.t 2)), aO 23 (.fAddr (.t 4) 4), aO 24 (.iAddrA 6 1 (.t 23) (.t 22)), aO 25 (.load1 (.t 24)), aO 7 (.mv (.t 25))]
def fmap_At_c8 : ACode := .ops fmap_At_o5
def fmap_At_o6 : List AOper := [aO 27 (.fAddr (.t 3) 0), aO 28 (.loadN 3 (.t 27)), aO 29 (.fAddr (.t 4) 10), aO 30 (.load1 (.t 29)), aO 31 (.call 25 [(.t 28), (.t 30)]), aO 26 (.mv (.t 31))]
def fmap_At_c9 : ACode := .ops fmap_At_o6
def fmap_At_o7 : List AOper := [aO 32 (.loadN 4 (.t 3)), aO 33 (.fAddr (.t 4) 10), aO 34 (.load1 (.t 33)), aO 35 (.call 38 [(.t 32), (.t 34)]), aO 36 (.mv (.t 2)), aO 37 (.bin .sub (.t 36) (.v (.c (.i .i64 6)))), aO 38 (.call 67 [(.t 35), (.t 37)]), aO 7 (.mv (.t 38))]
def fmap_At_c10 : ACode := .ops fmap_At_o7
def fmap_At_c11 : ACode := .cond (.t 26) fmap_At_c10 .skip
def fmap_At_c12 : ACode := .seq [2, 3, 4, 7, 26] fmap_At_c9 fmap_At_c11
def fmap_At_c13 : ACode := .cond (.t 19) fmap_At_c8 fmap_At_c12
def fmap_At_c14 : ACode := .seq [2, 3, 4, 7, 19] fmap_At_c7 fmap_At_c13
def fmap_At_c15 : ACode := .block 0 fmap_At_c14
def fmap_At_o8 : List AOper := [aO 39 (.fAddr (.t 3) 0), aO 40 (.loadN 3 (.t 39)), aO 41 (.mv (.t 7)), aO 42 (.call 25 [(.t 40), (.t 41)]), aO 43 (.un .not (.t 42))]
def fmap_At_c16 : ACode := .ops fmap_At_o8
def fmap_At_o9 : List AOper := [aO 6 (.mv (.v (.c (.i .i64 0))))]
def fmap_At_c17 : ACode := .ops fmap_At_o9
def fmap_At_c18 : ACode := .seq [6] fmap_At_c17 .ret
def fmap_At_c19 : ACode := .cond (.t 43) fmap_At_c18 .skip
def fmap_At_c20 : ACode := .seq [7, 43] fmap_At_c16 fmap_At_c19
def fmap_At_o10 : List AOper := [aO 44 (.mv (.t 7)), aO 6 (.mv (.t 44))]
def fmap_At_c21 : ACode := .ops fmap_At_o10
def fmap_At_c22 : ACode := .seq [6] fmap_At_c21 .ret
def fmap_At_c23 : ACode := .seq [7] fmap_At_c20 fmap_At_c22
def fmap_At_c24 : ACode := .seq [3, 7] fmap_At_c15 fmap_At_c23
def fmap_At_c25 : ACode := .seq [2, 3, 4, 7] fmap_At_c6 fmap_At_c24
def fmap_At_c26 : ACode := .seq [2, 3, 4] fmap_At_c5 fmap_At_c25
def fmap_At_c27 : ACode := .seq [2, 3, 4] fmap_At_c0 fmap_At_c26
def A_fmap_At : AFn := ⟨fmap_At_c27, [.tmp 6]⟩
def E_fmap_At : Sums := disp 25 S_geom_IsData (disp 38 S_view_View_Block__Of_1 (disp 67 S_points_Get disp0))
def fmap_At_c0_d (n : Nat) : SmV := smOps E_fmap_At fmap_At_o0
def fmap_At_c1_d (n : Nat) : SmV := smOps E_fmap_At fmap_At_o1
def fmap_At_c2_d (n : Nat) : SmV := smOps E_fmap_At fmap_At_o2
def fmap_At_c3_d (n : Nat) : SmV := smSeq [6] (fmap_At_c2_d n) smRet
def fmap_At_c4_d (n : Nat) : SmV := smCond (.t 18) (fmap_At_c3_d n) smSkip
def fmap_At_c5_d (n : Nat) : SmV := smSeq [2, 3, 4, 18] (fmap_At_c1_d n) (fmap_At_c4_d n)
def fmap_At_c6_d (n : Nat) : SmV := smOps E_fmap_At fmap_At_o3
def fmap_At_c7_d (n : Nat) : SmV := smOps E_fmap_At fmap_At_o4
def fmap_At_c8_d (n : Nat) : SmV := smOps E_fmap_At fmap_At_o5
def fmap_At_c9_d (n : Nat) : SmV := smOps E_fmap_At fmap_At_o6
def fmap_At_c10_d (n : Nat) : SmV := smOps E_fmap_At fmap_At_o7
def fmap_At_c11_d (n : Nat) : SmV := smCond (.t 26) (fmap_At_c10_d n) smSkip
def fmap_At_c12_d (n : Nat) : SmV := smSeq [2, 3, 4, 7, 26] (fmap_At_c9_d n) (fmap_At_c11_d n)
def fmap_At_c13_d (n : Nat) : SmV := smCond (.t 19) (fmap_At_c8_d n) (fmap_At_c12_d n)
def fmap_At_c14_d (n : Nat) : SmV := smSeq [2, 3, 4, 7, 19] (fmap_At_c7_d n) (fmap_At_c13_d n)
def fmap_At_c15_d (n : Nat) : SmV := smBlock 0 (fmap_At_c14_d n)
def fmap_At_c16_d (n : Nat) : SmV := smOps E_fmap_At fmap_At_o8
def fmap_At_c17_d (n : Nat) : SmV := smOps E_fmap_At fmap_At_o9
def fmap_At_c18_d (n : Nat) : SmV := smSeq [6] (fmap_At_c17_d n) smRet
def fmap_At_c19_d (n : Nat) : SmV := smCond (.t 43) (fmap_At_c18_d n) smSkip
def fmap_At_c20_d (n : Nat) : SmV := smSeq [7, 43] (fmap_At_c16_d n) (fmap_At_c19_d n)
def fmap_At_c21_d (n : Nat) : SmV := smOps E_fmap_At fmap_At_o10
def fmap_At_c22_d (n : Nat) : SmV := smSeq [6] (fmap_At_c21_d n) smRet
def fmap_At_c23_d (n : Nat) : SmV := smSeq [7] (fmap_At_c20_d n) (fmap_At_c22_d n)
def fmap_At_c24_d (n : Nat) : SmV := smSeq [3, 7] (fmap_At_c15_d n) (fmap_At_c23_d n)
def fmap_At_c25_d (n : Nat) : SmV := smSeq [2, 3, 4, 7] (fmap_At_c6_d n) (fmap_At_c24_d n)
def fmap_At_c26_d (n : Nat) : SmV := smSeq [2, 3, 4] (fmap_At_c5_d n) (fmap_At_c25_d n)
def fmap_At_c27_d (n : Nat) : SmV := smSeq [2, 3, 4] (fmap_At_c0_d n) (fmap_At_c26_d n)
def fmap_At_j0 (n : Nat) (x3 x7 : Val) (h : Heap) : OptV := hold ((fmap_At_c23_d n) A_fmap_At.fin [(3, x3), (7, x7)] h)
def R_fmap_At (n : Nat) (args : List Val) (h : Heap) : OptV := (fmap_At_c27_d n) A_fmap_At.fin (params 0 args) h
theorem R_fmap_At_eq (n : Nat) (a0 a1 a2 : Val) (h : Heap) : R_fmap_At n [a0, a1, a2] h = bnd (cells? a0) fun c1 => bnd (cells? a1) fun c2 => bnd (afAddr ((.c (.p ((h ++ [some (Row.mk (c1) true)])).length 0))) 0) fun v3 => bnd (aload1 (((h ++ [some (Row.mk (c1) true)]) ++ [some (Row.mk (c2) true)])) v3) fun v4 => bnd (abin .neq v4 (.c (.i .i64 1))) fun v5 => bnd (gd v5 false (some (a2, ((h ++ [some (Row.mk (c1) true)]) ++ [some (Row.mk (c2) true)]))) (some (.no, ((h ++ [some (Row.mk (c1) true)]) ++ [some (Row.mk (c2) true)])))) fun p6 => bnd (gd v5 false (bnd (abin .lss p6.1 (.c (.i .i64 0))) fun v7 => some (v7, p6.2)) (some (.no, p6.2))) fun p8 => bnd (apick v5 (.c (.b true)) p8.1) fun v9 => bnd (gd v9 false (some (a2, p8.2)) (some (.no, p8.2))) fun p10 => bnd (gd v9 false (bnd (abin .geq p10.1 (.c (.i .i64 134))) fun v11 => some (v11, p10.2)) (some (.no, p10.2))) fun p12 => bnd (apick v9 (.c (.b true)) p12.1) fun v13 => cnd v13 (some ((.c (.i .i64 0)), p12.2)) (bnd (abin .lss a2 (.c (.i .i64 6))) fun v14 => cnd v14 (bnd (afAddr ((.c (.p ((h ++ [some (Row.mk (c1) true)])).length 0))) 4) fun v15 => bnd (aiAddrA 6 1 v15 a2) fun v16 => bnd (aload1 p12.2 v16) fun v17 => fmap_At_j0 n ((.c (.p h.length 0))) v17 p12.2) (bnd (afAddr ((.c (.p h.length 0))) 0) fun v18 => bnd (aloadN p12.2 3 v18) fun v19 => bnd (afAddr ((.c (.p ((h ++ [some (Row.mk (c1) true)])).length 0))) 10) fun v20 => bnd (aload1 p12.2 v20) fun v21 => bnd (S_geom_IsData [v19, v21] p12.2) fun p22 => cnd p22.1 (bnd (aloadN p22.2 4 ((.c (.p h.length 0)))) fun v23 => bnd (afAddr ((.c (.p ((h ++ [some (Row.mk (c1) true)])).length 0))) 10) fun v24 => bnd (aload1 p22.2 v24) fun v25 => bnd (S_view_View_Block__Of_1 [v23, v25] p22.2) fun p26 => bnd (abin .sub a2 (.c (.i .i64 6))) fun v27 => bnd (S_points_Get [p26.1, v27] p26.2) fun p28 => fmap_At_j0 n ((.c (.p h.length 0))) p28.1 p28.2) (fmap_At_j0 n ((.c (.p h.length 0))) (.c (.i .i64 0)) p22.2))) := by kernel_rfl
theorem fmap_At_j0_eq (n : Nat) (x3 x7 : Val) (h : Heap) : fmap_At_j0 n x3 x7 h = bnd (afAddr x3 0) fun v29 => bnd (aloadN h 3 v29) fun v30 => bnd (S_geom_IsData [v30, x7] h) fun p31 => bnd (aun .not p31.1) fun v32 => cnd v32 (some ((.c (.i .i64 0)), p31.2)) (some (x7, p31.2)) := by kernel_rfl
theorem K_fmap_At : FnK Try.prog 28 A_fmap_At E_fmap_At R_fmap_At := .mk' (sound1 S_geom_IsData_ok (sound1 S_view_View_Block__Of_1_ok (sound1 S_points_Get_ok sound0))) Try.func28 (by kernel_rfl) (by intro n args h; kernel_rfl)
def S_fmap_At : Fun := tidy (Lim A_fmap_At E_fmap_At)
theorem S_fmap_At_ok : SOk Try.prog 28 S_fmap_At := K_fmap_At.sok
theorem S_fmap_At_flat {n : Nat} {args : List Val} {h h2 : Heap} {v : Val} (he : R_fmap_At n args (ro h) = some (v, h2)) (hf : v.flat = true) : S_fmap_At args h = some (v, h) := K_fmap_At.flat he hf
end Go.Proofs.Ytdgggnlbdoiloaa
end
section
namespace Go.Proofs.Ytdgggnlbdoiloaa
open Go Go.Esc

def rawF (D : Dev) (n : Int) (d : List Int) (j : Nat) : Int :=
  if j < 6 then d.getD j 0 else bif isDatL D.length n (d.getD 6 0) then ptP (blk D (d.getD 6 0)) (j - 6) else 0
def datF1 (D : Dev) (n : Int) (d : List Int) (j : Nat) : Int := bif isDatL D.length n (rawF D n d j) then rawF D n d j else 0
def atF (D : Dev) (n k : Int) (d : List Int) (j : Int) : Int := if k = 1 ∧ 0 ≤ j ∧ j < 134 then datF1 D n d j.toNat else 0


theorem fmap_At_j0_ok {D : Dev} {n m no : Int} {f : Cell} {q : Nat} {g : Heap} {r : Option Row} : fmap_At_j0 q (.c (.p g.length 0)) (.c (.i .i64 no)) (g ++ [some (Row.mk (vwC D.length n m f) true), r]) = some (.c (.i .i64 (bif isDatL D.length n no then no else 0)), g ++ [some (Row.mk (vwC D.length n m f) true), r]) := by
  have l3 := vw_l3 (b := D.length) (n := n) (m := m) (f := f)
  have hI := fun h => geom_IsData_eq (b := D.length) (n := n) (m := m) (i := no) (h := h)
  rw [fmap_At_j0_eq]
  generalize vwC D.length n m f = V at *
  cases c : isDatL D.length n no with
  | false =>
    simp only [c] at hI
    simp only [esc, esh, Nat.reduceAdd, Nat.reduceMul, Nat.reduceLT, l3, hI]
  | true =>
    simp only [c] at hI
    simp only [esc, esh, Nat.reduceAdd, Nat.reduceMul, Nat.reduceLT, l3, hI]

theorem fmap_At_eq {D : Dev} {n m k l s p j : Int} {d : List Int} {f : Cell} {h : Heap} (hD : okD D) (hd : d.length = 7) (hv : IsView h f D) :
    S_fmap_At [.a (vwC D.length n m f), .a (inoC k l s p d), .c (.i .i64 j)] h = some (.c (.i .i64 (atF D n k d j)), h) := by
  have key : ∀ g, IsView g f D → ∃ g', R_fmap_At 0 [.a (vwC D.length n m f), .a (inoC k l s p d), .c (.i .i64 j)] g = some (.c (.i .i64 (atF D n k d j)), g') := by
    intro g hv
    have l3 := vw_l3 (b := D.length) (n := n) (m := m) (f := f)
    have l4 := vw_l4 (b := D.length) (n := n) (m := m) (f := f)
    have i0 : (inoC k l s p d)[0]? = some (.i .i64 k) := rfl
    have i10 : (inoC k l s p d)[10]? = some (.i .i64 (d.getD 6 0)) := by
      have : (inoC k l s p d)[10]? = (encI d)[6]? := rfl
      rw [this, encI_get, List.getElem?_eq_getElem (by omega), List.getD_eq_getElem?_getD, List.getElem?_eq_getElem (by omega)]; rfl
    have hJ := fun no => fmap_At_j0_ok (D := D) (n := n) (m := m) (no := no) (f := f) (q := 0) (g := g) (r := some (Row.mk (inoC k l s p d) true))
    rw [R_fmap_At_eq]
    by_cases c1 : k = 1
    · by_cases c2 : j < 0
      · have e : atF D n k d j = 0 := by unfold atF; rw [if_neg (by omega)]
        rw [e]
        generalize vwC D.length n m f = V at *
        generalize inoC k l s p d = I at *
        exact ⟨_, by simp only [esc, esh, Nat.reduceAdd, Nat.reduceMul, Nat.reduceLT, eq_self, i0, c1, c2] <;> rfl⟩
      · by_cases c3 : 134 ≤ j
        · have e : atF D n k d j = 0 := by unfold atF; rw [if_neg (by omega)]
          rw [e]
          generalize vwC D.length n m f = V at *
          generalize inoC k l s p d = I at *
          exact ⟨_, by simp only [esc, esh, Nat.reduceAdd, Nat.reduceMul, Nat.reduceLT, eq_self, i0, c1, c2, c3] <;> rfl⟩
        · obtain ⟨i, rfl⟩ : ∃ i : Nat, j = i := ⟨j.toNat, by omega⟩
          have e : atF D n k d i = datF1 D n d i := by unfold atF; rw [if_pos (by omega), Int.toNat_natCast]
          rw [e]
          unfold datF1
          by_cases c4 : (i : Int) < 6
          · have er : rawF D n d i = d.getD i 0 := by unfold rawF; rw [if_pos (by omega)]
            have ia : (inoC k l s p d)[4 + i]? = some (.i .i64 (d.getD i 0)) := by
              have : (inoC k l s p d)[4 + i]? = (encI d)[i]? := by
                rw [Nat.add_comm]; rfl
              rw [this, encI_get, List.getElem?_eq_getElem (by omega), List.getD_eq_getElem?_getD, List.getElem?_eq_getElem (by omega)]; rfl
            have ad := iAddrA_of (k := .i64) (id := g.length + 1) (off := 4) (sz := 1) (j := i) (n := 6) (by omega)
            rw [Nat.mul_one] at ad
            rw [er]
            generalize vwC D.length n m f = V at *
            generalize inoC k l s p d = I at *
            exact ⟨_, by simp only [esc, esh, Nat.reduceAdd, Nat.reduceMul, Nat.reduceLT, eq_self, i0, c1, c2, c3, c4, ad, ia, hJ] <;> rfl⟩
          · have er : rawF D n d i = bif isDatL D.length n (d.getD 6 0) then ptP (blk D (d.getD 6 0)) (i - 6) else 0 := by unfold rawF; rw [if_neg (by omega)]
            have hI := fun h => geom_IsData_eq (b := D.length) (n := n) (m := m) (i := d.getD 6 0) (h := h)
            rw [er]
            cases c5 : isDatL D.length n (d.getD 6 0) with
            | false =>
              simp only [c5] at hI
              generalize vwC D.length n m f = V at *
              generalize inoC k l s p d = I at *
              exact ⟨_, by simp only [esc, esh, Nat.reduceAdd, Nat.reduceMul, Nat.reduceLT, eq_self, i0, i10, c1, c2, c3, c4, l3, hI, hJ] <;> rfl⟩
            | true =>
              simp only [c5] at hI
              have hB := view_Block_eq (n := n) (m := m) (no := d.getD 6 0) (h := g ++ [some (Row.mk (vwC D.length n m f) true), some (Row.mk (inoC k l s p d) true)]) hD (hv.more _)
              have w : IntKind.wrap .i64 ((i : Int) - 6) = ((i - 6 : Nat) : Int) := by rw [wrap_i64 (by omega) (by omega)]; omega
              have hP := fun h => points_Get_at (b := blk D (d.getD 6 0)) (k := i - 6) (h := h) (blk_length hD) (by omega)
              generalize vwC D.length n m f = V at *
              generalize inoC k l s p d = I at *
              exact ⟨_, by simp only [esc, esh, Nat.reduceAdd, Nat.reduceMul, Nat.reduceLT, eq_self, i0, i10, c1, c2, c3, c4, l3, l4, hI, hB, w, hP, hJ] <;> rfl⟩
    · have e : atF D n k d j = 0 := by unfold atF; rw [if_neg (by omega)]
      rw [e]
      generalize vwC D.length n m f = V at *
      generalize inoC k l s p d = I at *
      exact ⟨_, by simp only [esc, esh, Nat.reduceAdd, Nat.reduceMul, Nat.reduceLT, eq_self, i0, c1] <;> rfl⟩
  obtain ⟨g', e⟩ := key (ro h) hv.ro
  exact S_fmap_At_flat e rfl

end Go.Proofs.Ytdgggnlbdoiloaa
end
section
namespace Go.Proofs.Ytdgggnlbdoiloaa
open Go Go.Esc

abbrev Spn := Nat × Nat × Nat
def spn : Nat → Nat → Nat → List Spn
  | 0, _, _ => []
  | e + 1, off, n => if n = 0 then [] else (off / 256, off % 256, min n (256 - off % 256)) :: spn e (off + min n (256 - off % 256)) (n - min n (256 - off % 256))
theorem spn_zero {off : Nat} : ∀ e, spn e off 0 = []
  | 0 => rfl
  | e + 1 => by rw [spn, if_pos rfl]
theorem spn_step {e off n : Nat} (hn : 0 < n) : spn (e + 1) off n = (off / 256, off % 256, min n (256 - off % 256)) :: spn e (off + min n (256 - off % 256)) (n - min n (256 - off % 256)) := by
  rw [spn, if_neg (by omega)]
theorem spn_length : ∀ (e off n : Nat), (spn e off n).length ≤ n
  | 0, off, n => by simp [spn]
  | e + 1, off, n => by
    by_cases hn : n = 0
    · subst hn; rw [spn_zero]; simp
    · rw [spn_step (by omega), List.length_cons]
      have := spn_length e (off + min n (256 - off % 256)) (n - min n (256 - off % 256))
      omega

theorem spn_mem : ∀ (e off n : Nat), ∀ s ∈ spn e off n, s.2.1 < 256 ∧ 1 ≤ s.2.2 ∧ s.2.1 + s.2.2 ≤ 256 ∧ s.1 ≤ (off + n) / 256 ∧ (0 < n → s.1 * 256 + s.2.1 + s.2.2 ≤ off + n)
  | 0, off, n, s, h => by simp [spn] at h
  | e + 1, off, n, s, h => by
    by_cases hn : n = 0
    · subst hn; rw [spn_zero] at h; simp at h
    · rw [spn_step (by omega)] at h
      rcases List.mem_cons.1 h with rfl | h
      · refine ⟨by dsimp only; omega, by dsimp only; omega, by dsimp only; omega, by dsimp only; omega, fun _ => by dsimp only; omega⟩
      · have ih := spn_mem e _ _ s h
        have e1 : off + min n (256 - off % 256) + (n - min n (256 - off % 256)) = off + n := by omega
        rw [e1] at ih
        refine ⟨ih.1, ih.2.1, ih.2.2.1, ih.2.2.2.1, fun _ => ?_⟩
        by_cases h0 : 0 < n - min n (256 - off % 256)
        · exact ih.2.2.2.2 h0
        · have : n - min n (256 - off % 256) = 0 := by omega
          rw [this, spn_zero] at h; simp at h

theorem spn_bytes (f : Nat → UInt8) : ∀ (e off n : Nat), n ≤ e → ((spn e off n).map fun s => (List.range' (s.1 * 256 + s.2.1) s.2.2).map f).flatten = (List.range' off n).map f
  | 0, off, n, h => by
    have : n = 0 := by omega
    subst this; rfl
  | e + 1, off, n, h => by
    by_cases hn : n = 0
    · subst hn; rw [spn_zero]; rfl
    · rw [spn_step (by omega), List.map_cons, List.flatten_cons, spn_bytes f e _ _ (by omega), ← List.map_append]
      dsimp only
      have e1 : off / 256 * 256 + off % 256 = off := by omega
      have e2 : n = min n (256 - off % 256) + (n - min n (256 - off % 256)) := by omega
      rw [e1]
      conv => rhs; rw [e2]
      rw [← List.range'_append (step := 1), Nat.one_mul]

def spC (l : List Spn) : List Cell := (l.map fun s => [Cell.i .i64 (s.1 : Int), .i .i64 (s.2.1 : Int), .i .i64 (s.2.2 : Int)]).flatten
theorem spC_length {l : List Spn} : (spC l).length = l.length * 3 := by
  induction l with
  | nil => rfl
  | cons x l ih => simp only [spC, List.map_cons, List.flatten_cons, List.length_append, List.length_cons, List.length_nil] at ih ⊢; omega
theorem spC_append {l m : List Spn} : spC (l ++ m) = spC l ++ spC m := by simp [spC]
theorem spC_cons {s : Spn} {l : List Spn} : spC (s :: l) = [Cell.i .i64 (s.1 : Int), .i .i64 (s.2.1 : Int), .i .i64 (s.2.2 : Int)] ++ spC l := rfl
theorem spC_flat {l : List Spn} : flats (spC l) = true := by
  induction l with
  | nil => rfl
  | cons x l ih => rw [spC_cons, flats_append, ih]; rfl
theorem spC_at : ∀ (l : List Spn) (i : Nat) (s : Spn), l[i]? = some s → ((spC l).drop (i * 3)).take 3 = [Cell.i .i64 (s.1 : Int), .i .i64 (s.2.1 : Int), .i .i64 (s.2.2 : Int)]
  | [], i, s, h => by simp at h
  | x :: l, 0, s, h => by
    simp at h; subst h; rfl
  | x :: l, i + 1, s, h => by
    rw [spC_cons, show (i + 1) * 3 = 3 + i * 3 by omega, ← List.drop_drop]
    exact spC_at l i s (by simpa using h)

end Go.Proofs.Ytdgggnlbdoiloaa
end
noncomputable section
namespace Go.Proofs.Ytdgggnlbdoiloaa
open Go Go.Esc
set_option maxRecDepth 100000
def fread_Spans_o0 : List AOper := [aO 4 (.nilrow 3)]
def fread_Spans_c0 : ACode := .ops fread_Spans_o0
def fread_Spans_o1 : List AOper := [aO 8 (.mv (.t 0)), aO 9 (.max (.v (.c (.i .i64 0))) (.t 8)), aO 0 (.mv (.t 9))]
def fread_Spans_c1 : ACode := .ops fread_Spans_o1
def fread_Spans_o2 : List AOper := [aO 10 (.mv (.t 0)), aO 11 (.bin .geq (.t 10) (.v (.c (.i .i64 34304))))]
def fread_Spans_c2 : ACode := .ops fread_Spans_o2
def fread_Spans_o3 : List AOper := [aO 4 (.nilrow 3)]
def fread_Spans_c3 : ACode := .ops fread_Spans_o3
def fread_Spans_c4 : ACode := .seq [4] fread_Spans_c3 .ret
def fread_Spans_c5 : ACode := .cond (.t 11) fread_Spans_c4 .skip
def fread_Spans_c6 : ACode := .seq [0, 1, 11] fread_Spans_c2 fread_Spans_c5
def fread_Spans_o4 : List AOper := [aO 12 (.mv (.t 1)), aO 13 (.max (.v (.c (.i .i64 0))) (.t 12)), aO 14 (.mv (.t 0)), aO 15 (.bin .sub (.v (.c (.i .i64 34304))) (.t 14)), aO 16 (.min (.t 13) (.t 15)), aO 1 (.mv (.t 16))]
def fread_Spans_c7 : ACode := .ops fread_Spans_o4
def fread_Spans_o5 : List AOper := [aO 5 (.nilrow 3)]
def fread_Spans_c8 : ACode := .ops fread_Spans_o5
def fread_Spans_o6 : List AOper := [aO 17 (.mv (.t 1)), aO 18 (.bin .gtr (.t 17) (.v (.c (.i .i64 0))))]
def fread_Spans_c9 : ACode := .ops fread_Spans_o6
def fread_Spans_c10 : ACode := .cond (.t 18) .skip (.exit 0)
def fread_Spans_c11 : ACode := .seq [0, 1, 5, 18] fread_Spans_c9 fread_Spans_c10
def fread_Spans_o7 : List AOper := [aO 19 (.mv (.t 0)), aO 20 (.bin .rem (.t 19) (.v (.c (.i .i64 256)))), aO 6 (.mv (.t 20))]
def fread_Spans_c12 : ACode := .ops fread_Spans_o7
def fread_Spans_o8 : List AOper := [aO 21 (.mv (.t 1)), aO 22 (.mv (.t 6)), aO 23 (.bin .sub (.v (.c (.i .i64 256))) (.t 22)), aO 24 (.min (.t 21) (.t 23)), aO 7 (.mv (.t 24))]
def fread_Spans_c13 : ACode := .ops fread_Spans_o8
def fread_Spans_o9 : List AOper := [aO 25 (.mv (.t 5)), aO 26 (.mv (.t 0)), aO 27 (.bin .quo (.t 26) (.v (.c (.i .i64 256)))), aO 28 (.mv (.t 6)), aO 29 (.mv (.t 7)), aO 30 (.build ([.i .i64 0, .i .i64 0, .i .i64 0]) [(0, 1, (.t 27)), (1, 1, (.t 28)), (2, 1, (.t 29))]), aO 31 (.buildSl 3 1 ([.i .i64 0, .i .i64 0, .i .i64 0]) [(0, 3, (.t 30))]), aO 32 (.app 3 (.t 25) (.t 31)), aO 5 (.mv (.t 32))]
def fread_Spans_c14 : ACode := .ops fread_Spans_o9
def fread_Spans_o10 : List AOper := [aO 33 (.mv (.t 0)), aO 34 (.mv (.t 7)), aO 35 (.bin .add (.t 33) (.t 34)), aO 0 (.mv (.t 35))]
def fread_Spans_c15 : ACode := .ops fread_Spans_o10
def fread_Spans_o11 : List AOper := [aO 36 (.mv (.t 1)), aO 37 (.mv (.t 7)), aO 38 (.bin .sub (.t 36) (.t 37)), aO 1 (.mv (.t 38))]
def fread_Spans_c16 : ACode := .ops fread_Spans_o11
def fread_Spans_c17 : ACode := .seq [0, 1, 5, 7] fread_Spans_c15 fread_Spans_c16
def fread_Spans_c18 : ACode := .seq [0, 1, 5, 7] fread_Spans_c14 fread_Spans_c17
def fread_Spans_c19 : ACode := .seq [0, 1, 5, 6, 7] fread_Spans_c13 fread_Spans_c18
def fread_Spans_c20 : ACode := .seq [0, 1, 5, 6] fread_Spans_c12 fread_Spans_c19
def fread_Spans_c21 : ACode := .block 1 fread_Spans_c20
def fread_Spans_c22 : ACode := .seq [0, 1, 5] fread_Spans_c11 fread_Spans_c21
def fread_Spans_c23 : ACode := .loop [0, 1, 5] fread_Spans_c22
def fread_Spans_c24 : ACode := .block 0 fread_Spans_c23
def fread_Spans_o12 : List AOper := [aO 39 (.mv (.t 5)), aO 4 (.mv (.t 39))]
def fread_Spans_c25 : ACode := .ops fread_Spans_o12
def fread_Spans_c26 : ACode := .seq [4] fread_Spans_c25 .ret
def fread_Spans_c27 : ACode := .seq [5] fread_Spans_c24 fread_Spans_c26
def fread_Spans_c28 : ACode := .seq [0, 1, 5] fread_Spans_c8 fread_Spans_c27
def fread_Spans_c29 : ACode := .seq [0, 1] fread_Spans_c7 fread_Spans_c28
def fread_Spans_c30 : ACode := .seq [0, 1] fread_Spans_c6 fread_Spans_c29
def fread_Spans_c31 : ACode := .seq [0, 1] fread_Spans_c1 fread_Spans_c30
def fread_Spans_c32 : ACode := .seq [0, 1] fread_Spans_c0 fread_Spans_c31
def A_fread_Spans : AFn := ⟨fread_Spans_c32, [.tmp 4]⟩
def E_fread_Spans : Sums := disp0
def fread_Spans_c0_d (n : Nat) : SmV := smOps E_fread_Spans fread_Spans_o0
def fread_Spans_c1_d (n : Nat) : SmV := smOps E_fread_Spans fread_Spans_o1
def fread_Spans_c2_d (n : Nat) : SmV := smOps E_fread_Spans fread_Spans_o2
def fread_Spans_c3_d (n : Nat) : SmV := smOps E_fread_Spans fread_Spans_o3
def fread_Spans_c4_d (n : Nat) : SmV := smSeq [4] (fread_Spans_c3_d n) smRet
def fread_Spans_c5_d (n : Nat) : SmV := smCond (.t 11) (fread_Spans_c4_d n) smSkip
def fread_Spans_c6_d (n : Nat) : SmV := smSeq [0, 1, 11] (fread_Spans_c2_d n) (fread_Spans_c5_d n)
def fread_Spans_c7_d (n : Nat) : SmV := smOps E_fread_Spans fread_Spans_o4
def fread_Spans_c8_d (n : Nat) : SmV := smOps E_fread_Spans fread_Spans_o5
def fread_Spans_c9_d (n : Nat) : SmV := smOps E_fread_Spans fread_Spans_o6
def fread_Spans_c10_d (n : Nat) : SmV := smCond (.t 18) smSkip (smExit 0)
def fread_Spans_c11_d (n : Nat) : SmV := smSeq [0, 1, 5, 18] (fread_Spans_c9_d n) (fread_Spans_c10_d n)
def fread_Spans_c12_d (n : Nat) : SmV := smOps E_fread_Spans fread_Spans_o7
def fread_Spans_c13_d (n : Nat) : SmV := smOps E_fread_Spans fread_Spans_o8
def fread_Spans_c14_d (n : Nat) : SmV := smOps E_fread_Spans fread_Spans_o9
def fread_Spans_c15_d (n : Nat) : SmV := smOps E_fread_Spans fread_Spans_o10
def fread_Spans_c16_d (n : Nat) : SmV := smOps E_fread_Spans fread_Spans_o11
def fread_Spans_c17_d (n : Nat) : SmV := smSeq [0, 1, 5, 7] (fread_Spans_c15_d n) (fread_Spans_c16_d n)
def fread_Spans_c18_d (n : Nat) : SmV := smSeq [0, 1, 5, 7] (fread_Spans_c14_d n) (fread_Spans_c17_d n)
def fread_Spans_c19_d (n : Nat) : SmV := smSeq [0, 1, 5, 6, 7] (fread_Spans_c13_d n) (fread_Spans_c18_d n)
def fread_Spans_c20_d (n : Nat) : SmV := smSeq [0, 1, 5, 6] (fread_Spans_c12_d n) (fread_Spans_c19_d n)
def fread_Spans_c21_d (n : Nat) : SmV := smBlock 1 (fread_Spans_c20_d n)
def fread_Spans_c22_d (n : Nat) : SmV := smSeq [0, 1, 5] (fread_Spans_c11_d n) (fread_Spans_c21_d n)
def fread_Spans_c23_d (n : Nat) : SmV := smLoop n [0, 1, 5] (fread_Spans_c22_d n)
def fread_Spans_c24_d (n : Nat) : SmV := smBlock 0 (fread_Spans_c23_d n)
def fread_Spans_c25_d (n : Nat) : SmV := smOps E_fread_Spans fread_Spans_o12
def fread_Spans_c26_d (n : Nat) : SmV := smSeq [4] (fread_Spans_c25_d n) smRet
def fread_Spans_c27_d (n : Nat) : SmV := smSeq [5] (fread_Spans_c24_d n) (fread_Spans_c26_d n)
def fread_Spans_c28_d (n : Nat) : SmV := smSeq [0, 1, 5] (fread_Spans_c8_d n) (fread_Spans_c27_d n)
def fread_Spans_c29_d (n : Nat) : SmV := smSeq [0, 1] (fread_Spans_c7_d n) (fread_Spans_c28_d n)
def fread_Spans_c30_d (n : Nat) : SmV := smSeq [0, 1] (fread_Spans_c6_d n) (fread_Spans_c29_d n)
def fread_Spans_c31_d (n : Nat) : SmV := smSeq [0, 1] (fread_Spans_c1_d n) (fread_Spans_c30_d n)
def fread_Spans_c32_d (n : Nat) : SmV := smSeq [0, 1] (fread_Spans_c0_d n) (fread_Spans_c31_d n)
def fread_Spans_k0 (n : Nat) : AExit → Env → Heap → OptV := fun x e h => match x with | .normal => hold ((fread_Spans_c26_d n) A_fread_Spans.fin (e.keep [5]) h) | .exit id => A_fread_Spans.fin (.exit id) e h | .ret => A_fread_Spans.fin .ret e h
def fread_Spans_k1 (n : Nat) : AExit → Env → Heap → OptV := fun x e h => match x with | .exit i => bif Nat.beq i 0 then (fread_Spans_k0 n) .normal e h else (fread_Spans_k0 n) (.exit i) e h | .normal => (fread_Spans_k0 n) .normal e h | .ret => (fread_Spans_k0 n) .ret e h
def fread_Spans_l0 (n m : Nat) (x0 x1 x5 : Val) (h : Heap) : OptV := around (fread_Spans_c22_d n) [0, 1, 5] (fread_Spans_k1 n) m [(0, x0), (1, x1), (5, x5)] h
def R_fread_Spans (n : Nat) (args : List Val) (h : Heap) : OptV := (fread_Spans_c32_d n) A_fread_Spans.fin (params 0 args) h
theorem R_fread_Spans_eq (n : Nat) (a0 a1 : Val) (h : Heap) : R_fread_Spans n [a0, a1] h = bnd (amax (.c (.i .i64 0)) a0) fun v1 => bnd (abin .geq v1 (.c (.i .i64 34304))) fun v2 => cnd v2 (some (((.c (.sl ((h ++ [some (Row.mk ([]) true)])).length 0 0 3))), ((h ++ [some (Row.mk ([]) true)]) ++ [some (Row.mk ([]) true)]))) (bnd (amax (.c (.i .i64 0)) a1) fun v3 => bnd (abin .sub (.c (.i .i64 34304)) v1) fun v4 => bnd (amin v3 v4) fun v5 => fread_Spans_l0 n n v1 v5 ((.c (.sl ((h ++ [some (Row.mk ([]) true)])).length 0 0 3))) (((h ++ [some (Row.mk ([]) true)]) ++ [some (Row.mk ([]) true)]))) := by kernel_rfl
theorem fread_Spans_l0_eq (n m : Nat) (x0 x1 x5 : Val) (h : Heap) : fread_Spans_l0 n (m + 1) x0 x1 x5 h = bnd (abin .gtr x1 (.c (.i .i64 0))) fun v6 => cnd v6 (bnd (abin .rem x0 (.c (.i .i64 256))) fun v7 => bnd (abin .sub (.c (.i .i64 256)) v7) fun v8 => bnd (amin x1 v8) fun v9 => bnd (abin .quo x0 (.c (.i .i64 256))) fun v10 => bnd (afill ([.i .i64 0, .i .i64 0, .i .i64 0]) [(0, 1, v10), (1, 1, v7), (2, 1, v9)]) fun c11 => bnd (afill ([.i .i64 0, .i .i64 0, .i .i64 0]) [(0, 3, (.a c11))]) fun c12 => bnd (aapp ((h ++ [some (Row.mk (c12) true)])) 3 x5 ((.c (.sl h.length 0 1 3)))) fun p13 => bnd (abin .add x0 v9) fun v14 => bnd (abin .sub x1 v9) fun v15 => fread_Spans_l0 n m v14 v15 p13.1 p13.2) (some (x5, h)) := by kernel_rfl
theorem K_fread_Spans : FnK Try.prog 13 A_fread_Spans E_fread_Spans R_fread_Spans := .mk' (sound0) Try.func13 (by kernel_rfl) (by intro n args h; kernel_rfl)
def S_fread_Spans : Fun := tidy (Lim A_fread_Spans E_fread_Spans)
theorem S_fread_Spans_ok : SOk Try.prog 13 S_fread_Spans := K_fread_Spans.sok
theorem S_fread_Spans_out {n : Nat} {args : List Val} {h h2 : Heap} {v : Val} {sz k : Nat} {cs : List Cell} (he : R_fread_Spans n args (ro h) = some (v, h2)) (ho : Out h.length h2 v sz k cs) (hf : flats cs = true) : S_fread_Spans args h = some (.c (.sl h.length 0 k sz), h ++ [some ⟨cs, true⟩]) := K_fread_Spans.out he ho hf
def fread_Size_o0 : List AOper := [aO 1 (.box (.t 0)), aO 2 (.mv (.v (.c (.i .i64 0))))]
def fread_Size_c0 : ACode := .ops fread_Size_o0
def fread_Size_o1 : List AOper := [aO 3 (.fAddr (.t 1) 0), aO 4 (.load1 (.t 3)), aO 5 (.bin .neq (.t 4) (.v (.c (.i .i64 1))))]
def fread_Size_c1 : ACode := .ops fread_Size_o1
def fread_Size_o2 : List AOper := [aO 2 (.mv (.v (.c (.i .i64 0))))]
def fread_Size_c2 : ACode := .ops fread_Size_o2
def fread_Size_c3 : ACode := .seq [2] fread_Size_c2 .ret
def fread_Size_c4 : ACode := .cond (.t 5) fread_Size_c3 .skip
def fread_Size_c5 : ACode := .seq [1, 5] fread_Size_c1 fread_Size_c4
def fread_Size_o3 : List AOper := [aO 6 (.fAddr (.t 1) 2), aO 7 (.load1 (.t 6)), aO 8 (.min (.t 7) (.v (.c (.i .i64 34304)))), aO 9 (.max (.v (.c (.i .i64 0))) (.t 8)), aO 2 (.mv (.t 9))]
def fread_Size_c6 : ACode := .ops fread_Size_o3
def fread_Size_c7 : ACode := .seq [2] fread_Size_c6 .ret
def fread_Size_c8 : ACode := .seq [1] fread_Size_c5 fread_Size_c7
def fread_Size_c9 : ACode := .seq [1] fread_Size_c0 fread_Size_c8
def A_fread_Size : AFn := ⟨fread_Size_c9, [.tmp 2]⟩
def E_fread_Size : Sums := disp0
def fread_Size_c0_d (n : Nat) : SmV := smOps E_fread_Size fread_Size_o0
def fread_Size_c1_d (n : Nat) : SmV := smOps E_fread_Size fread_Size_o1
def fread_Size_c2_d (n : Nat) : SmV := smOps E_fread_Size fread_Size_o2
def fread_Size_c3_d (n : Nat) : SmV := smSeq [2] (fread_Size_c2_d n) smRet
def fread_Size_c4_d (n : Nat) : SmV := smCond (.t 5) (fread_Size_c3_d n) smSkip
def fread_Size_c5_d (n : Nat) : SmV := smSeq [1, 5] (fread_Size_c1_d n) (fread_Size_c4_d n)
def fread_Size_c6_d (n : Nat) : SmV := smOps E_fread_Size fread_Size_o3
def fread_Size_c7_d (n : Nat) : SmV := smSeq [2] (fread_Size_c6_d n) smRet
def fread_Size_c8_d (n : Nat) : SmV := smSeq [1] (fread_Size_c5_d n) (fread_Size_c7_d n)
def fread_Size_c9_d (n : Nat) : SmV := smSeq [1] (fread_Size_c0_d n) (fread_Size_c8_d n)
def R_fread_Size (n : Nat) (args : List Val) (h : Heap) : OptV := (fread_Size_c9_d n) A_fread_Size.fin (params 0 args) h
theorem R_fread_Size_eq (n : Nat) (a0 : Val) (h : Heap) : R_fread_Size n [a0] h = bnd (cells? a0) fun c1 => bnd (afAddr ((.c (.p h.length 0))) 0) fun v2 => bnd (aload1 ((h ++ [some (Row.mk (c1) true)])) v2) fun v3 => bnd (abin .neq v3 (.c (.i .i64 1))) fun v4 => cnd v4 (some ((.c (.i .i64 0)), (h ++ [some (Row.mk (c1) true)]))) (bnd (afAddr ((.c (.p h.length 0))) 2) fun v5 => bnd (aload1 ((h ++ [some (Row.mk (c1) true)])) v5) fun v6 => bnd (amin v6 (.c (.i .i64 34304))) fun v7 => bnd (amax (.c (.i .i64 0)) v7) fun v8 => some (v8, (h ++ [some (Row.mk (c1) true)]))) := by kernel_rfl
theorem K_fread_Size : FnK Try.prog 19 A_fread_Size E_fread_Size R_fread_Size := .mk' (sound0) Try.func19 (by kernel_rfl) (by intro n args h; kernel_rfl)
def S_fread_Size : Fun := tidy (Lim A_fread_Size E_fread_Size)
theorem S_fread_Size_ok : SOk Try.prog 19 S_fread_Size := K_fread_Size.sok
theorem S_fread_Size_flat {n : Nat} {args : List Val} {h h2 : Heap} {v : Val} (he : R_fread_Size n args (ro h) = some (v, h2)) (hf : v.flat = true) : S_fread_Size args h = some (v, h) := K_fread_Size.flat he hf
def fread_Read_o0 : List AOper := [aO 4 (.box (.t 0)), aO 5 (.box (.t 1)), aO 8 (.nilrow 1)]
def fread_Read_c0 : ACode := .ops fread_Read_o0
def fread_Read_o1 : List AOper := [aO 13 (.mv (.t 2)), aO 14 (.bin .lss (.t 13) (.v (.c (.i .i64 0)))), aO 15 (.mv (.t 14)), { dst := some 16, op := .mv (.t 2), guard := some (15, false) }, { dst := some 17, op := .loadN 11 (.t 5), guard := some (15, false) }, { dst := some 18, op := .call 19 [(.t 17)], guard := some (15, false) }, { dst := some 19, op := .bin .geq (.t 16) (.t 18), guard := some (15, false) }, aO 20 (.pick (.t 15) (.v (.c (.b true))) (.t 19)), aO 21 (.mv (.t 20)), { dst := some 22, op := .mv (.t 3), guard := some (21, false) }, { dst := some 23, op := .bin .lss (.t 22) (.v (.c (.i .i64 1))), guard := some (21, false) }, aO 24 (.pick (.t 21) (.v (.c (.b true))) (.t 23))]
def fread_Read_c1 : ACode := .ops fread_Read_o1
def fread_Read_o2 : List AOper := [aO 8 (.nilrow 1)]
def fread_Read_c2 : ACode := .ops fread_Read_o2
def fread_Read_c3 : ACode := .seq [8] fread_Read_c2 .ret
def fread_Read_c4 : ACode := .cond (.t 24) fread_Read_c3 .skip
def fread_Read_c5 : ACode := .seq [2, 3, 4, 5, 24] fread_Read_c1 fread_Read_c4
def fread_Read_o3 : List AOper := [aO 9 (.nilrow 1)]
def fread_Read_c6 : ACode := .ops fread_Read_o3
def fread_Read_o4 : List AOper := [aO 25 (.mv (.t 2)), aO 26 (.mv (.t 3)), aO 27 (.loadN 11 (.t 5)), aO 28 (.call 19 [(.t 27)]), aO 29 (.mv (.t 2)), aO 30 (.bin .sub (.t 28) (.t 29)), aO 31 (.min (.t 26) (.t 30)), aO 32 (.call 13 [(.t 25), (.t 31)]), aO 33 (.len (.t 32)), aO 34 (.mv (.v (.c (.i .i64 0))))]
def fread_Read_c7 : ACode := .ops fread_Read_o4
def fread_Read_o5 : List AOper := [aO 35 (.bin .lss (.t 34) (.t 33))]
def fread_Read_c8 : ACode := .ops fread_Read_o5
def fread_Read_c9 : ACode := .cond (.t 35) .skip (.exit 0)
def fread_Read_o6 : List AOper := [aO 36 (.iAddrL 3 (.t 32) (.t 34)), aO 37 (.loadN 3 (.t 36)), aO 11 (.alloc ([.i .i64 0, .i .i64 0, .i .i64 0])), { dst := none, op := .storeN 3 (.t 11) (.t 37) }]
def fread_Read_c10 : ACode := .ops fread_Read_o6
def fread_Read_o7 : List AOper := [aO 38 (.loadN 4 (.t 4)), aO 39 (.loadN 11 (.t 5)), aO 40 (.iAddrA 3 1 (.t 11) (.v (.c (.i .i64 0)))), aO 41 (.load1 (.t 40)), aO 42 (.call 28 [(.t 38), (.t 39), (.t 41)]), aO 12 (.mv (.t 42))]
def fread_Read_c11 : ACode := .ops fread_Read_o7
def fread_Read_o8 : List AOper := [aO 43 (.mv (.t 12)), aO 44 (.bin .neq (.t 43) (.v (.c (.i .i64 0))))]
def fread_Read_c12 : ACode := .ops fread_Read_o8
def fread_Read_o9 : List AOper := [aO 45 (.mv (.t 9)), aO 46 (.loadN 4 (.t 4)), aO 47 (.mv (.t 12)), aO 48 (.call 38 [(.t 46), (.t 47)]), aO 49 (.iAddrA 3 1 (.t 11) (.v (.c (.i .i64 1)))), aO 50 (.load1 (.t 49)), aO 51 (.iAddrA 3 1 (.t 11) (.v (.c (.i .i64 2)))), aO 52 (.load1 (.t 51)), aO 53 (.call 57 [(.t 48), (.t 50), (.t 52)])]
def fread_Read_o10 : List AOper := [aO 54 (.app 1 (.t 45) (.t 53)), aO 9 (.mv (.t 54))]
def fread_Read_c13 : ACode := .draw 0 fread_Read_o9 fread_Read_o10
def fread_Read_o11 : List AOper := [aO 55 (.mv (.t 9)), aO 56 (.iAddrA 3 1 (.t 11) (.v (.c (.i .i64 2)))), aO 57 (.load1 (.t 56)), aO 58 (.appZ 1 ([.i .u8 0]) (.t 55) (.t 57)), aO 9 (.mv (.t 58))]
def fread_Read_c14 : ACode := .ops fread_Read_o11
def fread_Read_c15 : ACode := .cond (.t 44) fread_Read_c13 fread_Read_c14
def fread_Read_c16 : ACode := .seq [4, 5, 9, 11, 12, 32, 33, 34, 44] fread_Read_c12 fread_Read_c15
def fread_Read_c17 : ACode := .seq [4, 5, 9, 11, 12, 32, 33, 34] fread_Read_c11 fread_Read_c16
def fread_Read_c18 : ACode := .seq [4, 5, 9, 11, 32, 33, 34] fread_Read_c10 fread_Read_c17
def fread_Read_c19 : ACode := .block 1 fread_Read_c18
def fread_Read_o12 : List AOper := [aO 59 (.bin .add (.t 34) (.v (.c (.i .i64 1)))), aO 34 (.mv (.t 59))]
def fread_Read_c20 : ACode := .ops fread_Read_o12
def fread_Read_c21 : ACode := .seq [4, 5, 9, 32, 33, 34] fread_Read_c19 fread_Read_c20
def fread_Read_c22 : ACode := .seq [4, 5, 9, 32, 33, 34] fread_Read_c9 fread_Read_c21
def fread_Read_c23 : ACode := .seq [4, 5, 9, 32, 33, 34, 35] fread_Read_c8 fread_Read_c22
def fread_Read_c24 : ACode := .loop [4, 5, 9, 32, 33, 34] fread_Read_c23
def fread_Read_c25 : ACode := .block 0 fread_Read_c24
def fread_Read_c26 : ACode := .seq [4, 5, 9, 32, 33, 34] fread_Read_c7 fread_Read_c25
def fread_Read_o13 : List AOper := [aO 60 (.mv (.t 9)), aO 8 (.mv (.t 60))]
def fread_Read_c27 : ACode := .ops fread_Read_o13
def fread_Read_c28 : ACode := .seq [8] fread_Read_c27 .ret
def fread_Read_c29 : ACode := .seq [9] fread_Read_c26 fread_Read_c28
def fread_Read_c30 : ACode := .seq [2, 3, 4, 5, 9] fread_Read_c6 fread_Read_c29
def fread_Read_c31 : ACode := .seq [2, 3, 4, 5] fread_Read_c5 fread_Read_c30
def fread_Read_c32 : ACode := .seq [2, 3, 4, 5] fread_Read_c0 fread_Read_c31
def A_fread_Read : AFn := ⟨fread_Read_c32, [.tmp 8]⟩
def E_fread_Read : Sums := disp 19 S_fread_Size (disp 13 S_fread_Spans (disp 28 S_fmap_At (disp 38 S_view_View_Block__Of_1 (disp 57 S_num_Cut disp0))))
def fread_Read_c0_d (n : Nat) : SmV := smOps E_fread_Read fread_Read_o0
def fread_Read_c1_d (n : Nat) : SmV := smOps E_fread_Read fread_Read_o1
def fread_Read_c2_d (n : Nat) : SmV := smOps E_fread_Read fread_Read_o2
def fread_Read_c3_d (n : Nat) : SmV := smSeq [8] (fread_Read_c2_d n) smRet
def fread_Read_c4_d (n : Nat) : SmV := smCond (.t 24) (fread_Read_c3_d n) smSkip
def fread_Read_c5_d (n : Nat) : SmV := smSeq [2, 3, 4, 5, 24] (fread_Read_c1_d n) (fread_Read_c4_d n)
def fread_Read_c6_d (n : Nat) : SmV := smOps E_fread_Read fread_Read_o3
def fread_Read_c7_d (n : Nat) : SmV := smOps E_fread_Read fread_Read_o4
def fread_Read_c8_d (n : Nat) : SmV := smOps E_fread_Read fread_Read_o5
def fread_Read_c9_d (n : Nat) : SmV := smCond (.t 35) smSkip (smExit 0)
def fread_Read_c10_d (n : Nat) : SmV := smOps E_fread_Read fread_Read_o6
def fread_Read_c11_d (n : Nat) : SmV := smOps E_fread_Read fread_Read_o7
def fread_Read_c12_d (n : Nat) : SmV := smOps E_fread_Read fread_Read_o8
def fread_Read_c13_d (n : Nat) : SmV := smDraw E_fread_Read 0 fread_Read_o9 fread_Read_o10
def fread_Read_c14_d (n : Nat) : SmV := smOps E_fread_Read fread_Read_o11
def fread_Read_c15_d (n : Nat) : SmV := smCond (.t 44) (fread_Read_c13_d n) (fread_Read_c14_d n)
def fread_Read_c16_d (n : Nat) : SmV := smSeq [4, 5, 9, 11, 12, 32, 33, 34, 44] (fread_Read_c12_d n) (fread_Read_c15_d n)
def fread_Read_c17_d (n : Nat) : SmV := smSeq [4, 5, 9, 11, 12, 32, 33, 34] (fread_Read_c11_d n) (fread_Read_c16_d n)
def fread_Read_c18_d (n : Nat) : SmV := smSeq [4, 5, 9, 11, 32, 33, 34] (fread_Read_c10_d n) (fread_Read_c17_d n)
def fread_Read_c19_d (n : Nat) : SmV := smBlock 1 (fread_Read_c18_d n)
def fread_Read_c20_d (n : Nat) : SmV := smOps E_fread_Read fread_Read_o12
def fread_Read_c21_d (n : Nat) : SmV := smSeq [4, 5, 9, 32, 33, 34] (fread_Read_c19_d n) (fread_Read_c20_d n)
def fread_Read_c22_d (n : Nat) : SmV := smSeq [4, 5, 9, 32, 33, 34] (fread_Read_c9_d n) (fread_Read_c21_d n)
def fread_Read_c23_d (n : Nat) : SmV := smSeq [4, 5, 9, 32, 33, 34, 35] (fread_Read_c8_d n) (fread_Read_c22_d n)
def fread_Read_c24_d (n : Nat) : SmV := smLoop n [4, 5, 9, 32, 33, 34] (fread_Read_c23_d n)
def fread_Read_c25_d (n : Nat) : SmV := smBlock 0 (fread_Read_c24_d n)
def fread_Read_c26_d (n : Nat) : SmV := smSeq [4, 5, 9, 32, 33, 34] (fread_Read_c7_d n) (fread_Read_c25_d n)
def fread_Read_c27_d (n : Nat) : SmV := smOps E_fread_Read fread_Read_o13
def fread_Read_c28_d (n : Nat) : SmV := smSeq [8] (fread_Read_c27_d n) smRet
def fread_Read_c29_d (n : Nat) : SmV := smSeq [9] (fread_Read_c26_d n) (fread_Read_c28_d n)
def fread_Read_c30_d (n : Nat) : SmV := smSeq [2, 3, 4, 5, 9] (fread_Read_c6_d n) (fread_Read_c29_d n)
def fread_Read_c31_d (n : Nat) : SmV := smSeq [2, 3, 4, 5] (fread_Read_c5_d n) (fread_Read_c30_d n)
def fread_Read_c32_d (n : Nat) : SmV := smSeq [2, 3, 4, 5] (fread_Read_c0_d n) (fread_Read_c31_d n)
def fread_Read_k0 (n : Nat) : AExit → Env → Heap → OptV := fun x e h => match x with | .normal => hold ((fread_Read_c28_d n) A_fread_Read.fin (e.keep [9]) h) | .exit id => A_fread_Read.fin (.exit id) e h | .ret => A_fread_Read.fin .ret e h
def fread_Read_k1 (n : Nat) : AExit → Env → Heap → OptV := fun x e h => match x with | .exit i => bif Nat.beq i 0 then (fread_Read_k0 n) .normal e h else (fread_Read_k0 n) (.exit i) e h | .normal => (fread_Read_k0 n) .normal e h | .ret => (fread_Read_k0 n) .ret e h
def fread_Read_l0 (n m : Nat) (x4 x5 x9 x32 x33 x34 : Val) (h : Heap) : OptV := around (fread_Read_c23_d n) [4, 5, 9, 32, 33, 34] (fread_Read_k1 n) m [(4, x4), (5, x5), (9, x9), (32, x32), (33, x33), (34, x34)] h
def R_fread_Read (n : Nat) (args : List Val) (h : Heap) : OptV := (fread_Read_c32_d n) A_fread_Read.fin (params 0 args) h
def fread_Read_k2 (n m : Nat) : AExit → Env → Heap → OptV := fun x e h => match x with | .normal => around (fread_Read_c23_d n) [4, 5, 9, 32, 33, 34] (fread_Read_k1 n) m (e.keep [4, 5, 9, 32, 33, 34]) h | .exit id => (fread_Read_k1 n) (.exit id) e h | .ret => (fread_Read_k1 n) .ret e h
def fread_Read_j0 (n m : Nat) (x4 x5 x9 x32 x33 x34 : Val) (h : Heap) : OptV := hold ((fread_Read_c20_d n) (fread_Read_k2 n m) [(4, x4), (5, x5), (9, x9), (32, x32), (33, x33), (34, x34)] h)
theorem R_fread_Read_eq (n : Nat) (a0 a1 a2 a3 : Val) (h : Heap) : R_fread_Read n [a0, a1, a2, a3] h = bnd (cells? a0) fun c1 => bnd (cells? a1) fun c2 => bnd (abin .lss a2 (.c (.i .i64 0))) fun v3 => bnd (gd v3 false (some (a2, (((h ++ [some (Row.mk (c1) true)]) ++ [some (Row.mk (c2) true)]) ++ [some (Row.mk ([]) true)]))) (some (.no, (((h ++ [some (Row.mk (c1) true)]) ++ [some (Row.mk (c2) true)]) ++ [some (Row.mk ([]) true)])))) fun p4 => bnd (gd v3 false (bnd (aloadN p4.2 11 ((.c (.p ((h ++ [some (Row.mk (c1) true)])).length 0)))) fun v5 => some (v5, p4.2)) (some (.no, p4.2))) fun p6 => bnd (gd v3 false (bnd (S_fread_Size [p6.1] p6.2) fun p7 => some (p7.1, p7.2)) (some (.no, p6.2))) fun p8 => bnd (gd v3 false (bnd (abin .geq p4.1 p8.1) fun v9 => some (v9, p8.2)) (some (.no, p8.2))) fun p10 => bnd (apick v3 (.c (.b true)) p10.1) fun v11 => bnd (gd v11 false (some (a3, p10.2)) (some (.no, p10.2))) fun p12 => bnd (gd v11 false (bnd (abin .lss p12.1 (.c (.i .i64 1))) fun v13 => some (v13, p12.2)) (some (.no, p12.2))) fun p14 => bnd (apick v11 (.c (.b true)) p14.1) fun v15 => cnd v15 (some (((.c (.sl p14.2.length 0 0 1))), (p14.2 ++ [some (Row.mk ([]) true)]))) (bnd (aloadN ((p14.2 ++ [some (Row.mk ([]) true)])) 11 ((.c (.p ((h ++ [some (Row.mk (c1) true)])).length 0)))) fun v16 => bnd (S_fread_Size [v16] ((p14.2 ++ [some (Row.mk ([]) true)]))) fun p17 => bnd (abin .sub p17.1 a2) fun v18 => bnd (amin a3 v18) fun v19 => bnd (S_fread_Spans [a2, v19] p17.2) fun p20 => bnd (alen p20.1) fun v21 => fread_Read_l0 n n ((.c (.p h.length 0))) ((.c (.p ((h ++ [some (Row.mk (c1) true)])).length 0))) ((.c (.sl p14.2.length 0 0 1))) p20.1 v21 (.c (.i .i64 0)) p20.2) := by kernel_rfl
theorem fread_Read_l0_eq (n m : Nat) (x4 x5 x9 x32 x33 x34 : Val) (h : Heap) : fread_Read_l0 n (m + 1) x4 x5 x9 x32 x33 x34 h = bnd (abin .lss x34 x33) fun v22 => cnd v22 (bnd (aiAddrL 3 x32 x34) fun v23 => bnd (aloadN h 3 v23) fun v24 => bnd (astoreN ((h ++ [some (Row.mk ([.i .i64 0, .i .i64 0, .i .i64 0]) true)])) 3 ((.c (.p h.length 0))) v24) fun h25 => bnd (aloadN h25 4 x4) fun v26 => bnd (aloadN h25 11 x5) fun v27 => bnd (aiAddrA 3 1 ((.c (.p h.length 0))) (.c (.i .i64 0))) fun v28 => bnd (aload1 h25 v28) fun v29 => bnd (S_fmap_At [v26, v27, v29] h25) fun p30 => bnd (abin .neq p30.1 (.c (.i .i64 0))) fun v31 => cnd v31 (bnd (aloadN p30.2 4 x4) fun v32 => bnd (quiet ((p30.2 ++ [])) (S_view_View_Block__Of_1 [v32, p30.1] ((p30.2 ++ [])))) fun p33 => bnd (aiAddrA 3 1 ((.c (.p h.length 0))) (.c (.i .i64 1))) fun v34 => bnd (aload1 p30.2 v34) fun v35 => bnd (aiAddrA 3 1 ((.c (.p h.length 0))) (.c (.i .i64 2))) fun v36 => bnd (aload1 p30.2 v36) fun v37 => bnd (quiet p33.2 (S_num_Cut [p33.1, v35, v37] p33.2)) fun p38 => bnd (aapp p38.2 1 x9 p38.1) fun p39 => fread_Read_j0 n m x4 x5 p39.1 x32 x33 x34 p39.2) (bnd (aiAddrA 3 1 ((.c (.p h.length 0))) (.c (.i .i64 2))) fun v40 => bnd (aload1 p30.2 v40) fun v41 => bnd (aappZ p30.2 1 ([.i .u8 0]) x9 v41) fun p42 => fread_Read_j0 n m x4 x5 p42.1 x32 x33 x34 p42.2)) (some (x9, h)) := by kernel_rfl
theorem fread_Read_j0_eq (n m : Nat) (x4 x5 x9 x32 x33 x34 : Val) (h : Heap) : fread_Read_j0 n m x4 x5 x9 x32 x33 x34 h = bnd (abin .add x34 (.c (.i .i64 1))) fun v43 => fread_Read_l0 n m x4 x5 x9 x32 x33 v43 h := by kernel_rfl
theorem K_fread_Read : FnK Try.prog 20 A_fread_Read E_fread_Read R_fread_Read := .mk' (sound1 S_fread_Size_ok (sound1 S_fread_Spans_ok (sound1 S_fmap_At_ok (sound1 S_view_View_Block__Of_1_ok (sound1 S_num_Cut_ok sound0))))) Try.func20 (by kernel_rfl) (by intro n args h; kernel_rfl)
def S_fread_Read : Fun := tidy (Lim A_fread_Read E_fread_Read)
theorem S_fread_Read_ok : SOk Try.prog 20 S_fread_Read := K_fread_Read.sok
theorem S_fread_Read_out {n : Nat} {args : List Val} {h h2 : Heap} {v : Val} {sz k : Nat} {cs : List Cell} (he : R_fread_Read n args (ro h) = some (v, h2)) (ho : Out h.length h2 v sz k cs) (hf : flats cs = true) : S_fread_Read args h = some (.c (.sl h.length 0 k sz), h ++ [some ⟨cs, true⟩]) := K_fread_Read.out he ho hf
def fread_All_o0 : List AOper := [aO 2 (.box (.t 0)), aO 3 (.box (.t 1)), aO 4 (.nilrow 1)]
def fread_All_c0 : ACode := .ops fread_All_o0
def fread_All_o1 : List AOper := [aO 5 (.loadN 4 (.t 2)), aO 6 (.loadN 11 (.t 3)), aO 7 (.call 20 [(.t 5), (.t 6), (.v (.c (.i .i64 0))), (.v (.c (.i .i64 34304)))]), aO 4 (.mv (.t 7))]
def fread_All_c1 : ACode := .ops fread_All_o1
def fread_All_c2 : ACode := .seq [4] fread_All_c1 .ret
def fread_All_c3 : ACode := .seq [2, 3] fread_All_c0 fread_All_c2
def A_fread_All : AFn := ⟨fread_All_c3, [.tmp 4]⟩
def E_fread_All : Sums := disp 20 S_fread_Read disp0
def fread_All_c0_d (n : Nat) : SmV := smOps E_fread_All fread_All_o0
def fread_All_c1_d (n : Nat) : SmV := smOps E_fread_All fread_All_o1
def fread_All_c2_d (n : Nat) : SmV := smSeq [4] (fread_All_c1_d n) smRet
def fread_All_c3_d (n : Nat) : SmV := smSeq [2, 3] (fread_All_c0_d n) (fread_All_c2_d n)
def R_fread_All (n : Nat) (args : List Val) (h : Heap) : OptV := (fread_All_c3_d n) A_fread_All.fin (params 0 args) h
theorem R_fread_All_eq (n : Nat) (a0 a1 : Val) (h : Heap) : R_fread_All n [a0, a1] h = bnd (cells? a0) fun c1 => bnd (cells? a1) fun c2 => bnd (aloadN ((((h ++ [some (Row.mk (c1) true)]) ++ [some (Row.mk (c2) true)]) ++ [some (Row.mk ([]) true)])) 4 ((.c (.p h.length 0)))) fun v3 => bnd (aloadN ((((h ++ [some (Row.mk (c1) true)]) ++ [some (Row.mk (c2) true)]) ++ [some (Row.mk ([]) true)])) 11 ((.c (.p ((h ++ [some (Row.mk (c1) true)])).length 0)))) fun v4 => bnd (S_fread_Read [v3, v4, .c (.i .i64 0), .c (.i .i64 34304)] ((((h ++ [some (Row.mk (c1) true)]) ++ [some (Row.mk (c2) true)]) ++ [some (Row.mk ([]) true)]))) fun p5 => some (p5.1, p5.2) := by kernel_rfl
theorem K_fread_All : FnK Try.prog 18 A_fread_All E_fread_All R_fread_All := .mk' (sound1 S_fread_Read_ok sound0) Try.func18 (by kernel_rfl) (by intro n args h; kernel_rfl)
def S_fread_All : Fun := tidy (Lim A_fread_All E_fread_All)
theorem S_fread_All_ok : SOk Try.prog 18 S_fread_All := K_fread_All.sok
theorem S_fread_All_out {n : Nat} {args : List Val} {h h2 : Heap} {v : Val} {sz k : Nat} {cs : List Cell} (he : R_fread_All n args (ro h) = some (v, h2)) (ho : Out h.length h2 v sz k cs) (hf : flats cs = true) : S_fread_All args h = some (.c (.sl h.length 0 k sz), h ++ [some ⟨cs, true⟩]) := K_fread_All.out he ho hf
end Go.Proofs.Ytdgggnlbdoiloaa
end
section
namespace Go.Proofs.Ytdgggnlbdoiloaa
open Go Go.Esc

theorem amax_i {k : IntKind} {a b : Int} : amax (.c (.i k a)) (.c (.i k b)) = some (.c (.i k (if a < b then b else a))) := rfl
theorem amin_i {k : IntKind} {a b : Int} : amin (.c (.i k a)) (.c (.i k b)) = some (.c (.i k (if b < a then b else a))) := rfl

def offI (off : Int) : Int := if 0 < off then off else 0
def manyS (off n : Int) : Nat := if offI off < 34304 then (if 34304 - offI off < (if 0 < n then n else 0) then 34304 - offI off else (if 0 < n then n else 0)).toNat else 0
def spansI (off n : Int) : List Spn := spn (manyS off n) (offI off).toNat (manyS off n)

theorem fspans_loop {g : Heap} {q : Nat} : ∀ (e off n m id : Nat) (h : Heap) (l : List Spn), n ≤ e → e < m → off + n ≤ 34304 → l.length + n ≤ 40000 → Low g.length g h → g.length ≤ id → rd h id = some ⟨spC l, true⟩ →
    ∃ v' h', fread_Spans_l0 q m (.c (.i .i64 (off : Int))) (.c (.i .i64 (n : Int))) (.c (.sl id 0 l.length 3)) h = some (v', h') ∧ Out g.length h' v' 3 (l ++ spn e off n).length (spC (l ++ spn e off n))
  | e, off, n, 0, id, h, l, _, hm, _, _, _, _, _ => by omega
  | 0, off, n, m + 1, id, h, l, hn, hm, ho, hl, hlow, hb, hr => by
    have e0 : n = 0 := by omega
    subst e0
    have c0 : ¬ (0 : Int) < ((0 : Nat) : Int) := by omega
    rw [fread_Spans_l0_eq, spn_zero, List.append_nil]
    exact ⟨_, _, by simp only [esc, c0] <;> rfl, spC_length, id, rfl, hb, hr⟩
  | e + 1, off, n, m + 1, id, h, l, hn, hm, ho, hl, hlow, hb, hr => by
    by_cases h0 : n = 0
    · subst h0
      have c0 : ¬ (0 : Int) < ((0 : Nat) : Int) := by omega
      rw [fread_Spans_l0_eq, spn_zero, List.append_nil]
      exact ⟨_, _, by simp only [esc, c0] <;> rfl, spC_length, id, rfl, hb, hr⟩
    · have c0 : (0 : Int) < (n : Int) := by omega
      rw [spn_step (by omega)]
      generalize hK : min n (256 - off % 256) = K
      have r1 : abin .rem (.c (.i .i64 (off : Int))) (.c (.i .i64 256)) = some (.c (.i .i64 ((off % 256 : Nat) : Int))) := by
        rw [rem_i (by omega) (by omega)]; congr 3
      have w1 : IntKind.wrap .i64 (256 - ((off % 256 : Nat) : Int)) = ((256 - off % 256 : Nat) : Int) := by rw [wrap_i64 (by omega) (by omega)]; omega
      have m1 : amin (.c (.i .i64 (n : Int))) (.c (.i .i64 ((256 - off % 256 : Nat) : Int))) = some (.c (.i .i64 (K : Int))) := by
        rw [amin_i]
        congr 3
        split <;> omega
      have q1 : abin .quo (.c (.i .i64 (off : Int))) (.c (.i .i64 256)) = some (.c (.i .i64 ((off / 256 : Nat) : Int))) := by
        rw [quo_i64 (by omega) (by omega) (by omega)]; congr 3
      have ef1 : afill [Cell.i .i64 0, .i .i64 0, .i .i64 0] [(0, 1, .c (.i .i64 ((off / 256 : Nat) : Int))), (1, 1, .c (.i .i64 ((off % 256 : Nat) : Int))), (2, 1, .c (.i .i64 (K : Int)))] = some (spC [(off / 256, off % 256, K)]) := rfl
      have ef2 : afill [Cell.i .i64 0, .i .i64 0, .i .i64 0] [(0, 3, .a (spC [(off / 256, off % 256, K)]))] = some (spC [(off / 256, off % 256, K)]) := rfl
      obtain ⟨h', a1, a2, a3, a4, a5⟩ := push (ys := spC [(off / 256, off % 256, K)]) hlow hr spC_length hb rfl (by omega) (by omega)
      rw [← spC_append] at a2 a5
      have w2 : IntKind.wrap .i64 ((off : Int) + (K : Int)) = ((off + K : Nat) : Int) := wi_add (by omega)
      have w3 : IntKind.wrap .i64 ((n : Int) - (K : Int)) = ((n - K : Nat) : Int) := by rw [wrap_i64 (by omega) (by omega)]; omega
      have el : (l ++ [(off / 256, off % 256, K)]).length = l.length + 1 := by simp
      obtain ⟨v', h'', f1, f2⟩ := fspans_loop (q := q) e (off + K) (n - K) m (h.length + 1) h' (l ++ [(off / 256, off % 256, K)]) (by omega) (by omega) (by omega) (by simp; omega) a3 a4 a2
      rw [List.append_assoc, List.singleton_append] at f2
      rw [el] at f1
      refine ⟨v', h'', ?_, f2⟩
      rw [fread_Spans_l0_eq]
      simp only [esc, c0, r1, w1, m1, q1, ef1, ef2, a1, w2, w3]
      exact f1

theorem fread_Spans_eq {off n : Int} {h : Heap} (h1 : off < 9223372036854775808) : S_fread_Spans [.c (.i .i64 off), .c (.i .i64 n)] h = some (.c (.sl h.length 0 (spansI off n).length 3), h ++ [some ⟨spC (spansI off n), true⟩]) := by
  have key : ∀ g, ∃ v g', R_fread_Spans (manyS off n + 1) [.c (.i .i64 off), .c (.i .i64 n)] g = some (v, g') ∧ Out g.length g' v 3 (spansI off n).length (spC (spansI off n)) := by
    intro g
    have x1 := amax_i (k := .i64) (a := 0) (b := off)
    have x2 := amax_i (k := .i64) (a := 0) (b := n)
    rw [R_fread_Spans_eq]
    unfold spansI
    have ho : (if 0 < off then off else 0) = offI off := rfl
    rw [ho] at x1
    have hN : manyS off n = if offI off < 34304 then (if 34304 - offI off < (if 0 < n then n else 0) then 34304 - offI off else (if 0 < n then n else 0)).toNat else 0 := rfl
    have p1 : 0 ≤ offI off := by unfold offI; split <;> omega
    have p2 : 0 ≤ (if 0 < n then n else 0) := by split <;> omega
    generalize (if 0 < n then n else 0) = n1 at *
    generalize offI off = o1 at *
    by_cases c1 : 34304 ≤ o1
    · rw [if_neg (by omega)] at hN
      rw [hN, spn_zero]
      exact ⟨_, _, by simp only [esc, x1, c1] <;> rfl, rfl, g.length + 1, by simp, by omega, by simp [spC]⟩
    · rw [if_pos (by omega)] at hN
      have w1 : IntKind.wrap .i64 (34304 - o1) = 34304 - o1 := wrap_i64 (by omega) (by omega)
      have x3 := amin_i (k := .i64) (a := n1) (b := 34304 - o1)
      have e1 : (if 34304 - o1 < n1 then 34304 - o1 else n1) = ((manyS off n : Nat) : Int) := by rw [hN]; split <;> omega
      rw [e1] at x3
      generalize manyS off n = N at *
      obtain ⟨o2, rfl⟩ : ∃ o2 : Nat, o1 = o2 := ⟨o1.toNat, by omega⟩
      obtain ⟨v', h', f1, f2⟩ := fspans_loop (g := g) (q := N + 1) N o2 N (N + 1) (g.length + 1) (g ++ [some (Row.mk [] true), some (Row.mk [] true)]) [] (by omega) (by omega) (by split at e1 <;> omega) (by simp; split at e1 <;> omega) ((Low.refl (Nat.le_refl _)).new _) (by omega) (by simp [spC])
      rw [List.nil_append] at f2
      rw [List.length_nil] at f1
      refine ⟨v', h', ?_, f2⟩
      simp only [esc, x1, x2, c1, w1, x3]
      exact f1
  obtain ⟨v, g', e, ho⟩ := key (ro h)
  exact S_fread_Spans_out e (by simpa [ro_length] using ho) spC_flat

end Go.Proofs.Ytdgggnlbdoiloaa
end
section
namespace Go.Proofs.Ytdgggnlbdoiloaa
open Go Go.Esc

def sizeF (k s : Int) : Int := if k = 1 then (if 0 < (if 34304 < s then 34304 else s) then (if 34304 < s then 34304 else s) else 0) else 0
theorem sizeF_range {k s : Int} : 0 ≤ sizeF k s ∧ sizeF k s ≤ 34304 := by
  unfold sizeF
  split
  · split <;> split <;> omega
  · omega
theorem sizeF_kind {k s : Int} (h : 0 < sizeF k s) : k = 1 := by
  unfold sizeF at h
  split at h
  · assumption
  · omega

theorem fread_Size_eq {k l s p : Int} {d : List Int} {h : Heap} : S_fread_Size [.a (inoC k l s p d)] h = some (.c (.i .i64 (sizeF k s)), h) := by
  have key : ∀ g, ∃ g', R_fread_Size 0 [.a (inoC k l s p d)] g = some (.c (.i .i64 (sizeF k s)), g') := by
    intro g
    have i0 : (inoC k l s p d)[0]? = some (.i .i64 k) := rfl
    have i2 : (inoC k l s p d)[2]? = some (.i .i64 s) := rfl
    have x1 := amin_i (k := .i64) (a := s) (b := 34304)
    rw [R_fread_Size_eq]
    generalize inoC k l s p d = I at *
    unfold sizeF
    by_cases c1 : k = 1
    · rw [if_pos c1]
      generalize (if 34304 < s then 34304 else s) = y at *
      have x2 := amax_i (k := .i64) (a := 0) (b := y)
      exact ⟨_, by simp only [esc, esh, Nat.reduceAdd, Nat.reduceMul, Nat.reduceLT, eq_self, i0, i2, c1, x1, x2] <;> rfl⟩
    · rw [if_neg c1]
      exact ⟨_, by simp only [esc, esh, Nat.reduceAdd, Nat.reduceMul, Nat.reduceLT, eq_self, i0, i2, c1] <;> rfl⟩
  obtain ⟨g', e⟩ := key (ro h)
  exact S_fread_Size_flat e rfl

def byteF (D : Dev) (n : Int) (d : List Int) (p : Nat) : UInt8 := if datF1 D n d (p / 256) = 0 then 0 else (blk D (datF1 D n d (p / 256))).getD (p % 256) 0
def pieceF (D : Dev) (n : Int) (d : List Int) (s : Spn) : List UInt8 := (List.range' (s.1 * 256 + s.2.1) s.2.2).map (byteF D n d)
theorem pieceF_none {D : Dev} {n : Int} {d : List Int} {a b c : Nat} (hc : b + c ≤ 256) (h0 : datF1 D n d a = 0) : pieceF D n d (a, b, c) = zeros c := by
  unfold pieceF zeros
  refine List.ext_getElem (by simp) fun i h1 h2 => ?_
  simp only [List.length_replicate] at h2
  rw [List.getElem_map, List.getElem_range', List.getElem_replicate]
  unfold byteF
  have e : (a * 256 + b + 1 * i) / 256 = a := by omega
  rw [e, if_pos h0]
theorem pieceF_some {D : Dev} {n : Int} {d : List Int} {a b c : Nat} (hD : okD D) (hc : b + c ≤ 256) (h0 : datF1 D n d a ≠ 0) : pieceF D n d (a, b, c) = ((blk D (datF1 D n d a)).drop b).take c := by
  have hl := blk_length hD (i := datF1 D n d a)
  unfold pieceF
  refine List.ext_getElem (by simp [hl]; omega) fun i h1 h2 => ?_
  have hi : i < c := by simpa using h1
  rw [List.getElem_map, List.getElem_range', List.getElem_take, List.getElem_drop]
  unfold byteF
  have e : (a * 256 + b + 1 * i) / 256 = a := by omega
  have e2 : (a * 256 + b + 1 * i) % 256 = b + i := by omega
  rw [e, e2, if_neg h0, List.getD_eq_getElem?_getD, List.getElem?_eq_getElem (by omega)]
  rfl

theorem pushK {h : Heap} {id n m sz : Nat} {cs ys : List Cell} (hr : rd h id = some ⟨cs, true⟩) (hl : cs.length = n * sz) (hy : ys.length = m * sz) (hsz : 0 < sz) (hn : n + m ≤ 1073741824) :
    ∃ h', aapp (h ++ [some ⟨ys, true⟩]) sz (.c (.sl id 0 n sz)) (.c (.sl h.length 0 m sz)) = some (.c (.sl (h.length + 1) 0 (n + m) sz), h') ∧ rd h' (h.length + 1) = some ⟨cs ++ ys, true⟩ ∧ (∀ i r, i ≠ id → rd h i = some r → rd h' i = some r) ∧ (∀ b, b ≤ id → b ≤ h.length → Low b h h') := by
  have hlt := rd_lt hr
  refine ⟨(h ++ [some (Row.mk ys true)]).set id none ++ [some (Row.mk (cs ++ ys) true)], ?_, ?_, fun i r hi hir => ?_, fun b hb hb2 => (((Low.refl hb2).new _).set hb none).new _⟩
  · rw [app_of (h := h ++ [some ⟨ys, true⟩]) (rd_append hr) hl rd_new hy rfl hsz hn]
    simp
  · have := rd_new (h := (h ++ [some (Row.mk ys true)]).set id none) (r := Row.mk (cs ++ ys) true)
    rw [List.length_set] at this
    simpa using this
  · refine rd_append ?_
    rw [rd_set_other (Ne.symm hi)]
    exact rd_append hir

theorem pushZK {h : Heap} {id n m : Nat} {cs : List Cell} (hr : rd h id = some ⟨cs, true⟩) (hl : cs.length = n) (hn : n + m ≤ 1073741824) :
    ∃ h', aappZ h 1 [.i .u8 0] (.c (.sl id 0 n 1)) (.c (.i .i64 (m : Int))) = some (.c (.sl h.length 0 (n + m) 1), h') ∧ rd h' h.length = some ⟨cs ++ encB (zeros m), true⟩ ∧ (∀ i r, i ≠ id → rd h i = some r → rd h' i = some r) ∧ (∀ b, b ≤ id → b ≤ h.length → Low b h h') := by
  have hm : nat? (.c (.i .i64 (m : Int))) = some m := by simp only [nat?]; rw [if_pos (by omega)]; simp
  refine ⟨h.set id none ++ [some (Row.mk (cs ++ encB (zeros m)) true)], ?_, ?_, fun i r hi hir => ?_, fun b hb hb2 => ((Low.refl hb2).set hb none).new _⟩
  · simp only [aappZ, hm, Option.bind_some, hr, rows_zero]
    rw [if_pos ⟨trivial, trivial, by omega, trivial, hn⟩]
  · have := rd_new (h := h.set id none) (r := Row.mk (cs ++ encB (zeros m)) true)
    rw [List.length_set] at this
    exact this
  · refine rd_append ?_
    rw [rd_set_other (Ne.symm hi)]
    exact hir

theorem low_of {g h h' : Heap} (h1 : Low g.length g h) (h2 : Low g.length h h') : Low g.length g h' := h1.trans h2

theorem read_loop {D : Dev} {n m k l s p : Int} {d : List Int} {f : Cell} {g : Heap} {pv q sid : Nat} {L : List Spn} (hD : okD D) (hd : d.length = 7) (hv : IsView g f D) (hk : k = 1)
    (h1 : rd g pv = some ⟨vwC D.length n m f, true⟩) (h2 : rd g (pv + 1) = some ⟨inoC k l s p d, true⟩) (hL : ∀ s ∈ L, s.2.1 < 256 ∧ s.2.1 + s.2.2 ≤ 256 ∧ s.1 < 134) (hLl : L.length ≤ 40000) :
    ∀ (e i M id : Nat) (h : Heap) (bs : List UInt8), i + e = L.length → e < M → bs.length ≤ i * 256 → Low g.length g h → g.length ≤ id → id ≠ sid → rd h sid = some ⟨spC L, true⟩ → rd h id = some ⟨encB bs, true⟩ →
    ∃ v' h', fread_Read_l0 q M (.c (.p pv 0)) (.c (.p (pv + 1) 0)) (.c (.sl id 0 bs.length 1)) (.c (.sl sid 0 L.length 3)) (.c (.i .i64 (L.length : Int))) (.c (.i .i64 (i : Int))) h = some (v', h') ∧
      Out g.length h' v' 1 (bs ++ ((L.drop i).map (pieceF D n d)).flatten).length (encB (bs ++ ((L.drop i).map (pieceF D n d)).flatten))
  | e, i, 0, id, h, bs, _, hM, _, _, _, _, _, _ => by omega
  | 0, i, M + 1, id, h, bs, hi, hM, hb, hlow, hid, hne, hs, hr => by
    have e0 : i = L.length := by omega
    subst e0
    have c0 : ¬ ((L.length : Nat) : Int) < (L.length : Nat) := by omega
    have e1 : (L.drop L.length) = [] := List.drop_of_length_le (Nat.le_refl _)
    rw [fread_Read_l0_eq, e1, List.map_nil, List.flatten_nil, List.append_nil]
    exact ⟨_, _, by simp only [esc, c0] <;> rfl, by rw [encB_length, Nat.mul_one], id, rfl, hid, hr⟩
  | e + 1, i, M + 1, id, h, bs, hi, hM, hb, hlow, hid, hne, hs, hr => by
    have hil : i < L.length := by omega
    have c0 : (i : Int) < (L.length : Nat) := by omega
    obtain ⟨a, b, c⟩ : ∃ x, x = L[i] := ⟨_, rfl⟩
    obtain ⟨sp, hsp⟩ : ∃ x, x = L[i] := ⟨_, rfl⟩
    obtain ⟨a, b, c⟩ := sp
    have hm := hL L[i] (List.getElem_mem hil)
    rw [← hsp] at hm
    dsimp only at hm
    have g1 := hlow.rd h1
    have hgl := hlow.2.1
    have g2 := hlow.rd h2
    have hvh := hv.since hlow
    have ad : aiAddrL 3 (.c (.sl sid 0 L.length 3)) (.c (.i .i64 (i : Int))) = some (.c (.p sid (i * 3))) := by rw [iAddrL_of hil, Nat.zero_add]
    have t1 : aloadN h 3 (.c (.p sid (i * 3))) = some (.a [Cell.i .i64 (a : Int), .i .i64 (b : Int), .i .i64 (c : Int)]) := by
      rw [loadN_of hs (by rw [spC_length]; omega) (by simp), spC_at L i (a, b, c) (by rw [List.getElem?_eq_getElem hil, hsp])]
    obtain ⟨H, hH⟩ : ∃ H, H = h ++ [some (Row.mk [Cell.i .i64 (a : Int), .i .i64 (b : Int), .i .i64 (c : Int)] true)] := ⟨_, rfl⟩
    have lH : H.length = h.length + 1 := by rw [hH]; simp
    have k1 : rd H pv = some ⟨vwC D.length n m f, true⟩ := by rw [hH]; exact rd_append g1
    have k2 : rd H (pv + 1) = some ⟨inoC k l s p d, true⟩ := by rw [hH]; exact rd_append g2
    have k3 : rd H h.length = some ⟨[Cell.i .i64 (a : Int), .i .i64 (b : Int), .i .i64 (c : Int)], true⟩ := by rw [hH]; exact rd_new
    have lowH : Low g.length g H := by rw [hH]; exact hlow.new _
    have hs2 : rd H sid = some ⟨spC L, true⟩ := by rw [hH]; exact rd_append hs
    have hr2 : rd H id = some ⟨encB bs, true⟩ := by rw [hH]; exact rd_append hr
    have hvH := hv.since lowH
    have st : astoreN (h ++ [some (Row.mk [.i .i64 0, .i .i64 0, .i .i64 0] true)]) 3 (.c (.p h.length 0)) (.a [Cell.i .i64 (a : Int), .i .i64 (b : Int), .i .i64 (c : Int)]) = some H := by
      rw [hH, astoreN_at0]
      rfl
    have q1 := loadAll (h := H) (id := pv) k1 (n := 4) rfl
    have q2 := loadAll (h := H) (id := pv + 1) k2 (n := 11) (by show (inoC k l s p d).length = 11; simp [inoC, encI_length, hd])
    have q3 : aload1 H (.c (.p h.length 0)) = some (.c (.i .i64 (a : Int))) := load1_of k3 rfl rfl
    have q4 : aload1 H (.c (.p h.length 1)) = some (.c (.i .i64 (b : Int))) := load1_of k3 rfl rfl
    have q5 : aload1 H (.c (.p h.length 2)) = some (.c (.i .i64 (c : Int))) := load1_of k3 rfl rfl
    have ad0 : aiAddrA 3 1 (.c (.p h.length 0)) (.c (.i .i64 0)) = some (.c (.p h.length 0)) := rfl
    have ad1 : aiAddrA 3 1 (.c (.p h.length 0)) (.c (.i .i64 1)) = some (.c (.p h.length 1)) := rfl
    have ad2 : aiAddrA 3 1 (.c (.p h.length 0)) (.c (.i .i64 2)) = some (.c (.p h.length 2)) := rfl
    have hA := fmap_At_eq (n := n) (m := m) (k := k) (l := l) (s := s) (p := p) (j := (a : Int)) hD hd hvH
    have hat : atF D n k d (a : Int) = datF1 D n d a := by unfold atF; rw [if_pos (by omega), Int.toNat_natCast]
    rw [hat] at hA
    have hdrop : L.drop i = (a, b, c) :: L.drop (i + 1) := by rw [List.drop_eq_getElem_cons hil, ← hsp]
    have w1 := wi_succ (show i + 1 < 9223372036854775808 by omega)
    rw [hdrop, List.map_cons, List.flatten_cons, fread_Read_l0_eq]
    obtain ⟨V, hV0⟩ : ∃ V, vwC D.length n m f = V := ⟨_, rfl⟩
    rw [hV0] at q1 hA
    obtain ⟨I, hI0⟩ : ∃ I, inoC k l s p d = I := ⟨_, rfl⟩
    rw [hI0] at q2 hA
    by_cases cz : datF1 D n d a = 0
    · rw [pieceF_none (by omega) cz]
      rw [cz] at hA
      obtain ⟨h', a1, a2, a3, a4⟩ := pushZK (m := c) hr2 (by rw [encB_length]) (by omega)
      rw [← encB_append] at a2
      have el : (bs ++ zeros c).length = bs.length + c := by simp
      obtain ⟨v', h'', f1, f2⟩ := read_loop hD hd hv hk h1 h2 hL hLl e (i + 1) M H.length h' (bs ++ zeros c) (by omega) (by omega) (by rw [el]; omega) (low_of lowH (a4 _ hid (by omega))) (by omega) (by have := rd_lt hs; omega) (a3 _ _ (Ne.symm hne) hs2) a2
      rw [List.append_assoc] at f2
      rw [el] at f1
      refine ⟨v', h'', ?_, f2⟩
      simp only [esc, c0, ad, t1, st, q1, q2, q5, ad0, q3, ad2, hA, eq_self, a1, fread_Read_j0_eq, w1]
      exact f1
    · rw [pieceF_some hD (by omega) cz]
      have hB := view_Block_eq (n := n) (m := m) (no := datF1 D n d a) hD hvH
      rw [hV0] at hB
      have hC := num_Cut_eq (h := H) (blk_length hD (i := datF1 D n d a)) (a := (b : Int)) (n := (c : Int))
      have ecut : cutB (blk D (datF1 D n d a)) (b : Int) (c : Int) = ((blk D (datF1 D n d a)).drop b).take c := by
        unfold cutB
        rw [if_pos (by omega), Int.toNat_natCast, Int.toNat_natCast]
      rw [ecut] at hC
      have hcl : (((blk D (datF1 D n d a)).drop b).take c).length = c := by
        rw [List.length_take, List.length_drop, blk_length hD]; omega
      generalize ((blk D (datF1 D n d a)).drop b).take c = cc at *
      rw [hcl] at hC
      have hQ := quiet_grows (h := H) (v := .c (.sl H.length 0 c 1)) (Grows.rfl'.new (encB cc))
      obtain ⟨h', a1, a2, a3, a4⟩ := pushK (n := bs.length) (m := c) (sz := 1) (ys := encB cc) hr2 (by rw [encB_length]; omega) (by rw [encB_length]; omega) (by omega) (by omega)
      rw [← encB_append] at a2
      have el : (bs ++ cc).length = bs.length + c := by simp [hcl]
      obtain ⟨v', h'', f1, f2⟩ := read_loop hD hd hv hk h1 h2 hL hLl e (i + 1) M (H.length + 1) h' (bs ++ cc) (by omega) (by omega) (by rw [el]; omega) (low_of lowH (a4 _ hid (by omega))) (by omega) (by have := rd_lt hs; omega) (a3 _ _ (Ne.symm hne) hs2) a2
      rw [List.append_assoc] at f2
      rw [el] at f1
      refine ⟨v', h'', ?_, f2⟩
      simp only [esc, c0, cz, ad, t1, st, q1, q2, q4, q5, ad0, ad1, q3, ad2, hA, hB, hC, hQ, eq_self, a1, fread_Read_j0_eq, w1]
      exact f1

def manyR (k s off cnt : Int) : Nat := if 0 ≤ off ∧ off < sizeF k s ∧ 1 ≤ cnt then (min cnt (sizeF k s - off)).toNat else 0
def readF (D : Dev) (n k s : Int) (d : List Int) (off cnt : Int) : List UInt8 := (List.range' off.toNat (manyR k s off cnt)).map (byteF D n d)
theorem fread_Read_eq {D : Dev} {n m k l s p off cnt : Int} {d : List Int} {f : Cell} {h : Heap} (hD : okD D) (hd : d.length = 7) (hv : IsView h f D) :
    S_fread_Read [.a (vwC D.length n m f), .a (inoC k l s p d), .c (.i .i64 off), .c (.i .i64 cnt)] h = some (.c (.sl h.length 0 (readF D n k s d off cnt).length 1), h ++ [some ⟨encB (readF D n k s d off cnt), true⟩]) := by
  have key : ∀ g, IsView g f D → ∃ v g', R_fread_Read 40001 [.a (vwC D.length n m f), .a (inoC k l s p d), .c (.i .i64 off), .c (.i .i64 cnt)] g = some (v, g') ∧ Out g.length g' v 1 (readF D n k s d off cnt).length (encB (readF D n k s d off cnt)) := by
    intro g hv
    have hIl : (inoC k l s p d).length = 11 := by simp [inoC, encI_length, hd]
    have hS := fun h => fread_Size_eq (k := k) (l := l) (s := s) (p := p) (d := d) (h := h)
    have hsz := sizeF_range (k := k) (s := s)
    rw [R_fread_Read_eq]
    by_cases c : 0 ≤ off ∧ off < sizeF k s ∧ 1 ≤ cnt
    · have hk : k = 1 := sizeF_kind (s := s) (by omega)
      have c1 : ¬ off < 0 := by omega
      have c2 : ¬ sizeF k s ≤ off := by omega
      have c3 : ¬ cnt < 1 := by omega
      have w1 : IntKind.wrap .i64 (sizeF k s - off) = sizeF k s - off := wrap_i64 (by omega) (by omega)
      have m1 := amin_i (k := .i64) (a := cnt) (b := sizeF k s - off)
      have hN : (if sizeF k s - off < cnt then sizeF k s - off else cnt) = ((manyR k s off cnt : Nat) : Int) := by
        unfold manyR
        rw [if_pos c]
        split <;> omega
      rw [hN] at m1
      have hNo : off.toNat + manyR k s off cnt ≤ 34304 := by
        have : (manyR k s off cnt : Int) ≤ sizeF k s - off := by rw [← hN]; split <;> omega
        omega
      have e1 : spansI off (manyR k s off cnt : Int) = spn (manyR k s off cnt) off.toNat (manyR k s off cnt) := by
        have eo : offI off = off := by unfold offI; split <;> omega
        have em : manyS off (manyR k s off cnt : Int) = manyR k s off cnt := by
          unfold manyS
          rw [eo, if_pos (by omega)]
          generalize manyR k s off cnt = N at *
          have e2 : (if (0 : Int) < (N : Int) then (N : Int) else 0) = N := by split <;> omega
          rw [e2, if_neg (by omega), Int.toNat_natCast]
        unfold spansI
        rw [em, eo]
      have eb := spn_bytes (byteF D n d) (manyR k s off cnt) off.toNat (manyR k s off cnt) (Nat.le_refl _)
      have hmem := spn_mem (manyR k s off cnt) off.toNat (manyR k s off cnt)
      have hlen := spn_length (manyR k s off cnt) off.toNat (manyR k s off cnt)
      have hSp := fun h => fread_Spans_eq (off := off) (n := (manyR k s off cnt : Int)) (h := h) (by omega)
      rw [e1] at hSp
      have hpos : 0 < manyR k s off cnt := by
        have : (0 : Int) < (manyR k s off cnt : Int) := by rw [← hN]; split <;> omega
        omega
      have er : readF D n k s d off cnt = ((spn (manyR k s off cnt) off.toNat (manyR k s off cnt)).map (pieceF D n d)).flatten := by
        unfold readF
        rw [← eb]; rfl
      rw [er]
      generalize spn (manyR k s off cnt) off.toNat (manyR k s off cnt) = L at *
      have hLd : L.drop 0 = L := rfl
      obtain ⟨v', h', f1, f2⟩ := read_loop (l := l) (n := n) (m := m) (s := s) (p := p) (g := g ++ [some (Row.mk (vwC D.length n m f) true), some (Row.mk (inoC k l s p d) true), some (Row.mk [] true)]) (pv := g.length) (q := 40001) (sid := g.length + 4) (L := L) hD hd (hv.more _) hk (by simp) (by simp)
        (fun x hx => by
          have h1 := hmem x hx
          have h2 := h1.2.2.2.2 hpos
          exact ⟨h1.1, h1.2.2.1, by omega⟩) (by omega) L.length 0 40001 (g.length + 3) (g ++ [some (Row.mk (vwC D.length n m f) true), some (Row.mk (inoC k l s p d) true), some (Row.mk [] true), some (Row.mk [] true), some (Row.mk (spC L) true)]) [] (by omega) (by omega) (by simp)
        (by
          have := (Low.refl (h := g ++ [some (Row.mk (vwC D.length n m f) true), some (Row.mk (inoC k l s p d) true), some (Row.mk [] true)]) (Nat.le_refl _)).new [some (Row.mk [] true), some (Row.mk (spC L) true)]
          simpa using this) (by simp) (by omega) (by simp) (by simp [encB])
      rw [hLd, List.nil_append] at f2
      rw [List.length_nil] at f1
      refine ⟨v', h', ?_, f2.1, ?_⟩
      · have l11 : ldN (some (Row.mk (inoC k l s p d) true)) 0 11 = some (.a (inoC k l s p d)) := ldN_all hIl
        generalize vwC D.length n m f = V at *
        generalize inoC k l s p d = I at *
        simp only [esc, esh, Nat.reduceAdd, Nat.reduceMul, Nat.reduceLT, c1, c2, c3, hS, w1, m1, hSp, l11]
        exact f1
      · obtain ⟨id, e, hb, hr⟩ := f2.2
        exact ⟨id, e, by simp at hb; omega, hr⟩
    · have er : readF D n k s d off cnt = [] := by
        unfold readF manyR
        rw [if_neg c]; rfl
      rw [er]
      have l11 : ldN (some (Row.mk (inoC k l s p d) true)) 0 11 = some (.a (inoC k l s p d)) := ldN_all hIl
      have fin : ∀ h : Heap, Out g.length (g ++ [some (Row.mk (vwC D.length n m f) true), some (Row.mk (inoC k l s p d) true), some (Row.mk [] true), some (Row.mk [] true)]) (.c (.sl (g.length + 3) 0 0 1)) 1 ([] : List UInt8).length (encB []) := fun h => ⟨rfl, g.length + 3, rfl, by omega, by simp [encB]⟩
      refine ⟨.c (.sl (g.length + 3) 0 0 1), _, ?_, fin g⟩
      generalize vwC D.length n m f = V at *
      generalize inoC k l s p d = I at *
      by_cases c1 : off < 0
      · simp only [esc, esh, Nat.reduceAdd, Nat.reduceMul, Nat.reduceLT, c1]
      · by_cases c2 : sizeF k s ≤ off
        · simp only [esc, esh, Nat.reduceAdd, Nat.reduceMul, Nat.reduceLT, c1, c2, hS, l11]
        · have c3 : cnt < 1 := by omega
          simp only [esc, esh, Nat.reduceAdd, Nat.reduceMul, Nat.reduceLT, c1, c2, c3, hS, l11]
  obtain ⟨v, g', e, ho⟩ := key (ro h) hv.ro
  exact S_fread_Read_out e (by simpa [ro_length] using ho) (by simp)

theorem fread_All_eq {D : Dev} {n m k l s p : Int} {d : List Int} {f : Cell} {h : Heap} (hD : okD D) (hd : d.length = 7) (hv : IsView h f D) :
    S_fread_All [.a (vwC D.length n m f), .a (inoC k l s p d)] h = some (.c (.sl h.length 0 (readF D n k s d 0 34304).length 1), h ++ [some ⟨encB (readF D n k s d 0 34304), true⟩]) := by
  have key : ∀ g, IsView g f D → ∃ v g', R_fread_All 0 [.a (vwC D.length n m f), .a (inoC k l s p d)] g = some (v, g') ∧ Out g.length g' v 1 (readF D n k s d 0 34304).length (encB (readF D n k s d 0 34304)) := by
    intro g hv
    have hIl : (inoC k l s p d).length = 11 := by simp [inoC, encI_length, hd]
    have l11 : ldN (some (Row.mk (inoC k l s p d) true)) 0 11 = some (.a (inoC k l s p d)) := ldN_all hIl
    have l4 := vw_l4 (b := D.length) (n := n) (m := m) (f := f)
    have hR := fread_Read_eq (n := n) (m := m) (k := k) (l := l) (s := s) (p := p) (off := 0) (cnt := 34304) (h := g ++ [some (Row.mk (vwC D.length n m f) true), some (Row.mk (inoC k l s p d) true), some (Row.mk [] true)]) hD hd (hv.more _)
    simp only [esc] at hR
    rw [R_fread_All_eq]
    generalize readF D n k s d 0 34304 = bs at *
    generalize vwC D.length n m f = V at *
    generalize inoC k l s p d = I at *
    exact ⟨_, _, by simp only [esc, esh, Nat.reduceAdd, Nat.reduceMul, Nat.reduceLT, l4, l11, hR] <;> rfl, by rw [encB_length, Nat.mul_one], g.length + 3, rfl, by omega, by simp⟩
  obtain ⟨v, g', e, ho⟩ := key (ro h) hv.ro
  exact S_fread_All_out e (by simpa [ro_length] using ho) (by simp)

end Go.Proofs.Ytdgggnlbdoiloaa
end
noncomputable section
namespace Go.Proofs.Ytdgggnlbdoiloaa
open Go Go.Esc
set_option maxRecDepth 100000
def el23_works_o0 : List AOper := [aO 0 (.mv (.v (.c (.b false))))]
def el23_works_c0 : ACode := .ops el23_works_o0
def el23_works_o1 : List AOper := [aO 5 (.mkSl 256 (List.replicate 256 (.i .u8 0)) (.v (.c (.i .i64 16))) (.v (.c (.i .i64 16)))), aO 1 (.mv (.t 5))]
def el23_works_c1 : ACode := .ops el23_works_o1
def el23_works_o2 : List AOper := [aO 7 (.mv (.t 1)), aO 8 (.build ([.i .i64 0, .i .i64 0, .i .u64 0]) [(0, 1, (.v (.c (.i .i64 16)))), (1, 1, (.v (.c (.i .i64 8))))]), aO 9 (.call 52 [(.t 8)]), aO 6 (.mv (.t 9)), aO 10 (.ext (.t 6) 0), aO 11 (.ext (.t 6) 1), aO 12 (.iAddrL 256 (.t 7) (.v (.c (.i .i64 0)))), { dst := none, op := .storeN 256 (.t 12) (.t 10) }]
def el23_works_c2 : ACode := .ops el23_works_o2
def el23_works_o3 : List AOper := [aO 14 (.mv (.t 1)), aO 15 (.call 15 [(.t 14)]), aO 13 (.mv (.t 15)), aO 16 (.ext (.t 13) 0), aO 17 (.ext (.t 13) 1), aO 2 (.alloc ([.i .i64 0, .i .i64 0, .i .u64 0, .nf])), { dst := none, op := .storeN 4 (.t 2) (.t 16) }, aO 3 (.mv (.t 17))]
def el23_works_c3 : ACode := .ops el23_works_o3
def el23_works_o4 : List AOper := [aO 18 (.call 13 [(.v (.c (.i .i64 255))), (.v (.c (.i .i64 3)))]), aO 4 (.mv (.t 18))]
def el23_works_c4 : ACode := .ops el23_works_o4
def el23_works_o5 : List AOper := [aO 19 (.loadN 4 (.t 2)), aO 20 (.build ([.i .i64 0, .i .i64 0, .i .i64 0, .i .i64 0, .i .i64 0, .i .i64 0, .i .i64 0, .i .i64 0, .i .i64 0, .i .i64 0, .i .i64 0]) [(0, 1, (.v (.c (.i .i64 1)))), (2, 1, (.v (.c (.i .i64 3))))]), aO 21 (.call 18 [(.t 19), (.t 20)]), aO 22 (.buildSl 1 3 ([.i .u8 0, .i .u8 0, .i .u8 0]) [(0, 1, (.v (.c (.i .u8 0)))), (1, 1, (.v (.c (.i .u8 0)))), (2, 1, (.v (.c (.i .u8 0))))]), aO 23 (.call 21 [(.t 21), (.t 22)]), aO 24 (.mv (.t 23)), { dst := some 25, op := .mv (.t 4), guard := some (24, true) }, { dst := some 26, op := .len (.t 25), guard := some (24, true) }, { dst := some 27, op := .bin .eql (.t 26) (.v (.c (.i .i64 2))), guard := some (24, true) }, aO 28 (.pick (.t 24) (.t 27) (.v (.c (.b false)))), aO 29 (.mv (.t 28)), { dst := some 30, op := .mv (.t 4), guard := some (29, true) }, { dst := some 31, op := .iAddrL 3 (.t 30) (.v (.c (.i .i64 0))), guard := some (29, true) }, { dst := some 32, op := .loadN 3 (.t 31), guard := some (29, true) }, { dst := some 33, op := .build ([.i .i64 0, .i .i64 0, .i .i64 0]) [(0, 1, (.v (.c (.i .i64 0)))), (1, 1, (.v (.c (.i .i64 255)))), (2, 1, (.v (.c (.i .i64 1))))], guard := some (29, true) }, { dst := some 34, op := .eqA false ([.i .i64, .i .i64, .i .i64]) (.t 32) (.t 33), guard := some (29, true) }, aO 35 (.pick (.t 29) (.t 34) (.v (.c (.b false)))), aO 36 (.mv (.t 35)), { dst := some 37, op := .mv (.t 4), guard := some (36, true) }, { dst := some 38, op := .iAddrL 3 (.t 37) (.v (.c (.i .i64 1))), guard := some (36, true) }, { dst := some 39, op := .loadN 3 (.t 38), guard := some (36, true) }, { dst := some 40, op := .build ([.i .i64 0, .i .i64 0, .i .i64 0]) [(0, 1, (.v (.c (.i .i64 1)))), (1, 1, (.v (.c (.i .i64 0)))), (2, 1, (.v (.c (.i .i64 2))))], guard := some (36, true) }, { dst := some 41, op := .eqA false ([.i .i64, .i .i64, .i .i64]) (.t 39) (.t 40), guard := some (36, true) }, aO 42 (.pick (.t 36) (.t 41) (.v (.c (.b false)))), aO 0 (.mv (.t 42))]
def el23_works_c5 : ACode := .ops el23_works_o5
def el23_works_c6 : ACode := .seq [0] el23_works_c5 .ret
def el23_works_c7 : ACode := .seq [2, 4] el23_works_c4 el23_works_c6
def el23_works_c8 : ACode := .seq [2] el23_works_c3 el23_works_c7
def el23_works_c9 : ACode := .seq [1] el23_works_c2 el23_works_c8
def el23_works_c10 : ACode := .seq [1] el23_works_c1 el23_works_c9
def el23_works_c11 : ACode := .seq [] el23_works_c0 el23_works_c10
def A_el23_works : AFn := ⟨el23_works_c11, [.tmp 0]⟩
def E_el23_works : Sums := disp 52 S_super_Put (disp 15 S_view_Of (disp 13 S_fread_Spans (disp 18 S_fread_All (disp 21 S_er01_Same disp0))))
def el23_works_c0_d (n : Nat) : SmV := smOps E_el23_works el23_works_o0
def el23_works_c1_d (n : Nat) : SmV := smOps E_el23_works el23_works_o1
def el23_works_c2_d (n : Nat) : SmV := smOps E_el23_works el23_works_o2
def el23_works_c3_d (n : Nat) : SmV := smOps E_el23_works el23_works_o3
def el23_works_c4_d (n : Nat) : SmV := smOps E_el23_works el23_works_o4
def el23_works_c5_d (n : Nat) : SmV := smOps E_el23_works el23_works_o5
def el23_works_c6_d (n : Nat) : SmV := smSeq [0] (el23_works_c5_d n) smRet
def el23_works_c7_d (n : Nat) : SmV := smSeq [2, 4] (el23_works_c4_d n) (el23_works_c6_d n)
def el23_works_c8_d (n : Nat) : SmV := smSeq [2] (el23_works_c3_d n) (el23_works_c7_d n)
def el23_works_c9_d (n : Nat) : SmV := smSeq [1] (el23_works_c2_d n) (el23_works_c8_d n)
def el23_works_c10_d (n : Nat) : SmV := smSeq [1] (el23_works_c1_d n) (el23_works_c9_d n)
def el23_works_c11_d (n : Nat) : SmV := smSeq [] (el23_works_c0_d n) (el23_works_c10_d n)
def R_el23_works (n : Nat) (args : List Val) (h : Heap) : OptV := (el23_works_c11_d n) A_el23_works.fin (params 0 args) h
theorem R_el23_works_eq (n : Nat) (h : Heap) : R_el23_works n [] h = bnd (amkn (.c (.i .i64 16)) (.c (.i .i64 16))) fun n1 => bnd (afill ([.i .i64 0, .i .i64 0, .i .u64 0]) [(0, 1, .c (.i .i64 16)), (1, 1, .c (.i .i64 8))]) fun c2 => bnd (S_super_Put [(.a c2)] ((h ++ [some (Row.mk (rows (List.replicate 256 (.i .u8 0)) n1) true)]))) fun p3 => bnd (aext p3.1 0) fun v4 => bnd (aext p3.1 1) fun v5 => bnd (aiAddrL 256 ((.c (.sl h.length 0 n1 256))) (.c (.i .i64 0))) fun v6 => bnd (astoreN p3.2 256 v6 v4) fun h7 => bnd (S_view_Of [(.c (.sl h.length 0 n1 256))] h7) fun p8 => bnd (aext p8.1 0) fun v9 => bnd (aext p8.1 1) fun v10 => bnd (astoreN ((p8.2 ++ [some (Row.mk ([.i .i64 0, .i .i64 0, .i .u64 0, .nf]) true)])) 4 ((.c (.p p8.2.length 0))) v9) fun h11 => bnd (S_fread_Spans [.c (.i .i64 255), .c (.i .i64 3)] h11) fun p12 => bnd (aloadN p12.2 4 ((.c (.p p8.2.length 0)))) fun v13 => bnd (afill ([.i .i64 0, .i .i64 0, .i .i64 0, .i .i64 0, .i .i64 0, .i .i64 0, .i .i64 0, .i .i64 0, .i .i64 0, .i .i64 0, .i .i64 0]) [(0, 1, .c (.i .i64 1)), (2, 1, .c (.i .i64 3))]) fun c14 => bnd (S_fread_All [v13, (.a c14)] p12.2) fun p15 => bnd (afill ([.i .u8 0, .i .u8 0, .i .u8 0]) [(0, 1, .c (.i .u8 0)), (1, 1, .c (.i .u8 0)), (2, 1, .c (.i .u8 0))]) fun c16 => bnd (S_er01_Same [p15.1, (.c (.sl p15.2.length 0 3 1))] ((p15.2 ++ [some (Row.mk (c16) true)]))) fun p17 => bnd (gd p17.1 true (some (p12.1, p17.2)) (some (.no, p17.2))) fun p18 => bnd (gd p17.1 true (bnd (alen p18.1) fun v19 => some (v19, p18.2)) (some (.no, p18.2))) fun p20 => bnd (gd p17.1 true (bnd (abin .eql p20.1 (.c (.i .i64 2))) fun v21 => some (v21, p20.2)) (some (.no, p20.2))) fun p22 => bnd (apick p17.1 p22.1 (.c (.b false))) fun v23 => bnd (gd v23 true (some (p12.1, p22.2)) (some (.no, p22.2))) fun p24 => bnd (gd v23 true (bnd (aiAddrL 3 p24.1 (.c (.i .i64 0))) fun v25 => some (v25, p24.2)) (some (.no, p24.2))) fun p26 => bnd (gd v23 true (bnd (aloadN p26.2 3 p26.1) fun v27 => some (v27, p26.2)) (some (.no, p26.2))) fun p28 => bnd (gd v23 true (bnd (afill ([.i .i64 0, .i .i64 0, .i .i64 0]) [(0, 1, .c (.i .i64 0)), (1, 1, .c (.i .i64 255)), (2, 1, .c (.i .i64 1))]) fun c29 => some ((.a c29), p28.2)) (some (.no, p28.2))) fun p30 => bnd (gd v23 true (bnd (aeq false ([.i .i64, .i .i64, .i .i64]) p28.1 p30.1) fun v31 => some (v31, p30.2)) (some (.no, p30.2))) fun p32 => bnd (apick v23 p32.1 (.c (.b false))) fun v33 => bnd (gd v33 true (some (p12.1, p32.2)) (some (.no, p32.2))) fun p34 => bnd (gd v33 true (bnd (aiAddrL 3 p34.1 (.c (.i .i64 1))) fun v35 => some (v35, p34.2)) (some (.no, p34.2))) fun p36 => bnd (gd v33 true (bnd (aloadN p36.2 3 p36.1) fun v37 => some (v37, p36.2)) (some (.no, p36.2))) fun p38 => bnd (gd v33 true (bnd (afill ([.i .i64 0, .i .i64 0, .i .i64 0]) [(0, 1, .c (.i .i64 1)), (1, 1, .c (.i .i64 0)), (2, 1, .c (.i .i64 2))]) fun c39 => some ((.a c39), p38.2)) (some (.no, p38.2))) fun p40 => bnd (gd v33 true (bnd (aeq false ([.i .i64, .i .i64, .i .i64]) p38.1 p40.1) fun v41 => some (v41, p40.2)) (some (.no, p40.2))) fun p42 => bnd (apick v33 p42.1 (.c (.b false))) fun v43 => some (v43, p42.2) := by kernel_rfl
theorem K_el23_works : FnK Try.prog 12 A_el23_works E_el23_works R_el23_works := .mk' (sound1 S_super_Put_ok (sound1 S_view_Of_ok (sound1 S_fread_Spans_ok (sound1 S_fread_All_ok (sound1 S_er01_Same_ok sound0))))) Try.func12 (by kernel_rfl) (by intro n args h; kernel_rfl)
def S_el23_works : Fun := tidy (Lim A_el23_works E_el23_works)
theorem S_el23_works_ok : SOk Try.prog 12 S_el23_works := K_el23_works.sok
theorem S_el23_works_flat {n : Nat} {args : List Val} {h h2 : Heap} {v : Val} (he : R_el23_works n args (ro h) = some (v, h2)) (hf : v.flat = true) : S_el23_works args h = some (v, h) := K_el23_works.flat he hf
end Go.Proofs.Ytdgggnlbdoiloaa
end
section
namespace Go.Proofs.Ytdgggnlbdoiloaa
open Go Go.Esc

def D16 : Dev := (List.replicate 16 (zeros 256)).set 0 (supB 16 8 0)
theorem okD16 : okD D16 := (okD_zeros 16).set supB_length
theorem D16_length : D16.length = 16 := by unfold D16; rw [List.length_set, List.length_replicate]
theorem devL16 : devL D16 = true := by decide +kernel
theorem devN16 : devN D16 = 8 := by decide +kernel
theorem devM16 : devM D16 = 0 := by decide +kernel

theorem works23_eq (h : Heap) : S_el23_works [] h = some (.c (.b true), h) := by
  have key : ∀ g, ∃ g', R_el23_works 0 [] g = some (.c (.b true), g') := by
    intro g
    have mk : amkn (.c (.i .i64 16)) (.c (.i .i64 16)) = some 16 := rfl
    have ef1 : afill [Cell.i .i64 0, .i .i64 0, .i .u64 0] [(0, 1, .c (.i .i64 16)), (1, 1, .c (.i .i64 8))] = some (layC 16 8 0) := rfl
    have hp := fun h => super_Put_eq (b := 16) (n := 8) (m := 0) (h := h) (by omega) (by omega)
    have hm : mayL 16 8 = true := by decide
    simp only [hm, cond_true] at hp
    have a1 : aiAddrL 256 (.c (.sl g.length 0 16 256)) (.c (.i .i64 0)) = some (.c (.p g.length 0)) := rfl
    have s1 := stN_dev (D := List.replicate 16 (zeros 256)) (i := 0) (okD_zeros 16) (supB_length (b := 16) (n := 8) (m := 0)) (by simp)
    have e16 : (List.replicate 16 (zeros 256)).set 0 (supB 16 8 0) = D16 := rfl
    rw [e16, Nat.zero_mul] at s1
    have l16 := D16_length
    obtain ⟨f, t, hO, hv⟩ := view_Of_ok (v := .c (.sl g.length 0 16 256)) (h := g ++ [some (Row.mk (cellsD D16) true)]) (D := D16) (by rw [l16]; exact Has.tr (by simp) (by rw [cellsD_length okD16, l16]) (noX_cellsD _)) okD16 devL16 (by rw [l16]; omega)
    rw [devN16, devM16] at hO
    have ef0 : afill [Cell.i .i64 0, .i .i64 0, .i .u64 0, .nf] [] = some [Cell.i .i64 0, .i .i64 0, .i .u64 0, .nf] := rfl
    obtain ⟨H, hH⟩ : ∃ H, H = g ++ [some (Row.mk (cellsD D16) true)] ++ t := ⟨_, rfl⟩
    rw [← hH] at hO hv
    have hV4 : ∀ x y z w : Cell, aloadN (H ++ [some (Row.mk [x, y, z, w] true)]) 4 (.c (.p H.length 0)) = some (.a [x, y, z, w]) := fun x y z w => by rw [aloadN_at0]; rfl
    have hS4 : ∀ x y z w : Cell, astoreN (H ++ [some (Row.mk [.i .i64 0, .i .i64 0, .i .u64 0, .nf] true)]) 4 (.c (.p H.length 0)) (.a [x, y, z, w]) = some (H ++ [some (Row.mk [x, y, z, w] true)]) := fun x y z w => by rw [astoreN_at0]; rfl
    have hSp := fread_Spans_eq (off := 255) (n := 3) (h := H ++ [some (Row.mk (vwC D16.length 8 0 f) true)]) (by omega)
    have eS : spansI 255 3 = [(0, 255, 1), (1, 0, 2)] := by decide +kernel
    rw [eS] at hSp
    have ef3 : afill [Cell.i .i64 0, .i .i64 0, .i .i64 0, .i .i64 0, .i .i64 0, .i .i64 0, .i .i64 0, .i .i64 0, .i .i64 0, .i .i64 0, .i .i64 0] [(0, 1, .c (.i .i64 1)), (2, 1, .c (.i .i64 3))] = some (inoC 1 0 3 0 (zI 7)) := rfl
    have hA := fread_All_eq (D := D16) (n := 8) (m := 0) (k := 1) (l := 0) (s := 3) (p := 0) (d := zI 7) (f := f) (h := H ++ [some (Row.mk (vwC D16.length 8 0 f) true), some (Row.mk (spC [(0, 255, 1), (1, 0, 2)]) true)]) okD16 rfl (hv.more _)
    have eA : readF D16 8 1 3 (zI 7) 0 34304 = [0, 0, 0] := by decide +kernel
    rw [eA] at hA
    have ef4 : afill [Cell.i .u8 0, .i .u8 0, .i .u8 0] [(0, 1, .c (.i .u8 0)), (1, 1, .c (.i .u8 0)), (2, 1, .c (.i .u8 0))] = some (encB [0, 0, 0]) := rfl
    have hSm := ref01_Same_eq (h := H ++ [some (Row.mk (vwC D16.length 8 0 f) true), some (Row.mk (spC [(0, 255, 1), (1, 0, 2)]) true), some ⟨encB [0, 0, 0], true⟩, some ⟨encB [0, 0, 0], true⟩]) (v := .c (.sl (H.length + 2) 0 3 1)) (nv := 3) (u := .c (.sl (H.length + 3) 0 3 1)) (nu := 3) (l := [0, 0, 0]) (r := [0, 0, 0])
      (Has.tr (by simp) (by simp [encB_length]) (noX_encB _)) (Has.tr (by simp) (by simp [encB_length]) (noX_encB _)) (by decide)
    rw [decide_eq_true rfl] at hSm
    have ef5 : afill [Cell.i .i64 0, .i .i64 0, .i .i64 0] [(0, 1, .c (.i .i64 0)), (1, 1, .c (.i .i64 255)), (2, 1, .c (.i .i64 1))] = some [.i .i64 0, .i .i64 255, .i .i64 1] := rfl
    have ef6 : afill [Cell.i .i64 0, .i .i64 0, .i .i64 0] [(0, 1, .c (.i .i64 1)), (1, 1, .c (.i .i64 0)), (2, 1, .c (.i .i64 2))] = some [.i .i64 1, .i .i64 0, .i .i64 2] := rfl
    have x1 : aiAddrL 3 (.c (.sl (H.length + 1) 0 2 3)) (.c (.i .i64 0)) = some (.c (.p (H.length + 1) 0)) := rfl
    have x2 : aiAddrL 3 (.c (.sl (H.length + 1) 0 2 3)) (.c (.i .i64 1)) = some (.c (.p (H.length + 1) 3)) := rfl
    have y1 : ldN (some (Row.mk (spC [(0, 255, 1), (1, 0, 2)]) true)) 0 3 = some (.a [.i .i64 0, .i .i64 255, .i .i64 1]) := rfl
    have y2 : ldN (some (Row.mk (spC [(0, 255, 1), (1, 0, 2)]) true)) 3 3 = some (.a [.i .i64 1, .i .i64 0, .i .i64 2]) := rfl
    have z1 : aeq false [Sh.i .i64, .i .i64, .i .i64] (.a [.i .i64 0, .i .i64 255, .i .i64 1]) (.a [.i .i64 0, .i .i64 255, .i .i64 1]) = some (.c (.b true)) := rfl
    have z2 : aeq false [Sh.i .i64, .i .i64, .i .i64] (.a [.i .i64 1, .i .i64 0, .i .i64 2]) (.a [.i .i64 1, .i .i64 0, .i .i64 2]) = some (.c (.b true)) := rfl
    have n22 : (((2 : Nat) : Int) = 2) = True := eq_true rfl
    rw [R_el23_works_eq]
    simp only [rows_dev]
    rw [show ([(0, 255, 1), (1, 0, 2)] : List Spn).length = 2 from rfl] at hSp
    rw [show ([0, 0, 0] : List UInt8).length = 3 from rfl] at hA
    have l4 := vw_l4 (b := D16.length) (n := 8) (m := 0) (f := f)
    generalize spC [(0, 255, 1), (1, 0, 2)] = sp at *
    generalize cellsD D16 = c1 at *
    generalize encB (supB 16 8 0) = c2 at *
    generalize encB [0, 0, 0] = c3 at *
    have hS5 : astoreN (H ++ [some (Row.mk [.i .i64 0, .i .i64 0, .i .u64 0, .nf] true)]) 4 (.c (.p H.length 0)) (.a (vwC D16.length 8 0 f)) = some (H ++ [some (Row.mk (vwC D16.length 8 0 f) true)]) := hS4 _ _ _ _
    generalize vwC D16.length 8 0 f = V at *
    exact ⟨_, by simp only [esc, esh, Nat.reduceAdd, Nat.reduceMul, Nat.reduceLT, eq_self, n22, mk, ef1, hp, a1, s1, hO, ef0, hS5, hSp, l4, ef3, hA, ef4, hSm, ef5, ef6, x1, x2, y1, y2, z1, z2] <;> rfl⟩
  obtain ⟨g', e⟩ := key (ro h)
  exact S_el23_works_flat e rfl

end Go.Proofs.Ytdgggnlbdoiloaa
end
noncomputable section
namespace Go.Proofs.Ytdgggnlbdoiloaa
open Go Go.Esc
set_option maxRecDepth 100000
def el23_FreadOnce_o0 : List AOper := [aO 4 (.mv (.v (.c (.b false))))]
def el23_FreadOnce_c0 : ACode := .ops el23_FreadOnce_o0
def el23_FreadOnce_o1 : List AOper := [aO 12 (.mv (.t 0)), aO 13 (.conv .i64 (.t 12)), aO 14 (.bin .rem (.t 13) (.v (.c (.i .i64 34304)))), aO 15 (.mv (.t 1)), aO 16 (.conv .i64 (.t 15)), aO 17 (.bin .rem (.t 16) (.v (.c (.i .i64 4000)))), aO 5 (.mv (.t 14)), aO 6 (.mv (.t 17))]
def el23_FreadOnce_c1 : ACode := .ops el23_FreadOnce_o1
def el23_FreadOnce_o2 : List AOper := [aO 18 (.mv (.t 5)), aO 19 (.mv (.t 6)), aO 20 (.call 13 [(.t 18), (.t 19)]), aO 7 (.mv (.t 20))]
def el23_FreadOnce_c2 : ACode := .ops el23_FreadOnce_o2
def el23_FreadOnce_o3 : List AOper := [aO 21 (.mv (.t 5)), aO 8 (.mv (.t 21)), aO 9 (.mv (.v (.c (.i .i64 0))))]
def el23_FreadOnce_c3 : ACode := .ops el23_FreadOnce_o3
def el23_FreadOnce_o4 : List AOper := [aO 10 (.mv (.v (.c (.i .i64 0))))]
def el23_FreadOnce_c4 : ACode := .ops el23_FreadOnce_o4
def el23_FreadOnce_o5 : List AOper := [aO 22 (.mv (.t 10)), aO 23 (.mv (.t 7)), aO 24 (.len (.t 23)), aO 25 (.bin .lss (.t 22) (.t 24))]
def el23_FreadOnce_c5 : ACode := .ops el23_FreadOnce_o5
def el23_FreadOnce_c6 : ACode := .cond (.t 25) .skip (.exit 0)
def el23_FreadOnce_c7 : ACode := .seq [5, 6, 7, 8, 9, 10, 25] el23_FreadOnce_c5 el23_FreadOnce_c6
def el23_FreadOnce_o6 : List AOper := [aO 28 (.mv (.t 7)), aO 29 (.mv (.t 10)), aO 30 (.iAddrL 3 (.t 28) (.t 29)), aO 31 (.loadN 3 (.t 30)), aO 11 (.alloc ([.i .i64 0, .i .i64 0, .i .i64 0])), { dst := none, op := .storeN 3 (.t 11) (.t 31) }]
def el23_FreadOnce_c8 : ACode := .ops el23_FreadOnce_o6
def el23_FreadOnce_o7 : List AOper := [aO 32 (.iAddrA 3 1 (.t 11) (.v (.c (.i .i64 0)))), aO 33 (.load1 (.t 32)), aO 34 (.mv (.t 8)), aO 35 (.bin .quo (.t 34) (.v (.c (.i .i64 256)))), aO 36 (.bin .neq (.t 33) (.t 35)), aO 37 (.mv (.t 36)), { dst := some 38, op := .iAddrA 3 1 (.t 11) (.v (.c (.i .i64 1))), guard := some (37, false) }, { dst := some 39, op := .load1 (.t 38), guard := some (37, false) }, { dst := some 40, op := .mv (.t 8), guard := some (37, false) }, { dst := some 41, op := .bin .rem (.t 40) (.v (.c (.i .i64 256))), guard := some (37, false) }, { dst := some 42, op := .bin .neq (.t 39) (.t 41), guard := some (37, false) }, aO 43 (.pick (.t 37) (.v (.c (.b true))) (.t 42)), aO 44 (.mv (.t 43)), { dst := some 45, op := .iAddrA 3 1 (.t 11) (.v (.c (.i .i64 2))), guard := some (44, false) }, { dst := some 46, op := .load1 (.t 45), guard := some (44, false) }, { dst := some 47, op := .bin .lss (.t 46) (.v (.c (.i .i64 1))), guard := some (44, false) }, aO 48 (.pick (.t 44) (.v (.c (.b true))) (.t 47)), aO 49 (.mv (.t 48)), { dst := some 50, op := .iAddrA 3 1 (.t 11) (.v (.c (.i .i64 1))), guard := some (49, false) }, { dst := some 51, op := .load1 (.t 50), guard := some (49, false) }, { dst := some 52, op := .iAddrA 3 1 (.t 11) (.v (.c (.i .i64 2))), guard := some (49, false) }, { dst := some 53, op := .load1 (.t 52), guard := some (49, false) }, { dst := some 54, op := .bin .add (.t 51) (.t 53), guard := some (49, false) }, { dst := some 55, op := .bin .gtr (.t 54) (.v (.c (.i .i64 256))), guard := some (49, false) }, aO 56 (.pick (.t 49) (.v (.c (.b true))) (.t 55))]
def el23_FreadOnce_c9 : ACode := .ops el23_FreadOnce_o7
def el23_FreadOnce_o8 : List AOper := [aO 4 (.mv (.v (.c (.b false))))]
def el23_FreadOnce_c10 : ACode := .ops el23_FreadOnce_o8
def el23_FreadOnce_c11 : ACode := .seq [4] el23_FreadOnce_c10 .ret
def el23_FreadOnce_c12 : ACode := .cond (.t 56) el23_FreadOnce_c11 .skip
def el23_FreadOnce_c13 : ACode := .seq [5, 6, 7, 8, 9, 10, 11, 56] el23_FreadOnce_c9 el23_FreadOnce_c12
def el23_FreadOnce_o9 : List AOper := [aO 57 (.mv (.t 8)), aO 58 (.iAddrA 3 1 (.t 11) (.v (.c (.i .i64 2)))), aO 59 (.load1 (.t 58)), aO 60 (.bin .add (.t 57) (.t 59)), aO 61 (.mv (.t 9)), aO 62 (.iAddrA 3 1 (.t 11) (.v (.c (.i .i64 2)))), aO 63 (.load1 (.t 62)), aO 64 (.bin .add (.t 61) (.t 63)), aO 8 (.mv (.t 60))]
def el23_FreadOnce_o10 : List AOper := [aO 9 (.mv (.t 64))]
def el23_FreadOnce_c14 : ACode := .draw 0 el23_FreadOnce_o9 el23_FreadOnce_o10
def el23_FreadOnce_c15 : ACode := .seq [5, 6, 7, 8, 9, 10, 11] el23_FreadOnce_c13 el23_FreadOnce_c14
def el23_FreadOnce_c16 : ACode := .seq [5, 6, 7, 8, 9, 10, 11] el23_FreadOnce_c8 el23_FreadOnce_c15
def el23_FreadOnce_c17 : ACode := .block 1 el23_FreadOnce_c16
def el23_FreadOnce_o11 : List AOper := [aO 26 (.mv (.t 10)), aO 27 (.bin .add (.t 26) (.v (.c (.i .i64 1)))), aO 10 (.mv (.t 27))]
def el23_FreadOnce_c18 : ACode := .ops el23_FreadOnce_o11
def el23_FreadOnce_c19 : ACode := .seq [5, 6, 7, 8, 9, 10] el23_FreadOnce_c17 el23_FreadOnce_c18
def el23_FreadOnce_c20 : ACode := .seq [5, 6, 7, 8, 9, 10] el23_FreadOnce_c7 el23_FreadOnce_c19
def el23_FreadOnce_c21 : ACode := .loop [5, 6, 7, 8, 9, 10] el23_FreadOnce_c20
def el23_FreadOnce_c22 : ACode := .block 0 el23_FreadOnce_c21
def el23_FreadOnce_c23 : ACode := .seq [5, 6, 7, 8, 9, 10] el23_FreadOnce_c4 el23_FreadOnce_c22
def el23_FreadOnce_o12 : List AOper := [aO 65 (.mv (.t 9)), aO 66 (.mv (.t 6)), aO 67 (.mv (.t 5)), aO 68 (.bin .sub (.v (.c (.i .i64 34304))) (.t 67)), aO 69 (.min (.t 66) (.t 68)), aO 70 (.bin .eql (.t 65) (.t 69)), aO 71 (.mv (.t 70)), { dst := some 72, op := .call 12 [], guard := some (71, true) }, aO 73 (.pick (.t 71) (.t 72) (.v (.c (.b false)))), aO 4 (.mv (.t 73))]
def el23_FreadOnce_c24 : ACode := .ops el23_FreadOnce_o12
def el23_FreadOnce_c25 : ACode := .seq [4] el23_FreadOnce_c24 .ret
def el23_FreadOnce_c26 : ACode := .seq [5, 6, 9] el23_FreadOnce_c23 el23_FreadOnce_c25
def el23_FreadOnce_c27 : ACode := .seq [5, 6, 7, 8, 9] el23_FreadOnce_c3 el23_FreadOnce_c26
def el23_FreadOnce_c28 : ACode := .seq [5, 6, 7] el23_FreadOnce_c2 el23_FreadOnce_c27
def el23_FreadOnce_c29 : ACode := .seq [5, 6] el23_FreadOnce_c1 el23_FreadOnce_c28
def el23_FreadOnce_c30 : ACode := .seq [0, 1] el23_FreadOnce_c0 el23_FreadOnce_c29
def A_el23_FreadOnce : AFn := ⟨el23_FreadOnce_c30, [.tmp 4]⟩
def E_el23_FreadOnce : Sums := disp 13 S_fread_Spans (disp 12 S_el23_works disp0)
def el23_FreadOnce_c0_d (n : Nat) : SmV := smOps E_el23_FreadOnce el23_FreadOnce_o0
def el23_FreadOnce_c1_d (n : Nat) : SmV := smOps E_el23_FreadOnce el23_FreadOnce_o1
def el23_FreadOnce_c2_d (n : Nat) : SmV := smOps E_el23_FreadOnce el23_FreadOnce_o2
def el23_FreadOnce_c3_d (n : Nat) : SmV := smOps E_el23_FreadOnce el23_FreadOnce_o3
def el23_FreadOnce_c4_d (n : Nat) : SmV := smOps E_el23_FreadOnce el23_FreadOnce_o4
def el23_FreadOnce_c5_d (n : Nat) : SmV := smOps E_el23_FreadOnce el23_FreadOnce_o5
def el23_FreadOnce_c6_d (n : Nat) : SmV := smCond (.t 25) smSkip (smExit 0)
def el23_FreadOnce_c7_d (n : Nat) : SmV := smSeq [5, 6, 7, 8, 9, 10, 25] (el23_FreadOnce_c5_d n) (el23_FreadOnce_c6_d n)
def el23_FreadOnce_c8_d (n : Nat) : SmV := smOps E_el23_FreadOnce el23_FreadOnce_o6
def el23_FreadOnce_c9_d (n : Nat) : SmV := smOps E_el23_FreadOnce el23_FreadOnce_o7
def el23_FreadOnce_c10_d (n : Nat) : SmV := smOps E_el23_FreadOnce el23_FreadOnce_o8
def el23_FreadOnce_c11_d (n : Nat) : SmV := smSeq [4] (el23_FreadOnce_c10_d n) smRet
def el23_FreadOnce_c12_d (n : Nat) : SmV := smCond (.t 56) (el23_FreadOnce_c11_d n) smSkip
def el23_FreadOnce_c13_d (n : Nat) : SmV := smSeq [5, 6, 7, 8, 9, 10, 11, 56] (el23_FreadOnce_c9_d n) (el23_FreadOnce_c12_d n)
def el23_FreadOnce_c14_d (n : Nat) : SmV := smDraw E_el23_FreadOnce 0 el23_FreadOnce_o9 el23_FreadOnce_o10
def el23_FreadOnce_c15_d (n : Nat) : SmV := smSeq [5, 6, 7, 8, 9, 10, 11] (el23_FreadOnce_c13_d n) (el23_FreadOnce_c14_d n)
def el23_FreadOnce_c16_d (n : Nat) : SmV := smSeq [5, 6, 7, 8, 9, 10, 11] (el23_FreadOnce_c8_d n) (el23_FreadOnce_c15_d n)
def el23_FreadOnce_c17_d (n : Nat) : SmV := smBlock 1 (el23_FreadOnce_c16_d n)
def el23_FreadOnce_c18_d (n : Nat) : SmV := smOps E_el23_FreadOnce el23_FreadOnce_o11
def el23_FreadOnce_c19_d (n : Nat) : SmV := smSeq [5, 6, 7, 8, 9, 10] (el23_FreadOnce_c17_d n) (el23_FreadOnce_c18_d n)
def el23_FreadOnce_c20_d (n : Nat) : SmV := smSeq [5, 6, 7, 8, 9, 10] (el23_FreadOnce_c7_d n) (el23_FreadOnce_c19_d n)
def el23_FreadOnce_c21_d (n : Nat) : SmV := smLoop n [5, 6, 7, 8, 9, 10] (el23_FreadOnce_c20_d n)
def el23_FreadOnce_c22_d (n : Nat) : SmV := smBlock 0 (el23_FreadOnce_c21_d n)
def el23_FreadOnce_c23_d (n : Nat) : SmV := smSeq [5, 6, 7, 8, 9, 10] (el23_FreadOnce_c4_d n) (el23_FreadOnce_c22_d n)
def el23_FreadOnce_c24_d (n : Nat) : SmV := smOps E_el23_FreadOnce el23_FreadOnce_o12
def el23_FreadOnce_c25_d (n : Nat) : SmV := smSeq [4] (el23_FreadOnce_c24_d n) smRet
def el23_FreadOnce_c26_d (n : Nat) : SmV := smSeq [5, 6, 9] (el23_FreadOnce_c23_d n) (el23_FreadOnce_c25_d n)
def el23_FreadOnce_c27_d (n : Nat) : SmV := smSeq [5, 6, 7, 8, 9] (el23_FreadOnce_c3_d n) (el23_FreadOnce_c26_d n)
def el23_FreadOnce_c28_d (n : Nat) : SmV := smSeq [5, 6, 7] (el23_FreadOnce_c2_d n) (el23_FreadOnce_c27_d n)
def el23_FreadOnce_c29_d (n : Nat) : SmV := smSeq [5, 6] (el23_FreadOnce_c1_d n) (el23_FreadOnce_c28_d n)
def el23_FreadOnce_c30_d (n : Nat) : SmV := smSeq [0, 1] (el23_FreadOnce_c0_d n) (el23_FreadOnce_c29_d n)
def el23_FreadOnce_k0 (n : Nat) : AExit → Env → Heap → OptV := fun x e h => match x with | .normal => hold ((el23_FreadOnce_c25_d n) A_el23_FreadOnce.fin (e.keep [5, 6, 9]) h) | .exit id => A_el23_FreadOnce.fin (.exit id) e h | .ret => A_el23_FreadOnce.fin .ret e h
def el23_FreadOnce_k1 (n : Nat) : AExit → Env → Heap → OptV := fun x e h => match x with | .exit i => bif Nat.beq i 0 then (el23_FreadOnce_k0 n) .normal e h else (el23_FreadOnce_k0 n) (.exit i) e h | .normal => (el23_FreadOnce_k0 n) .normal e h | .ret => (el23_FreadOnce_k0 n) .ret e h
def el23_FreadOnce_l0 (n m : Nat) (x5 x6 x7 x8 x9 x10 : Val) (h : Heap) : OptV := around (el23_FreadOnce_c20_d n) [5, 6, 7, 8, 9, 10] (el23_FreadOnce_k1 n) m [(5, x5), (6, x6), (7, x7), (8, x8), (9, x9), (10, x10)] h
def R_el23_FreadOnce (n : Nat) (args : List Val) (h : Heap) : OptV := (el23_FreadOnce_c30_d n) A_el23_FreadOnce.fin (params 0 args) h
theorem R_el23_FreadOnce_eq (n : Nat) (a0 a1 : Val) (h : Heap) : R_el23_FreadOnce n [a0, a1] h = bnd (aconv .i64 a0) fun v1 => bnd (abin .rem v1 (.c (.i .i64 34304))) fun v2 => bnd (aconv .i64 a1) fun v3 => bnd (abin .rem v3 (.c (.i .i64 4000))) fun v4 => bnd (S_fread_Spans [v2, v4] h) fun p5 => el23_FreadOnce_l0 n n v2 v4 p5.1 v2 (.c (.i .i64 0)) (.c (.i .i64 0)) p5.2 := by kernel_rfl
theorem el23_FreadOnce_l0_eq (n m : Nat) (x5 x6 x7 x8 x9 x10 : Val) (h : Heap) : el23_FreadOnce_l0 n (m + 1) x5 x6 x7 x8 x9 x10 h = bnd (alen x7) fun v6 => bnd (abin .lss x10 v6) fun v7 => cnd v7 (bnd (aiAddrL 3 x7 x10) fun v8 => bnd (aloadN h 3 v8) fun v9 => bnd (astoreN ((h ++ [some (Row.mk ([.i .i64 0, .i .i64 0, .i .i64 0]) true)])) 3 ((.c (.p h.length 0))) v9) fun h10 => bnd (aiAddrA 3 1 ((.c (.p h.length 0))) (.c (.i .i64 0))) fun v11 => bnd (aload1 h10 v11) fun v12 => bnd (abin .quo x8 (.c (.i .i64 256))) fun v13 => bnd (abin .neq v12 v13) fun v14 => bnd (gd v14 false (bnd (aiAddrA 3 1 ((.c (.p h.length 0))) (.c (.i .i64 1))) fun v15 => some (v15, h10)) (some (.no, h10))) fun p16 => bnd (gd v14 false (bnd (aload1 p16.2 p16.1) fun v17 => some (v17, p16.2)) (some (.no, p16.2))) fun p18 => bnd (gd v14 false (some (x8, p18.2)) (some (.no, p18.2))) fun p19 => bnd (gd v14 false (bnd (abin .rem p19.1 (.c (.i .i64 256))) fun v20 => some (v20, p19.2)) (some (.no, p19.2))) fun p21 => bnd (gd v14 false (bnd (abin .neq p18.1 p21.1) fun v22 => some (v22, p21.2)) (some (.no, p21.2))) fun p23 => bnd (apick v14 (.c (.b true)) p23.1) fun v24 => bnd (gd v24 false (bnd (aiAddrA 3 1 ((.c (.p h.length 0))) (.c (.i .i64 2))) fun v25 => some (v25, p23.2)) (some (.no, p23.2))) fun p26 => bnd (gd v24 false (bnd (aload1 p26.2 p26.1) fun v27 => some (v27, p26.2)) (some (.no, p26.2))) fun p28 => bnd (gd v24 false (bnd (abin .lss p28.1 (.c (.i .i64 1))) fun v29 => some (v29, p28.2)) (some (.no, p28.2))) fun p30 => bnd (apick v24 (.c (.b true)) p30.1) fun v31 => bnd (gd v31 false (bnd (aiAddrA 3 1 ((.c (.p h.length 0))) (.c (.i .i64 1))) fun v32 => some (v32, p30.2)) (some (.no, p30.2))) fun p33 => bnd (gd v31 false (bnd (aload1 p33.2 p33.1) fun v34 => some (v34, p33.2)) (some (.no, p33.2))) fun p35 => bnd (gd v31 false (bnd (aiAddrA 3 1 ((.c (.p h.length 0))) (.c (.i .i64 2))) fun v36 => some (v36, p35.2)) (some (.no, p35.2))) fun p37 => bnd (gd v31 false (bnd (aload1 p37.2 p37.1) fun v38 => some (v38, p37.2)) (some (.no, p37.2))) fun p39 => bnd (gd v31 false (bnd (abin .add p35.1 p39.1) fun v40 => some (v40, p39.2)) (some (.no, p39.2))) fun p41 => bnd (gd v31 false (bnd (abin .gtr p41.1 (.c (.i .i64 256))) fun v42 => some (v42, p41.2)) (some (.no, p41.2))) fun p43 => bnd (apick v31 (.c (.b true)) p43.1) fun v44 => cnd v44 (some ((.c (.b false)), p43.2)) (bnd (aiAddrA 3 1 ((.c (.p h.length 0))) (.c (.i .i64 2))) fun v45 => bnd (aload1 p43.2 v45) fun v46 => bnd (abin .add x8 v46) fun v47 => bnd (aiAddrA 3 1 ((.c (.p h.length 0))) (.c (.i .i64 2))) fun v48 => bnd (aload1 p43.2 v48) fun v49 => bnd (abin .add x9 v49) fun v50 => bnd (abin .add x10 (.c (.i .i64 1))) fun v51 => el23_FreadOnce_l0 n m x5 x6 x7 v47 v50 v51 ((p43.2 ++ [])))) (bnd (abin .sub (.c (.i .i64 34304)) x5) fun v52 => bnd (amin x6 v52) fun v53 => bnd (abin .eql x9 v53) fun v54 => bnd (gd v54 true (bnd (S_el23_works [] h) fun p55 => some (p55.1, p55.2)) (some (.no, h))) fun p56 => bnd (apick v54 p56.1 (.c (.b false))) fun v57 => some (v57, p56.2)) := by kernel_rfl
theorem K_el23_FreadOnce : FnK Try.prog 4 A_el23_FreadOnce E_el23_FreadOnce R_el23_FreadOnce := .mk' (sound1 S_fread_Spans_ok (sound1 S_el23_works_ok sound0)) Try.func4 (by kernel_rfl) (by intro n args h; kernel_rfl)
def S_el23_FreadOnce : Fun := tidy (Lim A_el23_FreadOnce E_el23_FreadOnce)
theorem S_el23_FreadOnce_ok : SOk Try.prog 4 S_el23_FreadOnce := K_el23_FreadOnce.sok
theorem S_el23_FreadOnce_flat {n : Nat} {args : List Val} {h h2 : Heap} {v : Val} (he : R_el23_FreadOnce n args (ro h) = some (v, h2)) (hf : v.flat = true) : S_el23_FreadOnce args h = some (v, h) := K_el23_FreadOnce.flat he hf
end Go.Proofs.Ytdgggnlbdoiloaa
end
section
namespace Go.Proofs.Ytdgggnlbdoiloaa
open Go Go.Esc

theorem once_loop {q sid p mm M : Nat} {L : List Spn} (hp : p < 34304) (hmm : mm < 4000) (hM : M = min mm (34304 - p)) (hL : L.length ≤ 40000) : ∀ (e at' rem i m : Nat) (h : Heap), rem ≤ e → e < m → L.drop i = spn e at' rem → i ≤ L.length → at' + rem = p + M → rem ≤ M → rd h sid = some ⟨spC L, true⟩ →
    ∃ h', el23_FreadOnce_l0 q m (.c (.i .i64 (p : Int))) (.c (.i .i64 (mm : Int))) (.c (.sl sid 0 L.length 3)) (.c (.i .i64 (at' : Int))) (.c (.i .i64 ((M - rem : Nat) : Int))) (.c (.i .i64 (i : Int))) h = some (.c (.b true), h')
  | e, at', rem, i, 0, h, _, hm, _, _, _, _, _ => by omega
  | e, at', rem, i, m + 1, h, hr, hm, hd, hi, ha, hrM, hs => by
    by_cases h0 : rem = 0
    · subst h0
      rw [spn_zero] at hd
      have hl := List.drop_eq_nil_iff.1 hd
      have c0 : ¬ (i : Int) < (L.length : Nat) := by omega
      have w1 : IntKind.wrap .i64 (34304 - (p : Int)) = ((34304 - p : Nat) : Int) := by rw [wrap_i64 (by omega) (by omega)]; omega
      have m1 : amin (.c (.i .i64 (mm : Int))) (.c (.i .i64 ((34304 - p : Nat) : Int))) = some (.c (.i .i64 (M : Int))) := by
        rw [amin_i]
        congr 3
        split <;> omega
      rw [el23_FreadOnce_l0_eq, Nat.sub_zero]
      exact ⟨_, by simp only [esc, c0, w1, m1, eq_self, works23_eq] <;> rfl⟩
    · obtain ⟨e, rfl⟩ : ∃ e', e = e' + 1 := ⟨e - 1, by omega⟩
      rw [spn_step (by omega)] at hd
      generalize hK : min rem (256 - at' % 256) = K at *
      have hil : i < L.length := by
        rcases Nat.lt_or_ge i L.length with h | h
        · exact h
        · rw [List.drop_of_length_le h] at hd; cases hd
      have hsp : L[i] = (at' / 256, at' % 256, K) := by
        rw [List.drop_eq_getElem_cons hil] at hd
        exact (List.cons.inj hd).1
      have hd2 : L.drop (i + 1) = spn e (at' + K) (rem - K) := by
        rw [List.drop_eq_getElem_cons hil] at hd
        exact (List.cons.inj hd).2
      have c0 : (i : Int) < (L.length : Nat) := by omega
      have ad : aiAddrL 3 (.c (.sl sid 0 L.length 3)) (.c (.i .i64 (i : Int))) = some (.c (.p sid (i * 3))) := by rw [iAddrL_of hil, Nat.zero_add]
      have t1 : aloadN h 3 (.c (.p sid (i * 3))) = some (.a [Cell.i .i64 ((at' / 256 : Nat) : Int), .i .i64 ((at' % 256 : Nat) : Int), .i .i64 (K : Int)]) := by
        rw [loadN_of hs (by rw [spC_length]; omega) (by simp), spC_at L i (at' / 256, at' % 256, K) (by rw [List.getElem?_eq_getElem hil, hsp])]
      have z3 : [Cell.i .i64 0, .i .i64 0, .i .i64 0].length = 3 := rfl
      have x3 : [Cell.i .i64 ((at' / 256 : Nat) : Int), .i .i64 ((at' % 256 : Nat) : Int), .i .i64 (K : Int)].length = 3 := rfl
      have ad0 : aiAddrA 3 1 (.c (.p h.length 0)) (.c (.i .i64 0)) = some (.c (.p h.length 0)) := rfl
      have ad1 : aiAddrA 3 1 (.c (.p h.length 0)) (.c (.i .i64 1)) = some (.c (.p h.length 1)) := rfl
      have ad2 : aiAddrA 3 1 (.c (.p h.length 0)) (.c (.i .i64 2)) = some (.c (.p h.length 2)) := rfl
      have q1 : abin .quo (.c (.i .i64 (at' : Int))) (.c (.i .i64 256)) = some (.c (.i .i64 ((at' / 256 : Nat) : Int))) := by
        rw [quo_i64 (by omega) (by omega) (by omega)]; congr 3
      have r1 : abin .rem (.c (.i .i64 (at' : Int))) (.c (.i .i64 256)) = some (.c (.i .i64 ((at' % 256 : Nat) : Int))) := by
        rw [rem_i (by omega) (by omega)]; congr 3
      have k1 : ¬ (K : Int) < 1 := by omega
      have w2 : IntKind.wrap .i64 (((at' % 256 : Nat) : Int) + (K : Int)) = ((at' % 256 + K : Nat) : Int) := wi_add (by omega)
      have k2 : ¬ (256 : Int) < ((at' % 256 + K : Nat) : Int) := by omega
      have w3 : IntKind.wrap .i64 ((at' : Int) + (K : Int)) = ((at' + K : Nat) : Int) := wi_add (by omega)
      have w4 : IntKind.wrap .i64 (((M - rem : Nat) : Int) + (K : Int)) = ((M - (rem - K) : Nat) : Int) := by rw [wrap_i64 (by omega) (by omega)]; omega
      have w5 := wi_succ (show i + 1 < 9223372036854775808 by omega)
      obtain ⟨h', ih⟩ := once_loop (q := q) hp hmm hM hL e (at' + K) (rem - K) (i + 1) m (h ++ [some ⟨[Cell.i .i64 ((at' / 256 : Nat) : Int), .i .i64 ((at' % 256 : Nat) : Int), .i .i64 (K : Int)], true⟩]) (by omega) (by omega) hd2 (by omega) (by omega) (by omega) (rd_append hs)
      refine ⟨h', ?_⟩
      rw [el23_FreadOnce_l0_eq]
      simp only [esc, esh, Nat.reduceAdd, Nat.reduceMul, Nat.reduceLT, eq_self, c0, ad, t1, z3, x3, ad0, ad1, ad2, q1, r1, k1, w2, k2, w3, w4, w5]
      exact ih

theorem freadOnce_eq {off n : Int} (h : Heap) (h0 : 0 ≤ off) (h1 : off ≤ 65535) (g0 : 0 ≤ n) (g1 : n ≤ 65535) : S_el23_FreadOnce [.c (.i .u16 off), .c (.i .u16 n)] h = some (.c (.b true), h) := by
  have key : ∀ g, ∃ g', R_el23_FreadOnce 40001 [.c (.i .u16 off), .c (.i .u16 n)] g = some (.c (.b true), g') := by
    intro g
    obtain ⟨p, hp⟩ : ∃ p : Nat, off % 34304 = p := ⟨(off % 34304).toNat, by have := Int.emod_nonneg off (show (34304 : Int) ≠ 0 by omega); omega⟩
    obtain ⟨m, hm⟩ : ∃ m : Nat, n % 4000 = m := ⟨(n % 4000).toNat, by have := Int.emod_nonneg n (show (4000 : Int) ≠ 0 by omega); omega⟩
    have hp2 : p < 34304 := by have := Int.emod_lt_of_pos off (show (0 : Int) < 34304 by omega); omega
    have hm2 : m < 4000 := by have := Int.emod_lt_of_pos n (show (0 : Int) < 4000 by omega); omega
    have w1 : IntKind.wrap .i64 off = off := wrap_i64 (by omega) (by omega)
    have w2 : IntKind.wrap .i64 n = n := wrap_i64 (by omega) (by omega)
    have r1 : abin .rem (.c (.i .i64 off)) (.c (.i .i64 34304)) = some (.c (.i .i64 (p : Int))) := by rw [rem_i h0 (by omega), hp]
    have r2 : abin .rem (.c (.i .i64 n)) (.c (.i .i64 4000)) = some (.c (.i .i64 (m : Int))) := by rw [rem_i g0 (by omega), hm]
    have hS := fread_Spans_eq (off := (p : Int)) (n := (m : Int)) (h := g) (by omega)
    have eo : offI (p : Int) = p := by unfold offI; split <;> omega
    have em : manyS (p : Int) (m : Int) = min m (34304 - p) := by
      unfold manyS
      rw [eo, if_pos (by omega)]
      have e2 : (if (0 : Int) < (m : Int) then (m : Int) else 0) = m := by split <;> omega
      rw [e2]
      split <;> omega
    have es : spansI (p : Int) (m : Int) = spn (min m (34304 - p)) p (min m (34304 - p)) := by
      unfold spansI
      rw [em, eo, Int.toNat_natCast]
    rw [es] at hS
    have hl := spn_length (min m (34304 - p)) p (min m (34304 - p))
    obtain ⟨M, hM⟩ : ∃ M, M = min m (34304 - p) := ⟨_, rfl⟩
    rw [← hM] at hS hl
    obtain ⟨h', e⟩ := once_loop (q := 40001) (sid := g.length) (p := p) (mm := m) (M := M) (L := spn M p M) hp2 hm2 hM (by omega) M p M 0 40001 (g ++ [some ⟨spC (spn M p M), true⟩]) (by omega) (by omega) rfl (by omega) rfl (by omega) (by simp)
    rw [Nat.sub_self] at e
    refine ⟨h', ?_⟩
    rw [R_el23_FreadOnce_eq]
    simp only [bnd_some, aconv_i, w1, r1, w2, r2, hS]
    exact e
  obtain ⟨g', e⟩ := key (ro h)
  exact S_el23_FreadOnce_flat e rfl

end Go.Proofs.Ytdgggnlbdoiloaa
end
section
namespace Go.Proofs.Ytdgggnlbdoiloaa
open Go

def startWords : List Char := (([104, 97, 114, 110, 101, 115, 115, 32, 102, 53, 49, 98, 54, 51, 100, 100, 54, 97, 57, 49, 52, 55, 49, 97, 52, 49, 55, 51, 48, 53, 98, 100, 50, 53, 100, 51, 52, 98, 48, 51, 50, 50, 54, 51, 53, 54, 57, 49, 49, 101, 54, 51, 100, 55, 55, 98, 99, 101, 98, 51, 101, 49, 50, 56, 100, 100, 49, 50, 49, 55, 53, 51, 32, 99, 117, 116, 32, 97, 116, 32, 101, 115, 99, 104, 101, 97, 116, 47, 101, 115, 99, 104, 101, 97, 116, 108, 97, 119, 50, 51, 46, 70, 114, 101, 97, 100, 83, 112, 97, 110, 115, 32, 101, 115, 99, 104, 101, 97, 116, 47, 101, 115, 99, 104, 101, 97, 116, 108, 97, 119, 50, 51, 46, 70, 114, 101, 97, 100, 79, 110, 99, 101, 32, 101, 115, 99, 104, 101, 97, 116, 47, 101, 115, 99, 104, 101, 97, 116, 108, 97, 119, 50, 51, 46, 70, 114, 101, 97, 100, 80, 97, 114, 116, 115, 32, 101, 115, 99, 104, 101, 97, 116, 47, 101, 115, 99, 104, 101, 97, 116, 108, 97, 119, 50, 50, 46, 70, 109, 97, 112, 79, 119, 110, 115, 32, 101, 115, 99, 104, 101, 97, 116, 47, 101, 115, 99, 104, 101, 97, 116, 108, 97, 119, 50, 49, 46, 86, 105, 101, 119, 82, 101, 97, 100, 115, 32, 101, 115, 99, 104, 101, 97, 116, 47, 101, 115, 99, 104, 101, 97, 116, 108, 97, 119, 50, 49, 46, 86, 105, 101, 119, 66, 97, 99, 107, 32, 101, 115, 99, 104, 101, 97, 116, 47, 101, 115, 99, 104, 101, 97, 116, 108, 97, 119, 50, 49, 46, 86, 105, 101, 119, 79, 110, 32, 101, 115, 99, 104, 101, 97, 116, 47, 101, 115, 99, 104, 101, 97, 116, 108, 97, 119, 50, 50, 46, 70, 109, 97, 112, 68, 105, 114, 115, 32, 101, 115, 99, 104, 101, 97, 116, 47, 101, 115, 99, 104, 101, 97, 116, 108, 97, 119, 50, 52, 46, 68, 114, 101, 97, 100, 79, 110, 99, 101] : List Nat).map Char.ofNat)
set_option maxRecDepth 100000
theorem own_ok : ownKnob Try.prog.godebug = none := by kernel_rfl
theorem laid_ok : laidOutB Try.prog = true := by kernel_rfl
theorem start_eq : Try.prog.initOrder = String.ofList startWords := by kernel_rfl
theorem start_list : Try.prog.initOrder.toList = startWords := by rw [start_eq, String.toList_ofList]
def startRest : List (List Char) := (([[99, 117, 116], [97, 116], [101, 115, 99, 104, 101, 97, 116, 47, 101, 115, 99, 104, 101, 97, 116, 108, 97, 119, 50, 51, 46, 70, 114, 101, 97, 100, 83, 112, 97, 110, 115], [101, 115, 99, 104, 101, 97, 116, 47, 101, 115, 99, 104, 101, 97, 116, 108, 97, 119, 50, 51, 46, 70, 114, 101, 97, 100, 79, 110, 99, 101], [101, 115, 99, 104, 101, 97, 116, 47, 101, 115, 99, 104, 101, 97, 116, 108, 97, 119, 50, 51, 46, 70, 114, 101, 97, 100, 80, 97, 114, 116, 115], [101, 115, 99, 104, 101, 97, 116, 47, 101, 115, 99, 104, 101, 97, 116, 108, 97, 119, 50, 50, 46, 70, 109, 97, 112, 79, 119, 110, 115], [101, 115, 99, 104, 101, 97, 116, 47, 101, 115, 99, 104, 101, 97, 116, 108, 97, 119, 50, 49, 46, 86, 105, 101, 119, 82, 101, 97, 100, 115], [101, 115, 99, 104, 101, 97, 116, 47, 101, 115, 99, 104, 101, 97, 116, 108, 97, 119, 50, 49, 46, 86, 105, 101, 119, 66, 97, 99, 107], [101, 115, 99, 104, 101, 97, 116, 47, 101, 115, 99, 104, 101, 97, 116, 108, 97, 119, 50, 49, 46, 86, 105, 101, 119, 79, 110], [101, 115, 99, 104, 101, 97, 116, 47, 101, 115, 99, 104, 101, 97, 116, 108, 97, 119, 50, 50, 46, 70, 109, 97, 112, 68, 105, 114, 115], [101, 115, 99, 104, 101, 97, 116, 47, 101, 115, 99, 104, 101, 97, 116, 108, 97, 119, 50, 52, 46, 68, 114, 101, 97, 100, 79, 110, 99, 101]] : List (List Nat)).map (fun l => l.map Char.ofNat))
theorem split_eq : wordsSigns startWords = (([104, 97, 114, 110, 101, 115, 115] : List Nat).map Char.ofNat) :: (([102, 53, 49, 98, 54, 51, 100, 100, 54, 97, 57, 49, 52, 55, 49, 97, 52, 49, 55, 51, 48, 53, 98, 100, 50, 53, 100, 51, 52, 98, 48, 51, 50, 50, 54, 51, 53, 54, 57, 49, 49, 101, 54, 51, 100, 55, 55, 98, 99, 101, 98, 51, 101, 49, 50, 56, 100, 100, 49, 50, 49, 55, 53, 51] : List Nat).map Char.ofNat) :: startRest := by kernel_rfl
theorem sum_ok : isSumSigns ((([102, 53, 49, 98, 54, 51, 100, 100, 54, 97, 57, 49, 52, 55, 49, 97, 52, 49, 55, 51, 48, 53, 98, 100, 50, 53, 100, 51, 52, 98, 48, 51, 50, 50, 54, 51, 53, 54, 57, 49, 49, 101, 54, 51, 100, 55, 55, 98, 99, 101, 98, 51, 101, 49, 50, 56, 100, 100, 49, 50, 49, 55, 53, 51] : List Nat).map Char.ofNat)) = true := by decide +kernel
theorem harness_ok : ((([104, 97, 114, 110, 101, 115, 115] : List Nat).map Char.ofNat) == "harness".toList) = true := by decide +kernel
theorem behind_gen (h s : List Char) (r : List (List Char)) (h1 : (h == "harness".toList) = true) (h2 : isSumSigns s = true) : behindMainWord (h :: s :: r) = r := by
  unfold behindMainWord
  simp only [h1, h2, Bool.true_or, Bool.true_and, if_true]
theorem behind_eq : behindMainWord (wordsSigns startWords) = startRest := by rw [split_eq]; exact behind_gen _ _ _ harness_ok sum_ok
theorem start_words : behindMainWord (wordsSigns Try.prog.initOrder.toList) = startRest := by rw [start_list]; exact behind_eq
def startTail : List (List Char) := startRest.drop 1
theorem rest_eq : startRest = "cut".toList :: startTail := by decide +kernel
theorem make_gen {P : Program} {rest : List (List Char)} (h : behindMainWord (wordsSigns P.initOrder.toList) = "cut".toList :: rest) : P.make = some .cut := by
  have e1 : ("cut".toList == "gc".toList) = false := by decide +kernel
  have e2 : ("cut".toList == "spec".toList) = false := by decide +kernel
  have e3 : ("cut".toList == "cut".toList) = true := by decide +kernel
  unfold Program.make
  rw [h]
  simp only [e1, e2, e3, Bool.or_self, Bool.true_or, Bool.false_eq_true, if_false, if_true]
theorem make_ok : Try.prog.make = some .cut := make_gen (start_words.trans rest_eq)
theorem strip_none {w : List Char} {ws : List (List Char)} : ∀ os : List String, (os.all fun o => !(w == o.toList)) = true → stripLifts os (w :: ws) = ([], w :: ws)
  | [], _ => rfl
  | o :: os, h => by
    simp only [List.all_cons, Bool.and_eq_true, Bool.not_eq_true'] at h
    unfold stripLifts
    rw [h.1, if_neg (by simp)]
    exact strip_none os h.2
theorem strip_cut (rest : List (List Char)) : stripLifts liftWords ("cut".toList :: rest) = ([], "cut".toList :: rest) := strip_none _ (by decide +kernel)
theorem later_ok : Try.prog.laysLater = false := by kernel_rfl
theorem reflect_ok : Try.prog.bearsReflect = false := by kernel_rfl
theorem door_ok : Try.prog.doorFits [] = true := by kernel_rfl
theorem enter_gen {P : Program} {rest : List (List Char)} (h : behindMainWord (wordsSigns P.initOrder.toList) = "cut".toList :: rest) (h1 : P.laysLater = false) (h2 : P.bearsReflect = false) (h3 : P.doorFits [] = true) : P.mayEnter = true := by
  unfold Program.mayEnter
  rw [h]
  simp only [strip_cut, h1, h2, h3]
  simp
theorem mayEnter_ok : Try.prog.mayEnter = true := enter_gen (start_words.trans rest_eq) later_ok reflect_ok door_ok
theorem lifts_gen {P : Program} {rest : List (List Char)} (h : behindMainWord (wordsSigns P.initOrder.toList) = "cut".toList :: rest) : P.liftsFinal = false := by
  unfold Program.liftsFinal Program.headLifts
  rw [h]
  simp only [strip_cut]
  simp
theorem lifts_ok : Try.prog.liftsFinal = false := lifts_gen (start_words.trans rest_eq)
end Go.Proofs.Ytdgggnlbdoiloaa
end
