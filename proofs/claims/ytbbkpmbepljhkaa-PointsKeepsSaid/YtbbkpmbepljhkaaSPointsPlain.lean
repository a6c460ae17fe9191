/- The plain law of blocks of numbers: a block is its numbers. -/
import Derived.Test.YtbbkpmbepljhkaaSPoints
set_option linter.all false
namespace Go.Proofs.Ytbbkpmbepljhkaa
open Go Go.Esc

theorem le_inj : ∀ {l m : List UInt8}, l.length = m.length → le l = le m → l = m
  | [], [], _, _ => rfl
  | [], _ :: _, h, _ => by simp at h
  | _ :: _, [], h, _ => by simp at h
  | x :: r, y :: s, h, e => by
    have h1 := x.toNat_lt
    have h2 := y.toNat_lt
    simp only [le] at e
    have e1 : x.toNat = y.toNat := by omega
    have e2 : le r = le s := by omega
    rw [UInt8.toNat_inj.1 e1, le_inj (by simpa using h) e2]

theorem bytes_pt {b : List UInt8} {i : Nat} (hb : b.length = 256) (hi : i < 128) : bytesI 2 (ptP b i) = (b.drop (2 * i)).take 2 := by
  have hr := ptP_range b i
  refine le_inj (by simp; omega) ?_
  have h1 := le_bytesI 2 (ptP b i)
  have h2 : ptP b i % 256 ^ 2 = ptP b i := Int.emod_eq_of_lt hr.1 (by omega)
  rw [h2] at h1
  have h3 : ptP b i = ((le ((b.drop (2 * i)).take 2) : Nat) : Int) := rfl
  omega

def fldsP (b : List UInt8) : Nat → List Int
  | 0 => []
  | i + 1 => fldsP b i ++ [ptP b i]
theorem fldsP_length {b : List UInt8} : ∀ i, (fldsP b i).length = i
  | 0 => rfl
  | i + 1 => by rw [fldsP, List.length_append, fldsP_length i]; rfl
theorem fldsP_fine {b : List UInt8} : ∀ i, (fldsP b i).all fineP = true
  | 0 => rfl
  | i + 1 => by rw [fldsP, List.all_append, fldsP_fine i]; simp [fineP_pt]
theorem fldsP_bytes {b : List UInt8} (hb : b.length = 256) : ∀ i, i ≤ 128 → numsB (fldsP b i) = b.take (2 * i)
  | 0, _ => by simp [fldsP, numsB]
  | i + 1, h => by
    rw [fldsP, numsB_snoc, fldsP_bytes hb i (by omega), bytes_pt hb (by omega), show 2 * (i + 1) = 2 * i + 2 by omega, List.take_add]
theorem fldsP_all {b : List UInt8} (hb : b.length = 256) : padB 256 (numsB (fldsP b 128)) = b := by
  rw [fldsP_bytes hb 128 (by omega), List.take_of_length_le (by omega)]
  unfold padB
  rw [hb, Nat.sub_self, show zeros 0 = [] from rfl, List.append_nil]

theorem fldsP_map {b : List UInt8} : ∀ n, fldsP b n = (List.range n).map (ptP b)
  | 0 => rfl
  | n + 1 => by rw [fldsP, fldsP_map n, List.range_succ, List.map_append]; rfl
/-- Blocks that have the same numbers are one. -/
theorem blk_ext {b c : List UInt8} (hb : b.length = 256) (hc : c.length = 256) (h : ∀ i, i < 128 → ptP b i = ptP c i) : b = c := by
  rw [← fldsP_all hb, ← fldsP_all hc, fldsP_map, fldsP_map]
  congr 2
  exact List.map_congr_left fun i hi => h i (List.mem_range.1 hi)

theorem layB_cut_other {l xs : List UInt8} {a c n : Nat} (h : a + xs.length ≤ l.length) (hd : c + n ≤ a ∨ a + xs.length ≤ c) : ((layB l a xs).drop c).take n = (l.drop c).take n := by
  apply List.ext_getElem?
  intro j
  by_cases hj : j < n
  · rw [List.getElem?_take_of_lt hj, List.getElem?_take_of_lt hj, List.getElem?_drop, List.getElem?_drop, layB_get h, if_neg (by omega)]
  · rw [List.getElem?_eq_none (by simp; omega), List.getElem?_eq_none (by simp; omega)]

theorem withB_pt {b : List UInt8} {n : Nat} {v : Int} (hn : n < 128) : withB b ((2 * n : Nat) : Int) 2 v = layB b (2 * n) (bytesI 2 v) := by
  unfold withB
  rw [if_pos ⟨by omega, thereI_true.2 (by omega)⟩, Int.toNat_natCast]
  rfl
theorem ptP_lay {b : List UInt8} {n i : Nat} {v : Int} (hb : b.length = 256) (hn : n < 128) (hi : i < 128) : ptP (layB b (2 * n) (bytesI 2 v)) i = if i = n then v % 65536 else ptP b i := by
  unfold ptP fieldN
  by_cases c : i = n
  · subst c
    rw [if_pos rfl]
    have := layB_cut (l := b) (xs := bytesI 2 v) (a := 2 * i) (by simp; omega)
    rw [bytesI_length] at this
    rw [this, le_bytesI]; rfl
  · rw [if_neg c, layB_cut_other (by simp; omega) (by simp; omega)]

/-! ### What is kept -/

def killP (e : Int) (i : Nat) (x : Int) : Bool := !(decide (x < e) && !decide (i % 3 = 2))
def keptP (b : List UInt8) (e : Int) (i : Nat) : Int := bif killP e i (ptP b i) then 0 else ptP b i
def keepB (b : List UInt8) (e : Int) : Nat → List UInt8
  | 0 => b
  | n + 1 => bif !decide (ptP (keepB b e n) n = 0) && killP e n (ptP (keepB b e n) n) then layB (keepB b e n) (2 * n) (bytesI 2 0) else keepB b e n
theorem keepB_length {b : List UInt8} {e : Int} (hb : b.length = 256) : ∀ n, n ≤ 128 → (keepB b e n).length = 256
  | 0, _ => hb
  | n + 1, h => by
    have ih := keepB_length (e := e) hb n (by omega)
    unfold keepB
    cases !decide (ptP (keepB b e n) n = 0) && killP e n (ptP (keepB b e n) n)
    · exact ih
    · rw [cond_true, layB_length (by rw [ih, bytesI_length]; omega)]; exact ih
theorem keepB_pt {b : List UInt8} {e : Int} (hb : b.length = 256) : ∀ n, n ≤ 128 → ∀ i, i < 128 → ptP (keepB b e n) i = if i < n then keptP b e i else ptP b i
  | 0, _, i, _ => by rw [if_neg (by omega)]; rfl
  | n + 1, h, i, hi => by
    have hl := keepB_length (e := e) hb n (by omega)
    have ih := keepB_pt (e := e) hb n (by omega)
    have en := ih n (by omega)
    rw [if_neg (by omega)] at en
    unfold keepB
    rw [en]
    cases c : !decide (ptP b n = 0) && killP e n (ptP b n) with
    | true =>
      rw [cond_true, ptP_lay hl (by omega) hi]
      rw [Bool.and_eq_true] at c
      by_cases ci : i = n
      · subst ci
        rw [if_pos rfl, if_pos (by omega)]
        unfold keptP
        rw [c.2]; rfl
      · rw [if_neg ci, ih i hi]
        by_cases c2 : i < n
        · rw [if_pos c2, if_pos (by omega)]
        · rw [if_neg c2, if_neg (by omega)]
    | false =>
      rw [cond_false, ih i hi]
      by_cases ci : i = n
      · subst ci
        rw [if_neg (by omega), if_pos (by omega)]
        unfold keptP
        rw [Bool.and_eq_false_iff] at c
        rcases c with c | c
        · have : ptP b i = 0 := by simpa using c
          rw [this]; cases killP e i 0 <;> rfl
        · rw [c]; rfl
      · by_cases c2 : i < n
        · rw [if_pos c2, if_pos (by omega)]
        · rw [if_neg c2, if_neg (by omega)]
theorem keepB_all {b : List UInt8} {e : Int} {i : Nat} (hb : b.length = 256) (hi : i < 128) : ptP (keepB b e 128) i = keptP b e i := by
  rw [keepB_pt hb 128 (Nat.le_refl _) i hi, if_pos hi]
theorem kept_again {b : List UInt8} {e : Int} (hb : b.length = 256) : keepB (keepB b e 128) e 128 = keepB b e 128 := by
  have hl := keepB_length (e := e) hb 128 (Nat.le_refl _)
  refine blk_ext (keepB_length hl 128 (Nat.le_refl _)) hl fun i hi => ?_
  rw [keepB_all hl hi]
  unfold keptP
  rw [keepB_all hb hi]
  unfold keptP
  cases c : killP e i (ptP b i) with
  | true => rw [cond_true]; cases killP e i 0 <;> rfl
  | false => rw [cond_false, c]; rfl
theorem list_mem {b : List UInt8} {x : Int} : ∀ n, x ∈ listP b n → ∃ i, i < n ∧ ptP b i = x ∧ x ≠ 0
  | 0, h => by cases h
  | n + 1, h => by
    unfold listP at h
    rcases List.mem_append.1 h with h | h
    · obtain ⟨i, h1, h2⟩ := list_mem n h
      exact ⟨i, by omega, h2⟩
    · split at h
      · cases h
      · simp at h; subst h; exact ⟨n, by omega, rfl, by assumption⟩
theorem last_mono {b c : List UInt8} : ∀ n, (∀ i, i < n → ptP b i ≠ 0 → ptP c i ≠ 0) → lastP b n ≤ lastP c n
  | 0, _ => Nat.le_refl _
  | n + 1, h => by
    have ih := last_mono n fun i hi => h i (by omega)
    have hn := h n (by omega)
    have hl := lastP_le (b := b) n
    unfold lastP
    by_cases c1 : ptP b n = 0
    · rw [if_pos c1]
      split
      · exact ih
      · omega
    · rw [if_neg c1, if_neg (hn c1)]; exact Nat.le_refl _

end Go.Proofs.Ytbbkpmbepljhkaa
