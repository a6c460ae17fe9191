/- The plain law of indexes: a class is parted in two. -/
import Derived.Test.YtbbkpmbepljhkaaSIndexPlain
set_option linter.all false
namespace Go.Proofs.Ytbbkpmbepljhkaa
open Go Go.Esc

theorem bitsX_le_of {d : Int} {t : List Int} {i c : Nat} (h : allX (manyX d) t i c = true) : bitsX d t i ≤ c := by
  false_or_by_contra
  have := bitsX_least (d := d) (t := t) (p := i) (c := c) (by omega)
  rw [h] at this; cases this

theorem whole_of {d : Int} {t : List Int} {i c : Nat} (hi : i < manyX d) (hc : allX (manyX d) t i c = true ∨ depX d ≤ c) (h : ∀ k, k < manyX d → toX t k = toX t i → k % 2 ^ c = i % 2 ^ c) : wholX d t i = true := by
  have hb : bitsX d t i ≤ c := by
    rcases hc with hc | hc
    · exact bitsX_le_of hc
    · exact Nat.le_trans bitsX_le hc
  rw [wholX_iff hi]
  exact fun k hk hs => mod_pow_of hb (h k hk hs)

/-- Of a right index: each block has a class. -/
structure Fair (d : Int) (t : List Int) : Prop where
  len : t.length = 32
  fine : ∀ i, i < manyX d → toX t i ≠ 0 → finI (toX t i) = true
  whole : ∀ i, i < manyX d → toX t i ≠ 0 → wholX d t i = true
  beyond : ∀ i, manyX d ≤ i → toX t i = 0

theorem fair_of {d : Int} {t : List Int} (ht : t.length = 32) (hr : rightX d t = true) : Fair d t := by
  obtain ⟨h0, h5, hf⟩ := right_iff.1 hr
  have hm := manyX_le d
  unfold fixX at hf
  rw [if_pos ⟨h0, h5⟩] at hf
  have hf : fixL d t (manyX d) = t := by simpa using hf
  have hk : ∀ i, i < manyX d → toX t i ≠ 0 → keepX d t i = true := by
    intro i hi hz
    have := toX_fixL (d := d) (t := t) (i := i) hm
    rw [hf, if_pos hi] at this
    unfold fixG at this
    cases c : keepX d t i with
    | true => rfl
    | false => rw [c] at this; exact absurd this hz
  have later : ∀ i j, i < j → j < manyX d → toX t j = toX t i → toX t j ≠ 0 → wholX d t j = true := by
    intro i j hij hj hs hz
    obtain ⟨_, _, h3⟩ := keepX_iff.1 (hk j hj hz)
    rcases h3 with h3 | h3
    · exact absurd hs.symm (firstX_iff.1 h3 i hij)
    · exact h3
  refine ⟨ht, fun i hi hz => (keepX_iff.1 (hk i hi hz)).2.1, fun i hi hz => ?_, fun i hi => ?_⟩
  · obtain ⟨_, _, h3⟩ := keepX_iff.1 (hk i hi hz)
    rcases h3 with h3 | h3
    · rw [wholX_iff hi]
      intro k hkm hs
      rcases Nat.lt_trichotomy k i with h | h | h
      · exact absurd hs (firstX_iff.1 h3 k h)
      · rw [h]
      · have hw := (wholX_iff hkm).1 (later i k h hkm hs (by rw [hs]; exact hz)) i hi hs.symm
        have hb := bits_cls hkm hi hw
        rw [hb]; exact hw.symm
    · exact h3
  · have := toX_fixL (d := d) (t := t) (i := i) hm
    rw [hf, if_neg (by omega)] at this
    exact this

theorem right_of {d : Int} {t : List Int} (h0 : 0 ≤ d) (h5 : d ≤ 5) (hf : Fair d t) : rightX d t = true := by
  refine right_fixed h0 h5 ?_
  unfold fixX
  rw [if_pos ⟨h0, h5⟩]
  congr 1
  refine fixL_ext (manyX_le d) (fun i hi => ?_) hf.len hf.beyond
  by_cases hz : toX t i = 0
  · unfold fixG; rw [hz]; cases keepX d t i <;> rfl
  · have : keepX d t i = true := keepX_iff.2 ⟨hz, hf.fine i hi hz, .inr (hf.whole i hi hz)⟩
    unfold fixG; rw [this]; rfl

theorem toX_set {t : List Int} {k i : Nat} {v : Int} : toX (t.set k v) i = if k = i ∧ i < t.length then v else toX t i := by
  unfold toX
  rw [List.getD_eq_getElem?_getD, List.getD_eq_getElem?_getD, List.getElem?_set]
  by_cases c : k = i
  · subst c
    by_cases c2 : k < t.length
    · simp [c2]
    · simp [c2]
  · simp [c]
theorem toX_setX {v : Int} {i : Nat} : ∀ (l : List Nat) (t : List Int), (∀ k ∈ l, k < t.length) → toX (setX t l v) i = if i ∈ l then v else toX t i
  | [], t, _ => by simp [setX]
  | k :: l, t, h => by
    have h1 := toX_setX (v := v) (i := i) l (t.set k v) (fun j hj => by rw [List.length_set]; exact h j (List.mem_cons_of_mem _ hj))
    unfold setX at h1 ⊢
    rw [List.foldl_cons, h1, toX_set]
    have hk := h k (List.mem_cons_self ..)
    by_cases c : i ∈ l
    · rw [if_pos c, if_pos (List.mem_cons_of_mem _ c)]
    · by_cases c2 : k = i
      · subst c2
        rw [if_neg c, if_pos ⟨rfl, hk⟩, if_pos (List.mem_cons_self ..)]
      · rw [if_neg c, if_neg (fun h => c2 h.1), if_neg (fun h => by rcases List.mem_cons.1 h with h | h; exact c2 h.symm; exact c h)]
theorem mem_placesX {n p b k : Nat} : k ∈ placesX n p b ↔ k < n ∧ k % 2 ^ b = p % 2 ^ b := by
  unfold placesX
  simp only [List.mem_filter, List.mem_range, beq_iff_eq]

/-- With a half of a class another one's. -/
def halfX (d : Int) (t : List Int) (p : Nat) (no : Int) : List Int := setX t (placesX (manyX d) p (bitsX d t p + 1)) no
theorem toX_half {d : Int} {t : List Int} {p i : Nat} {no : Int} (ht : t.length = 32) : toX (halfX d t p no) i = if i < manyX d ∧ i % 2 ^ (bitsX d t p + 1) = p % 2 ^ (bitsX d t p + 1) then no else toX t i := by
  unfold halfX
  rw [toX_setX _ _ (fun k hk => by rw [ht]; exact placesX_lt (manyX_le d) k hk)]
  by_cases c : i ∈ placesX (manyX d) p (bitsX d t p + 1)
  · rw [if_pos c, if_pos (mem_placesX.1 c)]
  · rw [if_neg c, if_neg (fun h => c (mem_placesX.2 h))]

/-- Of two that have the lower bits, but not the next one. -/
theorem next_bit {i k p b : Nat} (hi : i % 2 ^ b = p % 2 ^ b) (hk : k % 2 ^ b = p % 2 ^ b) (hi2 : i % 2 ^ (b + 1) ≠ p % 2 ^ (b + 1)) (hk2 : k % 2 ^ (b + 1) ≠ p % 2 ^ (b + 1)) : k % 2 ^ (b + 1) = i % 2 ^ (b + 1) := by
  have h0 : 0 < 2 ^ b := Nat.pow_pos (by omega)
  have hs : ∀ x : Nat, x % 2 ^ (b + 1) = x % 2 ^ b + 2 ^ b * (x / 2 ^ b % 2) := fun x => by rw [Nat.pow_succ, Nat.mod_mul]
  rw [hs, hs] at hi2 hk2 ⊢
  rw [hi] at hi2 ⊢
  rw [hk] at hk2 ⊢
  have a1 := Nat.mod_lt (i / 2 ^ b) (show 0 < 2 by omega)
  have a2 := Nat.mod_lt (k / 2 ^ b) (show 0 < 2 by omega)
  have a3 := Nat.mod_lt (p / 2 ^ b) (show 0 < 2 by omega)
  have e1 : i / 2 ^ b % 2 ≠ p / 2 ^ b % 2 := fun e => hi2 (by rw [e])
  have e2 : k / 2 ^ b % 2 ≠ p / 2 ^ b % 2 := fun e => hk2 (by rw [e])
  have e3 : k / 2 ^ b % 2 = i / 2 ^ b % 2 := by omega
  rw [e3]

theorem half_fair {d : Int} {t : List Int} {p : Nat} {no : Int} (hf : Fair d t) (hp : p < manyX d) (hz : toX t p ≠ 0) (hb : bitsX d t p < depX d) (hno : ∀ i, i < manyX d → toX t i ≠ no) (hn0 : no ≠ 0) (hfin : finI no = true) : Fair d (halfX d t p no) := by
  have ht := hf.len
  have hg := fun i => toX_half (d := d) (t := t) (p := p) (i := i) (no := no) ht
  have hwp := (wholX_iff hp).1 (hf.whole p hp hz)
  -- what is no new one is as it was
  have old : ∀ k, k < manyX d → toX (halfX d t p no) k ≠ no → toX (halfX d t p no) k = toX t k ∧ k % 2 ^ (bitsX d t p + 1) ≠ p % 2 ^ (bitsX d t p + 1) := by
    intro k hk h
    rw [hg] at h ⊢
    by_cases c : k < manyX d ∧ k % 2 ^ (bitsX d t p + 1) = p % 2 ^ (bitsX d t p + 1)
    · rw [if_pos c] at h; exact absurd rfl h
    · rw [if_neg c]; exact ⟨rfl, fun e => c ⟨hk, e⟩⟩
  refine ⟨by unfold halfX; rw [setX_length]; exact ht, fun i hi h => ?_, fun i hi h => ?_, fun i hi => ?_⟩
  · rw [hg] at h ⊢
    split
    · exact hfin
    · rename_i c
      rw [if_neg c] at h
      exact hf.fine i hi h
  · by_cases cn : toX (halfX d t p no) i = no
    · have hcls : ∀ k, k < manyX d → toX (halfX d t p no) k = no → k % 2 ^ (bitsX d t p + 1) = p % 2 ^ (bitsX d t p + 1) := by
        intro k hk he
        rw [hg] at he
        by_cases c : k < manyX d ∧ k % 2 ^ (bitsX d t p + 1) = p % 2 ^ (bitsX d t p + 1)
        · exact c.2
        · rw [if_neg c] at he; exact absurd he (hno k hk)
      have hi2 := hcls i hi cn
      refine whole_of (c := bitsX d t p + 1) hi (.inl (allX_iff.2 ⟨h, fun k hk hm => ?_⟩)) fun k hk hs => ?_
      · rw [cn, hg, if_pos ⟨hk, hm.trans hi2⟩]
      · rw [hcls k hk (hs.trans cn), hi2]
    · obtain ⟨e1, e2⟩ := old i hi cn
      by_cases cp : toX t i = toX t p
      · have hib := hwp i hi cp
        refine whole_of (c := bitsX d t p + 1) hi (.inl (allX_iff.2 ⟨h, fun k hk hm => ?_⟩)) fun k hk hs => ?_
        · have hk2 : k % 2 ^ (bitsX d t p + 1) ≠ p % 2 ^ (bitsX d t p + 1) := by rw [hm]; exact e2
          have hkb : k % 2 ^ bitsX d t p = p % 2 ^ bitsX d t p := (mod_pow_of (Nat.le_succ _) hm).trans hib
          rw [e1, hg, if_neg (fun c => hk2 c.2), cp]
          exact cls_same hp hk hkb
        · rw [e1] at hs
          obtain ⟨e3, e4⟩ := old k hk (by rw [hs]; exact fun e => hno i hi e)
          rw [e3] at hs
          exact next_bit hib (hwp k hk (hs.trans cp)) e2 e4
      · have hwi := (wholX_iff hi).1 (hf.whole i hi (by rw [← e1]; exact h))
        -- no place of this block is of the class that is parted
        have out : ∀ k, k < manyX d → toX t k = toX t i → k % 2 ^ (bitsX d t p + 1) ≠ p % 2 ^ (bitsX d t p + 1) := by
          intro k hk hs hm
          have := cls_same hp hk (mod_pow_of (Nat.le_succ _) hm)
          exact cp (hs.symm.trans this)
        have hc : allX (manyX d) (halfX d t p no) i (bitsX d t i) = true ∨ depX d ≤ bitsX d t i := by
          by_cases c : bitsX d t i < depX d
          · left
            refine allX_iff.2 ⟨h, fun k hk hm => ?_⟩
            have := cls_same hi hk hm
            rw [e1, hg, if_neg (fun c => out k hk this c.2)]; exact this
          · right; omega
        refine whole_of hi hc fun k hk hs => ?_
        rw [e1] at hs
        obtain ⟨e3, _⟩ := old k hk (by rw [hs]; exact fun e => hno i hi e)
        rw [e3] at hs
        exact hwi k hk hs
  · rw [hg, if_neg (fun c => by omega)]
    exact hf.beyond i hi

end Go.Proofs.Ytbbkpmbepljhkaa
