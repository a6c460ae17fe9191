/- The plain law of indexes: what is fixed is fixed as it is. -/
import Derived.Test.YtbbkpmbepljhkaaSIndexTurn
set_option linter.all false
namespace Go.Proofs.Ytbbkpmbepljhkaa
open Go Go.Esc

theorem toX_fixL {d : Int} {t : List Int} {n i : Nat} (hn : n ≤ 32) : toX (fixL d t n) i = if i < n then fixG d t i else 0 := by
  unfold toX fixL
  rw [List.getD_eq_getElem?_getD]
  by_cases c : i < n
  · rw [if_pos c, List.getElem?_append_left (by simpa using c), List.getElem?_map, List.getElem?_range c]; rfl
  · rw [if_neg c, List.getElem?_append_right (by simp; omega)]
    unfold zI
    rw [List.getElem?_replicate]
    split <;> rfl

theorem fixL_ext {d : Int} {t u : List Int} {n : Nat} (hn : n ≤ 32) (h : ∀ i, i < n → fixG d t i = toX u i) (hu : u.length = 32) (h0 : ∀ i, n ≤ i → toX u i = 0) : fixL d t n = u := by
  apply List.ext_getElem?
  intro i
  by_cases c : i < 32
  · have h1 := fixL_length (d := d) (t := t) hn
    rw [toX_get (by omega), toX_get (by omega), toX_fixL hn]
    by_cases c2 : i < n
    · rw [if_pos c2, h i c2]
    · rw [if_neg c2, h0 i (by omega)]
  · have h1 := fixL_length (d := d) (t := t) hn
    rw [List.getElem?_eq_none (by omega), List.getElem?_eq_none (by omega)]

theorem allX_iff {n : Nat} {t : List Int} {p b : Nat} : allX n t p b = true ↔ toX t p ≠ 0 ∧ ∀ k, k < n → k % 2 ^ b = p % 2 ^ b → toX t k = toX t p := by
  unfold allX wholeX placesX
  simp only [Bool.and_eq_true, Bool.not_eq_true', decide_eq_false_iff_not, List.all_eq_true, List.mem_filter, List.mem_range, beq_iff_eq, decide_eq_true_eq]
  constructor
  · rintro ⟨h1, h2⟩
    exact ⟨h1, fun k hk hm => h2 k ⟨hk, hm⟩⟩
  · rintro ⟨h1, h2⟩
    exact ⟨h1, fun k hk => h2 k hk.1 hk.2⟩

theorem bitsFrom_spec {n : Nat} {t : List Int} {p : Nat} : ∀ e b, b ≤ bitsFrom n t p b e ∧ bitsFrom n t p b e ≤ b + e ∧ (∀ c, b ≤ c → c < bitsFrom n t p b e → allX n t p c = false) ∧ (bitsFrom n t p b e < b + e → allX n t p (bitsFrom n t p b e) = true)
  | 0, b => ⟨Nat.le_refl _, Nat.le_refl _, fun c h1 h2 => by unfold bitsFrom at h2; omega, fun h => by unfold bitsFrom at h; omega⟩
  | e + 1, b => by
    unfold bitsFrom
    cases ca : allX n t p b with
    | true => exact ⟨Nat.le_refl _, by rw [cond_true]; omega, fun c h1 h2 => by rw [cond_true] at h2; omega, fun _ => by rw [cond_true]; exact ca⟩
    | false =>
      obtain ⟨h1, h2, h3, h4⟩ := bitsFrom_spec (n := n) (t := t) (p := p) e (b + 1)
      rw [cond_false]
      refine ⟨by omega, by omega, fun c k1 k2 => ?_, fun k => h4 (by omega)⟩
      by_cases e1 : c = b
      · subst e1; exact ca
      · exact h3 c (by omega) k2

theorem bitsFrom_unique {n : Nat} {t : List Int} {p b e x : Nat} (h1 : b ≤ x) (h2 : x ≤ b + e) (h3 : ∀ c, b ≤ c → c < x → allX n t p c = false) (h4 : x < b + e → allX n t p x = true) : bitsFrom n t p b e = x := by
  obtain ⟨k1, k2, k3, k4⟩ := bitsFrom_spec (n := n) (t := t) (p := p) e b
  rcases Nat.lt_trichotomy (bitsFrom n t p b e) x with h | h | h
  · have := h3 _ k1 h
    rw [k4 (by omega)] at this; cases this
  · exact h
  · have := k3 x h1 h
    rw [h4 (by omega)] at this; cases this

/-- The number of bits of a place's class. -/
theorem bitsX_le {d : Int} {t : List Int} {p : Nat} : bitsX d t p ≤ depX d := by
  have := (bitsFrom_spec (n := manyX d) (t := t) (p := p) (depX d) 0).2.1
  unfold bitsX; omega
theorem bitsX_least {d : Int} {t : List Int} {p c : Nat} (h : c < bitsX d t p) : allX (manyX d) t p c = false := (bitsFrom_spec (n := manyX d) (t := t) (p := p) (depX d) 0).2.2.1 c (Nat.zero_le _) h
theorem bitsX_all {d : Int} {t : List Int} {p : Nat} (h : bitsX d t p < depX d) : allX (manyX d) t p (bitsX d t p) = true := (bitsFrom_spec (n := manyX d) (t := t) (p := p) (depX d) 0).2.2.2 (by unfold bitsX at h; omega)
theorem bitsX_unique {d : Int} {t : List Int} {p x : Nat} (h2 : x ≤ depX d) (h3 : ∀ c, c < x → allX (manyX d) t p c = false) (h4 : x < depX d → allX (manyX d) t p x = true) : bitsX d t p = x :=
  bitsFrom_unique (Nat.zero_le _) (by omega) (fun c _ => h3 c) (fun h => h4 (by omega))

/-- All places of a place's class have its block. -/
theorem cls_same {d : Int} {t : List Int} {p k : Nat} (hp : p < manyX d) (hk : k < manyX d) (hm : k % 2 ^ bitsX d t p = p % 2 ^ bitsX d t p) : toX t k = toX t p := by
  by_cases c : bitsX d t p < depX d
  · exact (allX_iff.1 (bitsX_all c)).2 k hk hm
  · have e : bitsX d t p = depX d := by have := bitsX_le (d := d) (t := t) (p := p); omega
    rw [e] at hm
    unfold manyX at hp hk
    rw [Nat.mod_eq_of_lt hp, Nat.mod_eq_of_lt hk] at hm
    rw [hm]

theorem mod_pow_of {a b c x : Nat} (h : c ≤ x) (hm : a % 2 ^ x = b % 2 ^ x) : a % 2 ^ c = b % 2 ^ c := by
  have hd : 2 ^ c ∣ 2 ^ x := Nat.pow_dvd_pow 2 h
  rw [← Nat.mod_mod_of_dvd a hd, ← Nat.mod_mod_of_dvd b hd, hm]

theorem allX_cls {n : Nat} {t : List Int} {p k c : Nat} (hs : toX t k = toX t p) (hm : k % 2 ^ c = p % 2 ^ c) : allX n t k c = allX n t p c := by
  rw [Bool.eq_iff_iff, allX_iff, allX_iff, hs, hm]

theorem bits_cls {d : Int} {t : List Int} {p k : Nat} (hp : p < manyX d) (hk : k < manyX d) (hm : k % 2 ^ bitsX d t p = p % 2 ^ bitsX d t p) : bitsX d t k = bitsX d t p := by
  have hs := cls_same hp hk hm
  refine bitsX_unique bitsX_le (fun c hc => ?_) (fun h => ?_)
  · rw [allX_cls hs (mod_pow_of (by omega) hm)]; exact bitsX_least hc
  · rw [allX_cls hs hm]; exact bitsX_all h

theorem filt_le {α : Type} {p r : α → Bool} : ∀ {l : List α}, (∀ x ∈ l, p x = true → r x = true) → (l.filter p).length ≤ (l.filter r).length
  | [], _ => by simp
  | y :: l, h => by
    have h1 := filt_le (l := l) fun x hx => h x (List.mem_cons_of_mem _ hx)
    have h2 := h y (List.mem_cons_self ..)
    simp only [List.filter_cons]
    cases hy : p y with
    | true => rw [h2 hy]; simpa using h1
    | false => cases r y <;> simp <;> omega
theorem filt_eq {α : Type} {p r : α → Bool} : ∀ {l : List α}, (∀ x ∈ l, p x = true → r x = true) → (l.filter p).length = (l.filter r).length → ∀ x ∈ l, r x = p x
  | [], _, _, x, hx => by cases hx
  | y :: l, h, he, x, hx => by
    have h' : ∀ x ∈ l, p x = true → r x = true := fun x hx => h x (List.mem_cons_of_mem _ hx)
    have h1 := filt_le h'
    have h2 := h y (List.mem_cons_self ..)
    simp only [List.filter_cons] at he
    have key : r y = p y ∧ (l.filter p).length = (l.filter r).length := by
      cases hy : p y with
      | true =>
        rw [h2 hy]
        rw [hy, h2 hy] at he
        exact ⟨rfl, by simpa using he⟩
      | false =>
        rw [hy] at he
        cases hr : r y with
        | true => rw [hr] at he; simp at he; omega
        | false => rw [hr] at he; exact ⟨rfl, by simpa using he⟩
    rcases List.mem_cons.1 hx with e | hx
    · subst e; exact key.1
    · exact filt_eq h' key.2 x hx

/-- A class is a whole one: all places of its block are of it. -/
theorem wholX_iff {d : Int} {t : List Int} {p : Nat} (hp : p < manyX d) : wholX d t p = true ↔ ∀ k, k < manyX d → toX t k = toX t p → k % 2 ^ bitsX d t p = p % 2 ^ bitsX d t p := by
  unfold wholX
  rw [decide_eq_true_eq]
  unfold placesX countX
  constructor
  · intro he k hk hs
    have := filt_eq (p := fun k => k % 2 ^ bitsX d t p == p % 2 ^ bitsX d t p) (r := fun k => decide (toX t k = toX t p)) (l := List.range (manyX d)) (fun x hx h => by
      rw [decide_eq_true_eq]; exact cls_same hp (List.mem_range.1 hx) (by simpa using h)) he k (List.mem_range.2 hk)
    rw [decide_eq_true hs] at this
    simpa using this.symm
  · intro h
    congr 1
    refine List.filter_congr fun k hk => ?_
    have hk := List.mem_range.1 hk
    rw [Bool.eq_iff_iff, decide_eq_true_eq, beq_iff_eq]
    exact ⟨fun hm => cls_same hp hk hm, fun hs => h k hk hs⟩

theorem firstX_iff {t : List Int} {i : Nat} : firstX t i = true ↔ ∀ k, k < i → toX t k ≠ toX t i := by
  unfold firstX
  simp only [List.all_eq_true, List.mem_range, Bool.not_eq_true', decide_eq_false_iff_not]

theorem keepX_iff {d : Int} {t : List Int} {i : Nat} : keepX d t i = true ↔ toX t i ≠ 0 ∧ finI (toX t i) = true ∧ (firstX t i = true ∨ wholX d t i = true) := by
  unfold keepX
  simp only [Bool.and_eq_true, Bool.not_eq_true', decide_eq_false_iff_not, Bool.or_eq_true]

/-- What is kept is kept again. -/
theorem keep_again {d : Int} {t : List Int} {i : Nat} (hi : i < manyX d) (hk : keepX d t i = true) : keepX d (fixL d t (manyX d)) i = true := by
  have hm := manyX_le d
  have hg : ∀ k, toX (fixL d t (manyX d)) k = if k < manyX d then fixG d t k else 0 := fun k => toX_fixL hm
  have hgi : toX (fixL d t (manyX d)) i = toX t i := by rw [hg, if_pos hi]; unfold fixG; rw [hk]; rfl
  obtain ⟨h1, h2, h3⟩ := keepX_iff.1 hk
  have hsub : ∀ k, toX (fixL d t (manyX d)) k = toX t i → k < manyX d ∧ toX t k = toX t i := by
    intro k he
    rw [hg] at he
    by_cases c : k < manyX d
    · rw [if_pos c] at he
      unfold fixG at he
      cases ck : keepX d t k with
      | true => rw [ck] at he; exact ⟨c, he⟩
      | false => rw [ck] at he; exact absurd he.symm h1
    · rw [if_neg c] at he; exact absurd he.symm h1
  rw [keepX_iff, hgi]
  refine ⟨h1, h2, ?_⟩
  rcases h3 with h3 | h3
  · left
    rw [firstX_iff, hgi]
    intro k hki he
    exact firstX_iff.1 h3 k hki (hsub k he).2
  · right
    have hw := (wholX_iff hi).1 h3
    -- all places of the block are kept
    have hsame : ∀ k, k < manyX d → (toX (fixL d t (manyX d)) k = toX t i ↔ toX t k = toX t i) := by
      intro k hkm
      refine ⟨fun he => (hsub k he).2, fun he => ?_⟩
      have hcl := hw k hkm he
      have hb := bits_cls hi hkm hcl
      have : keepX d t k = true := by
        rw [keepX_iff, he]
        refine ⟨h1, h2, .inr ((wholX_iff hkm).2 fun j hj hs => ?_)⟩
        rw [hb, hcl]
        exact hw j hj (hs.trans he)
      rw [hg, if_pos hkm]
      unfold fixG
      rw [this]; exact he
    have hall : ∀ c, allX (manyX d) (fixL d t (manyX d)) i c = allX (manyX d) t i c := by
      intro c
      rw [Bool.eq_iff_iff, allX_iff, allX_iff, hgi]
      exact ⟨fun h => ⟨h.1, fun k k1 k2 => (hsame k k1).1 (h.2 k k1 k2)⟩, fun h => ⟨h.1, fun k k1 k2 => (hsame k k1).2 (h.2 k k1 k2)⟩⟩
    have hb : bitsX d (fixL d t (manyX d)) i = bitsX d t i :=
      bitsX_unique bitsX_le (fun c hc => by rw [hall]; exact bitsX_least hc) (fun h => by rw [hall]; exact bitsX_all h)
    rw [wholX_iff hi, hb, hgi]
    intro k hkm he
    exact hw k hkm ((hsame k hkm).1 he)

theorem fix_again {d : Int} {t : List Int} (h : 0 ≤ d ∧ d ≤ 5) : fixX d (fixL d t (manyX d)) = d :: fixL d t (manyX d) := by
  have hm := manyX_le d
  unfold fixX
  rw [if_pos h]
  congr 1
  refine fixL_ext hm (fun i hi => ?_) (fixL_length hm) (fun i hi => by rw [toX_fixL hm, if_neg (by omega)])
  cases ck : keepX d t i with
  | true =>
    have := keep_again hi ck
    unfold fixG
    rw [this]; rfl
  | false =>
    have e : toX (fixL d t (manyX d)) i = 0 := by rw [toX_fixL hm, if_pos hi]; unfold fixG; rw [ck]; rfl
    unfold fixG keepX
    rw [e]; rfl

/-- Of a fixed index: its depth and its places. -/
theorem fix_parts (d : Int) (t : List Int) : ∃ e u, fixX d t = e :: u ∧ u.length = 32 ∧ fixX e u = e :: u ∧ 0 ≤ e ∧ e ≤ 5 ∧ ∀ i, toX u i = 0 ∨ toX u i = toX t i := by
  have hm := manyX_le d
  by_cases h : 0 ≤ d ∧ d ≤ 5
  · refine ⟨d, fixL d t (manyX d), by unfold fixX; rw [if_pos h], fixL_length hm, fix_again h, h.1, h.2, fun i => ?_⟩
    rw [toX_fixL hm]
    by_cases c : i < manyX d
    · rw [if_pos c]; unfold fixG; cases keepX d t i
      · exact .inl rfl
      · exact .inr rfl
    · rw [if_neg c]; exact .inl rfl
  · refine ⟨0, zI 32, by unfold fixX; rw [if_neg h], zI_length, by decide +kernel, by omega, by omega, fun i => .inl ?_⟩
    unfold toX zI
    rw [List.getD_eq_getElem?_getD, List.getElem?_replicate]
    split <;> rfl

theorem right_fixed {d : Int} {t : List Int} (h0 : 0 ≤ d) (h5 : d ≤ 5) (h : fixX d t = d :: t) : rightX d t = true := by
  unfold rightX
  rw [decide_eq_true h0, decide_eq_true h5, decide_eq_true h]; rfl
theorem right_iff {d : Int} {t : List Int} : rightX d t = true ↔ 0 ≤ d ∧ d ≤ 5 ∧ fixX d t = d :: t := by
  unfold rightX
  simp only [Bool.and_eq_true, decide_eq_true_eq]

end Go.Proofs.Ytbbkpmbepljhkaa
