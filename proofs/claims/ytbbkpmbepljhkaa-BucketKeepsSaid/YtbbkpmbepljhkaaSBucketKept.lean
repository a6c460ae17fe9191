/- The plain law of buckets: a fixed block is right, and has what it had. -/
import Derived.Test.YtbbkpmbepljhkaaSBucketPlain
import Derived.Test.YtbbkpmbepljhkaaSBucketList
set_option linter.all false
namespace Go.Proofs.Ytbbkpmbepljhkaa
open Go Go.Esc

/-- The entry of a slot, if it is kept. -/
def keptE (b : List UInt8) (k : Nat) : Option Ent := match readE b k with
  | some x => bif keepsK b k x then some x else none
  | none => none
theorem kept_read {b : List UInt8} {k : Nat} {x : Ent} (h : keptE b k = some x) : readE b k = some x ∧ keepsK b k x = true := by
  unfold keptE at h
  cases hr : readE b k with
  | none => rw [hr] at h; cases h
  | some y =>
    rw [hr] at h
    simp only at h
    cases ck : keepsK b k y with
    | true => rw [ck, cond_true] at h; cases h; exact ⟨rfl, ck⟩
    | false => rw [ck, cond_false] at h; cases h

def slotE (o : Option Ent) (d : List UInt8) : List UInt8 := match o with
  | some x => entB x.1 x.2
  | none => d

theorem fixK_kept {b : List UInt8} {k : Nat} {cur : List UInt8} : fixK b k cur = match keptE b k with
    | some x => layB cur (slotA k) (entB x.1 x.2)
    | none => cur := by
  unfold fixK keptE
  cases hr : readE b k with
  | none => rfl
  | some x =>
    simp only
    cases ck : keepsK b k x <;> rfl

theorem slot_fixF {b : List UInt8} {j : Nat} (hj : j < 7) : ∀ (e k : Nat) (cur : List UInt8), k + e ≤ 7 → cur.length = 256 → slotB (fixF b e k cur) j = if k ≤ j ∧ j < k + e then slotE (keptE b j) (slotB cur j) else slotB cur j
  | 0, k, cur, h, hc => by rw [fixF, if_neg (by omega)]
  | e + 1, k, cur, h, hc => by
    have hk := fixK_length (b := b) (k := k) (by omega) hc
    have hs : slotB (fixK b k cur) j = if j = k then slotE (keptE b j) (slotB cur j) else slotB cur j := by
      rw [fixK_kept]
      by_cases c : j = k
      · subst c
        rw [if_pos rfl]
        cases hx : keptE b j with
        | none => rfl
        | some x => show slotB (layB cur (slotA j) (entB x.1 x.2)) j = _; rw [slotB_lay hc entB_length hj hj, if_pos rfl]; rfl
      · rw [if_neg c]
        cases hx : keptE b k with
        | none => rfl
        | some x => show slotB (layB cur (slotA k) (entB x.1 x.2)) j = _; rw [slotB_lay hc entB_length (by omega) hj, if_neg c]
    rw [fixF, slot_fixF hj e (k + 1) _ (by omega) hk, hs]
    by_cases c : j = k
    · subst c
      rw [if_neg (by omega), if_pos rfl, if_pos ⟨by omega, by omega⟩]
    · rw [if_neg c]
      by_cases c2 : k + 1 ≤ j ∧ j < k + 1 + e
      · rw [if_pos c2, if_pos ⟨by omega, by omega⟩]
      · rw [if_neg c2, if_neg (by omega)]

theorem readE_may {b : List UInt8} {k : Nat} {x : Ent} (hx : readE b k = some x) : mayE x.1 x.2 = true := by
  unfold readE at hx
  cases hu : unpackB (nameB b k) with
  | none => rw [hu] at hx; cases hx
  | some s' =>
    rw [hu, Option.bind_some] at hx
    split at hx
    · rename_i hc
      cases hx
      unfold isE at hc
      rw [Bool.and_eq_true] at hc
      exact hc.1
    · cases hx

theorem read_fix {b : List UInt8} {j : Nat} (hj : j < 7) : readE (fixX b) j = keptE b j := by
  rw [readE_slot]
  unfold fixX
  rw [slot_fixF hj 7 0 hdB (by omega) hdB_length, if_pos ⟨by omega, by omega⟩, slot_head j hj]
  cases hx : keptE b j with
  | none => exact readS_zeros
  | some x => exact readS_ent (readE_may (kept_read hx).1)

theorem findFrom_min {b nm : List UInt8} : ∀ (e k : Nat) {x : Slt}, findFrom b nm e k = some x → readE b x.1 = some x.2 ∧ x.2.1 = nm ∧ k ≤ x.1 ∧ x.1 < k + e ∧ ∀ j y, k ≤ j → j < x.1 → readE b j = some y → y.1 ≠ nm
  | 0, k, x, h => by cases h
  | e + 1, k, x, h => by
    cases hx : readE b k with
    | none =>
      rw [findFrom_none hx] at h
      obtain ⟨h1, h2, h3, h4, h5⟩ := findFrom_min e (k + 1) h
      refine ⟨h1, h2, by omega, by omega, fun j y hj hj2 hy => ?_⟩
      by_cases c : j = k
      · subst c; rw [hx] at hy; cases hy
      · exact h5 j y (by omega) hj2 hy
    | some z =>
      obtain ⟨s, n⟩ := z
      by_cases c : s = nm
      · subst c
        rw [findFrom_hit hx] at h
        cases h
        exact ⟨hx, rfl, Nat.le_refl _, by show k < _; omega, fun j y hj hj2 => by have : j < k := hj2; omega⟩
      · rw [findFrom_miss hx c] at h
        obtain ⟨h1, h2, h3, h4, h5⟩ := findFrom_min e (k + 1) h
        refine ⟨h1, h2, by omega, by omega, fun j y hj hj2 hy => ?_⟩
        by_cases c2 : j = k
        · subst c2; rw [hx] at hy; cases hy; exact c
        · exact h5 j y (by omega) hj2 hy
theorem findFrom_no {b nm : List UInt8} : ∀ (e k : Nat), findFrom b nm e k = none → ∀ j y, k ≤ j → j < k + e → readE b j = some y → y.1 ≠ nm
  | 0, k, h, j, y, h1, h2, _ => by omega
  | e + 1, k, h, j, y, h1, h2, hy => by
    cases hx : readE b k with
    | none =>
      rw [findFrom_none hx] at h
      by_cases c : j = k
      · subst c; rw [hx] at hy; cases hy
      · exact findFrom_no e (k + 1) h j y (by omega) (by omega) hy
    | some z =>
      obtain ⟨s, n⟩ := z
      by_cases c : s = nm
      · subst c; rw [findFrom_hit hx] at h; cases h
      · rw [findFrom_miss hx c] at h
        by_cases c2 : j = k
        · subst c2; rw [hx] at hy; cases hy; exact c
        · exact findFrom_no e (k + 1) h j y (by omega) (by omega) hy
theorem findFrom_of_no {b nm : List UInt8} : ∀ (e k : Nat), (∀ j y, k ≤ j → j < k + e → readE b j = some y → y.1 ≠ nm) → findFrom b nm e k = none
  | 0, k, _ => rfl
  | e + 1, k, h => by
    have ih := findFrom_of_no e (k + 1) fun j y h1 h2 hy => h j y (by omega) (by omega) hy
    cases hx : readE b k with
    | none => rw [findFrom_none hx]; exact ih
    | some z =>
      obtain ⟨s, n⟩ := z
      rw [findFrom_miss hx (h k (s, n) (Nat.le_refl _) (by omega) hx)]; exact ih

theorem find_fix {b nm : List UInt8} : findX (fixX b) nm = findX b nm := by
  cases hf : findX b nm with
  | none =>
    have h := findFrom_no 7 0 hf
    refine findFrom_of_no 7 0 fun j y h1 h2 hy => ?_
    rw [read_fix (by omega)] at hy
    exact h j y h1 h2 (kept_read hy).1
  | some x =>
    obtain ⟨i, z⟩ := x
    obtain ⟨h1, h2, h3, h4, h5⟩ := findFrom_min 7 0 hf
    simp only at h1 h2 h3 h4 h5
    have hk : keptE b i = some z := by
      unfold keptE
      rw [h1]
      have : keepsK b i z = true := by unfold keepsK; rw [h2, hf]; exact decide_eq_true rfl
      simp only [this, cond_true]
    have hr : readE (fixX b) i = some z := by rw [read_fix (by omega)]; exact hk
    refine findFrom_eq hr h2 7 0 h3 (by omega) fun j y hj hj2 hy => ?_
    rw [read_fix (by omega)] at hy
    exact h5 j y hj hj2 (kept_read hy).1

theorem kept_fix {b : List UInt8} {k : Nat} (hk : k < 7) : keptE (fixX b) k = keptE b k := by
  have hr := read_fix (b := b) hk
  cases hx : keptE b k with
  | none => rw [hx] at hr; unfold keptE; rw [hr]
  | some x =>
    rw [hx] at hr
    have h2 := (kept_read hx).2
    unfold keptE
    rw [hr]
    have : keepsK (fixX b) k x = true := by unfold keepsK at h2 ⊢; rw [find_fix]; exact h2
    simp only [this, cond_true]

theorem fixF_same {b : List UInt8} : ∀ (e k : Nat) (cur : List UInt8), k + e ≤ 7 → fixF (fixX b) e k cur = fixF b e k cur
  | 0, _, _, _ => rfl
  | e + 1, k, cur, h => by
    have : fixK (fixX b) k cur = fixK b k cur := by rw [fixK_kept, fixK_kept, kept_fix (by omega)]
    rw [fixF, fixF, this]
    exact fixF_same e (k + 1) _ (by omega)
theorem fix_fix {b : List UInt8} : fixX (fixX b) = fixX b := by
  conv => lhs; unfold fixX
  exact fixF_same 7 0 hdB (by omega)
theorem right_fix {b : List UInt8} : rightB (fixX b) = true := decide_eq_true fix_fix

theorem list_fix {b : List UInt8} : (listX (fixX b)).length ≤ (listX b).length := by
  have : ∀ e k, k + e ≤ 7 → (listFrom (fixX b) e k).length ≤ (listFrom b e k).length := by
    intro e
    induction e with
    | zero => intro k _; exact Nat.le_refl _
    | succ e ih =>
      intro k hk
      have ih := ih (k + 1) (by omega)
      have hr := read_fix (b := b) (show k < 7 by omega)
      cases hx : keptE b k with
      | none =>
        rw [hx] at hr
        rw [listFrom_none hr]
        cases hy : readE b k with
        | none => rw [listFrom_none hy]; exact ih
        | some y => rw [listFrom_some hy, List.length_cons]; omega
      | some x =>
        rw [hx] at hr
        rw [listFrom_some hr, listFrom_some (kept_read hx).1, List.length_cons, List.length_cons]
        omega
  exact this 7 0 (by omega)

end Go.Proofs.Ytbbkpmbepljhkaa
