/- The plain law of buckets: one more entry, and one less. -/
import Derived.Test.YtbbkpmbepljhkaaSBucketKept
set_option linter.all false
namespace Go.Proofs.Ytbbkpmbepljhkaa
open Go Go.Esc

/-! ### One more -/

theorem entK_snoc {l : List Ent} {x : Ent} {k : Nat} : entK (l ++ [x]) k = if k < l.length then entK l k else if k = l.length then x else ([], 0) := by
  unfold entK
  rw [List.getD_eq_getElem?_getD, List.getD_eq_getElem?_getD]
  by_cases c : k < l.length
  · rw [if_pos c, List.getElem?_append_left c]
  · rw [if_neg c, List.getElem?_append_right (by omega)]
    by_cases c2 : k = l.length
    · subst c2; simp
    · rw [if_neg c2]
      have : k - l.length ≠ 0 := by omega
      cases hh : k - l.length with
      | zero => omega
      | succ n => simp
theorem newL_snoc {l : List Ent} {x : Ent} : ∀ k, k ≤ l.length → newL (l ++ [x]) k = newL l k
  | 0, _ => rfl
  | k + 1, h => by rw [newL, newL, newL_snoc k (by omega), entK_snoc, if_pos (by omega)]
theorem newL_more {l : List Ent} {x : Ent} : newL (l ++ [x]) (l ++ [x]).length = layB (newL l l.length) (slotA l.length) (entB x.1 x.2) := by
  rw [List.length_append, List.length_singleton, newL, newL_snoc l.length (Nat.le_refl _), entK_snoc, if_neg (by omega), if_pos rfl]

theorem ent_zeros {s : List UInt8} {n : Int} (hm : mayE s n = true) : entB s n ≠ zeros 32 := by
  intro h
  have h1 := readS_ent hm
  rw [h, readS_zeros] at h1
  cases h1

theorem room_newL {l : List Ent} (hm : mayN l = true) (h7 : l.length ≤ 7) : roomX (newL l l.length) = if l.length < 7 then some l.length else none := by
  have he : ∀ k, k < 7 → emptyB (newL l l.length) k = decide (l.length ≤ k) := by
    intro k hk
    unfold emptyB
    rw [slot_newL l.length k h7 hk]
    by_cases c : k < l.length
    · rw [if_pos c, decide_eq_false (ent_zeros (mayN_at hm c)), decide_eq_false (by omega)]
    · rw [if_neg c, decide_eq_true rfl, decide_eq_true (by omega)]
  have : ∀ e k, k + e = 7 → k ≤ l.length → roomFrom (newL l l.length) e k = if l.length < 7 then some l.length else none := by
    intro e
    induction e with
    | zero => intro k h1 h2; rw [roomFrom, if_neg (by omega)]
    | succ e ih =>
      intro k h1 h2
      rw [roomFrom, he k (by omega)]
      by_cases c : l.length ≤ k
      · have : l.length = k := by omega
        rw [decide_eq_true c, cond_true, if_pos (by omega), this]
      · rw [decide_eq_false c, cond_false]
        exact ih (k + 1) (by omega) (by omega)
  exact this 7 0 rfl (Nat.zero_le _)

theorem list_newL {l : List Ent} (hm : mayN l = true) (h7 : l.length ≤ 7) : (listX (newL l l.length)).length = l.length := by
  have : ∀ e k, k + e = 7 → (listFrom (newL l l.length) e k).length = l.length - k := by
    intro e
    induction e with
    | zero => intro k h1; rw [listFrom, List.length_nil]; omega
    | succ e ih =>
      intro k h1
      have ih := ih (k + 1) (by omega)
      have hr := read_newL hm h7 (show k < 7 by omega)
      by_cases c : k < l.length
      · rw [if_pos c] at hr
        rw [listFrom_some hr, List.length_cons, ih]; omega
      · rw [if_neg c] at hr
        rw [listFrom_none hr, ih]; omega
  exact this 7 0 rfl

theorem more_ok {l : List Ent} {x : Ent} (hm : mayN l = true) (ho : otherN l = true) (h6 : l.length < 7) (hx : mayE x.1 x.2 = true) (hno : findX (newL l l.length) x.1 = none) :
    mayN (l ++ [x]) = true ∧ otherN (l ++ [x]) = true := by
  have hne : ∀ j, j < l.length → (entK l j).1 ≠ x.1 := by
    intro j hj
    refine findFrom_no 7 0 hno j (entK l j) (Nat.zero_le _) (by omega) ?_
    rw [read_newL hm (by omega) (by omega), if_pos hj]
  refine ⟨?_, ?_⟩
  · unfold mayN at hm ⊢
    rw [List.all_append, hm]
    simp [hx]
  · unfold otherN
    rw [← List.range_eq_range', List.all_eq_true]
    intro k hk
    rw [List.mem_range, List.length_append, List.length_singleton] at hk
    rw [otherK_iff]
    intro j hj
    rw [entK_snoc, entK_snoc, if_pos (by omega)]
    by_cases c : k < l.length
    · rw [if_pos c]
      have := List.all_eq_true.1 ho k (by rw [← List.range_eq_range']; exact List.mem_range.2 c)
      exact otherK_iff.1 this j hj
    · rw [if_neg c, if_pos (by omega)]
      exact hne j (by omega)

/-! ### One less -/

/-- Without the entry of a slot. -/
def lessB (l : List Ent) (i : Nat) : List UInt8 := layB (newL l l.length) (slotA i) (zeros 32)
theorem lessB_length {l : List Ent} {i : Nat} (h7 : l.length ≤ 7) (hi : i < 7) : (lessB l i).length = 256 := by
  unfold lessB
  rw [layB_length (by rw [newL_length _ h7, zeros_length]; unfold slotA; omega)]
  exact newL_length _ h7
theorem slot_less {l : List Ent} {i k : Nat} (h7 : l.length ≤ 7) (hi : i < 7) (hk : k < 7) : slotB (lessB l i) k = if k = i then zeros 32 else slotB (newL l l.length) k :=
  slotB_lay (newL_length _ h7) zeros_length hi hk
theorem read_less {l : List Ent} {i k : Nat} (hm : mayN l = true) (h7 : l.length ≤ 7) (hi : i < 7) (hk : k < 7) : readE (lessB l i) k = if k = i then none else if k < l.length then some (entK l k) else none := by
  rw [readE_slot, slot_less h7 hi hk]
  by_cases c : k = i
  · rw [if_pos c, if_pos c, readS_zeros]
  · rw [if_neg c, if_neg c, ← readE_slot, read_newL hm h7 hk]

theorem other_at {l : List Ent} (ho : otherN l = true) {j k : Nat} (hj : j < l.length) (hk : k < l.length) (hjk : j ≠ k) : (entK l j).1 ≠ (entK l k).1 := by
  have h := fun k (hk : k < l.length) => otherK_iff.1 (List.all_eq_true.1 ho k (by rw [← List.range_eq_range']; exact List.mem_range.2 hk))
  rcases Nat.lt_or_ge j k with c | c
  · exact h k hk j c
  · exact Ne.symm (h j hj k (by omega))

theorem find_less {l : List Ent} {i k : Nat} (hm : mayN l = true) (ho : otherN l = true) (h7 : l.length ≤ 7) (hi : i < l.length) (hk : k < l.length) : findX (lessB l i) (entK l k).1 = if k = i then none else some (k, entK l k) := by
  by_cases c : k = i
  · rw [if_pos c]
    refine findFrom_of_no 7 0 fun j y _ hj hy => ?_
    rw [read_less hm h7 (by omega) (by omega)] at hy
    split at hy
    · cases hy
    · split at hy
      · rename_i h1 h2
        cases hy
        exact other_at ho h2 hk (by omega)
      · cases hy
  · rw [if_neg c]
    have hr := read_less hm h7 (show i < 7 by omega) (show k < 7 by omega)
    rw [if_neg c, if_pos hk] at hr
    refine findFrom_eq hr rfl 7 0 (Nat.zero_le _) (by omega) fun j y _ hj hy => ?_
    rw [read_less hm h7 (by omega) (by omega)] at hy
    split at hy
    · cases hy
    · split at hy
      · rename_i h1 h2
        cases hy
        exact other_at ho h2 hk (by omega)
      · cases hy

theorem head_lay {cur e : List UInt8} {j : Nat} (hc : cur.length = 256) (he : e.length = 32) (hj : j < 7) : (layB cur (slotA j) e).take 32 = cur.take 32 := by
  have := lay_other (l := cur) (xs := e) (a := slotA j) (c := 0) (n := 32) (by rw [hc, he]; unfold slotA; omega) (.inl (by unfold slotA; omega))
  simpa using this
theorem head_newL {l : List Ent} : ∀ m, m ≤ 7 → (newL l m).take 32 = hdB.take 32
  | 0, _ => rfl
  | m + 1, h => by rw [newL, head_lay (newL_length m (by omega)) entB_length (by omega)]; exact head_newL m (by omega)
theorem head_fixF {b : List UInt8} : ∀ (e k : Nat) (cur : List UInt8), k + e ≤ 7 → cur.length = 256 → (fixF b e k cur).take 32 = cur.take 32
  | 0, _, _, _, _ => rfl
  | e + 1, k, cur, h, hc => by
    rw [fixF, head_fixF e (k + 1) _ (by omega) (fixK_length (by omega) hc), fixK_kept]
    cases keptE b k with
    | none => rfl
    | some x => exact head_lay hc entB_length (by omega)

theorem block_ext {b c : List UInt8} (hb : b.length = 256) (hc : c.length = 256) (h0 : b.take 32 = c.take 32) (hs : ∀ k, k < 7 → slotB b k = slotB c k) : b = c := by
  apply List.ext_getElem?
  intro i
  by_cases h1 : i < 32
  · have := congrArg (fun l => l[i]?) h0
    simp only [List.getElem?_take, if_pos h1] at this
    exact this
  · by_cases h2 : i < 256
    · have := congrArg (fun l => l[(i - 32) % 32]?) (hs ((i - 32) / 32) (by omega))
      unfold slotB slotA at this
      simp only [List.getElem?_take, List.getElem?_drop, if_pos (Nat.mod_lt (i - 32) (show 0 < 32 by omega))] at this
      rw [show 32 + 32 * ((i - 32) / 32) + (i - 32) % 32 = i by omega] at this
      exact this
    · rw [List.getElem?_eq_none (by omega), List.getElem?_eq_none (by omega)]

theorem right_less {l : List Ent} {i : Nat} (hm : mayN l = true) (ho : otherN l = true) (h7 : l.length ≤ 7) (hi : i < l.length) : rightB (lessB l i) = true := by
  refine decide_eq_true (block_ext fixX_length (lessB_length h7 (by omega)) ?_ fun k hk => ?_)
  · unfold fixX lessB
    rw [head_fixF 7 0 hdB (by omega) hdB_length, head_lay (newL_length _ h7) zeros_length (by omega), head_newL _ h7]
  · unfold fixX
    rw [slot_fixF hk 7 0 hdB (by omega) hdB_length, if_pos ⟨by omega, by omega⟩, slot_head k hk, slot_less h7 (by omega) hk, slot_newL l.length k h7 hk]
    have hr := read_less hm h7 (show i < 7 by omega) hk
    by_cases c : k = i
    · rw [if_pos c] at hr ⊢
      unfold keptE
      rw [hr]; rfl
    · rw [if_neg c] at hr ⊢
      by_cases c2 : k < l.length
      · rw [if_pos c2] at hr ⊢
        have hkp : keepsK (lessB l i) k (entK l k) = true := by unfold keepsK; rw [find_less hm ho h7 hi c2, if_neg c]; exact decide_eq_true rfl
        have : keptE (lessB l i) k = some (entK l k) := by unfold keptE; rw [hr]; simp only [hkp, cond_true]
        rw [this]; rfl
      · rw [if_neg c2] at hr ⊢
        unfold keptE
        rw [hr]; rfl

end Go.Proofs.Ytbbkpmbepljhkaa
