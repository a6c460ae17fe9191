/- The plain law of buckets: what a bucket of entries has. -/
import Derived.Test.YtbbkpmbepljhkaaSBucketNew
import Derived.Test.YtbbkpmbepljhkaaSBucketFixed
set_option linter.all false
namespace Go.Proofs.Ytbbkpmbepljhkaa
open Go Go.Esc

theorem lay_other {l xs : List UInt8} {a c n : Nat} (h : a + xs.length ≤ l.length) (hd : c + n ≤ a ∨ a + xs.length ≤ c) : ((layB l a xs).drop c).take n = (l.drop c).take n := by
  apply List.ext_getElem?
  intro j
  rw [List.getElem?_take, List.getElem?_take]
  split
  · rename_i hj
    rw [List.getElem?_drop, List.getElem?_drop, layB_get h, if_neg (by omega)]
  · rfl

theorem slotB_lay {cur e : List UInt8} {j k : Nat} (hc : cur.length = 256) (he : e.length = 32) (hj : j < 7) (hk : k < 7) : slotB (layB cur (slotA j) e) k = if k = j then e else slotB cur k := by
  have hle : slotA j + e.length ≤ cur.length := by rw [hc, he]; unfold slotA; omega
  unfold slotB
  by_cases c : k = j
  · subst c
    rw [if_pos rfl, ← he]
    exact layB_cut hle
  · rw [if_neg c]
    exact lay_other hle (by rw [he]; unfold slotA; omega)

def readS (sl : List UInt8) : Option Ent := (unpackB ((sl.drop 2).take 25)).bind fun s => if (mayE s ((le (sl.take 2) : Nat) : Int) && decide (entB s ((le (sl.take 2) : Nat) : Int) = sl)) = true then some (s, ((le (sl.take 2) : Nat) : Int)) else none
theorem readE_slot {b : List UInt8} {k : Nat} : readE b k = readS (slotB b k) := by
  have e1 : ((slotB b k).drop 2).take 25 = nameB b k := by
    unfold slotB nameB
    rw [List.drop_take, List.drop_drop, List.take_take]
    rfl
  have e2 : (((le ((slotB b k).take 2) : Nat)) : Int) = inoB b k := by
    unfold slotB inoB fieldN
    rw [List.take_take]
    rfl
  unfold readE readS isE
  rw [e1, e2]

theorem unpack_pack {s : List UInt8} (hf : fineName s = true) : unpackB (packB s) = some s := by
  have hl := (fineName_length hf).2
  have hp : packB s = UInt8.ofNat s.length :: (s ++ zeros (24 - s.length)) := by unfold packB packN; rw [hf, cond_true, List.take_length]
  have hn : ((packB s).headD 0).toNat = s.length := by
    rw [hp, List.headD_cons, UInt8.toNat_ofNat']; omega
  have hd : ((packB s).drop 1).take s.length = s := by
    rw [hp, List.drop_succ_cons, List.drop_zero, List.take_left]
  unfold unpackB
  rw [hn, if_pos hl, hd, if_pos ⟨hf, rfl⟩]

theorem readS_ent {s : List UInt8} {n : Int} (hm : mayE s n = true) : readS (entB s n) = some (s, n) := by
  have hm2 := hm
  unfold mayE at hm2
  simp only [Bool.and_eq_true, decide_eq_true_eq] at hm2
  obtain ⟨hf, h1, h2⟩ := hm2
  have e1 : ((entB s n).drop 2).take 25 = packB s := by
    unfold entB
    rw [List.append_assoc, List.drop_left' bytesI_length, List.take_left' packB_length]
  have e2 : (((le ((entB s n).take 2) : Nat)) : Int) = n := by
    unfold entB
    rw [List.append_assoc, List.take_left' bytesI_length]
    have := le_bytesI 2 n
    rw [this]; omega
  unfold readS
  rw [e1, e2, unpack_pack hf, Option.bind_some, hm, decide_eq_true rfl]
  rfl
theorem readS_zeros : readS (zeros 32) = none := by decide +kernel
theorem slot_head : ∀ k, k < 7 → slotB hdB k = zeros 32 := by decide +kernel

theorem slot_newL {l : List Ent} : ∀ m k, m ≤ 7 → k < 7 → slotB (newL l m) k = if k < m then entB (entK l k).1 (entK l k).2 else zeros 32
  | 0, k, _, hk => by rw [newL, slot_head k hk, if_neg (by omega)]
  | m + 1, k, hm, hk => by
    rw [newL, slotB_lay (newL_length m (by omega)) entB_length (by omega) hk]
    by_cases c : k = m
    · subst c
      rw [if_pos rfl, if_pos (by omega)]
    · rw [if_neg c, slot_newL m k (by omega) hk]
      by_cases c2 : k < m
      · rw [if_pos c2, if_pos (by omega)]
      · rw [if_neg c2, if_neg (by omega)]

theorem mayN_at {l : List Ent} {k : Nat} (hm : mayN l = true) (hk : k < l.length) : mayE (entK l k).1 (entK l k).2 = true := by
  rw [entK_get hk]
  exact List.all_eq_true.1 hm _ (List.getElem_mem _)

theorem read_newL {l : List Ent} {k : Nat} (hm : mayN l = true) (h7 : l.length ≤ 7) (hk : k < 7) : readE (newL l l.length) k = if k < l.length then some (entK l k) else none := by
  rw [readE_slot, slot_newL l.length k h7 hk]
  by_cases c : k < l.length
  · rw [if_pos c, if_pos c, readS_ent (mayN_at hm c)]
  · rw [if_neg c, if_neg c, readS_zeros]

theorem findFrom_eq {b nm : List UInt8} {i : Nat} {x : Ent} (hi : readE b i = some x) (hx : x.1 = nm) : ∀ (e k : Nat), k ≤ i → i < k + e → (∀ j y, k ≤ j → j < i → readE b j = some y → y.1 ≠ nm) → findFrom b nm e k = some (i, x)
  | 0, k, h1, h2, _ => by omega
  | e + 1, k, h1, h2, hmin => by
    by_cases c : k = i
    · subst c
      obtain ⟨s, n⟩ := x
      simp only at hx
      subst hx
      exact findFrom_hit hi
    · have ih := findFrom_eq hi hx e (k + 1) (by omega) (by omega) (fun j y h3 h4 => hmin j y (by omega) h4)
      cases hr : readE b k with
      | none => rw [findFrom_none hr]; exact ih
      | some y =>
        obtain ⟨s, n⟩ := y
        rw [findFrom_miss hr (hmin k (s, n) (Nat.le_refl _) (by omega) hr)]
        exact ih

def otherK (l : List Ent) (k : Nat) : Bool := (List.range' 0 k).all fun j => !decide ((entK l j).1 = (entK l k).1)
def otherN (l : List Ent) : Bool := (List.range' 0 l.length).all (otherK l)
theorem otherK_iff {l : List Ent} {k : Nat} : otherK l k = true ↔ ∀ j, j < k → (entK l j).1 ≠ (entK l k).1 := by
  unfold otherK
  rw [← List.range_eq_range']
  simp only [List.all_eq_true, List.mem_range, Bool.not_eq_true', decide_eq_false_iff_not]

theorem find_newL {l : List Ent} {k : Nat} (hm : mayN l = true) (h7 : l.length ≤ 7) (hk : k < l.length) (ho : otherK l k = true) : findX (newL l l.length) (entK l k).1 = some (k, entK l k) := by
  have hr := read_newL hm h7 (show k < 7 by omega)
  rw [if_pos hk] at hr
  refine findFrom_eq hr rfl 7 0 (Nat.zero_le _) (by omega) fun j y _ hj hy => ?_
  rw [read_newL hm h7 (by omega), if_pos (by omega)] at hy
  cases hy
  exact otherK_iff.1 ho j hj

theorem once_other {l : List Ent} {k : Nat} (hm : mayN l = true) (h7 : l.length ≤ 7) (hk : k < l.length) : onceK l k = otherK l k := by
  cases ho : otherK l k with
  | true => unfold onceK atX; rw [find_newL hm h7 hk ho]; simp
  | false =>
    -- the first that has the name
    have ex : ∀ j, j < l.length → ∃ i, i ≤ j ∧ (entK l i).1 = (entK l j).1 ∧ otherK l i = true := by
      intro j
      induction j using Nat.strongRecOn with
      | ind j ih =>
        intro hj
        cases c : otherK l j with
        | true => exact ⟨j, Nat.le_refl _, rfl, c⟩
        | false =>
          have : ¬ ∀ i, i < j → (entK l i).1 ≠ (entK l j).1 := fun h => by rw [otherK_iff.2 h] at c; cases c
          have : ∃ i, i < j ∧ (entK l i).1 = (entK l j).1 := by
            false_or_by_contra
            rename_i hn
            exact this fun i hi he => hn ⟨i, hi, he⟩
          obtain ⟨i, hi, he⟩ := this
          obtain ⟨i', h1, h2, h3⟩ := ih i hi (by omega)
          exact ⟨i', by omega, h2.trans he, h3⟩
    obtain ⟨i, h1, h2, h3⟩ := ex k hk
    have hf := find_newL hm h7 (show i < l.length by omega) h3
    rw [h2] at hf
    have hne : i ≠ k := by intro e; subst e; rw [ho] at h3; cases h3
    unfold onceK atX
    rw [hf]
    simp [hne]

theorem onceN_other {l : List Ent} (hm : mayN l = true) (h7 : l.length ≤ 7) : onceN l = otherN l := by
  unfold onceN otherN
  rw [Bool.eq_iff_iff, List.all_eq_true, List.all_eq_true, ← List.range_eq_range']
  exact ⟨fun h k hk => by rw [← once_other hm h7 (List.mem_range.1 hk)]; exact h k hk, fun h k hk => by rw [once_other hm h7 (List.mem_range.1 hk)]; exact h k hk⟩

theorem fix_behind {l : List Ent} (hm : mayN l = true) (h7 : l.length ≤ 7) : ∀ e k cur, l.length ≤ k → k + e = 7 → fixF (newL l l.length) e k cur = cur
  | 0, k, cur, _, _ => rfl
  | e + 1, k, cur, h1, h2 => by
    have hr := read_newL hm h7 (show k < 7 by omega)
    rw [if_neg (by omega)] at hr
    have : fixK (newL l l.length) k cur = cur := by unfold fixK; rw [hr]
    rw [fixF, this]
    exact fix_behind hm h7 e (k + 1) cur (by omega) (by omega)

theorem fix_newL {l : List Ent} (hm : mayN l = true) (h7 : l.length ≤ 7) (ho : otherN l = true) : ∀ e k, k + e = 7 → k ≤ l.length → fixF (newL l l.length) e k (newL l k) = newL l l.length
  | 0, k, h1, h2 => by
    have : k = l.length := by omega
    rw [fixF, this]
  | e + 1, k, h1, h2 => by
    by_cases c : k = l.length
    · rw [c]; exact fix_behind hm h7 (e + 1) l.length _ (Nat.le_refl _) (by omega)
    · have hk : k < l.length := by omega
      have hr := read_newL hm h7 (show k < 7 by omega)
      rw [if_pos hk] at hr
      have hok : otherK l k = true := List.all_eq_true.1 ho k (by rw [← List.range_eq_range']; exact List.mem_range.2 hk)
      have : fixK (newL l l.length) k (newL l k) = newL l (k + 1) := by
        unfold fixK
        rw [hr]
        have hkp : keepsK (newL l l.length) k (entK l k) = true := by unfold keepsK; rw [find_newL hm h7 hk hok, decide_eq_true rfl]
        show (bif keepsK (newL l l.length) k (entK l k) then _ else _) = _
        rw [hkp, cond_true, newL]
      rw [fixF, this]
      exact fix_newL hm h7 ho e (k + 1) (by omega) (by omega)

theorem right_newL {l : List Ent} (hm : mayN l = true) (h7 : l.length ≤ 7) (ho : otherN l = true) : rightB (newL l l.length) = true := by
  unfold rightB fixX
  exact decide_eq_true (fix_newL hm h7 ho 7 0 rfl (Nat.zero_le _))

end Go.Proofs.Ytbbkpmbepljhkaa
