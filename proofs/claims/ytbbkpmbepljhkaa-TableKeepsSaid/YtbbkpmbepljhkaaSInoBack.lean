/- An inode that may be is got again. -/
import Derived.Test.YtbbkpmbepljhkaaSInode
set_option linter.all false
namespace Go.Proofs.Ytbbkpmbepljhkaa
open Go Go.Esc

theorem le_bytes_small {w : Nat} {v : Int} (h0 : 0 ≤ v) (h1 : v < 256 ^ w) : ((le (bytesI w v) : Nat) : Int) = v := by
  rw [le_bytesI, Int.emod_eq_of_lt h0 h1]

theorem field_of {a w : Nat} {x : List UInt8} {y z : List UInt8} (hx : x.length = a) (hy : y.length = w) : fieldN (x ++ (y ++ z)) a w = ((le y : Nat) : Int) := by
  unfold fieldN
  rw [List.drop_left' hx, List.take_left' hy]

theorem inoD_split {d : List Int} {i : Nat} (hi : i < d.length) : inoD d = inoD (d.take i) ++ (bytesI 2 d[i] ++ inoD (d.drop (i + 1))) := by
  have h : d = d.take i ++ (d[i] :: d.drop (i + 1)) := by rw [← List.drop_eq_getElem_cons hi, List.take_append_drop]
  have e : inoD (d.take i ++ (d[i] :: d.drop (i + 1))) = inoD (d.take i) ++ (bytesI 2 d[i] ++ inoD (d.drop (i + 1))) := by
    simp only [inoD, List.map_append, List.flatten_append, List.map_cons, List.flatten_cons]
  rw [← e, ← h]

theorem mayI_small {k l s p : Int} {d : List Int} (hm : mayI k l s p d = true) : (0 ≤ k ∧ k ≤ 2) ∧ (0 ≤ l ∧ l ≤ 65535) ∧ (0 ≤ s ∧ s ≤ 34304) ∧ (0 ≤ p ∧ p ≤ 65535) ∧ ∀ x ∈ d, 0 ≤ x ∧ x ≤ 65535 := by
  unfold mayI at hm
  split at hm
  · have := of_decide_eq_true hm
    obtain ⟨rfl, rfl, rfl, rfl⟩ := this
    refine ⟨by omega, by omega, by omega, by omega, fun x hx => ?_⟩
    have := (List.mem_replicate.1 hx).2
    omega
  · unfold restI at hm
    simp only [Bool.and_eq_true, decide_eq_true_eq, smallI_true, List.all_eq_true] at hm
    obtain ⟨h1, h2, h3, h4, h5⟩ := hm
    exact ⟨h1, h2, h4, h3, h5⟩

/-- The fields of an inode's bytes. -/
theorem get_ino {k l s p : Int} {d : List Int} (hd : d.length = 7) (hm : mayI k l s p d = true) :
    getK (inoB k l s p d) = k ∧ getL (inoB k l s p d) = l ∧ getS (inoB k l s p d) = s ∧ getP (inoB k l s p d) = p ∧ getD7 (inoB k l s p d) = d := by
  obtain ⟨h1, h2, h3, h4, h5⟩ := mayI_small hm
  have eK : inoB k l s p d = [] ++ (bytesI 1 k ++ (zeros 1 ++ bytesI 2 l ++ bytesI 4 s ++ bytesI 2 p ++ inoD d ++ zeros 8)) := by simp [inoB, inoH]
  have eL : inoB k l s p d = (bytesI 1 k ++ zeros 1) ++ (bytesI 2 l ++ (bytesI 4 s ++ bytesI 2 p ++ inoD d ++ zeros 8)) := by simp [inoB, inoH]
  have eS : inoB k l s p d = (bytesI 1 k ++ zeros 1 ++ bytesI 2 l) ++ (bytesI 4 s ++ (bytesI 2 p ++ inoD d ++ zeros 8)) := by simp [inoB, inoH]
  have eP : inoB k l s p d = (bytesI 1 k ++ zeros 1 ++ bytesI 2 l ++ bytesI 4 s) ++ (bytesI 2 p ++ (inoD d ++ zeros 8)) := by simp [inoB, inoH]
  refine ⟨?_, ?_, ?_, ?_, ?_⟩
  · unfold getK; rw [eK, field_of (by simp) (by simp), le_bytes_small h1.1 (by omega)]
  · unfold getL; rw [eL, field_of (by simp) (by simp), le_bytes_small h2.1 (by omega)]
  · unfold getS; rw [eS, field_of (by simp) (by simp), le_bytes_small h3.1 (by omega)]
  · unfold getP; rw [eP, field_of (by simp) (by simp), le_bytes_small h4.1 (by omega)]
  · refine List.ext_getElem? fun i => ?_
    by_cases hi : i < 7
    · rw [getD7_get hi, List.getElem?_eq_getElem (by omega)]
      have hmem := h5 d[i] (List.getElem_mem (by omega))
      have e : inoB k l s p d = (inoH k l s p ++ inoD (d.take i)) ++ (bytesI 2 d[i] ++ (inoD (d.drop (i + 1)) ++ zeros 8)) := by
        unfold inoB
        rw [inoD_split (d := d) (i := i) (by omega)]
        simp
      rw [e, field_of (by rw [List.length_append, inoH_length, inoD_length, List.length_take]; omega) (by simp), le_bytes_small hmem.1 (by omega)]
    · rw [List.getElem?_eq_none (by rw [getD7_length]; omega), List.getElem?_eq_none (by omega)]

theorem clean_ino {k l s p : Int} {d : List Int} (hd : d.length = 7) (hm : mayI k l s p d = true) : cleanI (inoB k l s p d) = true ∧ cleanC (inoB k l s p d) = inoC k l s p d := by
  obtain ⟨h1, h2, h3, h4, h5⟩ := get_ino hd hm
  have hc : cleanI (inoB k l s p d) = true := by
    unfold cleanI
    rw [h1, h2, h3, h4, h5, hm]
    simp
  refine ⟨hc, ?_⟩
  unfold cleanC
  rw [hc, h1, h2, h3, h4, h5]; rfl


end Go.Proofs.Ytbbkpmbepljhkaa
