/- The plain law of indexes: one that is right is got again from its block; doubled it is right. -/
import Derived.Test.YtbbkpmbepljhkaaSIndexHalf
import Derived.Test.YtbbkpmbepljhkaaSIndexPut
set_option linter.all false
namespace Go.Proofs.Ytbbkpmbepljhkaa
open Go Go.Esc

theorem fieldN_pad {a c : List UInt8} {w : Nat} {v : Int} : fieldN (padB 256 (a ++ bytesI w v ++ c)) a.length w = v % 256 ^ w := by
  unfold fieldN padB
  rw [List.append_assoc, List.append_assoc, List.drop_left, List.take_left' bytesI_length]
  exact le_bytesI w v

theorem numB_split {t : List Int} {i : Nat} (hi : i < t.length) : numB t = numB (t.take i) ++ bytesI 2 t[i] ++ numB (t.drop (i + 1)) := by
  have happ : ∀ a b : List Int, numB (a ++ b) = numB a ++ numB b := by intro a b; simp [numB]
  have e : t = t.take i ++ ([t[i]] ++ t.drop (i + 1)) := by rw [List.singleton_append, ← List.drop_eq_getElem_cons hi, List.take_append_drop]
  have h1 : numB t = numB (t.take i ++ ([t[i]] ++ t.drop (i + 1))) := congrArg numB e
  rw [h1, happ, happ, ← List.append_assoc]
  congr 2

theorem getD_idx {d : Int} {t : List Int} (h0 : 0 ≤ d) (h5 : d ≤ 5) : getD (idxB d t) = d := by
  unfold getD idxB idxH
  have := fieldN_pad (a := magX) (c := zeros 27 ++ numB t) (w := 1) (v := d)
  rw [show magX.length = 4 from rfl] at this
  rw [List.append_assoc (magX ++ bytesI 1 d), this]
  omega

theorem finI_iff {n : Int} : finI n = true ↔ 0 ≤ n ∧ n ≤ 65535 := by unfold finI; simp

theorem getT_idx {d : Int} {t : List Int} (ht : t.length = 32) (hf : t.all finI = true) : getT (idxB d t) 32 = t := by
  apply List.ext_getElem?
  intro i
  by_cases hi : i < 32
  · unfold getT
    rw [List.getElem?_append_left (by simpa using hi), List.getElem?_map, List.getElem?_range hi, List.getElem?_eq_getElem (by omega)]
    have := fieldN_pad (a := idxH d ++ numB (t.take i)) (c := numB (t.drop (i + 1))) (w := 2) (v := t[i])
    rw [List.append_assoc (idxH d), List.append_assoc (idxH d), ← numB_split (by omega)] at this
    have hl : (idxH d ++ numB (t.take i)).length = 32 + 2 * i := by rw [List.length_append, idxH_length, numB_length, List.length_take]; omega
    rw [hl] at this
    have h1 := finI_iff.1 (List.all_eq_true.1 hf t[i] (List.getElem_mem (by omega)))
    rw [show t[i] % 256 ^ 2 = t[i] by omega] at this
    show some (fldX (idxB d t) i) = some t[i]
    rw [← this]; rfl
  · rw [List.getElem?_eq_none (by rw [getT_length (Nat.le_refl _)]; omega), List.getElem?_eq_none (by omega)]

theorem fair_all {d : Int} {t : List Int} (hf : Fair d t) : t.all finI = true := by
  rw [List.all_eq_true]
  intro x hx
  obtain ⟨i, hi⟩ := List.mem_iff_getElem?.1 hx
  have hl := (List.getElem?_eq_some_iff.1 hi).1
  rw [toX_get hl] at hi
  have hi := Option.some.inj hi
  by_cases hz : toX t i = 0
  · rw [← hi, hz]; decide
  · by_cases hm : i < manyX d
    · rw [← hi]; exact hf.fine i hm hz
    · exact absurd (hf.beyond i (by omega)) hz

theorem good_idx {d : Int} {t : List Int} (h0 : 0 ≤ d) (h5 : d ≤ 5) (hf : Fair d t) : okX d t = true ∧ goodX (idxB d t) = true := by
  have ha := fair_all hf
  have ho : okX d t = true := by unfold okX; rw [decide_eq_true h0, decide_eq_true h5, ha]; rfl
  refine ⟨ho, ?_⟩
  unfold goodX
  rw [getD_idx h0 h5, getT_idx hf.len ha, ho, decide_eq_true rfl, Bool.true_and, Bool.true_and]
  unfold restX
  rw [List.all_eq_true]
  intro i hi
  have := List.mem_range'_1.1 hi
  rw [hf.beyond i this.1]; rfl

theorem manyX_succ {d : Int} (h0 : 0 ≤ d) (h5 : d < 5) : manyX (d + 1) = 2 * manyX d := by
  have h1 : depX (d + 1) = depX d + 1 := by unfold depX; omega
  unfold manyX
  rw [h1, Nat.pow_succ]; omega

theorem toX_dbl {d : Int} {t : List Int} {i : Nat} (hf : Fair d t) (h5 : d < 5) : toX (dblL t (manyX d) (manyX d)) i = if i < 2 * manyX d then toX t (i % manyX d) else 0 := by
  have hn := manyX_le16 h5
  have hp := manyX_pos d
  have ht := hf.len
  have hb := hf.beyond
  generalize manyX d = n at *
  unfold toX dblL
  simp only [List.getD_eq_getElem?_getD] at *
  by_cases c1 : i < n
  · rw [if_pos (by omega), List.getElem?_append_left (by simp; omega), List.getElem?_take_of_lt c1, Nat.mod_eq_of_lt c1]
  · by_cases c2 : i < 2 * n
    · rw [if_pos c2, List.getElem?_append_right (by simp; omega), List.getElem?_append_left (by simp; omega), List.getElem?_take_of_lt (by simp; omega)]
      have e1 : i % n = i - n := by
        rw [Nat.mod_eq_sub_mod (by omega), Nat.mod_eq_of_lt (by omega)]
      have e2 : i - (t.take n).length = i - n := by simp; omega
      rw [e1, e2]
    · rw [if_neg c2, List.getElem?_append_right (by simp; omega), List.getElem?_append_right (by simp; omega), List.getElem?_drop]
      have e2 : n + n + (i - (t.take n).length - (t.take n).length) = i := by simp; omega
      rw [e2]
      have := hb i (by omega)
      unfold toX at this
      rw [List.getD_eq_getElem?_getD] at this
      exact this

theorem dbl_fair {d : Int} {t : List Int} (hf : Fair d t) (h0 : 0 ≤ d) (h5 : d < 5) : Fair (d + 1) (dblL t (manyX d) (manyX d)) := by
  have hn := manyX_le16 h5
  have hp := manyX_pos d
  have hg := fun i => toX_dbl (i := i) hf h5
  have hm := manyX_succ h0 h5
  have hdl : depX (d + 1) = depX d + 1 := by unfold depX; omega
  refine ⟨dblL_length hf.len (Nat.le_refl _) (by omega), fun i hi hz => ?_, fun i hi hz => ?_, fun i hi => ?_⟩
  · rw [hg, if_pos (by omega)] at hz ⊢
    exact hf.fine _ (Nat.mod_lt _ hp) hz
  · have hil : i % manyX d < manyX d := Nat.mod_lt _ hp
    have hgi := hg i
    rw [if_pos (by omega)] at hgi
    rw [hgi] at hz
    have hw := (wholX_iff hil).1 (hf.whole _ hil hz)
    have hbl := bitsX_le (d := d) (t := t) (p := i % manyX d)
    have hdv : 2 ^ bitsX d t (i % manyX d) ∣ manyX d := Nat.pow_dvd_pow 2 hbl
    have hmm : ∀ x : Nat, x % manyX d % 2 ^ bitsX d t (i % manyX d) = x % 2 ^ bitsX d t (i % manyX d) := fun x => Nat.mod_mod_of_dvd x hdv
    refine whole_of (c := bitsX d t (i % manyX d)) hi (.inl (allX_iff.2 ⟨by rw [hgi]; exact hz, fun k hk hkm => ?_⟩)) fun k hk hs => ?_
    · rw [hgi, hg, if_pos (by omega)]
      refine cls_same hil (Nat.mod_lt _ hp) ?_
      rw [hmm, hmm]; exact hkm
    · rw [hgi, hg, if_pos (by omega)] at hs
      have := hw _ (Nat.mod_lt _ hp) hs
      rw [hmm, hmm] at this; exact this
  · rw [hg, if_neg (by omega)]

end Go.Proofs.Ytbbkpmbepljhkaa
