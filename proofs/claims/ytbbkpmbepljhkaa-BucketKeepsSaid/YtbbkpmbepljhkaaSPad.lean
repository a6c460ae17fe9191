/- Bytes behind which zeros lie. -/
import Derived.Test.YtbbkpmbepljhkaaSNum
set_option linter.all false
namespace Go.Proofs.Ytbbkpmbepljhkaa
open Go Go.Esc

def padB (n : Nat) (l : List UInt8) : List UInt8 := l ++ zeros (n - l.length)
theorem padB_length {n : Nat} {l : List UInt8} (h : l.length ≤ n) : (padB n l).length = n := by
  unfold padB; rw [List.length_append, zeros_length]; omega
theorem padB_nil {n : Nat} : padB n [] = zeros n := by simp [padB]

theorem padB_lay {l xs : List UInt8} {a : Nat} (h1 : l.length ≤ a) (h2 : a + xs.length ≤ 256) : layB (padB 256 l) a xs = padB 256 (l ++ zeros (a - l.length) ++ xs) := by
  unfold layB padB
  have e1 : (l ++ zeros (256 - l.length)).take a = l ++ zeros (a - l.length) := by
    rw [List.take_append, List.take_of_length_le h1]
    unfold zeros
    rw [List.take_replicate, Nat.min_eq_left (by omega)]
  have e2 : (l ++ zeros (256 - l.length)).drop (a + xs.length) = zeros (256 - (l ++ zeros (a - l.length) ++ xs).length) := by
    rw [List.drop_append, List.drop_of_length_le (by omega), List.nil_append]
    unfold zeros
    rw [List.drop_replicate]
    congr 1
    simp
    omega
  rw [e1, e2]
  simp only [List.append_assoc]

theorem withB_pad {l : List UInt8} {a w : Nat} {v : Int} (h1 : l.length ≤ a) (h2 : a + w ≤ 256) (hw : 1 ≤ w) (hw4 : w ≤ 4) : withB (padB 256 l) a w v = padB 256 (l ++ zeros (a - l.length) ++ bytesI w v) := by
  unfold withB
  rw [if_pos ⟨by omega, thereI_true.2 (by omega)⟩]
  simp only [Int.toNat_natCast]
  exact padB_lay h1 (by simp; exact h2)

def fieldN (b : List UInt8) (a w : Nat) : Int := ((le ((b.drop a).take w) : Nat) : Int)
theorem of_pad {b : List UInt8} (hb : b.length ≤ 256) : layI (zeros 256) 0 b = padB 256 b := by
  unfold layI layB padB
  rw [if_pos (by omega)]
  simp only [Int.toNat_zero, List.take_zero, List.nil_append, Nat.sub_zero, Nat.zero_add]
  rw [List.take_of_length_le hb]
  unfold zeros
  rw [List.drop_replicate]

theorem at_pad {b : List UInt8} {a w : Nat} (h1 : a + w ≤ b.length) (h2 : b.length ≤ 256) (hw : 1 ≤ w) (hw4 : w ≤ 4) : ((atN (padB 256 b) a w : Nat) : Int) = fieldN b a w := by
  unfold atN fieldN padB
  rw [if_pos ⟨by omega, thereI_true.2 (by omega)⟩]
  simp only [Int.toNat_natCast]
  rw [List.drop_append_of_le_length (by omega), List.take_append_of_le_length (by simp; omega)]


end Go.Proofs.Ytbbkpmbepljhkaa
