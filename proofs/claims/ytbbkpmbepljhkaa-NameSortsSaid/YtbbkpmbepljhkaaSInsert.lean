/- A text is put into a list: append, copy, store. -/
import Derived.Test.YtbbkpmbepljhkaaSRiseRef
set_option linter.all false
namespace Go.Proofs.Ytbbkpmbepljhkaa
open Go Go.Esc

theorem slL_from {id n a : Nat} (ha : a ≤ n) : aslL 1 (.c (.sl id 0 n 1)) (some (.c (.i .i64 (a : Int)))) none = some (.c (.sl id a (n - a) 1)) := by
  simp only [aslL, bound]
  rw [if_pos (by omega)]
  simp only [Option.bind_some, Int.toNat_natCast]
  rw [if_pos ⟨ha, Nat.le_refl _, trivial⟩]
  simp

theorem copy_ins {H : Heap} {id k p : Nat} {out : List (List UInt8)} (hr : rd H id = some ⟨encS (out ++ [[]]), true⟩) (hk : out.length = k) (hp : p ≤ k) :
    ∃ c, acopy H 1 (.c (.sl id (p + 1) (k - p) 1)) (.c (.sl id p (k + 1 - p) 1)) = some (c, H.set id (some ⟨encS ((out ++ [[]]).take (p + 1) ++ out.drop p), true⟩)) := by
  have hl : (encS (out ++ [[]])).length = k + 1 := by rw [encS_length]; simp [hk]
  have h1 : ((encS (out ++ [[]])).drop p).take (k + 1 - p) = (encS (out ++ [[]])).drop p := List.take_of_length_le (by rw [List.length_drop]; omega)
  have h2 : addcells H 1 (.c (.sl id p (k + 1 - p) 1)) = some ((encS (out ++ [[]])).drop p) := by
    simp only [addcells, if_true, slcells, hr, Option.bind_some, Nat.mul_one, h1]
    rw [if_pos ⟨by omega, by simp⟩]
  have h3 : ((encS (out ++ [[]])).drop p).length = k + 1 - p := by rw [List.length_drop]; omega
  have h4 : Nat.min (k + 1 - p) (k - p) = k - p := Nat.min_eq_right (by omega)
  have h5 : lay (encS (out ++ [[]])) (p + 1) (((encS (out ++ [[]])).drop p).take (k - p)) = encS ((out ++ [[]]).take (p + 1) ++ out.drop p) := by
    unfold lay
    have e1 : ((encS (out ++ [[]])).drop p).take (k - p) = encS (out.drop p) := by
      unfold encS
      rw [List.map_append, List.drop_append_of_le_length (by simp; omega), List.take_append_of_le_length (by simp; omega), List.take_of_length_le (by simp; omega), List.map_drop]
    have e2 : (encS (out ++ [[]])).drop (p + 1 + (encS (out.drop p)).length) = [] := List.drop_of_length_le (by rw [hl, encS_length, List.length_drop]; omega)
    rw [e1, e2]
    simp only [List.append_nil, encS, List.map_append, List.map_take, List.map_drop]
  refine ⟨.c (.i .i64 ((k - p : Nat) : Int)), ?_⟩
  simp only [acopy, h2, Option.bind_some, hr, h3, Nat.div_one, h4, Nat.mul_one, h5]
  rw [if_pos ⟨trivial, by omega, trivial⟩]

end Go.Proofs.Ytbbkpmbepljhkaa
