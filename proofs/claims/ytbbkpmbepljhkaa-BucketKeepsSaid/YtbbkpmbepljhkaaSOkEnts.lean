/- A list of entries as cells. -/
import Derived.Test.YtbbkpmbepljhkaaEscT
import Derived.Test.YtbbkpmbepljhkaaSBucketNew
set_option linter.all false
namespace Go.Proofs.Ytbbkpmbepljhkaa
open Go Go.Esc

theorem ok_ents : ∀ (n : Nat) (cells : List Cell), All2 okCell (List.replicate n [Sh.s, .i .i64]).flatten cells → ∃ l : List Ent, cells = entsC l
  | 0, [], _ => ⟨[], rfl⟩
  | 0, _ :: _, h => h.elim
  | n + 1, cells, h => by
    rw [List.replicate_succ, List.flatten_cons] at h
    match cells, h with
    | .s s :: .i _ x :: r, ⟨_, ⟨rfl, _⟩, h3⟩ =>
      obtain ⟨l, rfl⟩ := ok_ents n r h3
      exact ⟨(s, x) :: l, rfl⟩

end Go.Proofs.Ytbbkpmbepljhkaa
