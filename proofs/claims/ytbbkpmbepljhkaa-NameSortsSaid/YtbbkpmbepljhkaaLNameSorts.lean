/- NameSorts: any texts in order, each once, and the place of any one among texts that rise, are as the document has them: proved with no condition. -/
import Derived.Test.YtbbkpmbepljhkaaRows
import Derived.Test.YtbbkpmbepljhkaaEscT
import Derived.Test.YtbbkpmbepljhkaaSLaw03Sorts
import Derived.Test.YtbbkpmbepljhkaaSStart
set_option linter.all false
namespace Go.Proofs.Ytbbkpmbepljhkaa.nameSorts
open Go Go.Esc Go.ChangeShapes Go.WideShapes Go.ChangeAt Go.RowKit Go.ChangeMaps

set_option maxRecDepth 100000 in
theorem lifted (os : Os) (started : os.Started) (H : Type) (enc : TypeId × Value → H) :
    ReturnsInHanded {} Try.checked os 11 .any (Rows.nameSortsSpec.pre6 enc Try.prog Try.f11 Rows.nameSortsRow.domain false) (Rows.nameSortsSpec.post enc Try.prog Try.f11 false true false false) := by
  refine row_true (C := Try.checked) own_ok started (by kernel_rfl) Try.func11
    (ChangeSpec.witness6 (enc := enc) (C := Try.checked) false ⟨#[], #[.slice none 0 0, .string ⟨#[]⟩], []⟩ 8 (by kernel_rfl) (by kernel_rfl) (by kernel_rfl) (by kernel_rfl))
    laid_ok (by rw [Try.params11]; intro t ht; simp only [List.mem_cons, List.not_mem_nil, or_false] at ht; rcases ht with rfl | rfl <;> exact ⟨by kernel_rfl, of_decide_eq_true (by kernel_rfl)⟩) (by kernel_rfl) Try.underlying4 rfl (fun ds hd => ?_) ?_
  · match ds, hd with
    | [_, _], _ => rfl
  · intro W base args ds ps hval hA
    rw [Try.params11] at hA hval
    obtain ⟨v0, v1, d0, d1, p0, p1, e, rfl, rfl, h0, h1⟩ := trodAll_two hA
    have ho := Opened.none W
    obtain ⟨a0, μ0, l0, n0, x0, le0, ho0, r0, w0, b0⟩ := arg_slS (n := 8) ho (hval 0 73 v0 (by simp) (by rw [e]; rfl)) h0 (by kernel_rfl : Try.prog.underlying 73 = some (.slice 9)) (by kernel_rfl) (by kernel_rfl)
    obtain ⟨a1, w1, r1⟩ := arg_str (n := 8) (hval 1 9 v1 (by simp) (by rw [e]; rfl)) h1 (by kernel_rfl) (by kernel_rfl)
    exact ⟨[a0, .c (.s a1)], ([] ++ l0), μ0, _, ho0.1, by rw [e]; exact ⟨r0, r1 _, trivial⟩, (S_escheatlaw03_NameSorts_ok _ _ _ _ (nameSorts_eq w0 b0.1)).2.1⟩

theorem joined : joinedFacts Try.prog 11 Try.f11 Rows.nameSortsSpec Rows.nameSortsRow = true := by
  unfold joinedFacts
  rw [mayEnter_ok, lifts_ok, make_ok]
  kernel_rfl

theorem over : Rows.nameSortsRow.holds Try.pinned (OpenSpec.ofChange Rows.nameSortsSpec) :=
  OpenClaim.holds_of_wide 11 Try.f11 rfl rfl rfl rfl rfl rfl rfl ⟨rfl, rfl, rfl, rfl, rfl⟩ rfl rfl rfl rfl rfl (by kernel_rfl) Try.func11 joined
    (of_decide_eq_true (by kernel_rfl)) (by unfold Func.isWrapper; first | (rw [if_pos (by decide +kernel)]; kernel_rfl) | (rw [if_neg (by decide +kernel)]; exact ⟨rfl, rfl⟩))
    (fun os started H enc _ => lifted os started H enc)

theorem proved : Rows.NameSortsSaid := over

#print axioms proved

end Go.Proofs.Ytbbkpmbepljhkaa.nameSorts
