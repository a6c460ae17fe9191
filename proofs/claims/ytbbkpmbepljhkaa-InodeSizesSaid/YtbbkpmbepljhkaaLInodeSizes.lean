/- InodeSizes: blocks are enough for a size, and one less would not be; a greater size has no fewer: proved with no condition. -/
import Derived.Test.YtbbkpmbepljhkaaRows
import Derived.Test.YtbbkpmbepljhkaaEscT
import Derived.Test.YtbbkpmbepljhkaaSLaw16Sizes
import Derived.Test.YtbbkpmbepljhkaaSStart
set_option linter.all false
namespace Go.Proofs.Ytbbkpmbepljhkaa.inodeSizes
open Go Go.Esc Go.ChangeShapes Go.WideShapes Go.ChangeAt Go.RowKit Go.ChangeMaps

set_option maxRecDepth 100000 in
theorem lifted (os : Os) (started : os.Started) (H : Type) (enc : TypeId × Value → H) :
    ReturnsInHanded {} Try.checked os 17 .any (Rows.inodeSizesSpec.pre6 enc Try.prog Try.f17 Rows.inodeSizesRow.domain false) (Rows.inodeSizesSpec.post enc Try.prog Try.f17 false true false false) := by
  refine row_true (C := Try.checked) own_ok started (by kernel_rfl) Try.func17
    (ChangeSpec.witness6 (enc := enc) (C := Try.checked) false ⟨#[], #[.int .u16 0, .int .u16 0], []⟩ 8 (by kernel_rfl) (by kernel_rfl) (by kernel_rfl) (by kernel_rfl))
    laid_ok (by rw [Try.params17]; intro t ht; simp only [List.mem_cons, List.not_mem_nil, or_false] at ht; rcases ht with rfl | rfl <;> exact ⟨by kernel_rfl, of_decide_eq_true (by kernel_rfl)⟩) (by kernel_rfl) Try.underlying4 rfl (fun ds hd => ?_) ?_
  · match ds, hd with
    | [_, _], _ => rfl
  · intro W base args ds ps hval hA
    rw [Try.params17] at hA hval
    obtain ⟨v0, v1, d0, d1, p0, p1, e, rfl, rfl, h0, h1⟩ := trodAll_two hA
    obtain ⟨a0, w0, r0⟩ := arg_int (n := 8) (k := .u16) (hval 0 109 v0 (by simp) (by rw [e]; rfl)) h0 (by kernel_rfl) (by kernel_rfl)
    obtain ⟨a1, w1, r1⟩ := arg_int (n := 8) (k := .u16) (hval 1 109 v1 (by simp) (by rw [e]; rfl)) h1 (by kernel_rfl) (by kernel_rfl)
    have b0 := inKind_u16.1 w0
    have b1 := inKind_u16.1 w1
    exact ⟨[.c (.i .u16 a0), .c (.i .u16 a1)], [], (fun _ => none), _, Inv.none W, by rw [e]; exact ⟨r0 _, r1 _, trivial⟩, (S_escheatlaw16_InodeSizes_ok _ _ _ _ (inodeSizes_eq _ b0.1 b0.2 b1.1 b1.2)).2.1⟩

theorem joined : joinedFacts Try.prog 17 Try.f17 Rows.inodeSizesSpec Rows.inodeSizesRow = true := by
  unfold joinedFacts
  rw [mayEnter_ok, lifts_ok, make_ok]
  kernel_rfl

theorem over : Rows.inodeSizesRow.holds Try.pinned (OpenSpec.ofChange Rows.inodeSizesSpec) :=
  OpenClaim.holds_of_wide 17 Try.f17 rfl rfl rfl rfl rfl rfl rfl ⟨rfl, rfl, rfl, rfl, rfl⟩ rfl rfl rfl rfl rfl (by kernel_rfl) Try.func17 joined
    (of_decide_eq_true (by kernel_rfl)) (by unfold Func.isWrapper; first | (rw [if_pos (by decide +kernel)]; kernel_rfl) | (rw [if_neg (by decide +kernel)]; exact ⟨rfl, rfl⟩))
    (fun os started H enc _ => lifted os started H enc)

theorem proved : Rows.InodeSizesSaid := over

#print axioms proved

end Go.Proofs.Ytbbkpmbepljhkaa.inodeSizes
