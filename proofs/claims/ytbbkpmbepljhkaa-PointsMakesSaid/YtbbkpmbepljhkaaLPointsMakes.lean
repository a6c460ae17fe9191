/- PointsMakes: a block of numbers is the block of its numbers: proved with no condition. -/
import Derived.Test.YtbbkpmbepljhkaaRows
import Derived.Test.YtbbkpmbepljhkaaEscT
import Derived.Test.YtbbkpmbepljhkaaSLaw20Makes
import Derived.Test.YtbbkpmbepljhkaaSStart
set_option linter.all false
namespace Go.Proofs.Ytbbkpmbepljhkaa.pointsMakes
open Go Go.Esc Go.ChangeShapes Go.WideShapes Go.ChangeAt Go.RowKit Go.ChangeMaps

set_option maxRecDepth 100000 in
theorem lifted (os : Os) (started : os.Started) (H : Type) (enc : TypeId × Value → H) :
    ReturnsInHanded {} Try.checked os 15 .any (Rows.pointsMakesSpec.pre6 enc Try.prog Try.f15 Rows.pointsMakesRow.domain false) (Rows.pointsMakesSpec.post enc Try.prog Try.f15 false true false false) := by
  refine row_true (C := Try.checked) own_ok started (by kernel_rfl) Try.func15
    (ChangeSpec.witness6 (enc := enc) (C := Try.checked) false ⟨#[], #[.agg (Array.replicate 256 (.int .u8 0))], []⟩ 8 (by kernel_rfl) (by kernel_rfl) (by kernel_rfl) (by kernel_rfl))
    laid_ok (by rw [Try.params15]; intro t ht; simp only [List.mem_cons, List.not_mem_nil, or_false] at ht; rcases ht with rfl <;> exact ⟨by kernel_rfl, of_decide_eq_true (by kernel_rfl)⟩) (by kernel_rfl) Try.underlying4 rfl (fun ds hd => ?_) ?_
  · match ds, hd with
    | [_], _ => rfl
  · intro W base args ds ps hval hA
    rw [Try.params15] at hA hval
    obtain ⟨v0, d0, e, rfl, h0⟩ := trodAll_one hA
    obtain ⟨a0, w0, r0⟩ := arg_bytes (n := 8) (k := 256) (hval 0 50 v0 (by simp) (by rw [e]; rfl)) h0 (by kernel_rfl) (by kernel_rfl)
    exact ⟨[.a (encB a0)], [], (fun _ => none), _, Inv.none W, by rw [e]; exact ⟨r0 _, trivial⟩, (S_escheatlaw20_PointsMakes_ok _ _ _ _ (pointsMakes_eq _ w0)).2.1⟩

theorem joined : joinedFacts Try.prog 15 Try.f15 Rows.pointsMakesSpec Rows.pointsMakesRow = true := by
  unfold joinedFacts
  rw [mayEnter_ok, lifts_ok, make_ok]
  kernel_rfl

theorem over : Rows.pointsMakesRow.holds Try.pinned (OpenSpec.ofChange Rows.pointsMakesSpec) :=
  OpenClaim.holds_of_wide 15 Try.f15 rfl rfl rfl rfl rfl rfl rfl ⟨rfl, rfl, rfl, rfl, rfl⟩ rfl rfl rfl rfl rfl (by kernel_rfl) Try.func15 joined
    (of_decide_eq_true (by kernel_rfl)) (by unfold Func.isWrapper; first | (rw [if_pos (by decide +kernel)]; kernel_rfl) | (rw [if_neg (by decide +kernel)]; exact ⟨rfl, rfl⟩))
    (fun os started H enc _ => lifted os started H enc)

theorem proved : Rows.PointsMakesSaid := over

#print axioms proved

end Go.Proofs.Ytbbkpmbepljhkaa.pointsMakes
