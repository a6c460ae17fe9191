/- IndexFixes: a fixed index is right, and is fixed as it is; no place has a block that it did not have; and one that is right is fixed as it is: proved with no condition. -/
import Derived.Test.YtbbkpmbepljhkaaRows
import Derived.Test.YtbbkpmbepljhkaaEscT
import Derived.Test.YtbbkpmbepljhkaaSLaw19Fixes
import Derived.Test.YtbbkpmbepljhkaaSStart
set_option linter.all false
namespace Go.Proofs.Ytbbkpmbepljhkaa.indexFixes
open Go Go.Esc Go.ChangeShapes Go.WideShapes Go.ChangeAt Go.RowKit Go.ChangeMaps

set_option maxRecDepth 100000 in
theorem lifted (os : Os) (started : os.Started) (H : Type) (enc : TypeId × Value → H) :
    ReturnsInHanded {} Try.checked os 20 .any (Rows.indexFixesSpec.pre6 enc Try.prog Try.f20 Rows.indexFixesRow.domain false) (Rows.indexFixesSpec.post enc Try.prog Try.f20 false true false false) := by
  refine row_true (C := Try.checked) own_ok started (by kernel_rfl) Try.func20
    (ChangeSpec.witness6 (enc := enc) (C := Try.checked) false ⟨#[], #[.agg (Array.replicate 33 (.int .i64 0))], []⟩ 8 (by kernel_rfl) (by kernel_rfl) (by kernel_rfl) (by kernel_rfl))
    laid_ok (by rw [Try.params20]; intro t ht; simp only [List.mem_cons, List.not_mem_nil, or_false] at ht; rcases ht with rfl <;> exact ⟨by kernel_rfl, of_decide_eq_true (by kernel_rfl)⟩) (by kernel_rfl) Try.underlying4 rfl (fun ds hd => ?_) ?_
  · match ds, hd with
    | [_], _ => rfl
  · intro W base args ds ps hval hA
    rw [Try.params20] at hA hval
    obtain ⟨v0, d0, e, rfl, h0⟩ := trodAll_one hA
    obtain ⟨a0, w0, i0, r0⟩ := arg_ints (n := 8) (k := 33) (hval 0 129 v0 (by simp) (by rw [e]; rfl)) h0 (by kernel_rfl) (by kernel_rfl)
    match a0, w0 with
    | d :: t, w0 =>
    have ht : t.length = 32 := by simpa using w0
    exact ⟨[.a (encI (d :: t))], [], (fun _ => none), _, Inv.none W, by rw [e]; exact ⟨r0 _, trivial⟩, (S_escheatlaw19_IndexFixes_ok _ _ _ _ (indexFixes_eq _ ht)).2.1⟩

theorem joined : joinedFacts Try.prog 20 Try.f20 Rows.indexFixesSpec Rows.indexFixesRow = true := by
  unfold joinedFacts
  rw [mayEnter_ok, lifts_ok, make_ok]
  kernel_rfl

theorem over : Rows.indexFixesRow.holds Try.pinned (OpenSpec.ofChange Rows.indexFixesSpec) :=
  OpenClaim.holds_of_wide 20 Try.f20 rfl rfl rfl rfl rfl rfl rfl ⟨rfl, rfl, rfl, rfl, rfl⟩ rfl rfl rfl rfl rfl (by kernel_rfl) Try.func20 joined
    (of_decide_eq_true (by kernel_rfl)) (by unfold Func.isWrapper; first | (rw [if_pos (by decide +kernel)]; kernel_rfl) | (rw [if_neg (by decide +kernel)]; exact ⟨rfl, rfl⟩))
    (fun os started H enc _ => lifted os started H enc)

theorem proved : Rows.IndexFixesSaid := over

#print axioms proved

end Go.Proofs.Ytbbkpmbepljhkaa.indexFixes
