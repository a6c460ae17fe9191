/- BucketPatches: the patches of any slot, with any entry, or empty, or of its inode alone, or why there are none, are as the document has them: proved with no condition. -/
import Derived.Test.YtbbkpmbepljhkaaRows
import Derived.Test.YtbbkpmbepljhkaaEscT
import Derived.Test.YtbbkpmbepljhkaaSLaw18Patches
import Derived.Test.YtbbkpmbepljhkaaSStart
set_option linter.all false
namespace Go.Proofs.Ytbbkpmbepljhkaa.bucketPatches
open Go Go.Esc Go.ChangeShapes Go.WideShapes Go.ChangeAt Go.RowKit Go.ChangeMaps

set_option maxRecDepth 100000 in
theorem lifted (os : Os) (started : os.Started) (H : Type) (enc : TypeId × Value → H) :
    ReturnsInHanded {} Try.checked os 38 .any (Rows.bucketPatchesSpec.pre6 enc Try.prog Try.f38 Rows.bucketPatchesRow.domain false) (Rows.bucketPatchesSpec.post enc Try.prog Try.f38 false true false false) := by
  refine row_true (C := Try.checked) own_ok started (by kernel_rfl) Try.func38
    (ChangeSpec.witness6 (enc := enc) (C := Try.checked) false ⟨#[], #[.int .i64 0, .agg #[.string ⟨#[]⟩, .int .i64 0]], []⟩ 8 (by kernel_rfl) (by kernel_rfl) (by kernel_rfl) (by kernel_rfl))
    laid_ok (by rw [Try.params38]; intro t ht; simp only [List.mem_cons, List.not_mem_nil, or_false] at ht; rcases ht with rfl | rfl <;> exact ⟨by kernel_rfl, of_decide_eq_true (by kernel_rfl)⟩) (by kernel_rfl) Try.underlying4 rfl (fun ds hd => ?_) ?_
  · match ds, hd with
    | [_, _], _ => rfl
  · intro W base args ds ps hval hA
    rw [Try.params38] at hA hval
    obtain ⟨v0, v1, d0, d1, p0, p1, e, rfl, rfl, h0, h1⟩ := trodAll_two hA
    obtain ⟨a0, w0, r0⟩ := arg_int (n := 8) (k := .i64) (hval 0 3 v0 (by simp) (by rw [e]; rfl)) h0 (by kernel_rfl) (by kernel_rfl)
    obtain ⟨c1, w1, r1⟩ := arg_cells (n := 8) (sh := [.s, .i .i64]) (hval 1 193 v1 (by simp) (by rw [e]; rfl)) h1 (by kernel_rfl) (by kernel_rfl)
    obtain ⟨s, n, rfl, _, _⟩ := ok_entry w1
    exact ⟨[.c (.i .i64 a0), .a [.s s, .i .i64 n]], [], (fun _ => none), _, Inv.none W, by rw [e]; exact ⟨r0 _, r1 _, trivial⟩, (S_escheatlaw18_BucketPatches_ok _ _ _ _ (bucketPatches_eq _)).2.1⟩

theorem joined : joinedFacts Try.prog 38 Try.f38 Rows.bucketPatchesSpec Rows.bucketPatchesRow = true := by
  unfold joinedFacts
  rw [mayEnter_ok, lifts_ok, make_ok]
  kernel_rfl

theorem over : Rows.bucketPatchesRow.holds Try.pinned (OpenSpec.ofChange Rows.bucketPatchesSpec) :=
  OpenClaim.holds_of_wide 38 Try.f38 rfl rfl rfl rfl rfl rfl rfl ⟨rfl, rfl, rfl, rfl, rfl⟩ rfl rfl rfl rfl rfl (by kernel_rfl) Try.func38 joined
    (of_decide_eq_true (by kernel_rfl)) (by unfold Func.isWrapper; first | (rw [if_pos (by decide +kernel)]; kernel_rfl) | (rw [if_neg (by decide +kernel)]; exact ⟨rfl, rfl⟩))
    (fun os started H enc _ => lifted os started H enc)

theorem proved : Rows.BucketPatchesSaid := over

#print axioms proved

end Go.Proofs.Ytbbkpmbepljhkaa.bucketPatches
