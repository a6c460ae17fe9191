/- BucketNews: a bucket of any entries, or why there is none, is as the document has it: proved with no condition. -/
import Derived.Test.YtbbkpmbepljhkaaRows
import Derived.Test.YtbbkpmbepljhkaaEscT
import Derived.Test.YtbbkpmbepljhkaaSLaw18News
import Derived.Test.YtbbkpmbepljhkaaSStart
set_option linter.all false
namespace Go.Proofs.Ytbbkpmbepljhkaa.bucketNews
open Go Go.Esc Go.ChangeShapes Go.WideShapes Go.ChangeAt Go.RowKit Go.ChangeMaps

set_option maxRecDepth 100000 in
theorem lifted (os : Os) (started : os.Started) (H : Type) (enc : TypeId × Value → H) :
    ReturnsInHanded {} Try.checked os 34 .any (Rows.bucketNewsSpec.pre6 enc Try.prog Try.f34 Rows.bucketNewsRow.domain false) (Rows.bucketNewsSpec.post enc Try.prog Try.f34 false true false false) := by
  refine row_true (C := Try.checked) own_ok started (by kernel_rfl) Try.func34
    (ChangeSpec.witness6 (enc := enc) (C := Try.checked) false ⟨#[], #[.slice none 0 0], []⟩ 8 (by kernel_rfl) (by kernel_rfl) (by kernel_rfl) (by kernel_rfl))
    laid_ok (by rw [Try.params34]; intro t ht; simp only [List.mem_cons, List.not_mem_nil, or_false] at ht; rcases ht with rfl <;> exact ⟨by kernel_rfl, of_decide_eq_true (by kernel_rfl)⟩) (by kernel_rfl) Try.underlying4 rfl (fun ds hd => ?_) ?_
  · match ds, hd with
    | [_], _ => rfl
  · intro W base args ds ps hval hA
    rw [Try.params34] at hA hval
    obtain ⟨v0, d0, e, rfl, h0⟩ := trodAll_one hA
    have ho := Opened.none W
    obtain ⟨a0, μ0, l0, n0, x0, le0, ho0, r0, w0, b0⟩ := arg_sl (n := 8) (sh := [.s, .i .i64]) ho (hval 0 184 v0 (by simp) (by rw [e]; rfl)) h0 (by kernel_rfl : Try.prog.underlying 184 = some (.slice 193)) (by kernel_rfl) (by kernel_rfl) (by decide +kernel)
    obtain ⟨es, rfl⟩ := ok_ents _ _ b0.1
    exact ⟨[a0], ([] ++ l0), μ0, _, ho0.1, by rw [e]; exact ⟨r0, trivial⟩, (S_escheatlaw18_BucketNews_ok _ _ _ _ (bucketNews_eq w0)).2.1⟩

theorem joined : joinedFacts Try.prog 34 Try.f34 Rows.bucketNewsSpec Rows.bucketNewsRow = true := by
  unfold joinedFacts
  rw [mayEnter_ok, lifts_ok, make_ok]
  kernel_rfl

theorem over : Rows.bucketNewsRow.holds Try.pinned (OpenSpec.ofChange Rows.bucketNewsSpec) :=
  OpenClaim.holds_of_wide 34 Try.f34 rfl rfl rfl rfl rfl rfl rfl ⟨rfl, rfl, rfl, rfl, rfl⟩ rfl rfl rfl rfl rfl (by kernel_rfl) Try.func34 joined
    (of_decide_eq_true (by kernel_rfl)) (by unfold Func.isWrapper; first | (rw [if_pos (by decide +kernel)]; kernel_rfl) | (rw [if_neg (by decide +kernel)]; exact ⟨rfl, rfl⟩))
    (fun os started H enc _ => lifted os started H enc)

theorem proved : Rows.BucketNewsSaid := over

#print axioms proved

end Go.Proofs.Ytbbkpmbepljhkaa.bucketNews
