/- GeomOnce: each inode stands in a place of its own, and is found there again; and all blocks are of one area: proved with no condition. -/
import Derived.Test.YtbbkpmbepljhkaaRows
import Derived.Test.YtbbkpmbepljhkaaEscT
import Derived.Test.YtbbkpmbepljhkaaSLaw15Once
import Derived.Test.YtbbkpmbepljhkaaSStart
set_option linter.all false
namespace Go.Proofs.Ytbbkpmbepljhkaa.geomOnce
open Go Go.Esc Go.ChangeShapes Go.WideShapes Go.ChangeAt Go.RowKit Go.ChangeMaps

set_option maxRecDepth 100000 in
theorem lifted (os : Os) (started : os.Started) (H : Type) (enc : TypeId × Value → H) :
    ReturnsInHanded {} Try.checked os 13 .any (Rows.geomOnceSpec.pre6 enc Try.prog Try.f13 Rows.geomOnceRow.domain false) (Rows.geomOnceSpec.post enc Try.prog Try.f13 false true false false) := by
  refine row_true (C := Try.checked) own_ok started (by kernel_rfl) Try.func13
    (ChangeSpec.witness6 (enc := enc) (C := Try.checked) false ⟨#[], #[.agg #[.int .i64 0, .int .i64 0, .int .u64 0]], []⟩ 8 (by kernel_rfl) (by kernel_rfl) (by kernel_rfl) (by kernel_rfl))
    laid_ok (by rw [Try.params13]; intro t ht; simp only [List.mem_cons, List.not_mem_nil, or_false] at ht; rcases ht with rfl <;> exact ⟨by kernel_rfl, of_decide_eq_true (by kernel_rfl)⟩) (by kernel_rfl) Try.underlying4 rfl (fun ds hd => ?_) ?_
  · match ds, hd with
    | [_], _ => rfl
  · intro W base args ds ps hval hA
    rw [Try.params13] at hA hval
    obtain ⟨v0, d0, e, rfl, h0⟩ := trodAll_one hA
    obtain ⟨c0, w0, r0⟩ := arg_cells (n := 8) (sh := [.i .i64, .i .i64, .i .u64]) (hval 0 41 v0 (by simp) (by rw [e]; rfl)) h0 (by kernel_rfl) (by kernel_rfl)
    obtain ⟨x, y, z, rfl, bx, by_, bz⟩ := ok_layout w0
    exact ⟨[.a (layC x y z)], [], (fun _ => none), _, Inv.none W, by rw [e]; exact ⟨r0 _, trivial⟩, (S_escheatlaw15_GeomOnce_ok _ _ _ _ (geomOnce_eq _)).2.1⟩

theorem joined : joinedFacts Try.prog 13 Try.f13 Rows.geomOnceSpec Rows.geomOnceRow = true := by
  unfold joinedFacts
  rw [mayEnter_ok, lifts_ok, make_ok]
  kernel_rfl

theorem over : Rows.geomOnceRow.holds Try.pinned (OpenSpec.ofChange Rows.geomOnceSpec) :=
  OpenClaim.holds_of_wide 13 Try.f13 rfl rfl rfl rfl rfl rfl rfl ⟨rfl, rfl, rfl, rfl, rfl⟩ rfl rfl rfl rfl rfl (by kernel_rfl) Try.func13 joined
    (of_decide_eq_true (by kernel_rfl)) (by unfold Func.isWrapper; first | (rw [if_pos (by decide +kernel)]; kernel_rfl) | (rw [if_neg (by decide +kernel)]; exact ⟨rfl, rfl⟩))
    (fun os started H enc _ => lifted os started H enc)

theorem proved : Rows.GeomOnceSaid := over

#print axioms proved

end Go.Proofs.Ytbbkpmbepljhkaa.geomOnce
