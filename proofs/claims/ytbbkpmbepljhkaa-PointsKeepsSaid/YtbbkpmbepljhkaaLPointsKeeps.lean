/- PointsKeeps: what is patched is got, and all others are as they were; what is kept of what was kept is the same, and is no more than there was: proved with no condition. -/
import Derived.Test.YtbbkpmbepljhkaaRows
import Derived.Test.YtbbkpmbepljhkaaEscT
import Derived.Test.YtbbkpmbepljhkaaSLaw20Keeps
import Derived.Test.YtbbkpmbepljhkaaSStart
set_option linter.all false
namespace Go.Proofs.Ytbbkpmbepljhkaa.pointsKeeps
open Go Go.Esc Go.ChangeShapes Go.WideShapes Go.ChangeAt Go.RowKit Go.ChangeMaps

set_option maxRecDepth 100000 in
theorem lifted (os : Os) (started : os.Started) (H : Type) (enc : TypeId × Value → H) :
    ReturnsInHanded {} Try.checked os 21 .any (Rows.pointsKeepsSpec.pre6 enc Try.prog Try.f21 Rows.pointsKeepsRow.domain false) (Rows.pointsKeepsSpec.post enc Try.prog Try.f21 false true false false) := by
  refine row_true (C := Try.checked) own_ok started (by kernel_rfl) Try.func21
    (ChangeSpec.witness6 (enc := enc) (C := Try.checked) false ⟨#[], #[.agg (Array.replicate 256 (.int .u8 0)), .agg #[.int .u8 0, .int .u8 0], .int .u16 0], []⟩ 8 (by kernel_rfl) (by kernel_rfl) (by kernel_rfl) (by kernel_rfl))
    laid_ok (by rw [Try.params21]; intro t ht; simp only [List.mem_cons, List.not_mem_nil, or_false] at ht; rcases ht with rfl | rfl | rfl <;> exact ⟨by kernel_rfl, of_decide_eq_true (by kernel_rfl)⟩) (by kernel_rfl) Try.underlying4 rfl (fun ds hd => ?_) ?_
  · match ds, hd with
    | [_, _, _], _ => rfl
  · intro W base args ds ps hval hA
    rw [Try.params21] at hA hval
    obtain ⟨v0, v1, v2, d0, d1, d2, p0, p1, p2, e, rfl, rfl, h0, h1, h2⟩ := trodAll_three hA
    obtain ⟨a0, w0, r0⟩ := arg_bytes (n := 8) (k := 256) (hval 0 50 v0 (by simp) (by rw [e]; rfl)) h0 (by kernel_rfl) (by kernel_rfl)
    obtain ⟨a1, w1, r1⟩ := arg_bytes (n := 8) (k := 2) (hval 1 51 v1 (by simp) (by rw [e]; rfl)) h1 (by kernel_rfl) (by kernel_rfl)
    obtain ⟨a2, w2, r2⟩ := arg_int (n := 8) (k := .u16) (hval 2 109 v2 (by simp) (by rw [e]; rfl)) h2 (by kernel_rfl) (by kernel_rfl)
    match a1, w1 with
    | [x, y], _ =>
    have b2 := inKind_u16.1 w2
    exact ⟨[.a (encB a0), .a (encB [x, y]), .c (.i .u16 a2)], [], (fun _ => none), _, Inv.none W, by rw [e]; exact ⟨r0 _, r1 _, r2 _, trivial⟩, (S_escheatlaw20_PointsKeeps_ok _ _ _ _ (pointsKeeps_eq _ w0 b2.1 (by omega))).2.1⟩

theorem joined : joinedFacts Try.prog 21 Try.f21 Rows.pointsKeepsSpec Rows.pointsKeepsRow = true := by
  unfold joinedFacts
  rw [mayEnter_ok, lifts_ok, make_ok]
  kernel_rfl

theorem over : Rows.pointsKeepsRow.holds Try.pinned (OpenSpec.ofChange Rows.pointsKeepsSpec) :=
  OpenClaim.holds_of_wide 21 Try.f21 rfl rfl rfl rfl rfl rfl rfl ⟨rfl, rfl, rfl, rfl, rfl⟩ rfl rfl rfl rfl rfl (by kernel_rfl) Try.func21 joined
    (of_decide_eq_true (by kernel_rfl)) (by unfold Func.isWrapper; first | (rw [if_pos (by decide +kernel)]; kernel_rfl) | (rw [if_neg (by decide +kernel)]; exact ⟨rfl, rfl⟩))
    (fun os started H enc _ => lifted os started H enc)

theorem proved : Rows.PointsKeepsSaid := over

#print axioms proved

end Go.Proofs.Ytbbkpmbepljhkaa.pointsKeeps
