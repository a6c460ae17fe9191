/- SuperPuts: whether any layout may be, and its first block, is as the document has it; and whether two are the same: proved with no condition. -/
import Derived.Test.YtbbkpmbepljhkaaRows
import Derived.Test.YtbbkpmbepljhkaaEscT
import Derived.Test.YtbbkpmbepljhkaaSLaw14Puts
import Derived.Test.YtbbkpmbepljhkaaSStart
set_option linter.all false
namespace Go.Proofs.Ytbbkpmbepljhkaa.superPuts
open Go Go.Esc Go.ChangeShapes Go.WideShapes Go.ChangeAt Go.RowKit Go.ChangeMaps

set_option maxRecDepth 100000 in
theorem lifted (os : Os) (started : os.Started) (H : Type) (enc : TypeId × Value → H) :
    ReturnsInHanded {} Try.checked os 25 .any (Rows.superPutsSpec.pre6 enc Try.prog Try.f25 Rows.superPutsRow.domain false) (Rows.superPutsSpec.post enc Try.prog Try.f25 false true false false) := by
  refine row_true (C := Try.checked) own_ok started (by kernel_rfl) Try.func25
    (ChangeSpec.witness6 (enc := enc) (C := Try.checked) false ⟨#[], #[.agg #[.int .i64 0, .int .i64 0, .int .u64 0], .agg #[.int .i64 0, .int .i64 0, .int .u64 0]], []⟩ 8 (by kernel_rfl) (by kernel_rfl) (by kernel_rfl) (by kernel_rfl))
    laid_ok (by rw [Try.params25]; intro t ht; simp only [List.mem_cons, List.not_mem_nil, or_false] at ht; rcases ht with rfl | rfl <;> exact ⟨by kernel_rfl, of_decide_eq_true (by kernel_rfl)⟩) (by kernel_rfl) Try.underlying4 rfl (fun ds hd => ?_) ?_
  · match ds, hd with
    | [_, _], _ => rfl
  · intro W base args ds ps hval hA
    rw [Try.params25] at hA hval
    obtain ⟨v0, v1, d0, d1, p0, p1, e, rfl, rfl, h0, h1⟩ := trodAll_two hA
    obtain ⟨c0, w0, r0⟩ := arg_cells (n := 8) (sh := [.i .i64, .i .i64, .i .u64]) (hval 0 41 v0 (by simp) (by rw [e]; rfl)) h0 (by kernel_rfl) (by kernel_rfl)
    obtain ⟨c1, w1, r1⟩ := arg_cells (n := 8) (sh := [.i .i64, .i .i64, .i .u64]) (hval 1 41 v1 (by simp) (by rw [e]; rfl)) h1 (by kernel_rfl) (by kernel_rfl)
    obtain ⟨x, y, z, rfl, bx, by_, bz⟩ := ok_layout w0
    obtain ⟨x', y', z', rfl, bx', by_', bz'⟩ := ok_layout w1
    have b2 := inKind_u64.1 bz
    exact ⟨[.a (layC x y z), .a (layC x' y' z')], [], (fun _ => none), _, Inv.none W, by rw [e]; exact ⟨r0 _, r1 _, trivial⟩, (S_escheatlaw14_SuperPuts_ok _ _ _ _ (superPuts_eq _ b2.1 (by omega))).2.1⟩

theorem joined : joinedFacts Try.prog 25 Try.f25 Rows.superPutsSpec Rows.superPutsRow = true := by
  unfold joinedFacts
  rw [mayEnter_ok, lifts_ok, make_ok]
  kernel_rfl

theorem over : Rows.superPutsRow.holds Try.pinned (OpenSpec.ofChange Rows.superPutsSpec) :=
  OpenClaim.holds_of_wide 25 Try.f25 rfl rfl rfl rfl rfl rfl rfl ⟨rfl, rfl, rfl, rfl, rfl⟩ rfl rfl rfl rfl rfl (by kernel_rfl) Try.func25 joined
    (of_decide_eq_true (by kernel_rfl)) (by unfold Func.isWrapper; first | (rw [if_pos (by decide +kernel)]; kernel_rfl) | (rw [if_neg (by decide +kernel)]; exact ⟨rfl, rfl⟩))
    (fun os started H enc _ => lifted os started H enc)

theorem proved : Rows.SuperPutsSaid := over

#print axioms proved

end Go.Proofs.Ytbbkpmbepljhkaa.superPuts
