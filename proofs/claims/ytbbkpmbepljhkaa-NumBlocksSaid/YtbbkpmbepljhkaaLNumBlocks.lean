/- NumBlocks: a number in a block, a block with one, and bytes in a block, are as the document has them: proved with no condition. -/
import Derived.Test.YtbbkpmbepljhkaaRows
import Derived.Test.YtbbkpmbepljhkaaEscT
import Derived.Test.YtbbkpmbepljhkaaSLaw01Blocks
import Derived.Test.YtbbkpmbepljhkaaSStart
set_option linter.all false
namespace Go.Proofs.Ytbbkpmbepljhkaa.numBlocks
open Go Go.Esc Go.ChangeShapes Go.WideShapes Go.ChangeAt Go.RowKit Go.ChangeMaps

set_option maxRecDepth 100000 in
theorem lifted (os : Os) (started : os.Started) (H : Type) (enc : TypeId × Value → H) :
    ReturnsInHanded {} Try.checked os 14 .any (Rows.numBlocksSpec.pre6 enc Try.prog Try.f14 Rows.numBlocksRow.domain false) (Rows.numBlocksSpec.post enc Try.prog Try.f14 false true false false) := by
  refine row_true (C := Try.checked) own_ok started (by kernel_rfl) Try.func14
    (ChangeSpec.witness6 (enc := enc) (C := Try.checked) false ⟨#[], #[.agg (Array.replicate 256 (.int .u8 0)), .agg #[.int .i64 0, .int .i64 0, .int .i64 0], .slice none 0 0], []⟩ 8 (by kernel_rfl) (by kernel_rfl) (by kernel_rfl) (by kernel_rfl))
    laid_ok (by rw [Try.params14]; intro t ht; simp only [List.mem_cons, List.not_mem_nil, or_false] at ht; rcases ht with rfl | rfl | rfl <;> exact ⟨by kernel_rfl, of_decide_eq_true (by kernel_rfl)⟩) (by kernel_rfl) Try.underlying4 rfl (fun ds hd => ?_) ?_
  · match ds, hd with
    | [_, _, _], _ => rfl
  · intro W base args ds ps hval hA
    rw [Try.params14] at hA hval
    obtain ⟨v0, v1, v2, d0, d1, d2, p0, p1, p2, e, rfl, rfl, h0, h1, h2⟩ := trodAll_three hA
    have ho := Opened.none W
    obtain ⟨a0, w0, r0⟩ := arg_bytes (n := 8) (k := 256) (hval 0 50 v0 (by simp) (by rw [e]; rfl)) h0 (by kernel_rfl) (by kernel_rfl)
    obtain ⟨a1, w1, i1, r1⟩ := arg_ints (n := 8) (k := 3) (hval 1 85 v1 (by simp) (by rw [e]; rfl)) h1 (by kernel_rfl) (by kernel_rfl)
    obtain ⟨a2, μ2, l2, n2, x2, le2, ho2, r2, w2, b2⟩ := arg_slB (n := 8) ho (hval 2 32 v2 (by simp) (by rw [e]; rfl)) h2 (by kernel_rfl : Try.prog.underlying 32 = some (.slice 5)) (by kernel_rfl) (by kernel_rfl)
    match a1, w1, i1 with
    | [x, y, z], _, i1 =>
    have b1 := inKind_i64.1 (i1 x (by simp))
    exact ⟨[.a (encB a0), .a (encI [x, y, z]), a2], ([] ++ l2), μ2, _, ho2.1, by rw [e]; exact ⟨r0 _, r1 _, r2, trivial⟩, (S_escheatlaw01_NumBlocks_ok _ _ _ _ (numBlocks_eq _ w2 w0 (by omega))).2.1⟩

theorem joined : joinedFacts Try.prog 14 Try.f14 Rows.numBlocksSpec Rows.numBlocksRow = true := by
  unfold joinedFacts
  rw [mayEnter_ok, lifts_ok, make_ok]
  kernel_rfl

theorem over : Rows.numBlocksRow.holds Try.pinned (OpenSpec.ofChange Rows.numBlocksSpec) :=
  OpenClaim.holds_of_wide 14 Try.f14 rfl rfl rfl rfl rfl rfl rfl ⟨rfl, rfl, rfl, rfl, rfl⟩ rfl rfl rfl rfl rfl (by kernel_rfl) Try.func14 joined
    (of_decide_eq_true (by kernel_rfl)) (by unfold Func.isWrapper; first | (rw [if_pos (by decide +kernel)]; kernel_rfl) | (rw [if_neg (by decide +kernel)]; exact ⟨rfl, rfl⟩))
    (fun os started H enc _ => lifted os started H enc)

theorem proved : Rows.NumBlocksSaid := over

#print axioms proved

end Go.Proofs.Ytbbkpmbepljhkaa.numBlocks
