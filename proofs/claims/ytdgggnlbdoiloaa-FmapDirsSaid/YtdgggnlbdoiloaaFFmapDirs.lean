/- FmapDirs: the index and the buckets of any inode of any device, and what it owns, are as the document has them: proved with no condition. -/
import Derived.Test.YtdgggnlbdoiloaaRows
import Derived.Test.YtdgggnlbdoiloaaFFmapDirsp6
set_option linter.all false
namespace Go.Proofs.Ytdgggnlbdoiloaa.fmapDirs
open Go Go.Esc Go.ChangeShapes Go.WideShapes Go.ChangeAt Go.RowKit Go.ChangeMaps

set_option maxRecDepth 100000 in
theorem lifted (os : Os) (started : os.Started) (H : Type) (enc : TypeId × Value → H) :
    ReturnsInHanded {} Try.checked os 10 .any (Rows.fmapDirsSpec.pre6 enc Try.prog Try.f10 Rows.fmapDirsRow.domain false) (Rows.fmapDirsSpec.post enc Try.prog Try.f10 false true false false) := by
  refine row_true (C := Try.checked) own_ok started (by kernel_rfl) Try.func10
    (ChangeSpec.witness6 (enc := enc) (C := Try.checked) false ⟨#[], #[.slice none 0 0, .int .i64 0], []⟩ 8 (by kernel_rfl) (by kernel_rfl) (by kernel_rfl) (by kernel_rfl))
    laid_ok (by rw [Try.params10]; intro t ht; simp only [List.mem_cons, List.not_mem_nil, or_false] at ht; rcases ht with rfl | rfl <;> exact ⟨by kernel_rfl, of_decide_eq_true (by kernel_rfl)⟩) (by kernel_rfl) Try.underlying4 rfl (fun ds hd => ?_) ?_
  · match ds, hd with
    | [_, _], _ => rfl
  · intro W base args ds ps hval hA
    rw [Try.params10] at hA hval
    obtain ⟨v0, v1, d0, d1, p0, p1, e, rfl, rfl, h0, h1⟩ := trodAll_two hA
    have ho := Opened.nought W
    obtain ⟨a0, μ0, l0, n0, x0, le0, ho0, r0, w0, b0⟩ := arg_sl (n := 8) (sh := List.replicate 256 (.i .u8)) ho (hval 0 29 v0 (by simp) (by rw [e]; rfl)) h0 (by kernel_rfl : Try.prog.underlying 29 = some (.slice 65)) (by kernel_rfl) (by kernel_rfl) (by decide +kernel)
    obtain ⟨a1, w1, r1⟩ := arg_int (n := 8) (k := .i64) (hval 1 3 v1 (by simp) (by rw [e]; rfl)) h1 (by kernel_rfl) (by kernel_rfl)
    obtain ⟨D, hD, rfl, rfl⟩ := ok_dev _ _ b0.1
    rw [List.length_replicate] at w0
    exact ⟨[a0, .c (.i .i64 a1)], ([] ++ l0), μ0, _, ho0.1, by rw [e]; exact ⟨r0, r1 _, trivial⟩, (S_el22_FmapDirs_ok _ _ _ _ (fmapDirs_eq w0 hD)).2.1⟩

theorem joined : joinedFacts Try.prog 10 Try.f10 Rows.fmapDirsSpec Rows.fmapDirsRow = true := by
  unfold joinedFacts
  rw [mayEnter_ok, lifts_ok, make_ok]
  kernel_rfl

theorem over : Rows.fmapDirsRow.holds Try.pinned (OpenSpec.ofChange Rows.fmapDirsSpec) :=
  OpenClaim.holds_of_wide 10 Try.f10 rfl rfl rfl rfl rfl rfl rfl ⟨rfl, rfl, rfl, rfl, rfl⟩ rfl rfl rfl rfl rfl (by kernel_rfl) Try.func10 joined
    (of_decide_eq_true (by kernel_rfl)) (by unfold Func.isWrapper; first | (rw [if_pos (by decide +kernel)]; kernel_rfl) | (rw [if_neg (by decide +kernel)]; exact ⟨rfl, rfl⟩))
    (fun os started H enc _ => lifted os started H enc)

theorem proved : Rows.FmapDirsSaid := over

#print axioms proved

end Go.Proofs.Ytdgggnlbdoiloaa.fmapDirs
