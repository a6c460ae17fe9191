/- FmapOwns: all that any inode of any device owns are data blocks, a file's blocks are among them, and there is at most one more; what is beyond its size is among them, too: proved with no condition. -/
import Derived.Test.YtdgggnlbdoiloaaRows
import Derived.Test.YtdgggnlbdoiloaaFFmapOwnsp5
set_option linter.all false
namespace Go.Proofs.Ytdgggnlbdoiloaa.fmapOwns
open Go Go.Esc Go.ChangeShapes Go.WideShapes Go.ChangeAt Go.RowKit Go.ChangeMaps

set_option maxRecDepth 100000 in
theorem lifted (os : Os) (started : os.Started) (H : Type) (enc : TypeId × Value → H) :
    ReturnsInHanded {} Try.checked os 6 .any (Rows.fmapOwnsSpec.pre6 enc Try.prog Try.f6 Rows.fmapOwnsRow.domain false) (Rows.fmapOwnsSpec.post enc Try.prog Try.f6 false true false false) := by
  refine row_true (C := Try.checked) own_ok started (by kernel_rfl) Try.func6
    (ChangeSpec.witness6 (enc := enc) (C := Try.checked) false ⟨#[], #[.slice none 0 0, .agg #[.int .i64 0, .int .i64 0, .int .i64 0, .int .i64 0, .int .i64 0, .int .i64 0, .int .i64 0, .int .i64 0, .int .i64 0, .int .i64 0, .int .i64 0]], []⟩ 8 (by kernel_rfl) (by kernel_rfl) (by kernel_rfl) (by kernel_rfl))
    laid_ok (by rw [Try.params6]; intro t ht; simp only [List.mem_cons, List.not_mem_nil, or_false] at ht; rcases ht with rfl | rfl <;> exact ⟨by kernel_rfl, of_decide_eq_true (by kernel_rfl)⟩) (by kernel_rfl) Try.underlying4 rfl (fun ds hd => ?_) ?_
  · match ds, hd with
    | [_, _], _ => rfl
  · intro W base args ds ps hval hA
    rw [Try.params6] at hA hval
    obtain ⟨v0, v1, d0, d1, p0, p1, e, rfl, rfl, h0, h1⟩ := trodAll_two hA
    have ho := Opened.nought W
    obtain ⟨a0, μ0, l0, n0, x0, le0, ho0, r0, w0, b0⟩ := arg_sl (n := 8) (sh := List.replicate 256 (.i .u8)) ho (hval 0 29 v0 (by simp) (by rw [e]; rfl)) h0 (by kernel_rfl : Try.prog.underlying 29 = some (.slice 65)) (by kernel_rfl) (by kernel_rfl) (by decide +kernel)
    obtain ⟨a1, w1, i1, r1⟩ := arg_ints (n := 8) (k := 11) (hval 1 43 v1 (by simp) (by rw [e]; rfl)) h1 (by kernel_rfl) (by kernel_rfl)
    obtain ⟨D, hD, rfl, rfl⟩ := ok_dev _ _ b0.1
    rw [List.length_replicate] at w0
    obtain ⟨k, l, s, p, d, rfl, hd⟩ := ok_ino a1 w1
    exact ⟨[a0, .a (inoC k l s p d)], ([] ++ l0), μ0, _, ho0.1, by rw [e]; exact ⟨r0, r1 _, trivial⟩, (S_escheatlaw22_FmapOwns_ok _ _ _ _ (fmapOwns_eq w0 hD hd)).2.1⟩

theorem joined : joinedFacts Try.prog 6 Try.f6 Rows.fmapOwnsSpec Rows.fmapOwnsRow = true := by
  unfold joinedFacts
  rw [mayEnter_ok, lifts_ok, make_ok]
  kernel_rfl

theorem over : Rows.fmapOwnsRow.holds Try.pinned (OpenSpec.ofChange Rows.fmapOwnsSpec) :=
  OpenClaim.holds_of_wide 6 Try.f6 rfl rfl rfl rfl rfl rfl rfl ⟨rfl, rfl, rfl, rfl, rfl⟩ rfl rfl rfl rfl rfl (by kernel_rfl) Try.func6 joined
    (of_decide_eq_true (by kernel_rfl)) (by unfold Func.isWrapper; first | (rw [if_pos (by decide +kernel)]; kernel_rfl) | (rw [if_neg (by decide +kernel)]; exact ⟨rfl, rfl⟩))
    (fun os started H enc _ => lifted os started H enc)

theorem proved : Rows.FmapOwnsSaid := over

#print axioms proved

end Go.Proofs.Ytdgggnlbdoiloaa.fmapOwns
