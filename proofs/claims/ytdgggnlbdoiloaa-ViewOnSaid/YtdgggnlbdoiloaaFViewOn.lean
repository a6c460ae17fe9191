/- ViewOn: a view over a function that tells blocks, or errors, has these, and noughts where it tells an error, or there is no function, or no block: proved with no condition. -/
import Derived.Test.YtdgggnlbdoiloaaRows
import Derived.Test.YtdgggnlbdoiloaaFViewOnp5
set_option linter.all false
namespace Go.Proofs.Ytdgggnlbdoiloaa.viewOn
open Go Go.Esc Go.ChangeShapes Go.WideShapes Go.ChangeAt Go.RowKit Go.ChangeMaps

set_option maxRecDepth 100000 in
theorem lifted (os : Os) (started : os.Started) (H : Type) (enc : TypeId × Value → H) :
    ReturnsInHanded {} Try.checked os 9 .any (Rows.viewOnSpec.pre6 enc Try.prog Try.f9 Rows.viewOnRow.domain false) (Rows.viewOnSpec.post enc Try.prog Try.f9 false true false false) := by
  refine row_true (C := Try.checked) own_ok started (by kernel_rfl) Try.func9
    (ChangeSpec.witness6 (enc := enc) (C := Try.checked) false ⟨#[], #[.agg #[.int .i64 0, .int .i64 0, .int .u64 0], .slice none 0 0, .agg #[.int .i64 0, .int .i64 0]], []⟩ 8 (by kernel_rfl) (by kernel_rfl) (by kernel_rfl) (by kernel_rfl))
    laid_ok (by rw [Try.params9]; intro t ht; simp only [List.mem_cons, List.not_mem_nil, or_false] at ht; rcases ht with rfl | rfl | rfl <;> exact ⟨by kernel_rfl, of_decide_eq_true (by kernel_rfl)⟩) (by kernel_rfl) Try.underlying4 rfl (fun ds hd => ?_) ?_
  · match ds, hd with
    | [_, _, _], _ => rfl
  · intro W base args ds ps hval hA
    rw [Try.params9] at hA hval
    obtain ⟨v0, v1, v2, d0, d1, d2, p0, p1, p2, e, rfl, rfl, h0, h1, h2⟩ := trodAll_three hA
    have ho := Opened.nought W
    obtain ⟨c0, w0, r0⟩ := arg_cells (n := 8) (sh := [.i .i64, .i .i64, .i .u64]) (hval 0 32 v0 (by simp) (by rw [e]; rfl)) h0 (by kernel_rfl) (by kernel_rfl)
    obtain ⟨a1, μ1, l1, n1, x1, le1, ho1, r1, w1, b1⟩ := arg_sl (n := 8) (sh := List.replicate 256 (.i .u8)) ho (hval 1 29 v1 (by simp) (by rw [e]; rfl)) h1 (by kernel_rfl : Try.prog.underlying 29 = some (.slice 65)) (by kernel_rfl) (by kernel_rfl) (by decide +kernel)
    obtain ⟨a2, w2, i2, r2⟩ := arg_ints (n := 8) (k := 2) (hval 2 69 v2 (by simp) (by rw [e]; rfl)) h2 (by kernel_rfl) (by kernel_rfl)
    obtain ⟨x, y, z, rfl, bx, by_, bz⟩ := ok_layout w0
    obtain ⟨D, hD, rfl, rfl⟩ := ok_dev _ _ b1.1
    rw [List.length_replicate] at w1
    match a2, w2 with
    | [p, q], _ =>
    exact ⟨[.a (layC x y z), a1, .a (encI [p, q])], ([] ++ l1), μ1, _, ho1.1, by rw [e]; exact ⟨r0 _, r1, r2 _, trivial⟩, (S_el21_ViewOn_ok _ _ _ _ (viewOn_eq w1 hD)).2.1⟩

theorem joined : joinedFacts Try.prog 9 Try.f9 Rows.viewOnSpec Rows.viewOnRow = true := by
  unfold joinedFacts
  rw [mayEnter_ok, lifts_ok, make_ok]
  kernel_rfl

theorem over : Rows.viewOnRow.holds Try.pinned (OpenSpec.ofChange Rows.viewOnSpec) :=
  OpenClaim.holds_of_wide 9 Try.f9 rfl rfl rfl rfl rfl rfl rfl ⟨rfl, rfl, rfl, rfl, rfl⟩ rfl rfl rfl rfl rfl (by kernel_rfl) Try.func9 joined
    (of_decide_eq_true (by kernel_rfl)) (by unfold Func.isWrapper; first | (rw [if_pos (by decide +kernel)]; kernel_rfl) | (rw [if_neg (by decide +kernel)]; exact ⟨rfl, rfl⟩))
    (fun os started H enc _ => lifted os started H enc)

theorem proved : Rows.ViewOnSaid := over

#print axioms proved

end Go.Proofs.Ytdgggnlbdoiloaa.viewOn
