/- PointsPuts: a number at any place of a block as a patch, and a block of any numbers, are as the document has them: proved with no condition. -/
import Derived.Test.YtbbkpmbepljhkaaRows
import Derived.Test.YtbbkpmbepljhkaaEscT
import Derived.Test.YtbbkpmbepljhkaaSLaw20Puts
import Derived.Test.YtbbkpmbepljhkaaSStart
set_option linter.all false
namespace Go.Proofs.Ytbbkpmbepljhkaa.pointsPuts
open Go Go.Esc Go.ChangeShapes Go.WideShapes Go.ChangeAt Go.RowKit Go.ChangeMaps

set_option maxRecDepth 100000 in
theorem lifted (os : Os) (started : os.Started) (H : Type) (enc : TypeId × Value → H) :
    ReturnsInHanded {} Try.checked os 19 .any (Rows.pointsPutsSpec.pre6 enc Try.prog Try.f19 Rows.pointsPutsRow.domain false) (Rows.pointsPutsSpec.post enc Try.prog Try.f19 false true false false) := by
  refine row_true (C := Try.checked) own_ok started (by kernel_rfl) Try.func19
    (ChangeSpec.witness6 (enc := enc) (C := Try.checked) false ⟨#[], #[.int .i64 0, .int .i64 0, .slice none 0 0], []⟩ 8 (by kernel_rfl) (by kernel_rfl) (by kernel_rfl) (by kernel_rfl))
    laid_ok (by rw [Try.params19]; intro t ht; simp only [List.mem_cons, List.not_mem_nil, or_false] at ht; rcases ht with rfl | rfl | rfl <;> exact ⟨by kernel_rfl, of_decide_eq_true (by kernel_rfl)⟩) (by kernel_rfl) Try.underlying4 rfl (fun ds hd => ?_) ?_
  · match ds, hd with
    | [_, _, _], _ => rfl
  · intro W base args ds ps hval hA
    rw [Try.params19] at hA hval
    obtain ⟨v0, v1, v2, d0, d1, d2, p0, p1, p2, e, rfl, rfl, h0, h1, h2⟩ := trodAll_three hA
    have ho := Opened.none W
    obtain ⟨a0, w0, r0⟩ := arg_int (n := 8) (k := .i64) (hval 0 3 v0 (by simp) (by rw [e]; rfl)) h0 (by kernel_rfl) (by kernel_rfl)
    obtain ⟨a1, w1, r1⟩ := arg_int (n := 8) (k := .i64) (hval 1 3 v1 (by simp) (by rw [e]; rfl)) h1 (by kernel_rfl) (by kernel_rfl)
    obtain ⟨a2, μ2, l2, n2, x2, le2, ho2, r2, w2, b2⟩ := arg_slI (n := 8) ho (hval 2 70 v2 (by simp) (by rw [e]; rfl)) h2 (by kernel_rfl : Try.prog.underlying 70 = some (.slice 3)) (by kernel_rfl) (by kernel_rfl)
    exact ⟨[.c (.i .i64 a0), .c (.i .i64 a1), a2], ([] ++ l2), μ2, _, ho2.1, by rw [e]; exact ⟨r0 _, r1 _, r2, trivial⟩, (S_escheatlaw20_PointsPuts_ok _ _ _ _ (pointsPuts_eq _ w2)).2.1⟩

theorem joined : joinedFacts Try.prog 19 Try.f19 Rows.pointsPutsSpec Rows.pointsPutsRow = true := by
  unfold joinedFacts
  rw [mayEnter_ok, lifts_ok, make_ok]
  kernel_rfl

theorem over : Rows.pointsPutsRow.holds Try.pinned (OpenSpec.ofChange Rows.pointsPutsSpec) :=
  OpenClaim.holds_of_wide 19 Try.f19 rfl rfl rfl rfl rfl rfl rfl ⟨rfl, rfl, rfl, rfl, rfl⟩ rfl rfl rfl rfl rfl (by kernel_rfl) Try.func19 joined
    (of_decide_eq_true (by kernel_rfl)) (by unfold Func.isWrapper; first | (rw [if_pos (by decide +kernel)]; kernel_rfl) | (rw [if_neg (by decide +kernel)]; exact ⟨rfl, rfl⟩))
    (fun os started H enc _ => lifted os started H enc)

theorem proved : Rows.PointsPutsSaid := over

#print axioms proved

end Go.Proofs.Ytbbkpmbepljhkaa.pointsPuts
