/- FreadSpans: the pieces of blocks of any bytes are as the document has them: proved with no condition. -/
import Derived.Test.YtdgggnlbdoiloaaRows
import Derived.Test.YtdgggnlbdoiloaaFFreadSpansp4
set_option linter.all false
namespace Go.Proofs.Ytdgggnlbdoiloaa.freadSpans
open Go Go.Esc Go.ChangeShapes Go.WideShapes Go.ChangeAt Go.RowKit Go.ChangeMaps

set_option maxRecDepth 100000 in
theorem lifted (os : Os) (started : os.Started) (H : Type) (enc : TypeId × Value → H) :
    ReturnsInHanded {} Try.checked os 3 .any (Rows.freadSpansSpec.pre6 enc Try.prog Try.f3 Rows.freadSpansRow.domain false) (Rows.freadSpansSpec.post enc Try.prog Try.f3 false true false false) := by
  refine row_true (C := Try.checked) own_ok started (by kernel_rfl) Try.func3
    (ChangeSpec.witness6 (enc := enc) (C := Try.checked) false ⟨#[], #[.int .i64 0, .int .i64 0], []⟩ 8 (by kernel_rfl) (by kernel_rfl) (by kernel_rfl) (by kernel_rfl))
    laid_ok (by rw [Try.params3]; intro t ht; simp only [List.mem_cons, List.not_mem_nil, or_false] at ht; rcases ht with rfl | rfl <;> exact ⟨by kernel_rfl, of_decide_eq_true (by kernel_rfl)⟩) (by kernel_rfl) Try.underlying4 rfl (fun ds hd => ?_) ?_
  · match ds, hd with
    | [_, _], _ => rfl
  · intro W base args ds ps hval hA
    rw [Try.params3] at hA hval
    obtain ⟨v0, v1, d0, d1, p0, p1, e, rfl, rfl, h0, h1⟩ := trodAll_two hA
    obtain ⟨a0, w0, r0⟩ := arg_int (n := 8) (k := .i64) (hval 0 3 v0 (by simp) (by rw [e]; rfl)) h0 (by kernel_rfl) (by kernel_rfl)
    obtain ⟨a1, w1, r1⟩ := arg_int (n := 8) (k := .i64) (hval 1 3 v1 (by simp) (by rw [e]; rfl)) h1 (by kernel_rfl) (by kernel_rfl)
    have b0 := inKind_i64.1 w0
    exact ⟨[.c (.i .i64 a0), .c (.i .i64 a1)], [], (fun _ => none), _, Inv.nought W, by rw [e]; exact ⟨r0 _, r1 _, trivial⟩, (S_escheatlaw23_FreadSpans_ok _ _ _ _ (freadSpans_eq _ (by omega))).2.1⟩

theorem joined : joinedFacts Try.prog 3 Try.f3 Rows.freadSpansSpec Rows.freadSpansRow = true := by
  unfold joinedFacts
  rw [mayEnter_ok, lifts_ok, make_ok]
  kernel_rfl

theorem over : Rows.freadSpansRow.holds Try.pinned (OpenSpec.ofChange Rows.freadSpansSpec) :=
  OpenClaim.holds_of_wide 3 Try.f3 rfl rfl rfl rfl rfl rfl rfl ⟨rfl, rfl, rfl, rfl, rfl⟩ rfl rfl rfl rfl rfl (by kernel_rfl) Try.func3 joined
    (of_decide_eq_true (by kernel_rfl)) (by unfold Func.isWrapper; first | (rw [if_pos (by decide +kernel)]; kernel_rfl) | (rw [if_neg (by decide +kernel)]; exact ⟨rfl, rfl⟩))
    (fun os started H enc _ => lifted os started H enc)

theorem proved : Rows.FreadSpansSaid := over

#print axioms proved

end Go.Proofs.Ytdgggnlbdoiloaa.freadSpans
