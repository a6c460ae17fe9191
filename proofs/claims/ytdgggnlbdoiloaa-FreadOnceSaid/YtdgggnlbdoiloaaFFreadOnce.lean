/- FreadOnce: the pieces of any bytes of a file follow one another, each within its block, and are as many bytes as there are: proved with no condition. -/
import Derived.Test.YtdgggnlbdoiloaaRows
import Derived.Test.YtdgggnlbdoiloaaFFreadOncep3
set_option linter.all false
namespace Go.Proofs.Ytdgggnlbdoiloaa.freadOnce
open Go Go.Esc Go.ChangeShapes Go.WideShapes Go.ChangeAt Go.RowKit Go.ChangeMaps

set_option maxRecDepth 100000 in
theorem lifted (os : Os) (started : os.Started) (H : Type) (enc : TypeId × Value → H) :
    ReturnsInHanded {} Try.checked os 4 .any (Rows.freadOnceSpec.pre6 enc Try.prog Try.f4 Rows.freadOnceRow.domain false) (Rows.freadOnceSpec.post enc Try.prog Try.f4 false true false false) := by
  refine row_true (C := Try.checked) own_ok started (by kernel_rfl) Try.func4
    (ChangeSpec.witness6 (enc := enc) (C := Try.checked) false ⟨#[], #[.int .u16 0, .int .u16 0], []⟩ 8 (by kernel_rfl) (by kernel_rfl) (by kernel_rfl) (by kernel_rfl))
    laid_ok (by rw [Try.params4]; intro t ht; simp only [List.mem_cons, List.not_mem_nil, or_false] at ht; rcases ht with rfl | rfl <;> exact ⟨by kernel_rfl, of_decide_eq_true (by kernel_rfl)⟩) (by kernel_rfl) Try.underlying4 rfl (fun ds hd => ?_) ?_
  · match ds, hd with
    | [_, _], _ => rfl
  · intro W base args ds ps hval hA
    rw [Try.params4] at hA hval
    obtain ⟨v0, v1, d0, d1, p0, p1, e, rfl, rfl, h0, h1⟩ := trodAll_two hA
    obtain ⟨a0, w0, r0⟩ := arg_int (n := 8) (k := .u16) (hval 0 27 v0 (by simp) (by rw [e]; rfl)) h0 (by kernel_rfl) (by kernel_rfl)
    obtain ⟨a1, w1, r1⟩ := arg_int (n := 8) (k := .u16) (hval 1 27 v1 (by simp) (by rw [e]; rfl)) h1 (by kernel_rfl) (by kernel_rfl)
    have b0 := inKind_u16.1 w0
    have b1 := inKind_u16.1 w1
    exact ⟨[.c (.i .u16 a0), .c (.i .u16 a1)], [], (fun _ => none), _, Inv.nought W, by rw [e]; exact ⟨r0 _, r1 _, trivial⟩, (S_el23_FreadOnce_ok _ _ _ _ (freadOnce_eq _ b0.1 (by omega) b1.1 (by omega))).2.1⟩

theorem joined : joinedFacts Try.prog 4 Try.f4 Rows.freadOnceSpec Rows.freadOnceRow = true := by
  unfold joinedFacts
  rw [mayEnter_ok, lifts_ok, make_ok]
  kernel_rfl

theorem over : Rows.freadOnceRow.holds Try.pinned (OpenSpec.ofChange Rows.freadOnceSpec) :=
  OpenClaim.holds_of_wide 4 Try.f4 rfl rfl rfl rfl rfl rfl rfl ⟨rfl, rfl, rfl, rfl, rfl⟩ rfl rfl rfl rfl rfl (by kernel_rfl) Try.func4 joined
    (of_decide_eq_true (by kernel_rfl)) (by unfold Func.isWrapper; first | (rw [if_pos (by decide +kernel)]; kernel_rfl) | (rw [if_neg (by decide +kernel)]; exact ⟨rfl, rfl⟩))
    (fun os started H enc _ => lifted os started H enc)

theorem proved : Rows.FreadOnceSaid := over

#print axioms proved

end Go.Proofs.Ytdgggnlbdoiloaa.freadOnce
