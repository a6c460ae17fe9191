/- NumBack: a number that is written at a place of a block is read there again, and all other bytes are as they were: proved with no condition. -/
import Derived.Test.YtbbkpmbepljhkaaRows
import Derived.Test.YtbbkpmbepljhkaaEscT
import Derived.Test.YtbbkpmbepljhkaaSLaw01Back
import Derived.Test.YtbbkpmbepljhkaaSStart
set_option linter.all false
namespace Go.Proofs.Ytbbkpmbepljhkaa.numBack
open Go Go.Esc Go.ChangeShapes Go.WideShapes Go.ChangeAt Go.RowKit Go.ChangeMaps

set_option maxRecDepth 100000 in
theorem lifted (os : Os) (started : os.Started) (H : Type) (enc : TypeId × Value → H) :
    ReturnsInHanded {} Try.checked os 7 .any (Rows.numBackSpec.pre6 enc Try.prog Try.f7 Rows.numBackRow.domain false) (Rows.numBackSpec.post enc Try.prog Try.f7 false true false false) := by
  refine row_true (C := Try.checked) own_ok started (by kernel_rfl) Try.func7
    (ChangeSpec.witness6 (enc := enc) (C := Try.checked) false ⟨#[], #[.agg (Array.replicate 256 (.int .u8 0)), .agg #[.int .u8 0, .int .u8 0], .int .u32 0], []⟩ 8 (by kernel_rfl) (by kernel_rfl) (by kernel_rfl) (by kernel_rfl))
    laid_ok (by rw [Try.params7]; intro t ht; simp only [List.mem_cons, List.not_mem_nil, or_false] at ht; rcases ht with rfl | rfl | rfl <;> exact ⟨by kernel_rfl, of_decide_eq_true (by kernel_rfl)⟩) (by kernel_rfl) Try.underlying4 rfl (fun ds hd => ?_) ?_
  · match ds, hd with
    | [_, _, _], _ => rfl
  · intro W base args ds ps hval hA
    rw [Try.params7] at hA hval
    obtain ⟨v0, v1, v2, d0, d1, d2, p0, p1, p2, e, rfl, rfl, h0, h1, h2⟩ := trodAll_three hA
    obtain ⟨a0, w0, r0⟩ := arg_bytes (n := 8) (k := 256) (hval 0 50 v0 (by simp) (by rw [e]; rfl)) h0 (by kernel_rfl) (by kernel_rfl)
    obtain ⟨a1, w1, r1⟩ := arg_bytes (n := 8) (k := 2) (hval 1 51 v1 (by simp) (by rw [e]; rfl)) h1 (by kernel_rfl) (by kernel_rfl)
    obtain ⟨a2, w2, r2⟩ := arg_int (n := 8) (k := .u32) (hval 2 52 v2 (by simp) (by rw [e]; rfl)) h2 (by kernel_rfl) (by kernel_rfl)
    match a1, w1 with
    | [x, y], _ =>
    have b2 := inKind_u32.1 w2
    exact ⟨[.a (encB a0), .a (encB [x, y]), .c (.i .u32 a2)], [], (fun _ => none), _, Inv.none W, by rw [e]; exact ⟨r0 _, r1 _, r2 _, trivial⟩, (S_escheatlaw01_NumBack_ok _ _ _ _ (numBack_eq _ w0 b2.1 (by omega))).2.1⟩

theorem joined : joinedFacts Try.prog 7 Try.f7 Rows.numBackSpec Rows.numBackRow = true := by
  unfold joinedFacts
  rw [mayEnter_ok, lifts_ok, make_ok]
  kernel_rfl

theorem over : Rows.numBackRow.holds Try.pinned (OpenSpec.ofChange Rows.numBackSpec) :=
  OpenClaim.holds_of_wide 7 Try.f7 rfl rfl rfl rfl rfl rfl rfl ⟨rfl, rfl, rfl, rfl, rfl⟩ rfl rfl rfl rfl rfl (by kernel_rfl) Try.func7 joined
    (of_decide_eq_true (by kernel_rfl)) (by unfold Func.isWrapper; first | (rw [if_pos (by decide +kernel)]; kernel_rfl) | (rw [if_neg (by decide +kernel)]; exact ⟨rfl, rfl⟩))
    (fun os started H enc _ => lifted os started H enc)

theorem proved : Rows.NumBackSaid := over

#print axioms proved

end Go.Proofs.Ytbbkpmbepljhkaa.numBack
