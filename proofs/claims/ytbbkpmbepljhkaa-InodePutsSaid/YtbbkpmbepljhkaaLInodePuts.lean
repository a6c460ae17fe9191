/- InodePuts: whether any inode may be, its bytes and its numbers, are as the document has them: proved with no condition. -/
import Derived.Test.YtbbkpmbepljhkaaRows
import Derived.Test.YtbbkpmbepljhkaaEscT
import Derived.Test.YtbbkpmbepljhkaaSLaw16Puts
import Derived.Test.YtbbkpmbepljhkaaSStart
set_option linter.all false
namespace Go.Proofs.Ytbbkpmbepljhkaa.inodePuts
open Go Go.Esc Go.ChangeShapes Go.WideShapes Go.ChangeAt Go.RowKit Go.ChangeMaps

set_option maxRecDepth 100000 in
theorem lifted (os : Os) (started : os.Started) (H : Type) (enc : TypeId × Value → H) :
    ReturnsInHanded {} Try.checked os 16 .any (Rows.inodePutsSpec.pre6 enc Try.prog Try.f16 Rows.inodePutsRow.domain false) (Rows.inodePutsSpec.post enc Try.prog Try.f16 false true false false) := by
  refine row_true (C := Try.checked) own_ok started (by kernel_rfl) Try.func16
    (ChangeSpec.witness6 (enc := enc) (C := Try.checked) false ⟨#[], #[.agg #[.int .i64 0, .int .i64 0, .int .i64 0, .int .i64 0, .int .i64 0, .int .i64 0, .int .i64 0, .int .i64 0, .int .i64 0, .int .i64 0, .int .i64 0]], []⟩ 8 (by kernel_rfl) (by kernel_rfl) (by kernel_rfl) (by kernel_rfl))
    laid_ok (by rw [Try.params16]; intro t ht; simp only [List.mem_cons, List.not_mem_nil, or_false] at ht; rcases ht with rfl <;> exact ⟨by kernel_rfl, of_decide_eq_true (by kernel_rfl)⟩) (by kernel_rfl) Try.underlying4 rfl (fun ds hd => ?_) ?_
  · match ds, hd with
    | [_], _ => rfl
  · intro W base args ds ps hval hA
    rw [Try.params16] at hA hval
    obtain ⟨v0, d0, e, rfl, h0⟩ := trodAll_one hA
    obtain ⟨a0, w0, i0, r0⟩ := arg_ints (n := 8) (k := 11) (hval 0 100 v0 (by simp) (by rw [e]; rfl)) h0 (by kernel_rfl) (by kernel_rfl)
    match a0, w0 with
    | k :: l :: s :: p :: d, w0 =>
    have hd : d.length = 7 := by simpa using w0
    exact ⟨[.a (encI (k :: l :: s :: p :: d))], [], (fun _ => none), _, Inv.none W, by rw [e]; exact ⟨r0 _, trivial⟩, (S_escheatlaw16_InodePuts_ok _ _ _ _ (inodePuts_eq _ hd)).2.1⟩

theorem joined : joinedFacts Try.prog 16 Try.f16 Rows.inodePutsSpec Rows.inodePutsRow = true := by
  unfold joinedFacts
  rw [mayEnter_ok, lifts_ok, make_ok]
  kernel_rfl

theorem over : Rows.inodePutsRow.holds Try.pinned (OpenSpec.ofChange Rows.inodePutsSpec) :=
  OpenClaim.holds_of_wide 16 Try.f16 rfl rfl rfl rfl rfl rfl rfl ⟨rfl, rfl, rfl, rfl, rfl⟩ rfl rfl rfl rfl rfl (by kernel_rfl) Try.func16 joined
    (of_decide_eq_true (by kernel_rfl)) (by unfold Func.isWrapper; first | (rw [if_pos (by decide +kernel)]; kernel_rfl) | (rw [if_neg (by decide +kernel)]; exact ⟨rfl, rfl⟩))
    (fun os started H enc _ => lifted os started H enc)

theorem proved : Rows.InodePutsSaid := over

#print axioms proved

end Go.Proofs.Ytbbkpmbepljhkaa.inodePuts
