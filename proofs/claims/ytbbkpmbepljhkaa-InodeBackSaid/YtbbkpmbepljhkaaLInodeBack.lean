/- InodeBack: an inode that may be is got again, and its bytes are clean; two have the same bytes just if they are the same: proved with no condition. -/
import Derived.Test.YtbbkpmbepljhkaaRows
import Derived.Test.YtbbkpmbepljhkaaEscT
import Derived.Test.YtbbkpmbepljhkaaSLaw16Back
import Derived.Test.YtbbkpmbepljhkaaSStart
set_option linter.all false
namespace Go.Proofs.Ytbbkpmbepljhkaa.inodeBack
open Go Go.Esc Go.ChangeShapes Go.WideShapes Go.ChangeAt Go.RowKit Go.ChangeMaps

set_option maxRecDepth 100000 in
theorem lifted (os : Os) (started : os.Started) (H : Type) (enc : TypeId × Value → H) :
    ReturnsInHanded {} Try.checked os 23 .any (Rows.inodeBackSpec.pre6 enc Try.prog Try.f23 Rows.inodeBackRow.domain false) (Rows.inodeBackSpec.post enc Try.prog Try.f23 false true false false) := by
  refine row_true (C := Try.checked) own_ok started (by kernel_rfl) Try.func23
    (ChangeSpec.witness6 (enc := enc) (C := Try.checked) false ⟨#[], #[.agg #[.int .i64 0, .int .i64 0, .int .i64 0, .int .i64 0, .int .i64 0, .int .i64 0, .int .i64 0, .int .i64 0, .int .i64 0, .int .i64 0, .int .i64 0], .agg #[.int .i64 0, .int .i64 0, .int .i64 0, .int .i64 0, .int .i64 0, .int .i64 0, .int .i64 0, .int .i64 0, .int .i64 0, .int .i64 0, .int .i64 0]], []⟩ 8 (by kernel_rfl) (by kernel_rfl) (by kernel_rfl) (by kernel_rfl))
    laid_ok (by rw [Try.params23]; intro t ht; simp only [List.mem_cons, List.not_mem_nil, or_false] at ht; rcases ht with rfl | rfl <;> exact ⟨by kernel_rfl, of_decide_eq_true (by kernel_rfl)⟩) (by kernel_rfl) Try.underlying4 rfl (fun ds hd => ?_) ?_
  · match ds, hd with
    | [_, _], _ => rfl
  · intro W base args ds ps hval hA
    rw [Try.params23] at hA hval
    obtain ⟨v0, v1, d0, d1, p0, p1, e, rfl, rfl, h0, h1⟩ := trodAll_two hA
    obtain ⟨a0, w0, i0, r0⟩ := arg_ints (n := 8) (k := 11) (hval 0 100 v0 (by simp) (by rw [e]; rfl)) h0 (by kernel_rfl) (by kernel_rfl)
    obtain ⟨a1, w1, i1, r1⟩ := arg_ints (n := 8) (k := 11) (hval 1 100 v1 (by simp) (by rw [e]; rfl)) h1 (by kernel_rfl) (by kernel_rfl)
    match a0, w0, a1, w1 with
    | k :: l :: s :: p :: d, w0, k' :: l' :: s' :: p' :: d', w1 =>
    have hd : d.length = 7 := by simpa using w0
    have hd' : d'.length = 7 := by simpa using w1
    exact ⟨[.a (encI (k :: l :: s :: p :: d)), .a (encI (k' :: l' :: s' :: p' :: d'))], [], (fun _ => none), _, Inv.none W, by rw [e]; exact ⟨r0 _, r1 _, trivial⟩, (S_escheatlaw16_InodeBack_ok _ _ _ _ (inodeBack_eq _ hd hd')).2.1⟩

theorem joined : joinedFacts Try.prog 23 Try.f23 Rows.inodeBackSpec Rows.inodeBackRow = true := by
  unfold joinedFacts
  rw [mayEnter_ok, lifts_ok, make_ok]
  kernel_rfl

theorem over : Rows.inodeBackRow.holds Try.pinned (OpenSpec.ofChange Rows.inodeBackSpec) :=
  OpenClaim.holds_of_wide 23 Try.f23 rfl rfl rfl rfl rfl rfl rfl ⟨rfl, rfl, rfl, rfl, rfl⟩ rfl rfl rfl rfl rfl (by kernel_rfl) Try.func23 joined
    (of_decide_eq_true (by kernel_rfl)) (by unfold Func.isWrapper; first | (rw [if_pos (by decide +kernel)]; kernel_rfl) | (rw [if_neg (by decide +kernel)]; exact ⟨rfl, rfl⟩))
    (fun os started H enc _ => lifted os started H enc)

theorem proved : Rows.InodeBackSaid := over

#print axioms proved

end Go.Proofs.Ytbbkpmbepljhkaa.inodeBack
