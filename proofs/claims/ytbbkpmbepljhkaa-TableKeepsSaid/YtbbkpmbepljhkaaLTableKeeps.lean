/- TableKeeps: what is put in a place is got there, and each other place has the bytes that it had; inodes are put in any order: proved with no condition. -/
import Derived.Test.YtbbkpmbepljhkaaRows
import Derived.Test.YtbbkpmbepljhkaaEscT
import Derived.Test.YtbbkpmbepljhkaaSLaw17Keeps
import Derived.Test.YtbbkpmbepljhkaaSStart
set_option linter.all false
namespace Go.Proofs.Ytbbkpmbepljhkaa.tableKeeps
open Go Go.Esc Go.ChangeShapes Go.WideShapes Go.ChangeAt Go.RowKit Go.ChangeMaps

set_option maxRecDepth 100000 in
theorem lifted (os : Os) (started : os.Started) (H : Type) (enc : TypeId × Value → H) :
    ReturnsInHanded {} Try.checked os 33 .any (Rows.tableKeepsSpec.pre6 enc Try.prog Try.f33 Rows.tableKeepsRow.domain false) (Rows.tableKeepsSpec.post enc Try.prog Try.f33 false true false false) := by
  refine row_true (C := Try.checked) own_ok started (by kernel_rfl) Try.func33
    (ChangeSpec.witness6 (enc := enc) (C := Try.checked) false ⟨#[], #[.agg (Array.replicate 256 (.int .u8 0)), .agg #[.int .u8 0, .int .u8 0], .agg (Array.replicate 22 (.int .i64 0))], []⟩ 8 (by kernel_rfl) (by kernel_rfl) (by kernel_rfl) (by kernel_rfl))
    laid_ok (by rw [Try.params33]; intro t ht; simp only [List.mem_cons, List.not_mem_nil, or_false] at ht; rcases ht with rfl | rfl | rfl <;> exact ⟨by kernel_rfl, of_decide_eq_true (by kernel_rfl)⟩) (by kernel_rfl) Try.underlying4 rfl (fun ds hd => ?_) ?_
  · match ds, hd with
    | [_, _, _], _ => rfl
  · intro W base args ds ps hval hA
    rw [Try.params33] at hA hval
    obtain ⟨v0, v1, v2, d0, d1, d2, p0, p1, p2, e, rfl, rfl, h0, h1, h2⟩ := trodAll_three hA
    obtain ⟨a0, w0, r0⟩ := arg_bytes (n := 8) (k := 256) (hval 0 50 v0 (by simp) (by rw [e]; rfl)) h0 (by kernel_rfl) (by kernel_rfl)
    obtain ⟨a1, w1, r1⟩ := arg_bytes (n := 8) (k := 2) (hval 1 51 v1 (by simp) (by rw [e]; rfl)) h1 (by kernel_rfl) (by kernel_rfl)
    obtain ⟨a2, w2, i2, r2⟩ := arg_ints (n := 8) (k := 22) (hval 2 180 v2 (by simp) (by rw [e]; rfl)) h2 (by kernel_rfl) (by kernel_rfl)
    match a1, w1 with
    | [x, y], _ =>
    obtain ⟨k, l, s, p, d, k', l', s', p', d', rfl, hd, hd'⟩ := two_ino w2
    exact ⟨[.a (encB a0), .a (encB [x, y]), .a (encI ((k :: l :: s :: p :: d) ++ (k' :: l' :: s' :: p' :: d')))], [], (fun _ => none), _, Inv.none W, by rw [e]; exact ⟨r0 _, r1 _, r2 _, trivial⟩, (S_escheatlaw17_TableKeeps_ok _ _ _ _ (tableKeeps_eq _ w0 hd hd')).2.1⟩

theorem joined : joinedFacts Try.prog 33 Try.f33 Rows.tableKeepsSpec Rows.tableKeepsRow = true := by
  unfold joinedFacts
  rw [mayEnter_ok, lifts_ok, make_ok]
  kernel_rfl

theorem over : Rows.tableKeepsRow.holds Try.pinned (OpenSpec.ofChange Rows.tableKeepsSpec) :=
  OpenClaim.holds_of_wide 33 Try.f33 rfl rfl rfl rfl rfl rfl rfl ⟨rfl, rfl, rfl, rfl, rfl⟩ rfl rfl rfl rfl rfl (by kernel_rfl) Try.func33 joined
    (of_decide_eq_true (by kernel_rfl)) (by unfold Func.isWrapper; first | (rw [if_pos (by decide +kernel)]; kernel_rfl) | (rw [if_neg (by decide +kernel)]; exact ⟨rfl, rfl⟩))
    (fun os started H enc _ => lifted os started H enc)

theorem proved : Rows.TableKeepsSaid := over

#print axioms proved

end Go.Proofs.Ytbbkpmbepljhkaa.tableKeeps
