/- BucketKeeps: a name that is put into a right bucket that has not got it is found there, what is cleared is not found any more, and each other name is as it was: proved with no condition. -/
import Derived.Test.YtbbkpmbepljhkaaRows
import Derived.Test.YtbbkpmbepljhkaaEscT
import Derived.Test.YtbbkpmbepljhkaaSLaw18Keeps
import Derived.Test.YtbbkpmbepljhkaaSStart
set_option linter.all false
namespace Go.Proofs.Ytbbkpmbepljhkaa.bucketKeeps
open Go Go.Esc Go.ChangeShapes Go.WideShapes Go.ChangeAt Go.RowKit Go.ChangeMaps

set_option maxRecDepth 100000 in
theorem lifted (os : Os) (started : os.Started) (H : Type) (enc : TypeId × Value → H) :
    ReturnsInHanded {} Try.checked os 39 .any (Rows.bucketKeepsSpec.pre6 enc Try.prog Try.f39 Rows.bucketKeepsRow.domain false) (Rows.bucketKeepsSpec.post enc Try.prog Try.f39 false true false false) := by
  refine row_true (C := Try.checked) own_ok started (by kernel_rfl) Try.func39
    (ChangeSpec.witness6 (enc := enc) (C := Try.checked) false ⟨#[], #[.slice none 0 0, .agg #[.string ⟨#[]⟩, .int .i64 0], .int .u8 0], []⟩ 8 (by kernel_rfl) (by kernel_rfl) (by kernel_rfl) (by kernel_rfl))
    laid_ok (by rw [Try.params39]; intro t ht; simp only [List.mem_cons, List.not_mem_nil, or_false] at ht; rcases ht with rfl | rfl | rfl <;> exact ⟨by kernel_rfl, of_decide_eq_true (by kernel_rfl)⟩) (by kernel_rfl) Try.underlying4 rfl (fun ds hd => ?_) ?_
  · match ds, hd with
    | [_, _, _], _ => rfl
  · intro W base args ds ps hval hA
    rw [Try.params39] at hA hval
    obtain ⟨v0, v1, v2, d0, d1, d2, p0, p1, p2, e, rfl, rfl, h0, h1, h2⟩ := trodAll_three hA
    have ho := Opened.none W
    obtain ⟨a0, μ0, l0, n0, x0, le0, ho0, r0, w0, b0⟩ := arg_sl (n := 8) (sh := [.s, .i .i64]) ho (hval 0 184 v0 (by simp) (by rw [e]; rfl)) h0 (by kernel_rfl : Try.prog.underlying 184 = some (.slice 193)) (by kernel_rfl) (by kernel_rfl) (by decide +kernel)
    obtain ⟨c1, w1, r1⟩ := arg_cells (n := 8) (sh := [.s, .i .i64]) (hval 1 193 v1 (by simp) (by rw [e]; rfl)) h1 (by kernel_rfl) (by kernel_rfl)
    obtain ⟨a2, w2, r2⟩ := arg_int (n := 8) (k := .u8) (hval 2 5 v2 (by simp) (by rw [e]; rfl)) h2 (by kernel_rfl) (by kernel_rfl)
    obtain ⟨es, rfl⟩ := ok_ents _ _ b0.1
    obtain ⟨s, n, rfl, _, _⟩ := ok_entry w1
    obtain ⟨p, rfl⟩ := byte_of w2
    exact ⟨[a0, .a [.s s, .i .i64 n], .c (.i .u8 (p.toNat : Int))], ([] ++ l0), μ0, _, ho0.1, by rw [e]; exact ⟨r0, r1 _, r2 _, trivial⟩, (S_escheatlaw18_BucketKeeps_ok _ _ _ _ (bucketKeeps_eq w0 p.toNat_lt)).2.1⟩

theorem joined : joinedFacts Try.prog 39 Try.f39 Rows.bucketKeepsSpec Rows.bucketKeepsRow = true := by
  unfold joinedFacts
  rw [mayEnter_ok, lifts_ok, make_ok]
  kernel_rfl

theorem over : Rows.bucketKeepsRow.holds Try.pinned (OpenSpec.ofChange Rows.bucketKeepsSpec) :=
  OpenClaim.holds_of_wide 39 Try.f39 rfl rfl rfl rfl rfl rfl rfl ⟨rfl, rfl, rfl, rfl, rfl⟩ rfl rfl rfl rfl rfl (by kernel_rfl) Try.func39 joined
    (of_decide_eq_true (by kernel_rfl)) (by unfold Func.isWrapper; first | (rw [if_pos (by decide +kernel)]; kernel_rfl) | (rw [if_neg (by decide +kernel)]; exact ⟨rfl, rfl⟩))
    (fun os started H enc _ => lifted os started H enc)

theorem proved : Rows.BucketKeepsSaid := over

#print axioms proved

end Go.Proofs.Ytbbkpmbepljhkaa.bucketKeeps
