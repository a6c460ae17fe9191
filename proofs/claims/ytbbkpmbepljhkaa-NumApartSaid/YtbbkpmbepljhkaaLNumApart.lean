/- NumApart: bytes that are laid at two places that do not meet are there, whichever were laid first: proved with no condition. -/
import Derived.Test.YtbbkpmbepljhkaaRows
import Derived.Test.YtbbkpmbepljhkaaEscT
import Derived.Test.YtbbkpmbepljhkaaEscV
import Derived.Test.YtbbkpmbepljhkaaSLaw01Apart
import Derived.Test.YtbbkpmbepljhkaaSStart
set_option linter.all false
namespace Go.Proofs.Ytbbkpmbepljhkaa.numApart
open Go Go.Esc Go.ChangeShapes Go.WideShapes Go.ChangeAt Go.RowKit Go.ChangeMaps

set_option maxRecDepth 100000 in
theorem lifted (os : Os) (started : os.Started) (H : Type) (enc : TypeId × Value → H) :
    ReturnsInHanded {} Try.checked os 9 .any (Rows.numApartSpec.pre6 enc Try.prog Try.f9 Rows.numApartRow.domain false) (Rows.numApartSpec.post enc Try.prog Try.f9 false true false false) := by
  refine row_sized (C := Try.checked) own_ok started (by kernel_rfl) Try.func9
    (ChangeSpec.witness6 (enc := enc) (C := Try.checked) false ⟨#[], #[.agg (Array.replicate 256 (.int .u8 0)), .agg #[.slice none 0 0, .slice none 0 0], .int .u8 0], []⟩ 8 (by kernel_rfl) (by kernel_rfl) (by kernel_rfl) (by kernel_rfl))
    laid_ok (by rw [Try.params9]; intro t ht; simp only [List.mem_cons, List.not_mem_nil, or_false] at ht; rcases ht with rfl | rfl | rfl <;> exact ⟨by kernel_rfl, of_decide_eq_true (by kernel_rfl)⟩) (by kernel_rfl) Try.underlying4 rfl (fun ds hd => ?_) ?_
  · match ds, hd with
    | [_, _, _], _ => rfl
  · intro W base args ds gs ps hval hz hA
    rw [Try.params9] at hA hval
    obtain ⟨v0, v1, v2, d0, d1, d2, p0, p1, p2, e, rfl, rfl, h0, h1, h2⟩ := trodAll_three hA
    have ho := Opened.none W
    obtain ⟨a0, w0, r0⟩ := arg_bytes (n := 8) (k := 256) (hval 0 50 v0 (by simp) (by rw [e]; rfl)) h0 (by kernel_rfl) (by kernel_rfl)
    have hW1 : ∀ w ∈ d1.weights Try.prog 63, w ≤ reachBytes := fun w hw => of_decide_eq_true (List.all_eq_true.1 hz w (DataW.weights_mem_each (j := 1) (t := 63) (d := d1) (by rw [Try.params9]; rfl) (by rfl) w hw))
    obtain ⟨x1, y1, μ1, l1, n1, m1, p1, q1, le1, ho1, r1, w1, z1, bn1, bm1⟩ := arg_twoB (n := 8) (s := 32) (e := 5) ho (hval 1 63 v1 (by simp) (by rw [e]; rfl)) h1 (by kernel_rfl) (by kernel_rfl) (by kernel_rfl) (by kernel_rfl) (by kernel_rfl) (by kernel_rfl) (by kernel_rfl) hW1
    obtain ⟨a2, w2, r2⟩ := arg_int (n := 8) (k := .u8) (hval 2 5 v2 (by simp) (by rw [e]; rfl)) h2 (by kernel_rfl) (by kernel_rfl)
    obtain ⟨p, rfl⟩ := byte_of w2
    exact ⟨[.a (encB a0), .a [x1, y1], .c (.i .u8 p.toNat)], ([] ++ l1), μ1, _, ho1.1, by rw [e]; exact ⟨r0 _, r1, r2 _, trivial⟩, (S_escheatlaw01_NumApart_ok _ _ _ _ (numApart_eq _ w1 z1 w0 (Nat.lt_of_le_of_lt bn1 (by decide)) (Nat.lt_of_le_of_lt bm1 (by decide)))).2.1⟩

theorem joined : joinedFacts Try.prog 9 Try.f9 Rows.numApartSpec Rows.numApartRow = true := by
  unfold joinedFacts
  rw [mayEnter_ok, lifts_ok, make_ok]
  kernel_rfl

theorem over : Rows.numApartRow.holds Try.pinned (OpenSpec.ofChange Rows.numApartSpec) :=
  OpenClaim.holds_of_wide 9 Try.f9 rfl rfl rfl rfl rfl rfl rfl ⟨rfl, rfl, rfl, rfl, rfl⟩ rfl rfl rfl rfl rfl (by kernel_rfl) Try.func9 joined
    (of_decide_eq_true (by kernel_rfl)) (by unfold Func.isWrapper; first | (rw [if_pos (by decide +kernel)]; kernel_rfl) | (rw [if_neg (by decide +kernel)]; exact ⟨rfl, rfl⟩))
    (fun os started H enc _ => lifted os started H enc)

theorem proved : Rows.NumApartSaid := over

#print axioms proved

end Go.Proofs.Ytbbkpmbepljhkaa.numApart
