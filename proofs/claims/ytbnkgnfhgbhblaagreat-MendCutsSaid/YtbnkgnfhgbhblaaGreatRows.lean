/-
  No cell of these rows narrows 'for every input' (looked for: loops, veiled, ifaces, maps, wideKeys, modest, calm, conditions, laid).
  DERIVED. THE GIVEN ROWS OF THIS SEAT. 8 by the template 'for every input the law returns true; each argument reads behind the call as it read before'; 0 by the template 'total and deterministic' (their statements: YtbnkgnfhgbhblaaGreatTotals.lean).
  GIVEN WITH THE SEED: the statements are not yours to turn. If you find one false, say at which input.
  Laid BY PROGRAM, IN A SANDBOX (cutbox-rows.mjs): the forced cells as the released guide's own fill.sh prints them over the translation 25766f6d62791344… (all of the seat's roots in one cut). By AI agents, Wed Nov 11 2026. No macro, syntax, notation, axiom, sorry.
-/
import Derived.Test.YtbnkgnfhgbhblaaGreatChecked
import GoSem.Claim
import GoSem.ClaimJoined
import GoSem.ClaimMapViews
import Derived.JoinedTies
import Derived.KernelRfl
namespace Go.Proofs.YtbnkgnfhgbhblaaGreat
/- THE CELL 'sum', in the pinned program and in every row, IS THE sha256 OF THE DUMP (.gsa) THAT YtbnkgnfhgbhblaaGreatProg.lean LOADS. Nothing in Lean hashes anything: it is a label: what it is worth is what the hold of that sum in a sandbox is worth. -/
noncomputable def Tryz.pinned : Pinned := { name := "ytbnkgnfhgbhblaagreat", sum := "25766f6d62791344335ba3108e358f089dbeda5b67b2ed425748867c76776b0d", checked := Tryz.checked }
namespace Rows
def none {H : Type} : Left H := { results := [], args := [] }

/-- 'escheatlaw41.ClaimOf': WHATEVER THE INPUT: true; the input reads as it did. -/
def claimOfSpec : ChangeSpec := { name := "claimOf", fn := fun _ => fun
  | [d] => { results := [.lit (.bool true)], args := [d] }
  | _ => none }
def claimOfRow : OpenClaim := { program := "ytbnkgnfhgbhblaagreat", sum := "25766f6d62791344335ba3108e358f089dbeda5b67b2ed425748867c76776b0d", func := "escheat/escheatlaw41.ClaimOf", spec := "claimOf", unfollowed := true, recurses := true, apart := false }
def ClaimOfSaid : Prop := claimOfRow.holds Tryz.pinned (OpenSpec.ofChange claimOfSpec)

/-- ITS FALSE NEIGHBOUR: 'it returns false'. Refute it at one input. -/
def claimOfWrong : ChangeSpec := { name := "claimOf", fn := fun _ => fun
  | [d] => { results := [.lit (.bool false)], args := [d] }
  | _ => none }
def ClaimOfWrongFalsely : Prop := claimOfRow.holds Tryz.pinned (OpenSpec.ofChange claimOfWrong)

/-- 'escheatlaw41.ClaimImage': WHATEVER THE INPUT: true; the input reads as it did. -/
def claimImageSpec : ChangeSpec := { name := "claimImage", fn := fun _ => fun
  | [d] => { results := [.lit (.bool true)], args := [d] }
  | _ => none }
def claimImageRow : OpenClaim := { program := "ytbnkgnfhgbhblaagreat", sum := "25766f6d62791344335ba3108e358f089dbeda5b67b2ed425748867c76776b0d", func := "escheat/escheatlaw41.ClaimImage", spec := "claimImage", unfollowed := true, recurses := true, apart := false }
def ClaimImageSaid : Prop := claimImageRow.holds Tryz.pinned (OpenSpec.ofChange claimImageSpec)

/-- ITS FALSE NEIGHBOUR: 'it returns false'. Refute it at one input. -/
def claimImageWrong : ChangeSpec := { name := "claimImage", fn := fun _ => fun
  | [d] => { results := [.lit (.bool false)], args := [d] }
  | _ => none }
def ClaimImageWrongFalsely : Prop := claimImageRow.holds Tryz.pinned (OpenSpec.ofChange claimImageWrong)

/-- 'escheatlaw42.MendPlans': WHATEVER THE INPUT: true; the input reads as it did. -/
def mendPlansSpec : ChangeSpec := { name := "mendPlans", fn := fun _ => fun
  | [d] => { results := [.lit (.bool true)], args := [d] }
  | _ => none }
def mendPlansRow : OpenClaim := { program := "ytbnkgnfhgbhblaagreat", sum := "25766f6d62791344335ba3108e358f089dbeda5b67b2ed425748867c76776b0d", func := "escheat/escheatlaw42.MendPlans", spec := "mendPlans", unfollowed := true, recurses := true, apart := false }
def MendPlansSaid : Prop := mendPlansRow.holds Tryz.pinned (OpenSpec.ofChange mendPlansSpec)

/-- ITS FALSE NEIGHBOUR: 'it returns false'. Refute it at one input. -/
def mendPlansWrong : ChangeSpec := { name := "mendPlans", fn := fun _ => fun
  | [d] => { results := [.lit (.bool false)], args := [d] }
  | _ => none }
def MendPlansWrongFalsely : Prop := mendPlansRow.holds Tryz.pinned (OpenSpec.ofChange mendPlansWrong)

/-- 'escheatlaw42.MendCounts': WHATEVER THE INPUT: true; the input reads as it did. -/
def mendCountsSpec : ChangeSpec := { name := "mendCounts", fn := fun _ => fun
  | [d] => { results := [.lit (.bool true)], args := [d] }
  | _ => none }
def mendCountsRow : OpenClaim := { program := "ytbnkgnfhgbhblaagreat", sum := "25766f6d62791344335ba3108e358f089dbeda5b67b2ed425748867c76776b0d", func := "escheat/escheatlaw42.MendCounts", spec := "mendCounts", unfollowed := true, recurses := true, apart := false }
def MendCountsSaid : Prop := mendCountsRow.holds Tryz.pinned (OpenSpec.ofChange mendCountsSpec)

/-- ITS FALSE NEIGHBOUR: 'it returns false'. Refute it at one input. -/
def mendCountsWrong : ChangeSpec := { name := "mendCounts", fn := fun _ => fun
  | [d] => { results := [.lit (.bool false)], args := [d] }
  | _ => none }
def MendCountsWrongFalsely : Prop := mendCountsRow.holds Tryz.pinned (OpenSpec.ofChange mendCountsWrong)

/-- 'escheatlaw42.MendCuts': WHATEVER THE INPUT: true; the input reads as it did. -/
def mendCutsSpec : ChangeSpec := { name := "mendCuts", fn := fun _ => fun
  | [d1, d2] => { results := [.lit (.bool true)], args := [d1, d2] }
  | _ => none }
def mendCutsRow : OpenClaim := { program := "ytbnkgnfhgbhblaagreat", sum := "25766f6d62791344335ba3108e358f089dbeda5b67b2ed425748867c76776b0d", func := "escheat/escheatlaw42.MendCuts", spec := "mendCuts", unfollowed := true, recurses := true, apart := false }
def MendCutsSaid : Prop := mendCutsRow.holds Tryz.pinned (OpenSpec.ofChange mendCutsSpec)

/-- ITS FALSE NEIGHBOUR: 'it returns false'. Refute it at one input. -/
def mendCutsWrong : ChangeSpec := { name := "mendCuts", fn := fun _ => fun
  | [d1, d2] => { results := [.lit (.bool false)], args := [d1, d2] }
  | _ => none }
def MendCutsWrongFalsely : Prop := mendCutsRow.holds Tryz.pinned (OpenSpec.ofChange mendCutsWrong)

/-- 'escheatlaw41.ClaimRight': WHATEVER THE INPUT: true; the input reads as it did. -/
def claimRightSpec : ChangeSpec := { name := "claimRight", fn := fun _ => fun
  | [d] => { results := [.lit (.bool true)], args := [d] }
  | _ => none }
def claimRightRow : OpenClaim := { program := "ytbnkgnfhgbhblaagreat", sum := "25766f6d62791344335ba3108e358f089dbeda5b67b2ed425748867c76776b0d", func := "escheat/escheatlaw41.ClaimRight", spec := "claimRight", unfollowed := true, recurses := true, apart := false }
def ClaimRightSaid : Prop := claimRightRow.holds Tryz.pinned (OpenSpec.ofChange claimRightSpec)

/-- ITS FALSE NEIGHBOUR: 'it returns false'. Refute it at one input. -/
def claimRightWrong : ChangeSpec := { name := "claimRight", fn := fun _ => fun
  | [d] => { results := [.lit (.bool false)], args := [d] }
  | _ => none }
def ClaimRightWrongFalsely : Prop := claimRightRow.holds Tryz.pinned (OpenSpec.ofChange claimRightWrong)

/-- 'escheatlaw41.ClaimKeeps': WHATEVER THE INPUT: true; the input reads as it did. -/
def claimKeepsSpec : ChangeSpec := { name := "claimKeeps", fn := fun _ => fun
  | [d] => { results := [.lit (.bool true)], args := [d] }
  | _ => none }
def claimKeepsRow : OpenClaim := { program := "ytbnkgnfhgbhblaagreat", sum := "25766f6d62791344335ba3108e358f089dbeda5b67b2ed425748867c76776b0d", func := "escheat/escheatlaw41.ClaimKeeps", spec := "claimKeeps", unfollowed := true, recurses := true, apart := false }
def ClaimKeepsSaid : Prop := claimKeepsRow.holds Tryz.pinned (OpenSpec.ofChange claimKeepsSpec)

/-- ITS FALSE NEIGHBOUR: 'it returns false'. Refute it at one input. -/
def claimKeepsWrong : ChangeSpec := { name := "claimKeeps", fn := fun _ => fun
  | [d] => { results := [.lit (.bool false)], args := [d] }
  | _ => none }
def ClaimKeepsWrongFalsely : Prop := claimKeepsRow.holds Tryz.pinned (OpenSpec.ofChange claimKeepsWrong)

/-- 'escheatlaw42.MendWhole': WHATEVER THE INPUT: true; the input reads as it did. -/
def mendWholeSpec : ChangeSpec := { name := "mendWhole", fn := fun _ => fun
  | [d] => { results := [.lit (.bool true)], args := [d] }
  | _ => none }
def mendWholeRow : OpenClaim := { program := "ytbnkgnfhgbhblaagreat", sum := "25766f6d62791344335ba3108e358f089dbeda5b67b2ed425748867c76776b0d", func := "escheat/escheatlaw42.MendWhole", spec := "mendWhole", unfollowed := true, recurses := true, apart := false }
def MendWholeSaid : Prop := mendWholeRow.holds Tryz.pinned (OpenSpec.ofChange mendWholeSpec)

/-- ITS FALSE NEIGHBOUR: 'it returns false'. Refute it at one input. -/
def mendWholeWrong : ChangeSpec := { name := "mendWhole", fn := fun _ => fun
  | [d] => { results := [.lit (.bool false)], args := [d] }
  | _ => none }
def MendWholeWrongFalsely : Prop := mendWholeRow.holds Tryz.pinned (OpenSpec.ofChange mendWholeWrong)

/- THE SECOND FORM. 'bulk': how many values and letters a reading holds, each counted each time it is reached (what is shared counts as often as it is met; a slice's spare places count too). A statement '..UptoSaid' is the law's where the arguments, and the package variables that the reading takes, are together of bulk at most 1048576: NARROWER than '..Said'. Prove '..Said' where nothing that the law and all that it calls make is longer than what came in: it says more and counts as full. Else prove '..UptoSaid'. A law counts once. -/
mutual
def uptoBulk {H : Type} : DataW H → Nat
  | .lit (.string bytes) => bytes.length + 1
  | .lit _ => 1
  | .nil => 1
  | .ptr d => uptoBulk d + 1
  | .slice elems spare => uptoBulkAll elems + uptoBulkAll spare + 1
  | .agg parts => uptoBulkAll parts + 1
  | .iface _ d => uptoBulk d + 1
  | .map entries => uptoBulkEntries entries + 1
  | .held _ => 1
def uptoBulkAll {H : Type} : List (DataW H) → Nat
  | [] => 0
  | d :: r => uptoBulk d + uptoBulkAll r
def uptoBulkEntries {H : Type} : List (Lit × DataW H) → Nat
  | [] => 0
  | x :: r => uptoBulkEntry x + uptoBulkEntries r
def uptoBulkEntry {H : Type} : Lit × DataW H → Nat
  | (.string bytes, d) => bytes.length + uptoBulk d + 1
  | (_, d) => uptoBulk d + 1
 end
def uptoSmall : (H : Type) → List (DataW H) → Bool := fun _ ds => decide (uptoBulkAll ds ≤ 1048576)
def OpenSpec.upto (s : _root_.Go.ChangeSpec) : _root_.Go.OpenSpec := { _root_.Go.OpenSpec.ofChange s with cond := some uptoSmall }

/-- 'escheatlaw41.ClaimOf', WHERE WHAT IT READS IS OF BULK AT MOST 1048576: true; the input reads as it did. -/
def claimOfUptoRow : OpenClaim := { program := "ytbnkgnfhgbhblaagreat", sum := "25766f6d62791344335ba3108e358f089dbeda5b67b2ed425748867c76776b0d", func := "escheat/escheatlaw41.ClaimOf", spec := "claimOf", unfollowed := true, recurses := true, apart := false, narrowed := true }
def ClaimOfUptoSaid : Prop := claimOfUptoRow.holds Tryz.pinned (OpenSpec.upto claimOfSpec)

/-- 'escheatlaw41.ClaimImage', WHERE WHAT IT READS IS OF BULK AT MOST 1048576: true; the input reads as it did. -/
def claimImageUptoRow : OpenClaim := { program := "ytbnkgnfhgbhblaagreat", sum := "25766f6d62791344335ba3108e358f089dbeda5b67b2ed425748867c76776b0d", func := "escheat/escheatlaw41.ClaimImage", spec := "claimImage", unfollowed := true, recurses := true, apart := false, narrowed := true }
def ClaimImageUptoSaid : Prop := claimImageUptoRow.holds Tryz.pinned (OpenSpec.upto claimImageSpec)

/-- 'escheatlaw42.MendPlans', WHERE WHAT IT READS IS OF BULK AT MOST 1048576: true; the input reads as it did. -/
def mendPlansUptoRow : OpenClaim := { program := "ytbnkgnfhgbhblaagreat", sum := "25766f6d62791344335ba3108e358f089dbeda5b67b2ed425748867c76776b0d", func := "escheat/escheatlaw42.MendPlans", spec := "mendPlans", unfollowed := true, recurses := true, apart := false, narrowed := true }
def MendPlansUptoSaid : Prop := mendPlansUptoRow.holds Tryz.pinned (OpenSpec.upto mendPlansSpec)

/-- 'escheatlaw42.MendCounts', WHERE WHAT IT READS IS OF BULK AT MOST 1048576: true; the input reads as it did. -/
def mendCountsUptoRow : OpenClaim := { program := "ytbnkgnfhgbhblaagreat", sum := "25766f6d62791344335ba3108e358f089dbeda5b67b2ed425748867c76776b0d", func := "escheat/escheatlaw42.MendCounts", spec := "mendCounts", unfollowed := true, recurses := true, apart := false, narrowed := true }
def MendCountsUptoSaid : Prop := mendCountsUptoRow.holds Tryz.pinned (OpenSpec.upto mendCountsSpec)

/-- 'escheatlaw42.MendCuts', WHERE WHAT IT READS IS OF BULK AT MOST 1048576: true; the input reads as it did. -/
def mendCutsUptoRow : OpenClaim := { program := "ytbnkgnfhgbhblaagreat", sum := "25766f6d62791344335ba3108e358f089dbeda5b67b2ed425748867c76776b0d", func := "escheat/escheatlaw42.MendCuts", spec := "mendCuts", unfollowed := true, recurses := true, apart := false, narrowed := true }
def MendCutsUptoSaid : Prop := mendCutsUptoRow.holds Tryz.pinned (OpenSpec.upto mendCutsSpec)

/-- 'escheatlaw41.ClaimRight', WHERE WHAT IT READS IS OF BULK AT MOST 1048576: true; the input reads as it did. -/
def claimRightUptoRow : OpenClaim := { program := "ytbnkgnfhgbhblaagreat", sum := "25766f6d62791344335ba3108e358f089dbeda5b67b2ed425748867c76776b0d", func := "escheat/escheatlaw41.ClaimRight", spec := "claimRight", unfollowed := true, recurses := true, apart := false, narrowed := true }
def ClaimRightUptoSaid : Prop := claimRightUptoRow.holds Tryz.pinned (OpenSpec.upto claimRightSpec)

/-- 'escheatlaw41.ClaimKeeps', WHERE WHAT IT READS IS OF BULK AT MOST 1048576: true; the input reads as it did. -/
def claimKeepsUptoRow : OpenClaim := { program := "ytbnkgnfhgbhblaagreat", sum := "25766f6d62791344335ba3108e358f089dbeda5b67b2ed425748867c76776b0d", func := "escheat/escheatlaw41.ClaimKeeps", spec := "claimKeeps", unfollowed := true, recurses := true, apart := false, narrowed := true }
def ClaimKeepsUptoSaid : Prop := claimKeepsUptoRow.holds Tryz.pinned (OpenSpec.upto claimKeepsSpec)

/-- 'escheatlaw42.MendWhole', WHERE WHAT IT READS IS OF BULK AT MOST 1048576: true; the input reads as it did. -/
def mendWholeUptoRow : OpenClaim := { program := "ytbnkgnfhgbhblaagreat", sum := "25766f6d62791344335ba3108e358f089dbeda5b67b2ed425748867c76776b0d", func := "escheat/escheatlaw42.MendWhole", spec := "mendWhole", unfollowed := true, recurses := true, apart := false, narrowed := true }
def MendWholeUptoSaid : Prop := mendWholeUptoRow.holds Tryz.pinned (OpenSpec.upto mendWholeSpec)

end Rows
end Go.Proofs.YtbnkgnfhgbhblaaGreat
