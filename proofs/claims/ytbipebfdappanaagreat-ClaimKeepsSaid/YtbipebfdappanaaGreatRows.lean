/-
  No cell of these rows narrows 'for every input' (looked for: loops, veiled, ifaces, maps, wideKeys, modest, calm, conditions, laid).
  DERIVED. THE GIVEN ROWS OF THIS SEAT. 3 by the template 'for every input the law returns true; each argument reads behind the call as it read before'; 0 by the template 'total and deterministic' (their statements: YtbipebfdappanaaGreatTotals.lean).
  GIVEN WITH THE SEED: the statements are not yours to turn. If you find one false, say at which input.
  Laid BY PROGRAM, IN A SANDBOX (cutbox-rows.mjs): the forced cells as the released guide's own fill.sh prints them over the translation bf4617994f8fa048… (all of the seat's roots in one cut). By AI agents, Wed Nov 11 2026. No macro, syntax, notation, axiom, sorry.
-/
import Derived.Test.YtbipebfdappanaaGreatChecked
import GoSem.Claim
import GoSem.ClaimJoined
import GoSem.ClaimMapViews
import Derived.JoinedTies
import Derived.KernelRfl
namespace Go.Proofs.YtbipebfdappanaaGreat
/- THE CELL 'sum', in the pinned program and in every row, IS THE sha256 OF THE DUMP (.gsa) THAT YtbipebfdappanaaGreatProg.lean LOADS. Nothing in Lean hashes anything: it is a label: what it is worth is what the hold of that sum in a sandbox is worth. -/
noncomputable def Tryz.pinned : Pinned := { name := "ytbipebfdappanaagreat", sum := "bf4617994f8fa04894142da1cca00d2fe04c4fbf2e216b2f581bb818c6b131bf", checked := Tryz.checked }
namespace Rows
def none {H : Type} : Left H := { results := [], args := [] }

/-- 'escheatlaw41.ClaimRight': WHATEVER THE INPUT: true; the input reads as it did. -/
def claimRightSpec : ChangeSpec := { name := "claimRight", fn := fun _ => fun
  | [d] => { results := [.lit (.bool true)], args := [d] }
  | _ => none }
def claimRightRow : OpenClaim := { program := "ytbipebfdappanaagreat", sum := "bf4617994f8fa04894142da1cca00d2fe04c4fbf2e216b2f581bb818c6b131bf", func := "escheat/escheatlaw41.ClaimRight", spec := "claimRight", unfollowed := true, recurses := true, apart := false }
def ClaimRightSaid : Prop := claimRightRow.holds Tryz.pinned (OpenSpec.ofChange claimRightSpec)

/-- ITS FALSE NEIGHBOUR: 'it returns false'. Refute it at one input. -/
def claimRightWrong : ChangeSpec := { name := "claimRight", fn := fun _ => fun
  | [d] => { results := [.lit (.bool false)], args := [d] }
  | _ => none }
def ClaimRightWrongFalsely : Prop := claimRightRow.holds Tryz.pinned (OpenSpec.ofChange claimRightWrong)

/-- 'escheatlaw41.ClaimKeeps': WHATEVER THE INPUT: true; the input reads as it did. -/
def claimKeepsSpec : ChangeSpec := { name := "claimKeeps", fn := fun _ => fun
  | [d] => { results := [.lit (.bool true)], args := [d] }
  | _ => none }
def claimKeepsRow : OpenClaim := { program := "ytbipebfdappanaagreat", sum := "bf4617994f8fa04894142da1cca00d2fe04c4fbf2e216b2f581bb818c6b131bf", func := "escheat/escheatlaw41.ClaimKeeps", spec := "claimKeeps", unfollowed := true, recurses := true, apart := false }
def ClaimKeepsSaid : Prop := claimKeepsRow.holds Tryz.pinned (OpenSpec.ofChange claimKeepsSpec)

/-- ITS FALSE NEIGHBOUR: 'it returns false'. Refute it at one input. -/
def claimKeepsWrong : ChangeSpec := { name := "claimKeeps", fn := fun _ => fun
  | [d] => { results := [.lit (.bool false)], args := [d] }
  | _ => none }
def ClaimKeepsWrongFalsely : Prop := claimKeepsRow.holds Tryz.pinned (OpenSpec.ofChange claimKeepsWrong)

/-- 'escheatlaw42.MendWhole': WHATEVER THE INPUT: true; the input reads as it did. -/
def mendWholeSpec : ChangeSpec := { name := "mendWhole", fn := fun _ => fun
  | [d] => { results := [.lit (.bool true)], args := [d] }
  | _ => none }
def mendWholeRow : OpenClaim := { program := "ytbipebfdappanaagreat", sum := "bf4617994f8fa04894142da1cca00d2fe04c4fbf2e216b2f581bb818c6b131bf", func := "escheat/escheatlaw42.MendWhole", spec := "mendWhole", unfollowed := true, recurses := true, apart := false }
def MendWholeSaid : Prop := mendWholeRow.holds Tryz.pinned (OpenSpec.ofChange mendWholeSpec)

/-- ITS FALSE NEIGHBOUR: 'it returns false'. Refute it at one input. -/
def mendWholeWrong : ChangeSpec := { name := "mendWhole", fn := fun _ => fun
  | [d] => { results := [.lit (.bool false)], args := [d] }
  | _ => none }
def MendWholeWrongFalsely : Prop := mendWholeRow.holds Tryz.pinned (OpenSpec.ofChange mendWholeWrong)

/- THE SECOND FORM. 'bulk': how many values and letters a reading holds, each counted each time it is reached (what is shared counts as often as it is met; a slice's spare places count too). A statement '..UptoSaid' is the law's where the arguments, and the package variables that the reading takes, are together of bulk at most 1048576: NARROWER than '..Said'. Prove '..Said' where nothing that the law and all that it calls make is longer than what came in: it says more and counts as full. Else prove '..UptoSaid'. A law counts once. -/
mutual
def uptoBulk {H : Type} : DataW H → Nat
  | .lit (.string bytes) => bytes.length + 1
  | .lit _ => 1
  | .nil => 1
  | .ptr d => uptoBulk d + 1
  | .slice elems spare => uptoBulkAll elems + uptoBulkAll spare + 1
  | .agg parts => uptoBulkAll parts + 1
  | .iface _ d => uptoBulk d + 1
  | .map entries => uptoBulkEntries entries + 1
  | .held _ => 1
def uptoBulkAll {H : Type} : List (DataW H) → Nat
  | [] => 0
  | d :: r => uptoBulk d + uptoBulkAll r
def uptoBulkEntries {H : Type} : List (Lit × DataW H) → Nat
  | [] => 0
  | x :: r => uptoBulkEntry x + uptoBulkEntries r
def uptoBulkEntry {H : Type} : Lit × DataW H → Nat
  | (.string bytes, d) => bytes.length + uptoBulk d + 1
  | (_, d) => uptoBulk d + 1
 end
def uptoSmall : (H : Type) → List (DataW H) → Bool := fun _ ds => decide (uptoBulkAll ds ≤ 1048576)
def OpenSpec.upto (s : _root_.Go.ChangeSpec) : _root_.Go.OpenSpec := { _root_.Go.OpenSpec.ofChange s with cond := some uptoSmall }

/-- 'escheatlaw41.ClaimRight', WHERE WHAT IT READS IS OF BULK AT MOST 1048576: true; the input reads as it did. -/
def claimRightUptoRow : OpenClaim := { program := "ytbipebfdappanaagreat", sum := "bf4617994f8fa04894142da1cca00d2fe04c4fbf2e216b2f581bb818c6b131bf", func := "escheat/escheatlaw41.ClaimRight", spec := "claimRight", unfollowed := true, recurses := true, apart := false, narrowed := true }
def ClaimRightUptoSaid : Prop := claimRightUptoRow.holds Tryz.pinned (OpenSpec.upto claimRightSpec)

/-- 'escheatlaw41.ClaimKeeps', WHERE WHAT IT READS IS OF BULK AT MOST 1048576: true; the input reads as it did. -/
def claimKeepsUptoRow : OpenClaim := { program := "ytbipebfdappanaagreat", sum := "bf4617994f8fa04894142da1cca00d2fe04c4fbf2e216b2f581bb818c6b131bf", func := "escheat/escheatlaw41.ClaimKeeps", spec := "claimKeeps", unfollowed := true, recurses := true, apart := false, narrowed := true }
def ClaimKeepsUptoSaid : Prop := claimKeepsUptoRow.holds Tryz.pinned (OpenSpec.upto claimKeepsSpec)

/-- 'escheatlaw42.MendWhole', WHERE WHAT IT READS IS OF BULK AT MOST 1048576: true; the input reads as it did. -/
def mendWholeUptoRow : OpenClaim := { program := "ytbipebfdappanaagreat", sum := "bf4617994f8fa04894142da1cca00d2fe04c4fbf2e216b2f581bb818c6b131bf", func := "escheat/escheatlaw42.MendWhole", spec := "mendWhole", unfollowed := true, recurses := true, apart := false, narrowed := true }
def MendWholeUptoSaid : Prop := mendWholeUptoRow.holds Tryz.pinned (OpenSpec.upto mendWholeSpec)

end Rows
end Go.Proofs.YtbipebfdappanaaGreat
