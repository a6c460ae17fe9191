/-
  No cell of these rows narrows 'for every input' (looked for: loops, veiled, ifaces, maps, wideKeys, modest, calm, conditions, laid).
  DERIVED. THE GIVEN ROWS OF THIS SEAT. 3 by the template 'for every input the law returns true; each argument reads behind the call as it read before'; 0 by the template 'total and deterministic' (their statements: YteckncopbicmcaaTotals.lean).
  GIVEN WITH THE SEED: the statements are not yours to turn. If you find one false, say at which input.
  Laid BY PROGRAM, IN A SANDBOX (cutbox-rows.mjs): the forced cells as the released guide's own fill.sh prints them over the translation 6eeee259a84c023f… (all of the seat's roots in one cut). By AI agents, Wed Nov 11 2026. No macro, syntax, notation, axiom, sorry.
-/
import Derived.Test.YteckncopbicmcaaChecked
import GoSem.Claim
import GoSem.ClaimJoined
import GoSem.ClaimMapViews
import Derived.JoinedTies
import Derived.KernelRfl
namespace Go.Proofs.Yteckncopbicmcaa
/- THE CELL 'sum', in the pinned program and in every row, IS THE sha256 OF THE DUMP (.gsa) THAT YteckncopbicmcaaProg.lean LOADS. Nothing in Lean hashes anything: it is a label: what it is worth is what the hold of that sum in a sandbox is worth. -/
noncomputable def Try.pinned : Pinned := { name := "yteckncopbicmcaa", sum := "6eeee259a84c023f6aab4a99bc2fd7214d1d7e02c0718fd92db315da005b7042", checked := Try.checked }
namespace Rows
def none {H : Type} : Left H := { results := [], args := [] }

/-- 'escheatlaw24.DreadOnce': WHATEVER THE INPUT: true; the input reads as it did. -/
def dreadOnceSpec : ChangeSpec := { name := "dreadOnce", fn := fun _ => fun
  | [d1, d2, d3] => { results := [.lit (.bool true)], args := [d1, d2, d3] }
  | _ => none }
def dreadOnceRow : OpenClaim := { program := "yteckncopbicmcaa", sum := "6eeee259a84c023f6aab4a99bc2fd7214d1d7e02c0718fd92db315da005b7042", func := "escheat/escheatlaw24.DreadOnce", spec := "dreadOnce", unfollowed := true, recurses := true, apart := false }
def DreadOnceSaid : Prop := dreadOnceRow.holds Try.pinned (OpenSpec.ofChange dreadOnceSpec)

/-- ITS FALSE NEIGHBOUR: 'it returns false'. Refute it at one input. -/
def dreadOnceWrong : ChangeSpec := { name := "dreadOnce", fn := fun _ => fun
  | [d1, d2, d3] => { results := [.lit (.bool false)], args := [d1, d2, d3] }
  | _ => none }
def DreadOnceWrongFalsely : Prop := dreadOnceRow.holds Try.pinned (OpenSpec.ofChange dreadOnceWrong)

/-- 'escheatlaw25.TreeCloses': WHATEVER THE INPUT: true; the input reads as it did. -/
def treeClosesSpec : ChangeSpec := { name := "treeCloses", fn := fun _ => fun
  | [d] => { results := [.lit (.bool true)], args := [d] }
  | _ => none }
def treeClosesRow : OpenClaim := { program := "yteckncopbicmcaa", sum := "6eeee259a84c023f6aab4a99bc2fd7214d1d7e02c0718fd92db315da005b7042", func := "escheat/escheatlaw25.TreeCloses", spec := "treeCloses", unfollowed := true, recurses := true, apart := false }
def TreeClosesSaid : Prop := treeClosesRow.holds Try.pinned (OpenSpec.ofChange treeClosesSpec)

/-- ITS FALSE NEIGHBOUR: 'it returns false'. Refute it at one input. -/
def treeClosesWrong : ChangeSpec := { name := "treeCloses", fn := fun _ => fun
  | [d] => { results := [.lit (.bool false)], args := [d] }
  | _ => none }
def TreeClosesWrongFalsely : Prop := treeClosesRow.holds Try.pinned (OpenSpec.ofChange treeClosesWrong)

/-- 'escheatlaw25.TreePaths': WHATEVER THE INPUT: true; the input reads as it did. -/
def treePathsSpec : ChangeSpec := { name := "treePaths", fn := fun _ => fun
  | [d] => { results := [.lit (.bool true)], args := [d] }
  | _ => none }
def treePathsRow : OpenClaim := { program := "yteckncopbicmcaa", sum := "6eeee259a84c023f6aab4a99bc2fd7214d1d7e02c0718fd92db315da005b7042", func := "escheat/escheatlaw25.TreePaths", spec := "treePaths", unfollowed := true, recurses := true, apart := false }
def TreePathsSaid : Prop := treePathsRow.holds Try.pinned (OpenSpec.ofChange treePathsSpec)

/-- ITS FALSE NEIGHBOUR: 'it returns false'. Refute it at one input. -/
def treePathsWrong : ChangeSpec := { name := "treePaths", fn := fun _ => fun
  | [d] => { results := [.lit (.bool false)], args := [d] }
  | _ => none }
def TreePathsWrongFalsely : Prop := treePathsRow.holds Try.pinned (OpenSpec.ofChange treePathsWrong)

/- THE SECOND FORM. 'bulk': how many values and letters a reading holds, each counted each time it is reached (what is shared counts as often as it is met; a slice's spare places count too). A statement '..UptoSaid' is the law's where the arguments, and the package variables that the reading takes, are together of bulk at most 1048576: NARROWER than '..Said'. Prove '..Said' where nothing that the law and all that it calls make is longer than what came in: it says more and counts as full. Else prove '..UptoSaid'. A law counts once. -/
mutual
def uptoBulk {H : Type} : DataW H → Nat
  | .lit (.string bytes) => bytes.length + 1
  | .lit _ => 1
  | .nil => 1
  | .ptr d => uptoBulk d + 1
  | .slice elems spare => uptoBulkAll elems + uptoBulkAll spare + 1
  | .agg parts => uptoBulkAll parts + 1
  | .iface _ d => uptoBulk d + 1
  | .map entries => uptoBulkEntries entries + 1
  | .held _ => 1
def uptoBulkAll {H : Type} : List (DataW H) → Nat
  | [] => 0
  | d :: r => uptoBulk d + uptoBulkAll r
def uptoBulkEntries {H : Type} : List (Lit × DataW H) → Nat
  | [] => 0
  | x :: r => uptoBulkEntry x + uptoBulkEntries r
def uptoBulkEntry {H : Type} : Lit × DataW H → Nat
  | (.string bytes, d) => bytes.length + uptoBulk d + 1
  | (_, d) => uptoBulk d + 1
 end
def uptoSmall : (H : Type) → List (DataW H) → Bool := fun _ ds => decide (uptoBulkAll ds ≤ 1048576)
def OpenSpec.upto (s : _root_.Go.ChangeSpec) : _root_.Go.OpenSpec := { _root_.Go.OpenSpec.ofChange s with cond := some uptoSmall }

/-- 'escheatlaw24.DreadOnce', WHERE WHAT IT READS IS OF BULK AT MOST 1048576: true; the input reads as it did. -/
def dreadOnceUptoRow : OpenClaim := { program := "yteckncopbicmcaa", sum := "6eeee259a84c023f6aab4a99bc2fd7214d1d7e02c0718fd92db315da005b7042", func := "escheat/escheatlaw24.DreadOnce", spec := "dreadOnce", unfollowed := true, recurses := true, apart := false, narrowed := true }
def DreadOnceUptoSaid : Prop := dreadOnceUptoRow.holds Try.pinned (OpenSpec.upto dreadOnceSpec)

/-- 'escheatlaw25.TreeCloses', WHERE WHAT IT READS IS OF BULK AT MOST 1048576: true; the input reads as it did. -/
def treeClosesUptoRow : OpenClaim := { program := "yteckncopbicmcaa", sum := "6eeee259a84c023f6aab4a99bc2fd7214d1d7e02c0718fd92db315da005b7042", func := "escheat/escheatlaw25.TreeCloses", spec := "treeCloses", unfollowed := true, recurses := true, apart := false, narrowed := true }
def TreeClosesUptoSaid : Prop := treeClosesUptoRow.holds Try.pinned (OpenSpec.upto treeClosesSpec)

/-- 'escheatlaw25.TreePaths', WHERE WHAT IT READS IS OF BULK AT MOST 1048576: true; the input reads as it did. -/
def treePathsUptoRow : OpenClaim := { program := "yteckncopbicmcaa", sum := "6eeee259a84c023f6aab4a99bc2fd7214d1d7e02c0718fd92db315da005b7042", func := "escheat/escheatlaw25.TreePaths", spec := "treePaths", unfollowed := true, recurses := true, apart := false, narrowed := true }
def TreePathsUptoSaid : Prop := treePathsUptoRow.holds Try.pinned (OpenSpec.upto treePathsSpec)

end Rows
end Go.Proofs.Yteckncopbicmcaa
