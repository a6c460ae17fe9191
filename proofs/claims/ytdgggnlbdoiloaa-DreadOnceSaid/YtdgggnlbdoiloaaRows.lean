/-
  No cell of these rows narrows 'for every input' (looked for: loops, veiled, ifaces, maps, wideKeys, modest, calm, conditions, laid).
  DERIVED. THE GIVEN ROWS OF THIS SEAT. 9 by the template 'for every input the law returns true; each argument reads behind the call as it read before'; 0 by the template 'total and deterministic' (their statements: YtdgggnlbdoiloaaTotals.lean).
  GIVEN WITH THE SEED: the statements are not yours to turn. If you find one false, say at which input.
  Laid BY PROGRAM, IN A SANDBOX (cutbox-rows.mjs): the forced cells as the released guide's own fill.sh prints them over the translation 227122ac8571079f… (all of the seat's roots in one cut). By AI agents, Wed Nov 11 2026. No macro, syntax, notation, axiom, sorry.
-/
import Derived.Test.YtdgggnlbdoiloaaChecked
import GoSem.Claim
import GoSem.ClaimJoined
import GoSem.ClaimMapViews
import Derived.JoinedTies
import Derived.KernelRfl
namespace Go.Proofs.Ytdgggnlbdoiloaa
/- THE CELL 'sum', in the pinned program and in every row, IS THE sha256 OF THE DUMP (.gsa) THAT YtdgggnlbdoiloaaProg.lean LOADS. Nothing in Lean hashes anything: it is a label: what it is worth is what the hold of that sum in a sandbox is worth. -/
noncomputable def Try.pinned : Pinned := { name := "ytdgggnlbdoiloaa", sum := "227122ac8571079f3295daf0ff55c6c19cc22fae3fa37f16842c6d0be4a277aa", checked := Try.checked }
namespace Rows
def none {H : Type} : Left H := { results := [], args := [] }

/-- 'escheatlaw23.FreadSpans': WHATEVER THE INPUT: true; the input reads as it did. -/
def freadSpansSpec : ChangeSpec := { name := "freadSpans", fn := fun _ => fun
  | [d1, d2] => { results := [.lit (.bool true)], args := [d1, d2] }
  | _ => none }
def freadSpansRow : OpenClaim := { program := "ytdgggnlbdoiloaa", sum := "227122ac8571079f3295daf0ff55c6c19cc22fae3fa37f16842c6d0be4a277aa", func := "escheat/escheatlaw23.FreadSpans", spec := "freadSpans", unfollowed := true, recurses := true, apart := false }
def FreadSpansSaid : Prop := freadSpansRow.holds Try.pinned (OpenSpec.ofChange freadSpansSpec)

/-- ITS FALSE NEIGHBOUR: 'it returns false'. Refute it at one input. -/
def freadSpansWrong : ChangeSpec := { name := "freadSpans", fn := fun _ => fun
  | [d1, d2] => { results := [.lit (.bool false)], args := [d1, d2] }
  | _ => none }
def FreadSpansWrongFalsely : Prop := freadSpansRow.holds Try.pinned (OpenSpec.ofChange freadSpansWrong)

/-- 'escheatlaw23.FreadOnce': WHATEVER THE INPUT: true; the input reads as it did. -/
def freadOnceSpec : ChangeSpec := { name := "freadOnce", fn := fun _ => fun
  | [d1, d2] => { results := [.lit (.bool true)], args := [d1, d2] }
  | _ => none }
def freadOnceRow : OpenClaim := { program := "ytdgggnlbdoiloaa", sum := "227122ac8571079f3295daf0ff55c6c19cc22fae3fa37f16842c6d0be4a277aa", func := "escheat/escheatlaw23.FreadOnce", spec := "freadOnce", unfollowed := true, recurses := true, apart := false }
def FreadOnceSaid : Prop := freadOnceRow.holds Try.pinned (OpenSpec.ofChange freadOnceSpec)

/-- ITS FALSE NEIGHBOUR: 'it returns false'. Refute it at one input. -/
def freadOnceWrong : ChangeSpec := { name := "freadOnce", fn := fun _ => fun
  | [d1, d2] => { results := [.lit (.bool false)], args := [d1, d2] }
  | _ => none }
def FreadOnceWrongFalsely : Prop := freadOnceRow.holds Try.pinned (OpenSpec.ofChange freadOnceWrong)

/-- 'escheatlaw23.FreadParts': WHATEVER THE INPUT: true; the input reads as it did. -/
def freadPartsSpec : ChangeSpec := { name := "freadParts", fn := fun _ => fun
  | [d1, d2, d3] => { results := [.lit (.bool true)], args := [d1, d2, d3] }
  | _ => none }
def freadPartsRow : OpenClaim := { program := "ytdgggnlbdoiloaa", sum := "227122ac8571079f3295daf0ff55c6c19cc22fae3fa37f16842c6d0be4a277aa", func := "escheat/escheatlaw23.FreadParts", spec := "freadParts", unfollowed := true, recurses := true, apart := false }
def FreadPartsSaid : Prop := freadPartsRow.holds Try.pinned (OpenSpec.ofChange freadPartsSpec)

/-- ITS FALSE NEIGHBOUR: 'it returns false'. Refute it at one input. -/
def freadPartsWrong : ChangeSpec := { name := "freadParts", fn := fun _ => fun
  | [d1, d2, d3] => { results := [.lit (.bool false)], args := [d1, d2, d3] }
  | _ => none }
def FreadPartsWrongFalsely : Prop := freadPartsRow.holds Try.pinned (OpenSpec.ofChange freadPartsWrong)

/-- 'escheatlaw22.FmapOwns': WHATEVER THE INPUT: true; the input reads as it did. -/
def fmapOwnsSpec : ChangeSpec := { name := "fmapOwns", fn := fun _ => fun
  | [d1, d2] => { results := [.lit (.bool true)], args := [d1, d2] }
  | _ => none }
def fmapOwnsRow : OpenClaim := { program := "ytdgggnlbdoiloaa", sum := "227122ac8571079f3295daf0ff55c6c19cc22fae3fa37f16842c6d0be4a277aa", func := "escheat/escheatlaw22.FmapOwns", spec := "fmapOwns", unfollowed := true, recurses := true, apart := false }
def FmapOwnsSaid : Prop := fmapOwnsRow.holds Try.pinned (OpenSpec.ofChange fmapOwnsSpec)

/-- ITS FALSE NEIGHBOUR: 'it returns false'. Refute it at one input. -/
def fmapOwnsWrong : ChangeSpec := { name := "fmapOwns", fn := fun _ => fun
  | [d1, d2] => { results := [.lit (.bool false)], args := [d1, d2] }
  | _ => none }
def FmapOwnsWrongFalsely : Prop := fmapOwnsRow.holds Try.pinned (OpenSpec.ofChange fmapOwnsWrong)

/-- 'escheatlaw21.ViewReads': WHATEVER THE INPUT: true; the input reads as it did. -/
def viewReadsSpec : ChangeSpec := { name := "viewReads", fn := fun _ => fun
  | [d1, d2, d3] => { results := [.lit (.bool true)], args := [d1, d2, d3] }
  | _ => none }
def viewReadsRow : OpenClaim := { program := "ytdgggnlbdoiloaa", sum := "227122ac8571079f3295daf0ff55c6c19cc22fae3fa37f16842c6d0be4a277aa", func := "escheat/escheatlaw21.ViewReads", spec := "viewReads", unfollowed := true, recurses := true, apart := false }
def ViewReadsSaid : Prop := viewReadsRow.holds Try.pinned (OpenSpec.ofChange viewReadsSpec)

/-- ITS FALSE NEIGHBOUR: 'it returns false'. Refute it at one input. -/
def viewReadsWrong : ChangeSpec := { name := "viewReads", fn := fun _ => fun
  | [d1, d2, d3] => { results := [.lit (.bool false)], args := [d1, d2, d3] }
  | _ => none }
def ViewReadsWrongFalsely : Prop := viewReadsRow.holds Try.pinned (OpenSpec.ofChange viewReadsWrong)

/-- 'escheatlaw21.ViewBack': WHATEVER THE INPUT: true; the input reads as it did. -/
def viewBackSpec : ChangeSpec := { name := "viewBack", fn := fun _ => fun
  | [d1, d2] => { results := [.lit (.bool true)], args := [d1, d2] }
  | _ => none }
def viewBackRow : OpenClaim := { program := "ytdgggnlbdoiloaa", sum := "227122ac8571079f3295daf0ff55c6c19cc22fae3fa37f16842c6d0be4a277aa", func := "escheat/escheatlaw21.ViewBack", spec := "viewBack", unfollowed := true, recurses := true, apart := false }
def ViewBackSaid : Prop := viewBackRow.holds Try.pinned (OpenSpec.ofChange viewBackSpec)

/-- ITS FALSE NEIGHBOUR: 'it returns false'. Refute it at one input. -/
def viewBackWrong : ChangeSpec := { name := "viewBack", fn := fun _ => fun
  | [d1, d2] => { results := [.lit (.bool false)], args := [d1, d2] }
  | _ => none }
def ViewBackWrongFalsely : Prop := viewBackRow.holds Try.pinned (OpenSpec.ofChange viewBackWrong)

/-- 'escheatlaw21.ViewOn': WHATEVER THE INPUT: true; the input reads as it did. -/
def viewOnSpec : ChangeSpec := { name := "viewOn", fn := fun _ => fun
  | [d1, d2, d3] => { results := [.lit (.bool true)], args := [d1, d2, d3] }
  | _ => none }
def viewOnRow : OpenClaim := { program := "ytdgggnlbdoiloaa", sum := "227122ac8571079f3295daf0ff55c6c19cc22fae3fa37f16842c6d0be4a277aa", func := "escheat/escheatlaw21.ViewOn", spec := "viewOn", unfollowed := true, recurses := true, apart := false }
def ViewOnSaid : Prop := viewOnRow.holds Try.pinned (OpenSpec.ofChange viewOnSpec)

/-- ITS FALSE NEIGHBOUR: 'it returns false'. Refute it at one input. -/
def viewOnWrong : ChangeSpec := { name := "viewOn", fn := fun _ => fun
  | [d1, d2, d3] => { results := [.lit (.bool false)], args := [d1, d2, d3] }
  | _ => none }
def ViewOnWrongFalsely : Prop := viewOnRow.holds Try.pinned (OpenSpec.ofChange viewOnWrong)

/-- 'escheatlaw22.FmapDirs': WHATEVER THE INPUT: true; the input reads as it did. -/
def fmapDirsSpec : ChangeSpec := { name := "fmapDirs", fn := fun _ => fun
  | [d1, d2] => { results := [.lit (.bool true)], args := [d1, d2] }
  | _ => none }
def fmapDirsRow : OpenClaim := { program := "ytdgggnlbdoiloaa", sum := "227122ac8571079f3295daf0ff55c6c19cc22fae3fa37f16842c6d0be4a277aa", func := "escheat/escheatlaw22.FmapDirs", spec := "fmapDirs", unfollowed := true, recurses := true, apart := false }
def FmapDirsSaid : Prop := fmapDirsRow.holds Try.pinned (OpenSpec.ofChange fmapDirsSpec)

/-- ITS FALSE NEIGHBOUR: 'it returns false'. Refute it at one input. -/
def fmapDirsWrong : ChangeSpec := { name := "fmapDirs", fn := fun _ => fun
  | [d1, d2] => { results := [.lit (.bool false)], args := [d1, d2] }
  | _ => none }
def FmapDirsWrongFalsely : Prop := fmapDirsRow.holds Try.pinned (OpenSpec.ofChange fmapDirsWrong)

/-- 'escheatlaw24.DreadOnce': WHATEVER THE INPUT: true; the input reads as it did. -/
def dreadOnceSpec : ChangeSpec := { name := "dreadOnce", fn := fun _ => fun
  | [d1, d2, d3] => { results := [.lit (.bool true)], args := [d1, d2, d3] }
  | _ => none }
def dreadOnceRow : OpenClaim := { program := "ytdgggnlbdoiloaa", sum := "227122ac8571079f3295daf0ff55c6c19cc22fae3fa37f16842c6d0be4a277aa", func := "escheat/escheatlaw24.DreadOnce", spec := "dreadOnce", unfollowed := true, recurses := true, apart := false }
def DreadOnceSaid : Prop := dreadOnceRow.holds Try.pinned (OpenSpec.ofChange dreadOnceSpec)

/-- ITS FALSE NEIGHBOUR: 'it returns false'. Refute it at one input. -/
def dreadOnceWrong : ChangeSpec := { name := "dreadOnce", fn := fun _ => fun
  | [d1, d2, d3] => { results := [.lit (.bool false)], args := [d1, d2, d3] }
  | _ => none }
def DreadOnceWrongFalsely : Prop := dreadOnceRow.holds Try.pinned (OpenSpec.ofChange dreadOnceWrong)

/- THE SECOND FORM. 'bulk': how many values and letters a reading holds, each counted each time it is reached (what is shared counts as often as it is met; a slice's spare places count too). A statement '..UptoSaid' is the law's where the arguments, and the package variables that the reading takes, are together of bulk at most 1048576: NARROWER than '..Said'. Prove '..Said' where nothing that the law and all that it calls make is longer than what came in: it says more and counts as full. Else prove '..UptoSaid'. A law counts once. -/
mutual
def uptoBulk {H : Type} : DataW H → Nat
  | .lit (.string bytes) => bytes.length + 1
  | .lit _ => 1
  | .nil => 1
  | .ptr d => uptoBulk d + 1
  | .slice elems spare => uptoBulkAll elems + uptoBulkAll spare + 1
  | .agg parts => uptoBulkAll parts + 1
  | .iface _ d => uptoBulk d + 1
  | .map entries => uptoBulkEntries entries + 1
  | .held _ => 1
def uptoBulkAll {H : Type} : List (DataW H) → Nat
  | [] => 0
  | d :: r => uptoBulk d + uptoBulkAll r
def uptoBulkEntries {H : Type} : List (Lit × DataW H) → Nat
  | [] => 0
  | x :: r => uptoBulkEntry x + uptoBulkEntries r
def uptoBulkEntry {H : Type} : Lit × DataW H → Nat
  | (.string bytes, d) => bytes.length + uptoBulk d + 1
  | (_, d) => uptoBulk d + 1
 end
def uptoSmall : (H : Type) → List (DataW H) → Bool := fun _ ds => decide (uptoBulkAll ds ≤ 1048576)
def OpenSpec.upto (s : _root_.Go.ChangeSpec) : _root_.Go.OpenSpec := { _root_.Go.OpenSpec.ofChange s with cond := some uptoSmall }

/-- 'escheatlaw23.FreadSpans', WHERE WHAT IT READS IS OF BULK AT MOST 1048576: true; the input reads as it did. -/
def freadSpansUptoRow : OpenClaim := { program := "ytdgggnlbdoiloaa", sum := "227122ac8571079f3295daf0ff55c6c19cc22fae3fa37f16842c6d0be4a277aa", func := "escheat/escheatlaw23.FreadSpans", spec := "freadSpans", unfollowed := true, recurses := true, apart := false, narrowed := true }
def FreadSpansUptoSaid : Prop := freadSpansUptoRow.holds Try.pinned (OpenSpec.upto freadSpansSpec)

/-- 'escheatlaw23.FreadOnce', WHERE WHAT IT READS IS OF BULK AT MOST 1048576: true; the input reads as it did. -/
def freadOnceUptoRow : OpenClaim := { program := "ytdgggnlbdoiloaa", sum := "227122ac8571079f3295daf0ff55c6c19cc22fae3fa37f16842c6d0be4a277aa", func := "escheat/escheatlaw23.FreadOnce", spec := "freadOnce", unfollowed := true, recurses := true, apart := false, narrowed := true }
def FreadOnceUptoSaid : Prop := freadOnceUptoRow.holds Try.pinned (OpenSpec.upto freadOnceSpec)

/-- 'escheatlaw23.FreadParts', WHERE WHAT IT READS IS OF BULK AT MOST 1048576: true; the input reads as it did. -/
def freadPartsUptoRow : OpenClaim := { program := "ytdgggnlbdoiloaa", sum := "227122ac8571079f3295daf0ff55c6c19cc22fae3fa37f16842c6d0be4a277aa", func := "escheat/escheatlaw23.FreadParts", spec := "freadParts", unfollowed := true, recurses := true, apart := false, narrowed := true }
def FreadPartsUptoSaid : Prop := freadPartsUptoRow.holds Try.pinned (OpenSpec.upto freadPartsSpec)

/-- 'escheatlaw22.FmapOwns', WHERE WHAT IT READS IS OF BULK AT MOST 1048576: true; the input reads as it did. -/
def fmapOwnsUptoRow : OpenClaim := { program := "ytdgggnlbdoiloaa", sum := "227122ac8571079f3295daf0ff55c6c19cc22fae3fa37f16842c6d0be4a277aa", func := "escheat/escheatlaw22.FmapOwns", spec := "fmapOwns", unfollowed := true, recurses := true, apart := false, narrowed := true }
def FmapOwnsUptoSaid : Prop := fmapOwnsUptoRow.holds Try.pinned (OpenSpec.upto fmapOwnsSpec)

/-- 'escheatlaw21.ViewReads', WHERE WHAT IT READS IS OF BULK AT MOST 1048576: true; the input reads as it did. -/
def viewReadsUptoRow : OpenClaim := { program := "ytdgggnlbdoiloaa", sum := "227122ac8571079f3295daf0ff55c6c19cc22fae3fa37f16842c6d0be4a277aa", func := "escheat/escheatlaw21.ViewReads", spec := "viewReads", unfollowed := true, recurses := true, apart := false, narrowed := true }
def ViewReadsUptoSaid : Prop := viewReadsUptoRow.holds Try.pinned (OpenSpec.upto viewReadsSpec)

/-- 'escheatlaw21.ViewBack', WHERE WHAT IT READS IS OF BULK AT MOST 1048576: true; the input reads as it did. -/
def viewBackUptoRow : OpenClaim := { program := "ytdgggnlbdoiloaa", sum := "227122ac8571079f3295daf0ff55c6c19cc22fae3fa37f16842c6d0be4a277aa", func := "escheat/escheatlaw21.ViewBack", spec := "viewBack", unfollowed := true, recurses := true, apart := false, narrowed := true }
def ViewBackUptoSaid : Prop := viewBackUptoRow.holds Try.pinned (OpenSpec.upto viewBackSpec)

/-- 'escheatlaw21.ViewOn', WHERE WHAT IT READS IS OF BULK AT MOST 1048576: true; the input reads as it did. -/
def viewOnUptoRow : OpenClaim := { program := "ytdgggnlbdoiloaa", sum := "227122ac8571079f3295daf0ff55c6c19cc22fae3fa37f16842c6d0be4a277aa", func := "escheat/escheatlaw21.ViewOn", spec := "viewOn", unfollowed := true, recurses := true, apart := false, narrowed := true }
def ViewOnUptoSaid : Prop := viewOnUptoRow.holds Try.pinned (OpenSpec.upto viewOnSpec)

/-- 'escheatlaw22.FmapDirs', WHERE WHAT IT READS IS OF BULK AT MOST 1048576: true; the input reads as it did. -/
def fmapDirsUptoRow : OpenClaim := { program := "ytdgggnlbdoiloaa", sum := "227122ac8571079f3295daf0ff55c6c19cc22fae3fa37f16842c6d0be4a277aa", func := "escheat/escheatlaw22.FmapDirs", spec := "fmapDirs", unfollowed := true, recurses := true, apart := false, narrowed := true }
def FmapDirsUptoSaid : Prop := fmapDirsUptoRow.holds Try.pinned (OpenSpec.upto fmapDirsSpec)

/-- 'escheatlaw24.DreadOnce', WHERE WHAT IT READS IS OF BULK AT MOST 1048576: true; the input reads as it did. -/
def dreadOnceUptoRow : OpenClaim := { program := "ytdgggnlbdoiloaa", sum := "227122ac8571079f3295daf0ff55c6c19cc22fae3fa37f16842c6d0be4a277aa", func := "escheat/escheatlaw24.DreadOnce", spec := "dreadOnce", unfollowed := true, recurses := true, apart := false, narrowed := true }
def DreadOnceUptoSaid : Prop := dreadOnceUptoRow.holds Try.pinned (OpenSpec.upto dreadOnceSpec)

end Rows
end Go.Proofs.Ytdgggnlbdoiloaa
