/-
  No cell of these rows narrows 'for every input' (looked for: loops, veiled, ifaces, maps, wideKeys, modest, calm, conditions, laid).
  DERIVED. THE GIVEN ROWS OF THIS SEAT. 37 by the template 'for every input the law returns true; each argument reads behind the call as it read before'; 0 by the template 'total and deterministic' (their statements: YtbbkpmbepljhkaaTotals.lean).
  GIVEN WITH THE SEED: the statements are not yours to turn. If you find one false, say at which input.
  Laid BY PROGRAM, IN A SANDBOX (cutbox-rows.mjs): the forced cells as the released guide's own fill.sh prints them over the translation d9455c2b4cfc405d… (all of the seat's roots in one cut). By AI agents, Wed Nov 11 2026. No macro, syntax, notation, axiom, sorry.
-/
import Derived.Test.YtbbkpmbepljhkaaChecked
import GoSem.Claim
import GoSem.ClaimJoined
import GoSem.ClaimMapViews
import Derived.JoinedTies
import Derived.KernelRfl
namespace Go.Proofs.Ytbbkpmbepljhkaa
/- THE CELL 'sum', in the pinned program and in every row, IS THE sha256 OF THE DUMP (.gsa) THAT YtbbkpmbepljhkaaProg.lean LOADS. Nothing in Lean hashes anything: it is a label: what it is worth is what the hold of that sum in a sandbox is worth. -/
noncomputable def Try.pinned : Pinned := { name := "ytbbkpmbepljhkaa", sum := "d9455c2b4cfc405db2d789dc65c9b16c3561c63c4e2c4f13050e4c90e23cbe55", checked := Try.checked }
namespace Rows
def none {H : Type} : Left H := { results := [], args := [] }

/-- 'escheatlaw03.NameChecks': WHATEVER THE INPUT: true; the input reads as it did. -/
def nameChecksSpec : ChangeSpec := { name := "nameChecks", fn := fun _ => fun
  | [d1, d2] => { results := [.lit (.bool true)], args := [d1, d2] }
  | _ => none }
def nameChecksRow : OpenClaim := { program := "ytbbkpmbepljhkaa", sum := "d9455c2b4cfc405db2d789dc65c9b16c3561c63c4e2c4f13050e4c90e23cbe55", func := "escheat/escheatlaw03.NameChecks", spec := "nameChecks", apart := false }
def NameChecksSaid : Prop := nameChecksRow.holds Try.pinned (OpenSpec.ofChange nameChecksSpec)

/-- ITS FALSE NEIGHBOUR: 'it returns false'. Refute it at one input. -/
def nameChecksWrong : ChangeSpec := { name := "nameChecks", fn := fun _ => fun
  | [d1, d2] => { results := [.lit (.bool false)], args := [d1, d2] }
  | _ => none }
def NameChecksWrongFalsely : Prop := nameChecksRow.holds Try.pinned (OpenSpec.ofChange nameChecksWrong)

/-- 'escheatlaw03.NamePacks': WHATEVER THE INPUT: true; the input reads as it did. -/
def namePacksSpec : ChangeSpec := { name := "namePacks", fn := fun _ => fun
  | [d1, d2] => { results := [.lit (.bool true)], args := [d1, d2] }
  | _ => none }
def namePacksRow : OpenClaim := { program := "ytbbkpmbepljhkaa", sum := "d9455c2b4cfc405db2d789dc65c9b16c3561c63c4e2c4f13050e4c90e23cbe55", func := "escheat/escheatlaw03.NamePacks", spec := "namePacks", apart := false }
def NamePacksSaid : Prop := namePacksRow.holds Try.pinned (OpenSpec.ofChange namePacksSpec)

/-- ITS FALSE NEIGHBOUR: 'it returns false'. Refute it at one input. -/
def namePacksWrong : ChangeSpec := { name := "namePacks", fn := fun _ => fun
  | [d1, d2] => { results := [.lit (.bool false)], args := [d1, d2] }
  | _ => none }
def NamePacksWrongFalsely : Prop := namePacksRow.holds Try.pinned (OpenSpec.ofChange namePacksWrong)

/-- 'escheatlaw03.NameBack': WHATEVER THE INPUT: true; the input reads as it did. -/
def nameBackSpec : ChangeSpec := { name := "nameBack", fn := fun _ => fun
  | [d1, d2] => { results := [.lit (.bool true)], args := [d1, d2] }
  | _ => none }
def nameBackRow : OpenClaim := { program := "ytbbkpmbepljhkaa", sum := "d9455c2b4cfc405db2d789dc65c9b16c3561c63c4e2c4f13050e4c90e23cbe55", func := "escheat/escheatlaw03.NameBack", spec := "nameBack", apart := false }
def NameBackSaid : Prop := nameBackRow.holds Try.pinned (OpenSpec.ofChange nameBackSpec)

/-- ITS FALSE NEIGHBOUR: 'it returns false'. Refute it at one input. -/
def nameBackWrong : ChangeSpec := { name := "nameBack", fn := fun _ => fun
  | [d1, d2] => { results := [.lit (.bool false)], args := [d1, d2] }
  | _ => none }
def NameBackWrongFalsely : Prop := nameBackRow.holds Try.pinned (OpenSpec.ofChange nameBackWrong)

/-- 'escheatlaw15.GeomInodes': WHATEVER THE INPUT: true; the input reads as it did. -/
def geomInodesSpec : ChangeSpec := { name := "geomInodes", fn := fun _ => fun
  | [d1, d2, d3] => { results := [.lit (.bool true)], args := [d1, d2, d3] }
  | _ => none }
def geomInodesRow : OpenClaim := { program := "ytbbkpmbepljhkaa", sum := "d9455c2b4cfc405db2d789dc65c9b16c3561c63c4e2c4f13050e4c90e23cbe55", func := "escheat/escheatlaw15.GeomInodes", spec := "geomInodes", apart := false }
def GeomInodesSaid : Prop := geomInodesRow.holds Try.pinned (OpenSpec.ofChange geomInodesSpec)

/-- ITS FALSE NEIGHBOUR: 'it returns false'. Refute it at one input. -/
def geomInodesWrong : ChangeSpec := { name := "geomInodes", fn := fun _ => fun
  | [d1, d2, d3] => { results := [.lit (.bool false)], args := [d1, d2, d3] }
  | _ => none }
def GeomInodesWrongFalsely : Prop := geomInodesRow.holds Try.pinned (OpenSpec.ofChange geomInodesWrong)

/-- 'escheatlaw01.NumBack': WHATEVER THE INPUT: true; the input reads as it did. -/
def numBackSpec : ChangeSpec := { name := "numBack", fn := fun _ => fun
  | [d1, d2, d3] => { results := [.lit (.bool true)], args := [d1, d2, d3] }
  | _ => none }
def numBackRow : OpenClaim := { program := "ytbbkpmbepljhkaa", sum := "d9455c2b4cfc405db2d789dc65c9b16c3561c63c4e2c4f13050e4c90e23cbe55", func := "escheat/escheatlaw01.NumBack", spec := "numBack", apart := false }
def NumBackSaid : Prop := numBackRow.holds Try.pinned (OpenSpec.ofChange numBackSpec)

/-- ITS FALSE NEIGHBOUR: 'it returns false'. Refute it at one input. -/
def numBackWrong : ChangeSpec := { name := "numBack", fn := fun _ => fun
  | [d1, d2, d3] => { results := [.lit (.bool false)], args := [d1, d2, d3] }
  | _ => none }
def NumBackWrongFalsely : Prop := numBackRow.holds Try.pinned (OpenSpec.ofChange numBackWrong)

/-- 'escheatlaw01.NumLists': WHATEVER THE INPUT: true; the input reads as it did. -/
def numListsSpec : ChangeSpec := { name := "numLists", fn := fun _ => fun
  | [d1, d2, d3] => { results := [.lit (.bool true)], args := [d1, d2, d3] }
  | _ => none }
def numListsRow : OpenClaim := { program := "ytbbkpmbepljhkaa", sum := "d9455c2b4cfc405db2d789dc65c9b16c3561c63c4e2c4f13050e4c90e23cbe55", func := "escheat/escheatlaw01.NumLists", spec := "numLists", apart := false }
def NumListsSaid : Prop := numListsRow.holds Try.pinned (OpenSpec.ofChange numListsSpec)

/-- ITS FALSE NEIGHBOUR: 'it returns false'. Refute it at one input. -/
def numListsWrong : ChangeSpec := { name := "numLists", fn := fun _ => fun
  | [d1, d2, d3] => { results := [.lit (.bool false)], args := [d1, d2, d3] }
  | _ => none }
def NumListsWrongFalsely : Prop := numListsRow.holds Try.pinned (OpenSpec.ofChange numListsWrong)

/-- 'escheatlaw01.NumApart': WHATEVER THE INPUT: true; the input reads as it did. -/
def numApartSpec : ChangeSpec := { name := "numApart", fn := fun _ => fun
  | [d1, d2, d3] => { results := [.lit (.bool true)], args := [d1, d2, d3] }
  | _ => none }
def numApartRow : OpenClaim := { program := "ytbbkpmbepljhkaa", sum := "d9455c2b4cfc405db2d789dc65c9b16c3561c63c4e2c4f13050e4c90e23cbe55", func := "escheat/escheatlaw01.NumApart", spec := "numApart", apart := false }
def NumApartSaid : Prop := numApartRow.holds Try.pinned (OpenSpec.ofChange numApartSpec)

/-- ITS FALSE NEIGHBOUR: 'it returns false'. Refute it at one input. -/
def numApartWrong : ChangeSpec := { name := "numApart", fn := fun _ => fun
  | [d1, d2, d3] => { results := [.lit (.bool false)], args := [d1, d2, d3] }
  | _ => none }
def NumApartWrongFalsely : Prop := numApartRow.holds Try.pinned (OpenSpec.ofChange numApartWrong)

/-- 'escheatlaw15.GeomAreas': WHATEVER THE INPUT: true; the input reads as it did. -/
def geomAreasSpec : ChangeSpec := { name := "geomAreas", fn := fun _ => fun
  | [d1, d2] => { results := [.lit (.bool true)], args := [d1, d2] }
  | _ => none }
def geomAreasRow : OpenClaim := { program := "ytbbkpmbepljhkaa", sum := "d9455c2b4cfc405db2d789dc65c9b16c3561c63c4e2c4f13050e4c90e23cbe55", func := "escheat/escheatlaw15.GeomAreas", spec := "geomAreas", apart := false }
def GeomAreasSaid : Prop := geomAreasRow.holds Try.pinned (OpenSpec.ofChange geomAreasSpec)

/-- ITS FALSE NEIGHBOUR: 'it returns false'. Refute it at one input. -/
def geomAreasWrong : ChangeSpec := { name := "geomAreas", fn := fun _ => fun
  | [d1, d2] => { results := [.lit (.bool false)], args := [d1, d2] }
  | _ => none }
def GeomAreasWrongFalsely : Prop := geomAreasRow.holds Try.pinned (OpenSpec.ofChange geomAreasWrong)

/-- 'escheatlaw03.NameSorts': WHATEVER THE INPUT: true; the input reads as it did. -/
def nameSortsSpec : ChangeSpec := { name := "nameSorts", fn := fun _ => fun
  | [d1, d2] => { results := [.lit (.bool true)], args := [d1, d2] }
  | _ => none }
def nameSortsRow : OpenClaim := { program := "ytbbkpmbepljhkaa", sum := "d9455c2b4cfc405db2d789dc65c9b16c3561c63c4e2c4f13050e4c90e23cbe55", func := "escheat/escheatlaw03.NameSorts", spec := "nameSorts", apart := false }
def NameSortsSaid : Prop := nameSortsRow.holds Try.pinned (OpenSpec.ofChange nameSortsSpec)

/-- ITS FALSE NEIGHBOUR: 'it returns false'. Refute it at one input. -/
def nameSortsWrong : ChangeSpec := { name := "nameSorts", fn := fun _ => fun
  | [d1, d2] => { results := [.lit (.bool false)], args := [d1, d2] }
  | _ => none }
def NameSortsWrongFalsely : Prop := nameSortsRow.holds Try.pinned (OpenSpec.ofChange nameSortsWrong)

/-- 'escheatlaw03.NameOrder': WHATEVER THE INPUT: true; the input reads as it did. -/
def nameOrderSpec : ChangeSpec := { name := "nameOrder", fn := fun _ => fun
  | [d1, d2, d3] => { results := [.lit (.bool true)], args := [d1, d2, d3] }
  | _ => none }
def nameOrderRow : OpenClaim := { program := "ytbbkpmbepljhkaa", sum := "d9455c2b4cfc405db2d789dc65c9b16c3561c63c4e2c4f13050e4c90e23cbe55", func := "escheat/escheatlaw03.NameOrder", spec := "nameOrder", apart := false }
def NameOrderSaid : Prop := nameOrderRow.holds Try.pinned (OpenSpec.ofChange nameOrderSpec)

/-- ITS FALSE NEIGHBOUR: 'it returns false'. Refute it at one input. -/
def nameOrderWrong : ChangeSpec := { name := "nameOrder", fn := fun _ => fun
  | [d1, d2, d3] => { results := [.lit (.bool false)], args := [d1, d2, d3] }
  | _ => none }
def NameOrderWrongFalsely : Prop := nameOrderRow.holds Try.pinned (OpenSpec.ofChange nameOrderWrong)

/-- 'escheatlaw15.GeomOnce': WHATEVER THE INPUT: true; the input reads as it did. -/
def geomOnceSpec : ChangeSpec := { name := "geomOnce", fn := fun _ => fun
  | [d] => { results := [.lit (.bool true)], args := [d] }
  | _ => none }
def geomOnceRow : OpenClaim := { program := "ytbbkpmbepljhkaa", sum := "d9455c2b4cfc405db2d789dc65c9b16c3561c63c4e2c4f13050e4c90e23cbe55", func := "escheat/escheatlaw15.GeomOnce", spec := "geomOnce", apart := false }
def GeomOnceSaid : Prop := geomOnceRow.holds Try.pinned (OpenSpec.ofChange geomOnceSpec)

/-- ITS FALSE NEIGHBOUR: 'it returns false'. Refute it at one input. -/
def geomOnceWrong : ChangeSpec := { name := "geomOnce", fn := fun _ => fun
  | [d] => { results := [.lit (.bool false)], args := [d] }
  | _ => none }
def GeomOnceWrongFalsely : Prop := geomOnceRow.holds Try.pinned (OpenSpec.ofChange geomOnceWrong)

/-- 'escheatlaw01.NumBlocks': WHATEVER THE INPUT: true; the input reads as it did. -/
def numBlocksSpec : ChangeSpec := { name := "numBlocks", fn := fun _ => fun
  | [d1, d2, d3] => { results := [.lit (.bool true)], args := [d1, d2, d3] }
  | _ => none }
def numBlocksRow : OpenClaim := { program := "ytbbkpmbepljhkaa", sum := "d9455c2b4cfc405db2d789dc65c9b16c3561c63c4e2c4f13050e4c90e23cbe55", func := "escheat/escheatlaw01.NumBlocks", spec := "numBlocks", apart := false }
def NumBlocksSaid : Prop := numBlocksRow.holds Try.pinned (OpenSpec.ofChange numBlocksSpec)

/-- ITS FALSE NEIGHBOUR: 'it returns false'. Refute it at one input. -/
def numBlocksWrong : ChangeSpec := { name := "numBlocks", fn := fun _ => fun
  | [d1, d2, d3] => { results := [.lit (.bool false)], args := [d1, d2, d3] }
  | _ => none }
def NumBlocksWrongFalsely : Prop := numBlocksRow.holds Try.pinned (OpenSpec.ofChange numBlocksWrong)

/-- 'escheatlaw20.PointsMakes': WHATEVER THE INPUT: true; the input reads as it did. -/
def pointsMakesSpec : ChangeSpec := { name := "pointsMakes", fn := fun _ => fun
  | [d] => { results := [.lit (.bool true)], args := [d] }
  | _ => none }
def pointsMakesRow : OpenClaim := { program := "ytbbkpmbepljhkaa", sum := "d9455c2b4cfc405db2d789dc65c9b16c3561c63c4e2c4f13050e4c90e23cbe55", func := "escheat/escheatlaw20.PointsMakes", spec := "pointsMakes", apart := false }
def PointsMakesSaid : Prop := pointsMakesRow.holds Try.pinned (OpenSpec.ofChange pointsMakesSpec)

/-- ITS FALSE NEIGHBOUR: 'it returns false'. Refute it at one input. -/
def pointsMakesWrong : ChangeSpec := { name := "pointsMakes", fn := fun _ => fun
  | [d] => { results := [.lit (.bool false)], args := [d] }
  | _ => none }
def PointsMakesWrongFalsely : Prop := pointsMakesRow.holds Try.pinned (OpenSpec.ofChange pointsMakesWrong)

/-- 'escheatlaw16.InodePuts': WHATEVER THE INPUT: true; the input reads as it did. -/
def inodePutsSpec : ChangeSpec := { name := "inodePuts", fn := fun _ => fun
  | [d] => { results := [.lit (.bool true)], args := [d] }
  | _ => none }
def inodePutsRow : OpenClaim := { program := "ytbbkpmbepljhkaa", sum := "d9455c2b4cfc405db2d789dc65c9b16c3561c63c4e2c4f13050e4c90e23cbe55", func := "escheat/escheatlaw16.InodePuts", spec := "inodePuts", apart := false }
def InodePutsSaid : Prop := inodePutsRow.holds Try.pinned (OpenSpec.ofChange inodePutsSpec)

/-- ITS FALSE NEIGHBOUR: 'it returns false'. Refute it at one input. -/
def inodePutsWrong : ChangeSpec := { name := "inodePuts", fn := fun _ => fun
  | [d] => { results := [.lit (.bool false)], args := [d] }
  | _ => none }
def InodePutsWrongFalsely : Prop := inodePutsRow.holds Try.pinned (OpenSpec.ofChange inodePutsWrong)

/-- 'escheatlaw16.InodeSizes': WHATEVER THE INPUT: true; the input reads as it did. -/
def inodeSizesSpec : ChangeSpec := { name := "inodeSizes", fn := fun _ => fun
  | [d1, d2] => { results := [.lit (.bool true)], args := [d1, d2] }
  | _ => none }
def inodeSizesRow : OpenClaim := { program := "ytbbkpmbepljhkaa", sum := "d9455c2b4cfc405db2d789dc65c9b16c3561c63c4e2c4f13050e4c90e23cbe55", func := "escheat/escheatlaw16.InodeSizes", spec := "inodeSizes", apart := false }
def InodeSizesSaid : Prop := inodeSizesRow.holds Try.pinned (OpenSpec.ofChange inodeSizesSpec)

/-- ITS FALSE NEIGHBOUR: 'it returns false'. Refute it at one input. -/
def inodeSizesWrong : ChangeSpec := { name := "inodeSizes", fn := fun _ => fun
  | [d1, d2] => { results := [.lit (.bool false)], args := [d1, d2] }
  | _ => none }
def InodeSizesWrongFalsely : Prop := inodeSizesRow.holds Try.pinned (OpenSpec.ofChange inodeSizesWrong)

/-- 'escheatlaw20.PointsLooks': WHATEVER THE INPUT: true; the input reads as it did. -/
def pointsLooksSpec : ChangeSpec := { name := "pointsLooks", fn := fun _ => fun
  | [d1, d2, d3] => { results := [.lit (.bool true)], args := [d1, d2, d3] }
  | _ => none }
def pointsLooksRow : OpenClaim := { program := "ytbbkpmbepljhkaa", sum := "d9455c2b4cfc405db2d789dc65c9b16c3561c63c4e2c4f13050e4c90e23cbe55", func := "escheat/escheatlaw20.PointsLooks", spec := "pointsLooks", unfollowed := true, recurses := true, apart := false }
def PointsLooksSaid : Prop := pointsLooksRow.holds Try.pinned (OpenSpec.ofChange pointsLooksSpec)

/-- ITS FALSE NEIGHBOUR: 'it returns false'. Refute it at one input. -/
def pointsLooksWrong : ChangeSpec := { name := "pointsLooks", fn := fun _ => fun
  | [d1, d2, d3] => { results := [.lit (.bool false)], args := [d1, d2, d3] }
  | _ => none }
def PointsLooksWrongFalsely : Prop := pointsLooksRow.holds Try.pinned (OpenSpec.ofChange pointsLooksWrong)

/-- 'escheatlaw20.PointsPuts': WHATEVER THE INPUT: true; the input reads as it did. -/
def pointsPutsSpec : ChangeSpec := { name := "pointsPuts", fn := fun _ => fun
  | [d1, d2, d3] => { results := [.lit (.bool true)], args := [d1, d2, d3] }
  | _ => none }
def pointsPutsRow : OpenClaim := { program := "ytbbkpmbepljhkaa", sum := "d9455c2b4cfc405db2d789dc65c9b16c3561c63c4e2c4f13050e4c90e23cbe55", func := "escheat/escheatlaw20.PointsPuts", spec := "pointsPuts", apart := false }
def PointsPutsSaid : Prop := pointsPutsRow.holds Try.pinned (OpenSpec.ofChange pointsPutsSpec)

/-- ITS FALSE NEIGHBOUR: 'it returns false'. Refute it at one input. -/
def pointsPutsWrong : ChangeSpec := { name := "pointsPuts", fn := fun _ => fun
  | [d1, d2, d3] => { results := [.lit (.bool false)], args := [d1, d2, d3] }
  | _ => none }
def PointsPutsWrongFalsely : Prop := pointsPutsRow.holds Try.pinned (OpenSpec.ofChange pointsPutsWrong)

/-- 'escheatlaw19.IndexFixes': WHATEVER THE INPUT: true; the input reads as it did. -/
def indexFixesSpec : ChangeSpec := { name := "indexFixes", fn := fun _ => fun
  | [d] => { results := [.lit (.bool true)], args := [d] }
  | _ => none }
def indexFixesRow : OpenClaim := { program := "ytbbkpmbepljhkaa", sum := "d9455c2b4cfc405db2d789dc65c9b16c3561c63c4e2c4f13050e4c90e23cbe55", func := "escheat/escheatlaw19.IndexFixes", spec := "indexFixes", apart := false }
def IndexFixesSaid : Prop := indexFixesRow.holds Try.pinned (OpenSpec.ofChange indexFixesSpec)

/-- ITS FALSE NEIGHBOUR: 'it returns false'. Refute it at one input. -/
def indexFixesWrong : ChangeSpec := { name := "indexFixes", fn := fun _ => fun
  | [d] => { results := [.lit (.bool false)], args := [d] }
  | _ => none }
def IndexFixesWrongFalsely : Prop := indexFixesRow.holds Try.pinned (OpenSpec.ofChange indexFixesWrong)

/-- 'escheatlaw20.PointsKeeps': WHATEVER THE INPUT: true; the input reads as it did. -/
def pointsKeepsSpec : ChangeSpec := { name := "pointsKeeps", fn := fun _ => fun
  | [d1, d2, d3] => { results := [.lit (.bool true)], args := [d1, d2, d3] }
  | _ => none }
def pointsKeepsRow : OpenClaim := { program := "ytbbkpmbepljhkaa", sum := "d9455c2b4cfc405db2d789dc65c9b16c3561c63c4e2c4f13050e4c90e23cbe55", func := "escheat/escheatlaw20.PointsKeeps", spec := "pointsKeeps", unfollowed := true, recurses := true, apart := false }
def PointsKeepsSaid : Prop := pointsKeepsRow.holds Try.pinned (OpenSpec.ofChange pointsKeepsSpec)

/-- ITS FALSE NEIGHBOUR: 'it returns false'. Refute it at one input. -/
def pointsKeepsWrong : ChangeSpec := { name := "pointsKeeps", fn := fun _ => fun
  | [d1, d2, d3] => { results := [.lit (.bool false)], args := [d1, d2, d3] }
  | _ => none }
def PointsKeepsWrongFalsely : Prop := pointsKeepsRow.holds Try.pinned (OpenSpec.ofChange pointsKeepsWrong)

/-- 'escheatlaw16.InodeGets': WHATEVER THE INPUT: true; the input reads as it did. -/
def inodeGetsSpec : ChangeSpec := { name := "inodeGets", fn := fun _ => fun
  | [d1, d2] => { results := [.lit (.bool true)], args := [d1, d2] }
  | _ => none }
def inodeGetsRow : OpenClaim := { program := "ytbbkpmbepljhkaa", sum := "d9455c2b4cfc405db2d789dc65c9b16c3561c63c4e2c4f13050e4c90e23cbe55", func := "escheat/escheatlaw16.InodeGets", spec := "inodeGets", apart := false }
def InodeGetsSaid : Prop := inodeGetsRow.holds Try.pinned (OpenSpec.ofChange inodeGetsSpec)

/-- ITS FALSE NEIGHBOUR: 'it returns false'. Refute it at one input. -/
def inodeGetsWrong : ChangeSpec := { name := "inodeGets", fn := fun _ => fun
  | [d1, d2] => { results := [.lit (.bool false)], args := [d1, d2] }
  | _ => none }
def InodeGetsWrongFalsely : Prop := inodeGetsRow.holds Try.pinned (OpenSpec.ofChange inodeGetsWrong)

/-- 'escheatlaw16.InodeBack': WHATEVER THE INPUT: true; the input reads as it did. -/
def inodeBackSpec : ChangeSpec := { name := "inodeBack", fn := fun _ => fun
  | [d1, d2] => { results := [.lit (.bool true)], args := [d1, d2] }
  | _ => none }
def inodeBackRow : OpenClaim := { program := "ytbbkpmbepljhkaa", sum := "d9455c2b4cfc405db2d789dc65c9b16c3561c63c4e2c4f13050e4c90e23cbe55", func := "escheat/escheatlaw16.InodeBack", spec := "inodeBack", apart := false }
def InodeBackSaid : Prop := inodeBackRow.holds Try.pinned (OpenSpec.ofChange inodeBackSpec)

/-- ITS FALSE NEIGHBOUR: 'it returns false'. Refute it at one input. -/
def inodeBackWrong : ChangeSpec := { name := "inodeBack", fn := fun _ => fun
  | [d1, d2] => { results := [.lit (.bool false)], args := [d1, d2] }
  | _ => none }
def InodeBackWrongFalsely : Prop := inodeBackRow.holds Try.pinned (OpenSpec.ofChange inodeBackWrong)

/-- 'escheatlaw14.SuperGets': WHATEVER THE INPUT: true; the input reads as it did. -/
def superGetsSpec : ChangeSpec := { name := "superGets", fn := fun _ => fun
  | [d] => { results := [.lit (.bool true)], args := [d] }
  | _ => none }
def superGetsRow : OpenClaim := { program := "ytbbkpmbepljhkaa", sum := "d9455c2b4cfc405db2d789dc65c9b16c3561c63c4e2c4f13050e4c90e23cbe55", func := "escheat/escheatlaw14.SuperGets", spec := "superGets", apart := false }
def SuperGetsSaid : Prop := superGetsRow.holds Try.pinned (OpenSpec.ofChange superGetsSpec)

/-- ITS FALSE NEIGHBOUR: 'it returns false'. Refute it at one input. -/
def superGetsWrong : ChangeSpec := { name := "superGets", fn := fun _ => fun
  | [d] => { results := [.lit (.bool false)], args := [d] }
  | _ => none }
def SuperGetsWrongFalsely : Prop := superGetsRow.holds Try.pinned (OpenSpec.ofChange superGetsWrong)

/-- 'escheatlaw14.SuperPuts': WHATEVER THE INPUT: true; the input reads as it did. -/
def superPutsSpec : ChangeSpec := { name := "superPuts", fn := fun _ => fun
  | [d1, d2] => { results := [.lit (.bool true)], args := [d1, d2] }
  | _ => none }
def superPutsRow : OpenClaim := { program := "ytbbkpmbepljhkaa", sum := "d9455c2b4cfc405db2d789dc65c9b16c3561c63c4e2c4f13050e4c90e23cbe55", func := "escheat/escheatlaw14.SuperPuts", spec := "superPuts", apart := false }
def SuperPutsSaid : Prop := superPutsRow.holds Try.pinned (OpenSpec.ofChange superPutsSpec)

/-- ITS FALSE NEIGHBOUR: 'it returns false'. Refute it at one input. -/
def superPutsWrong : ChangeSpec := { name := "superPuts", fn := fun _ => fun
  | [d1, d2] => { results := [.lit (.bool false)], args := [d1, d2] }
  | _ => none }
def SuperPutsWrongFalsely : Prop := superPutsRow.holds Try.pinned (OpenSpec.ofChange superPutsWrong)

/-- 'escheatlaw14.SuperBack': WHATEVER THE INPUT: true; the input reads as it did. -/
def superBackSpec : ChangeSpec := { name := "superBack", fn := fun _ => fun
  | [d1, d2, d3] => { results := [.lit (.bool true)], args := [d1, d2, d3] }
  | _ => none }
def superBackRow : OpenClaim := { program := "ytbbkpmbepljhkaa", sum := "d9455c2b4cfc405db2d789dc65c9b16c3561c63c4e2c4f13050e4c90e23cbe55", func := "escheat/escheatlaw14.SuperBack", spec := "superBack", apart := false }
def SuperBackSaid : Prop := superBackRow.holds Try.pinned (OpenSpec.ofChange superBackSpec)

/-- ITS FALSE NEIGHBOUR: 'it returns false'. Refute it at one input. -/
def superBackWrong : ChangeSpec := { name := "superBack", fn := fun _ => fun
  | [d1, d2, d3] => { results := [.lit (.bool false)], args := [d1, d2, d3] }
  | _ => none }
def SuperBackWrongFalsely : Prop := superBackRow.holds Try.pinned (OpenSpec.ofChange superBackWrong)

/-- 'escheatlaw14.SuperApart': WHATEVER THE INPUT: true; the input reads as it did. -/
def superApartSpec : ChangeSpec := { name := "superApart", fn := fun _ => fun
  | [d1, d2] => { results := [.lit (.bool true)], args := [d1, d2] }
  | _ => none }
def superApartRow : OpenClaim := { program := "ytbbkpmbepljhkaa", sum := "d9455c2b4cfc405db2d789dc65c9b16c3561c63c4e2c4f13050e4c90e23cbe55", func := "escheat/escheatlaw14.SuperApart", spec := "superApart", apart := false }
def SuperApartSaid : Prop := superApartRow.holds Try.pinned (OpenSpec.ofChange superApartSpec)

/-- ITS FALSE NEIGHBOUR: 'it returns false'. Refute it at one input. -/
def superApartWrong : ChangeSpec := { name := "superApart", fn := fun _ => fun
  | [d1, d2] => { results := [.lit (.bool false)], args := [d1, d2] }
  | _ => none }
def SuperApartWrongFalsely : Prop := superApartRow.holds Try.pinned (OpenSpec.ofChange superApartWrong)

/-- 'escheatlaw19.IndexLooks': WHATEVER THE INPUT: true; the input reads as it did. -/
def indexLooksSpec : ChangeSpec := { name := "indexLooks", fn := fun _ => fun
  | [d1, d2, d3] => { results := [.lit (.bool true)], args := [d1, d2, d3] }
  | _ => none }
def indexLooksRow : OpenClaim := { program := "ytbbkpmbepljhkaa", sum := "d9455c2b4cfc405db2d789dc65c9b16c3561c63c4e2c4f13050e4c90e23cbe55", func := "escheat/escheatlaw19.IndexLooks", spec := "indexLooks", apart := false }
def IndexLooksSaid : Prop := indexLooksRow.holds Try.pinned (OpenSpec.ofChange indexLooksSpec)

/-- ITS FALSE NEIGHBOUR: 'it returns false'. Refute it at one input. -/
def indexLooksWrong : ChangeSpec := { name := "indexLooks", fn := fun _ => fun
  | [d1, d2, d3] => { results := [.lit (.bool false)], args := [d1, d2, d3] }
  | _ => none }
def IndexLooksWrongFalsely : Prop := indexLooksRow.holds Try.pinned (OpenSpec.ofChange indexLooksWrong)

/-- 'escheatlaw19.IndexParts': WHATEVER THE INPUT: true; the input reads as it did. -/
def indexPartsSpec : ChangeSpec := { name := "indexParts", fn := fun _ => fun
  | [d1, d2, d3] => { results := [.lit (.bool true)], args := [d1, d2, d3] }
  | _ => none }
def indexPartsRow : OpenClaim := { program := "ytbbkpmbepljhkaa", sum := "d9455c2b4cfc405db2d789dc65c9b16c3561c63c4e2c4f13050e4c90e23cbe55", func := "escheat/escheatlaw19.IndexParts", spec := "indexParts", apart := false }
def IndexPartsSaid : Prop := indexPartsRow.holds Try.pinned (OpenSpec.ofChange indexPartsSpec)

/-- ITS FALSE NEIGHBOUR: 'it returns false'. Refute it at one input. -/
def indexPartsWrong : ChangeSpec := { name := "indexParts", fn := fun _ => fun
  | [d1, d2, d3] => { results := [.lit (.bool false)], args := [d1, d2, d3] }
  | _ => none }
def IndexPartsWrongFalsely : Prop := indexPartsRow.holds Try.pinned (OpenSpec.ofChange indexPartsWrong)

/-- 'escheatlaw17.TablePuts': WHATEVER THE INPUT: true; the input reads as it did. -/
def tablePutsSpec : ChangeSpec := { name := "tablePuts", fn := fun _ => fun
  | [d1, d2, d3] => { results := [.lit (.bool true)], args := [d1, d2, d3] }
  | _ => none }
def tablePutsRow : OpenClaim := { program := "ytbbkpmbepljhkaa", sum := "d9455c2b4cfc405db2d789dc65c9b16c3561c63c4e2c4f13050e4c90e23cbe55", func := "escheat/escheatlaw17.TablePuts", spec := "tablePuts", apart := false }
def TablePutsSaid : Prop := tablePutsRow.holds Try.pinned (OpenSpec.ofChange tablePutsSpec)

/-- ITS FALSE NEIGHBOUR: 'it returns false'. Refute it at one input. -/
def tablePutsWrong : ChangeSpec := { name := "tablePuts", fn := fun _ => fun
  | [d1, d2, d3] => { results := [.lit (.bool false)], args := [d1, d2, d3] }
  | _ => none }
def TablePutsWrongFalsely : Prop := tablePutsRow.holds Try.pinned (OpenSpec.ofChange tablePutsWrong)

/-- 'escheatlaw19.IndexPuts': WHATEVER THE INPUT: true; the input reads as it did. -/
def indexPutsSpec : ChangeSpec := { name := "indexPuts", fn := fun _ => fun
  | [d1, d2] => { results := [.lit (.bool true)], args := [d1, d2] }
  | _ => none }
def indexPutsRow : OpenClaim := { program := "ytbbkpmbepljhkaa", sum := "d9455c2b4cfc405db2d789dc65c9b16c3561c63c4e2c4f13050e4c90e23cbe55", func := "escheat/escheatlaw19.IndexPuts", spec := "indexPuts", apart := false }
def IndexPutsSaid : Prop := indexPutsRow.holds Try.pinned (OpenSpec.ofChange indexPutsSpec)

/-- ITS FALSE NEIGHBOUR: 'it returns false'. Refute it at one input. -/
def indexPutsWrong : ChangeSpec := { name := "indexPuts", fn := fun _ => fun
  | [d1, d2] => { results := [.lit (.bool false)], args := [d1, d2] }
  | _ => none }
def IndexPutsWrongFalsely : Prop := indexPutsRow.holds Try.pinned (OpenSpec.ofChange indexPutsWrong)

/-- 'escheatlaw19.IndexBack': WHATEVER THE INPUT: true; the input reads as it did. -/
def indexBackSpec : ChangeSpec := { name := "indexBack", fn := fun _ => fun
  | [d1, d2] => { results := [.lit (.bool true)], args := [d1, d2] }
  | _ => none }
def indexBackRow : OpenClaim := { program := "ytbbkpmbepljhkaa", sum := "d9455c2b4cfc405db2d789dc65c9b16c3561c63c4e2c4f13050e4c90e23cbe55", func := "escheat/escheatlaw19.IndexBack", spec := "indexBack", apart := false }
def IndexBackSaid : Prop := indexBackRow.holds Try.pinned (OpenSpec.ofChange indexBackSpec)

/-- ITS FALSE NEIGHBOUR: 'it returns false'. Refute it at one input. -/
def indexBackWrong : ChangeSpec := { name := "indexBack", fn := fun _ => fun
  | [d1, d2] => { results := [.lit (.bool false)], args := [d1, d2] }
  | _ => none }
def IndexBackWrongFalsely : Prop := indexBackRow.holds Try.pinned (OpenSpec.ofChange indexBackWrong)

/-- 'escheatlaw17.TableKeeps': WHATEVER THE INPUT: true; the input reads as it did. -/
def tableKeepsSpec : ChangeSpec := { name := "tableKeeps", fn := fun _ => fun
  | [d1, d2, d3] => { results := [.lit (.bool true)], args := [d1, d2, d3] }
  | _ => none }
def tableKeepsRow : OpenClaim := { program := "ytbbkpmbepljhkaa", sum := "d9455c2b4cfc405db2d789dc65c9b16c3561c63c4e2c4f13050e4c90e23cbe55", func := "escheat/escheatlaw17.TableKeeps", spec := "tableKeeps", apart := false }
def TableKeepsSaid : Prop := tableKeepsRow.holds Try.pinned (OpenSpec.ofChange tableKeepsSpec)

/-- ITS FALSE NEIGHBOUR: 'it returns false'. Refute it at one input. -/
def tableKeepsWrong : ChangeSpec := { name := "tableKeeps", fn := fun _ => fun
  | [d1, d2, d3] => { results := [.lit (.bool false)], args := [d1, d2, d3] }
  | _ => none }
def TableKeepsWrongFalsely : Prop := tableKeepsRow.holds Try.pinned (OpenSpec.ofChange tableKeepsWrong)

/-- 'escheatlaw18.BucketNews': WHATEVER THE INPUT: true; the input reads as it did. -/
def bucketNewsSpec : ChangeSpec := { name := "bucketNews", fn := fun _ => fun
  | [d] => { results := [.lit (.bool true)], args := [d] }
  | _ => none }
def bucketNewsRow : OpenClaim := { program := "ytbbkpmbepljhkaa", sum := "d9455c2b4cfc405db2d789dc65c9b16c3561c63c4e2c4f13050e4c90e23cbe55", func := "escheat/escheatlaw18.BucketNews", spec := "bucketNews", unfollowed := true, recurses := true, apart := false }
def BucketNewsSaid : Prop := bucketNewsRow.holds Try.pinned (OpenSpec.ofChange bucketNewsSpec)

/-- ITS FALSE NEIGHBOUR: 'it returns false'. Refute it at one input. -/
def bucketNewsWrong : ChangeSpec := { name := "bucketNews", fn := fun _ => fun
  | [d] => { results := [.lit (.bool false)], args := [d] }
  | _ => none }
def BucketNewsWrongFalsely : Prop := bucketNewsRow.holds Try.pinned (OpenSpec.ofChange bucketNewsWrong)

/-- 'escheatlaw18.BucketLooks': WHATEVER THE INPUT: true; the input reads as it did. -/
def bucketLooksSpec : ChangeSpec := { name := "bucketLooks", fn := fun _ => fun
  | [d1, d2] => { results := [.lit (.bool true)], args := [d1, d2] }
  | _ => none }
def bucketLooksRow : OpenClaim := { program := "ytbbkpmbepljhkaa", sum := "d9455c2b4cfc405db2d789dc65c9b16c3561c63c4e2c4f13050e4c90e23cbe55", func := "escheat/escheatlaw18.BucketLooks", spec := "bucketLooks", unfollowed := true, recurses := true, apart := false }
def BucketLooksSaid : Prop := bucketLooksRow.holds Try.pinned (OpenSpec.ofChange bucketLooksSpec)

/-- ITS FALSE NEIGHBOUR: 'it returns false'. Refute it at one input. -/
def bucketLooksWrong : ChangeSpec := { name := "bucketLooks", fn := fun _ => fun
  | [d1, d2] => { results := [.lit (.bool false)], args := [d1, d2] }
  | _ => none }
def BucketLooksWrongFalsely : Prop := bucketLooksRow.holds Try.pinned (OpenSpec.ofChange bucketLooksWrong)

/-- 'escheatlaw18.BucketFixes': WHATEVER THE INPUT: true; the input reads as it did. -/
def bucketFixesSpec : ChangeSpec := { name := "bucketFixes", fn := fun _ => fun
  | [d1, d2] => { results := [.lit (.bool true)], args := [d1, d2] }
  | _ => none }
def bucketFixesRow : OpenClaim := { program := "ytbbkpmbepljhkaa", sum := "d9455c2b4cfc405db2d789dc65c9b16c3561c63c4e2c4f13050e4c90e23cbe55", func := "escheat/escheatlaw18.BucketFixes", spec := "bucketFixes", unfollowed := true, recurses := true, apart := false }
def BucketFixesSaid : Prop := bucketFixesRow.holds Try.pinned (OpenSpec.ofChange bucketFixesSpec)

/-- ITS FALSE NEIGHBOUR: 'it returns false'. Refute it at one input. -/
def bucketFixesWrong : ChangeSpec := { name := "bucketFixes", fn := fun _ => fun
  | [d1, d2] => { results := [.lit (.bool false)], args := [d1, d2] }
  | _ => none }
def BucketFixesWrongFalsely : Prop := bucketFixesRow.holds Try.pinned (OpenSpec.ofChange bucketFixesWrong)

/-- 'escheatlaw17.TableGets': WHATEVER THE INPUT: true; the input reads as it did. -/
def tableGetsSpec : ChangeSpec := { name := "tableGets", fn := fun _ => fun
  | [d1, d2] => { results := [.lit (.bool true)], args := [d1, d2] }
  | _ => none }
def tableGetsRow : OpenClaim := { program := "ytbbkpmbepljhkaa", sum := "d9455c2b4cfc405db2d789dc65c9b16c3561c63c4e2c4f13050e4c90e23cbe55", func := "escheat/escheatlaw17.TableGets", spec := "tableGets", apart := false }
def TableGetsSaid : Prop := tableGetsRow.holds Try.pinned (OpenSpec.ofChange tableGetsSpec)

/-- ITS FALSE NEIGHBOUR: 'it returns false'. Refute it at one input. -/
def tableGetsWrong : ChangeSpec := { name := "tableGets", fn := fun _ => fun
  | [d1, d2] => { results := [.lit (.bool false)], args := [d1, d2] }
  | _ => none }
def TableGetsWrongFalsely : Prop := tableGetsRow.holds Try.pinned (OpenSpec.ofChange tableGetsWrong)

/-- 'escheatlaw18.BucketPatches': WHATEVER THE INPUT: true; the input reads as it did. -/
def bucketPatchesSpec : ChangeSpec := { name := "bucketPatches", fn := fun _ => fun
  | [d1, d2] => { results := [.lit (.bool true)], args := [d1, d2] }
  | _ => none }
def bucketPatchesRow : OpenClaim := { program := "ytbbkpmbepljhkaa", sum := "d9455c2b4cfc405db2d789dc65c9b16c3561c63c4e2c4f13050e4c90e23cbe55", func := "escheat/escheatlaw18.BucketPatches", spec := "bucketPatches", unfollowed := true, recurses := true, apart := false }
def BucketPatchesSaid : Prop := bucketPatchesRow.holds Try.pinned (OpenSpec.ofChange bucketPatchesSpec)

/-- ITS FALSE NEIGHBOUR: 'it returns false'. Refute it at one input. -/
def bucketPatchesWrong : ChangeSpec := { name := "bucketPatches", fn := fun _ => fun
  | [d1, d2] => { results := [.lit (.bool false)], args := [d1, d2] }
  | _ => none }
def BucketPatchesWrongFalsely : Prop := bucketPatchesRow.holds Try.pinned (OpenSpec.ofChange bucketPatchesWrong)

/-- 'escheatlaw18.BucketKeeps': WHATEVER THE INPUT: true; the input reads as it did. -/
def bucketKeepsSpec : ChangeSpec := { name := "bucketKeeps", fn := fun _ => fun
  | [d1, d2, d3] => { results := [.lit (.bool true)], args := [d1, d2, d3] }
  | _ => none }
def bucketKeepsRow : OpenClaim := { program := "ytbbkpmbepljhkaa", sum := "d9455c2b4cfc405db2d789dc65c9b16c3561c63c4e2c4f13050e4c90e23cbe55", func := "escheat/escheatlaw18.BucketKeeps", spec := "bucketKeeps", unfollowed := true, recurses := true, apart := false }
def BucketKeepsSaid : Prop := bucketKeepsRow.holds Try.pinned (OpenSpec.ofChange bucketKeepsSpec)

/-- ITS FALSE NEIGHBOUR: 'it returns false'. Refute it at one input. -/
def bucketKeepsWrong : ChangeSpec := { name := "bucketKeeps", fn := fun _ => fun
  | [d1, d2, d3] => { results := [.lit (.bool false)], args := [d1, d2, d3] }
  | _ => none }
def BucketKeepsWrongFalsely : Prop := bucketKeepsRow.holds Try.pinned (OpenSpec.ofChange bucketKeepsWrong)

/- THE SECOND FORM. 'bulk': how many values and letters a reading holds, each counted each time it is reached (what is shared counts as often as it is met; a slice's spare places count too). A statement '..UptoSaid' is the law's where the arguments, and the package variables that the reading takes, are together of bulk at most 1048576: NARROWER than '..Said'. Prove '..Said' where nothing that the law and all that it calls make is longer than what came in: it says more and counts as full. Else prove '..UptoSaid'. A law counts once. -/
mutual
def uptoBulk {H : Type} : DataW H → Nat
  | .lit (.string bytes) => bytes.length + 1
  | .lit _ => 1
  | .nil => 1
  | .ptr d => uptoBulk d + 1
  | .slice elems spare => uptoBulkAll elems + uptoBulkAll spare + 1
  | .agg parts => uptoBulkAll parts + 1
  | .iface _ d => uptoBulk d + 1
  | .map entries => uptoBulkEntries entries + 1
  | .held _ => 1
def uptoBulkAll {H : Type} : List (DataW H) → Nat
  | [] => 0
  | d :: r => uptoBulk d + uptoBulkAll r
def uptoBulkEntries {H : Type} : List (Lit × DataW H) → Nat
  | [] => 0
  | x :: r => uptoBulkEntry x + uptoBulkEntries r
def uptoBulkEntry {H : Type} : Lit × DataW H → Nat
  | (.string bytes, d) => bytes.length + uptoBulk d + 1
  | (_, d) => uptoBulk d + 1
 end
def uptoSmall : (H : Type) → List (DataW H) → Bool := fun _ ds => decide (uptoBulkAll ds ≤ 1048576)
def OpenSpec.upto (s : _root_.Go.ChangeSpec) : _root_.Go.OpenSpec := { _root_.Go.OpenSpec.ofChange s with cond := some uptoSmall }

/-- 'escheatlaw03.NameChecks', WHERE WHAT IT READS IS OF BULK AT MOST 1048576: true; the input reads as it did. -/
def nameChecksUptoRow : OpenClaim := { program := "ytbbkpmbepljhkaa", sum := "d9455c2b4cfc405db2d789dc65c9b16c3561c63c4e2c4f13050e4c90e23cbe55", func := "escheat/escheatlaw03.NameChecks", spec := "nameChecks", apart := false, narrowed := true }
def NameChecksUptoSaid : Prop := nameChecksUptoRow.holds Try.pinned (OpenSpec.upto nameChecksSpec)

/-- 'escheatlaw03.NamePacks', WHERE WHAT IT READS IS OF BULK AT MOST 1048576: true; the input reads as it did. -/
def namePacksUptoRow : OpenClaim := { program := "ytbbkpmbepljhkaa", sum := "d9455c2b4cfc405db2d789dc65c9b16c3561c63c4e2c4f13050e4c90e23cbe55", func := "escheat/escheatlaw03.NamePacks", spec := "namePacks", apart := false, narrowed := true }
def NamePacksUptoSaid : Prop := namePacksUptoRow.holds Try.pinned (OpenSpec.upto namePacksSpec)

/-- 'escheatlaw03.NameBack', WHERE WHAT IT READS IS OF BULK AT MOST 1048576: true; the input reads as it did. -/
def nameBackUptoRow : OpenClaim := { program := "ytbbkpmbepljhkaa", sum := "d9455c2b4cfc405db2d789dc65c9b16c3561c63c4e2c4f13050e4c90e23cbe55", func := "escheat/escheatlaw03.NameBack", spec := "nameBack", apart := false, narrowed := true }
def NameBackUptoSaid : Prop := nameBackUptoRow.holds Try.pinned (OpenSpec.upto nameBackSpec)

/-- 'escheatlaw15.GeomInodes', WHERE WHAT IT READS IS OF BULK AT MOST 1048576: true; the input reads as it did. -/
def geomInodesUptoRow : OpenClaim := { program := "ytbbkpmbepljhkaa", sum := "d9455c2b4cfc405db2d789dc65c9b16c3561c63c4e2c4f13050e4c90e23cbe55", func := "escheat/escheatlaw15.GeomInodes", spec := "geomInodes", apart := false, narrowed := true }
def GeomInodesUptoSaid : Prop := geomInodesUptoRow.holds Try.pinned (OpenSpec.upto geomInodesSpec)

/-- 'escheatlaw01.NumBack', WHERE WHAT IT READS IS OF BULK AT MOST 1048576: true; the input reads as it did. -/
def numBackUptoRow : OpenClaim := { program := "ytbbkpmbepljhkaa", sum := "d9455c2b4cfc405db2d789dc65c9b16c3561c63c4e2c4f13050e4c90e23cbe55", func := "escheat/escheatlaw01.NumBack", spec := "numBack", apart := false, narrowed := true }
def NumBackUptoSaid : Prop := numBackUptoRow.holds Try.pinned (OpenSpec.upto numBackSpec)

/-- 'escheatlaw01.NumLists', WHERE WHAT IT READS IS OF BULK AT MOST 1048576: true; the input reads as it did. -/
def numListsUptoRow : OpenClaim := { program := "ytbbkpmbepljhkaa", sum := "d9455c2b4cfc405db2d789dc65c9b16c3561c63c4e2c4f13050e4c90e23cbe55", func := "escheat/escheatlaw01.NumLists", spec := "numLists", apart := false, narrowed := true }
def NumListsUptoSaid : Prop := numListsUptoRow.holds Try.pinned (OpenSpec.upto numListsSpec)

/-- 'escheatlaw01.NumApart', WHERE WHAT IT READS IS OF BULK AT MOST 1048576: true; the input reads as it did. -/
def numApartUptoRow : OpenClaim := { program := "ytbbkpmbepljhkaa", sum := "d9455c2b4cfc405db2d789dc65c9b16c3561c63c4e2c4f13050e4c90e23cbe55", func := "escheat/escheatlaw01.NumApart", spec := "numApart", apart := false, narrowed := true }
def NumApartUptoSaid : Prop := numApartUptoRow.holds Try.pinned (OpenSpec.upto numApartSpec)

/-- 'escheatlaw15.GeomAreas', WHERE WHAT IT READS IS OF BULK AT MOST 1048576: true; the input reads as it did. -/
def geomAreasUptoRow : OpenClaim := { program := "ytbbkpmbepljhkaa", sum := "d9455c2b4cfc405db2d789dc65c9b16c3561c63c4e2c4f13050e4c90e23cbe55", func := "escheat/escheatlaw15.GeomAreas", spec := "geomAreas", apart := false, narrowed := true }
def GeomAreasUptoSaid : Prop := geomAreasUptoRow.holds Try.pinned (OpenSpec.upto geomAreasSpec)

/-- 'escheatlaw03.NameSorts', WHERE WHAT IT READS IS OF BULK AT MOST 1048576: true; the input reads as it did. -/
def nameSortsUptoRow : OpenClaim := { program := "ytbbkpmbepljhkaa", sum := "d9455c2b4cfc405db2d789dc65c9b16c3561c63c4e2c4f13050e4c90e23cbe55", func := "escheat/escheatlaw03.NameSorts", spec := "nameSorts", apart := false, narrowed := true }
def NameSortsUptoSaid : Prop := nameSortsUptoRow.holds Try.pinned (OpenSpec.upto nameSortsSpec)

/-- 'escheatlaw03.NameOrder', WHERE WHAT IT READS IS OF BULK AT MOST 1048576: true; the input reads as it did. -/
def nameOrderUptoRow : OpenClaim := { program := "ytbbkpmbepljhkaa", sum := "d9455c2b4cfc405db2d789dc65c9b16c3561c63c4e2c4f13050e4c90e23cbe55", func := "escheat/escheatlaw03.NameOrder", spec := "nameOrder", apart := false, narrowed := true }
def NameOrderUptoSaid : Prop := nameOrderUptoRow.holds Try.pinned (OpenSpec.upto nameOrderSpec)

/-- 'escheatlaw15.GeomOnce', WHERE WHAT IT READS IS OF BULK AT MOST 1048576: true; the input reads as it did. -/
def geomOnceUptoRow : OpenClaim := { program := "ytbbkpmbepljhkaa", sum := "d9455c2b4cfc405db2d789dc65c9b16c3561c63c4e2c4f13050e4c90e23cbe55", func := "escheat/escheatlaw15.GeomOnce", spec := "geomOnce", apart := false, narrowed := true }
def GeomOnceUptoSaid : Prop := geomOnceUptoRow.holds Try.pinned (OpenSpec.upto geomOnceSpec)

/-- 'escheatlaw01.NumBlocks', WHERE WHAT IT READS IS OF BULK AT MOST 1048576: true; the input reads as it did. -/
def numBlocksUptoRow : OpenClaim := { program := "ytbbkpmbepljhkaa", sum := "d9455c2b4cfc405db2d789dc65c9b16c3561c63c4e2c4f13050e4c90e23cbe55", func := "escheat/escheatlaw01.NumBlocks", spec := "numBlocks", apart := false, narrowed := true }
def NumBlocksUptoSaid : Prop := numBlocksUptoRow.holds Try.pinned (OpenSpec.upto numBlocksSpec)

/-- 'escheatlaw20.PointsMakes', WHERE WHAT IT READS IS OF BULK AT MOST 1048576: true; the input reads as it did. -/
def pointsMakesUptoRow : OpenClaim := { program := "ytbbkpmbepljhkaa", sum := "d9455c2b4cfc405db2d789dc65c9b16c3561c63c4e2c4f13050e4c90e23cbe55", func := "escheat/escheatlaw20.PointsMakes", spec := "pointsMakes", apart := false, narrowed := true }
def PointsMakesUptoSaid : Prop := pointsMakesUptoRow.holds Try.pinned (OpenSpec.upto pointsMakesSpec)

/-- 'escheatlaw16.InodePuts', WHERE WHAT IT READS IS OF BULK AT MOST 1048576: true; the input reads as it did. -/
def inodePutsUptoRow : OpenClaim := { program := "ytbbkpmbepljhkaa", sum := "d9455c2b4cfc405db2d789dc65c9b16c3561c63c4e2c4f13050e4c90e23cbe55", func := "escheat/escheatlaw16.InodePuts", spec := "inodePuts", apart := false, narrowed := true }
def InodePutsUptoSaid : Prop := inodePutsUptoRow.holds Try.pinned (OpenSpec.upto inodePutsSpec)

/-- 'escheatlaw16.InodeSizes', WHERE WHAT IT READS IS OF BULK AT MOST 1048576: true; the input reads as it did. -/
def inodeSizesUptoRow : OpenClaim := { program := "ytbbkpmbepljhkaa", sum := "d9455c2b4cfc405db2d789dc65c9b16c3561c63c4e2c4f13050e4c90e23cbe55", func := "escheat/escheatlaw16.InodeSizes", spec := "inodeSizes", apart := false, narrowed := true }
def InodeSizesUptoSaid : Prop := inodeSizesUptoRow.holds Try.pinned (OpenSpec.upto inodeSizesSpec)

/-- 'escheatlaw20.PointsLooks', WHERE WHAT IT READS IS OF BULK AT MOST 1048576: true; the input reads as it did. -/
def pointsLooksUptoRow : OpenClaim := { program := "ytbbkpmbepljhkaa", sum := "d9455c2b4cfc405db2d789dc65c9b16c3561c63c4e2c4f13050e4c90e23cbe55", func := "escheat/escheatlaw20.PointsLooks", spec := "pointsLooks", unfollowed := true, recurses := true, apart := false, narrowed := true }
def PointsLooksUptoSaid : Prop := pointsLooksUptoRow.holds Try.pinned (OpenSpec.upto pointsLooksSpec)

/-- 'escheatlaw20.PointsPuts', WHERE WHAT IT READS IS OF BULK AT MOST 1048576: true; the input reads as it did. -/
def pointsPutsUptoRow : OpenClaim := { program := "ytbbkpmbepljhkaa", sum := "d9455c2b4cfc405db2d789dc65c9b16c3561c63c4e2c4f13050e4c90e23cbe55", func := "escheat/escheatlaw20.PointsPuts", spec := "pointsPuts", apart := false, narrowed := true }
def PointsPutsUptoSaid : Prop := pointsPutsUptoRow.holds Try.pinned (OpenSpec.upto pointsPutsSpec)

/-- 'escheatlaw19.IndexFixes', WHERE WHAT IT READS IS OF BULK AT MOST 1048576: true; the input reads as it did. -/
def indexFixesUptoRow : OpenClaim := { program := "ytbbkpmbepljhkaa", sum := "d9455c2b4cfc405db2d789dc65c9b16c3561c63c4e2c4f13050e4c90e23cbe55", func := "escheat/escheatlaw19.IndexFixes", spec := "indexFixes", apart := false, narrowed := true }
def IndexFixesUptoSaid : Prop := indexFixesUptoRow.holds Try.pinned (OpenSpec.upto indexFixesSpec)

/-- 'escheatlaw20.PointsKeeps', WHERE WHAT IT READS IS OF BULK AT MOST 1048576: true; the input reads as it did. -/
def pointsKeepsUptoRow : OpenClaim := { program := "ytbbkpmbepljhkaa", sum := "d9455c2b4cfc405db2d789dc65c9b16c3561c63c4e2c4f13050e4c90e23cbe55", func := "escheat/escheatlaw20.PointsKeeps", spec := "pointsKeeps", unfollowed := true, recurses := true, apart := false, narrowed := true }
def PointsKeepsUptoSaid : Prop := pointsKeepsUptoRow.holds Try.pinned (OpenSpec.upto pointsKeepsSpec)

/-- 'escheatlaw16.InodeGets', WHERE WHAT IT READS IS OF BULK AT MOST 1048576: true; the input reads as it did. -/
def inodeGetsUptoRow : OpenClaim := { program := "ytbbkpmbepljhkaa", sum := "d9455c2b4cfc405db2d789dc65c9b16c3561c63c4e2c4f13050e4c90e23cbe55", func := "escheat/escheatlaw16.InodeGets", spec := "inodeGets", apart := false, narrowed := true }
def InodeGetsUptoSaid : Prop := inodeGetsUptoRow.holds Try.pinned (OpenSpec.upto inodeGetsSpec)

/-- 'escheatlaw16.InodeBack', WHERE WHAT IT READS IS OF BULK AT MOST 1048576: true; the input reads as it did. -/
def inodeBackUptoRow : OpenClaim := { program := "ytbbkpmbepljhkaa", sum := "d9455c2b4cfc405db2d789dc65c9b16c3561c63c4e2c4f13050e4c90e23cbe55", func := "escheat/escheatlaw16.InodeBack", spec := "inodeBack", apart := false, narrowed := true }
def InodeBackUptoSaid : Prop := inodeBackUptoRow.holds Try.pinned (OpenSpec.upto inodeBackSpec)

/-- 'escheatlaw14.SuperGets', WHERE WHAT IT READS IS OF BULK AT MOST 1048576: true; the input reads as it did. -/
def superGetsUptoRow : OpenClaim := { program := "ytbbkpmbepljhkaa", sum := "d9455c2b4cfc405db2d789dc65c9b16c3561c63c4e2c4f13050e4c90e23cbe55", func := "escheat/escheatlaw14.SuperGets", spec := "superGets", apart := false, narrowed := true }
def SuperGetsUptoSaid : Prop := superGetsUptoRow.holds Try.pinned (OpenSpec.upto superGetsSpec)

/-- 'escheatlaw14.SuperPuts', WHERE WHAT IT READS IS OF BULK AT MOST 1048576: true; the input reads as it did. -/
def superPutsUptoRow : OpenClaim := { program := "ytbbkpmbepljhkaa", sum := "d9455c2b4cfc405db2d789dc65c9b16c3561c63c4e2c4f13050e4c90e23cbe55", func := "escheat/escheatlaw14.SuperPuts", spec := "superPuts", apart := false, narrowed := true }
def SuperPutsUptoSaid : Prop := superPutsUptoRow.holds Try.pinned (OpenSpec.upto superPutsSpec)

/-- 'escheatlaw14.SuperBack', WHERE WHAT IT READS IS OF BULK AT MOST 1048576: true; the input reads as it did. -/
def superBackUptoRow : OpenClaim := { program := "ytbbkpmbepljhkaa", sum := "d9455c2b4cfc405db2d789dc65c9b16c3561c63c4e2c4f13050e4c90e23cbe55", func := "escheat/escheatlaw14.SuperBack", spec := "superBack", apart := false, narrowed := true }
def SuperBackUptoSaid : Prop := superBackUptoRow.holds Try.pinned (OpenSpec.upto superBackSpec)

/-- 'escheatlaw14.SuperApart', WHERE WHAT IT READS IS OF BULK AT MOST 1048576: true; the input reads as it did. -/
def superApartUptoRow : OpenClaim := { program := "ytbbkpmbepljhkaa", sum := "d9455c2b4cfc405db2d789dc65c9b16c3561c63c4e2c4f13050e4c90e23cbe55", func := "escheat/escheatlaw14.SuperApart", spec := "superApart", apart := false, narrowed := true }
def SuperApartUptoSaid : Prop := superApartUptoRow.holds Try.pinned (OpenSpec.upto superApartSpec)

/-- 'escheatlaw19.IndexLooks', WHERE WHAT IT READS IS OF BULK AT MOST 1048576: true; the input reads as it did. -/
def indexLooksUptoRow : OpenClaim := { program := "ytbbkpmbepljhkaa", sum := "d9455c2b4cfc405db2d789dc65c9b16c3561c63c4e2c4f13050e4c90e23cbe55", func := "escheat/escheatlaw19.IndexLooks", spec := "indexLooks", apart := false, narrowed := true }
def IndexLooksUptoSaid : Prop := indexLooksUptoRow.holds Try.pinned (OpenSpec.upto indexLooksSpec)

/-- 'escheatlaw19.IndexParts', WHERE WHAT IT READS IS OF BULK AT MOST 1048576: true; the input reads as it did. -/
def indexPartsUptoRow : OpenClaim := { program := "ytbbkpmbepljhkaa", sum := "d9455c2b4cfc405db2d789dc65c9b16c3561c63c4e2c4f13050e4c90e23cbe55", func := "escheat/escheatlaw19.IndexParts", spec := "indexParts", apart := false, narrowed := true }
def IndexPartsUptoSaid : Prop := indexPartsUptoRow.holds Try.pinned (OpenSpec.upto indexPartsSpec)

/-- 'escheatlaw17.TablePuts', WHERE WHAT IT READS IS OF BULK AT MOST 1048576: true; the input reads as it did. -/
def tablePutsUptoRow : OpenClaim := { program := "ytbbkpmbepljhkaa", sum := "d9455c2b4cfc405db2d789dc65c9b16c3561c63c4e2c4f13050e4c90e23cbe55", func := "escheat/escheatlaw17.TablePuts", spec := "tablePuts", apart := false, narrowed := true }
def TablePutsUptoSaid : Prop := tablePutsUptoRow.holds Try.pinned (OpenSpec.upto tablePutsSpec)

/-- 'escheatlaw19.IndexPuts', WHERE WHAT IT READS IS OF BULK AT MOST 1048576: true; the input reads as it did. -/
def indexPutsUptoRow : OpenClaim := { program := "ytbbkpmbepljhkaa", sum := "d9455c2b4cfc405db2d789dc65c9b16c3561c63c4e2c4f13050e4c90e23cbe55", func := "escheat/escheatlaw19.IndexPuts", spec := "indexPuts", apart := false, narrowed := true }
def IndexPutsUptoSaid : Prop := indexPutsUptoRow.holds Try.pinned (OpenSpec.upto indexPutsSpec)

/-- 'escheatlaw19.IndexBack', WHERE WHAT IT READS IS OF BULK AT MOST 1048576: true; the input reads as it did. -/
def indexBackUptoRow : OpenClaim := { program := "ytbbkpmbepljhkaa", sum := "d9455c2b4cfc405db2d789dc65c9b16c3561c63c4e2c4f13050e4c90e23cbe55", func := "escheat/escheatlaw19.IndexBack", spec := "indexBack", apart := false, narrowed := true }
def IndexBackUptoSaid : Prop := indexBackUptoRow.holds Try.pinned (OpenSpec.upto indexBackSpec)

/-- 'escheatlaw17.TableKeeps', WHERE WHAT IT READS IS OF BULK AT MOST 1048576: true; the input reads as it did. -/
def tableKeepsUptoRow : OpenClaim := { program := "ytbbkpmbepljhkaa", sum := "d9455c2b4cfc405db2d789dc65c9b16c3561c63c4e2c4f13050e4c90e23cbe55", func := "escheat/escheatlaw17.TableKeeps", spec := "tableKeeps", apart := false, narrowed := true }
def TableKeepsUptoSaid : Prop := tableKeepsUptoRow.holds Try.pinned (OpenSpec.upto tableKeepsSpec)

/-- 'escheatlaw18.BucketNews', WHERE WHAT IT READS IS OF BULK AT MOST 1048576: true; the input reads as it did. -/
def bucketNewsUptoRow : OpenClaim := { program := "ytbbkpmbepljhkaa", sum := "d9455c2b4cfc405db2d789dc65c9b16c3561c63c4e2c4f13050e4c90e23cbe55", func := "escheat/escheatlaw18.BucketNews", spec := "bucketNews", unfollowed := true, recurses := true, apart := false, narrowed := true }
def BucketNewsUptoSaid : Prop := bucketNewsUptoRow.holds Try.pinned (OpenSpec.upto bucketNewsSpec)

/-- 'escheatlaw18.BucketLooks', WHERE WHAT IT READS IS OF BULK AT MOST 1048576: true; the input reads as it did. -/
def bucketLooksUptoRow : OpenClaim := { program := "ytbbkpmbepljhkaa", sum := "d9455c2b4cfc405db2d789dc65c9b16c3561c63c4e2c4f13050e4c90e23cbe55", func := "escheat/escheatlaw18.BucketLooks", spec := "bucketLooks", unfollowed := true, recurses := true, apart := false, narrowed := true }
def BucketLooksUptoSaid : Prop := bucketLooksUptoRow.holds Try.pinned (OpenSpec.upto bucketLooksSpec)

/-- 'escheatlaw18.BucketFixes', WHERE WHAT IT READS IS OF BULK AT MOST 1048576: true; the input reads as it did. -/
def bucketFixesUptoRow : OpenClaim := { program := "ytbbkpmbepljhkaa", sum := "d9455c2b4cfc405db2d789dc65c9b16c3561c63c4e2c4f13050e4c90e23cbe55", func := "escheat/escheatlaw18.BucketFixes", spec := "bucketFixes", unfollowed := true, recurses := true, apart := false, narrowed := true }
def BucketFixesUptoSaid : Prop := bucketFixesUptoRow.holds Try.pinned (OpenSpec.upto bucketFixesSpec)

/-- 'escheatlaw17.TableGets', WHERE WHAT IT READS IS OF BULK AT MOST 1048576: true; the input reads as it did. -/
def tableGetsUptoRow : OpenClaim := { program := "ytbbkpmbepljhkaa", sum := "d9455c2b4cfc405db2d789dc65c9b16c3561c63c4e2c4f13050e4c90e23cbe55", func := "escheat/escheatlaw17.TableGets", spec := "tableGets", apart := false, narrowed := true }
def TableGetsUptoSaid : Prop := tableGetsUptoRow.holds Try.pinned (OpenSpec.upto tableGetsSpec)

/-- 'escheatlaw18.BucketPatches', WHERE WHAT IT READS IS OF BULK AT MOST 1048576: true; the input reads as it did. -/
def bucketPatchesUptoRow : OpenClaim := { program := "ytbbkpmbepljhkaa", sum := "d9455c2b4cfc405db2d789dc65c9b16c3561c63c4e2c4f13050e4c90e23cbe55", func := "escheat/escheatlaw18.BucketPatches", spec := "bucketPatches", unfollowed := true, recurses := true, apart := false, narrowed := true }
def BucketPatchesUptoSaid : Prop := bucketPatchesUptoRow.holds Try.pinned (OpenSpec.upto bucketPatchesSpec)

/-- 'escheatlaw18.BucketKeeps', WHERE WHAT IT READS IS OF BULK AT MOST 1048576: true; the input reads as it did. -/
def bucketKeepsUptoRow : OpenClaim := { program := "ytbbkpmbepljhkaa", sum := "d9455c2b4cfc405db2d789dc65c9b16c3561c63c4e2c4f13050e4c90e23cbe55", func := "escheat/escheatlaw18.BucketKeeps", spec := "bucketKeeps", unfollowed := true, recurses := true, apart := false, narrowed := true }
def BucketKeepsUptoSaid : Prop := bucketKeepsUptoRow.holds Try.pinned (OpenSpec.upto bucketKeepsSpec)

end Rows
end Go.Proofs.Ytbbkpmbepljhkaa
