/- TreePaths: what is come to by each path that a device's tree tells is a node of it, and there are as many paths as names, or fewer: proved with no condition. -/
import Derived.Test.YteckncopbicmcaaRows
import Derived.Test.YteckncopbicmcaaFTreePathsp5
set_option linter.all false
namespace Go.Proofs.Yteckncopbicmcaa.treePaths
open Go Go.Esc Go.ChangeShapes Go.WideShapes Go.ChangeAt Go.RowKit Go.ChangeMaps
set_option maxRecDepth 100000 in
theorem lifted (os:Os) (started:os.Started) (H:Type) (enc:TypeId × Value → H) :
    ReturnsInHanded {} Try.checked os 5 .any (Rows.treePathsSpec.pre6 enc Try.prog Try.f5 Rows.treePathsRow.domain false) (Rows.treePathsSpec.post enc Try.prog Try.f5 false true false false):=by
  refine C8y (C:=Try.checked) C7X started (by kernel_rfl) Try.func5
    (ChangeSpec.witness6 (enc:=enc) (C:=Try.checked) false ⟨#[],#[.slice none 0 0],[]⟩ 8 (by kernel_rfl) (by kernel_rfl) (by kernel_rfl) (by kernel_rfl))
    C6U (by rw [Try.params5];intro t ht;simp only [List.mem_cons,List.not_mem_nil,or_false] at ht;rcases ht with rfl <;> exact ⟨by kernel_rfl,of_decide_eq_true (by kernel_rfl)⟩) (by kernel_rfl) Try.underlying4 rfl (fun ds hd=>?_) ?_
  · match ds,hd with
    | [_],_=>rfl
  · intro W base args ds ps hval hA
    rw [Try.params5] at hA hval
    obtain ⟨v0,d0,e,rfl,h0⟩:=trodAll_one hA
    have ho:=Opened.nought W
    obtain ⟨a0,μ0,l0,n0,x0,le0,ho0,r0,w0,b0⟩:=C4h (n:=8) (sh:=List.replicate 256 (.i .u8)) ho (hval 0 22 v0 (by simp) (by rw [e];rfl)) h0 (by kernel_rfl:Try.prog.underlying 22=some (.slice 69)) (by kernel_rfl) (by kernel_rfl) (by decide +kernel)
    obtain ⟨D,hD,rfl,rfl⟩:=C7Q _ _ b0.1
    rw [List.length_replicate] at w0
    exact ⟨[a0],([] ++ l0),μ0,_,ho0.1,by rw [e];exact ⟨r0,trivial⟩,(C1R _ _ _ _ (C95 w0 hD)).2.1⟩
theorem joined:joinedFacts Try.prog 5 Try.f5 Rows.treePathsSpec Rows.treePathsRow=true:=by
  unfold joinedFacts
  rw [C7b,C62,C69]
  kernel_rfl
theorem over:Rows.treePathsRow.holds Try.pinned (OpenSpec.ofChange Rows.treePathsSpec) :=
  OpenClaim.holds_of_wide 5 Try.f5 rfl rfl rfl rfl rfl rfl rfl ⟨rfl,rfl,rfl,rfl,rfl⟩ rfl rfl rfl rfl rfl (by kernel_rfl) Try.func5 joined
    (of_decide_eq_true (by kernel_rfl)) (by unfold Func.isWrapper;first | (rw [if_pos (by decide +kernel)];kernel_rfl) | (rw [if_neg (by decide +kernel)];exact ⟨rfl,rfl⟩))
    (fun os started H enc _=>lifted os started H enc)
theorem proved:Rows.TreePathsSaid:=over
#print axioms proved
end Go.Proofs.Yteckncopbicmcaa.treePaths
