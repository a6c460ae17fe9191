/- TreeTells: whether any two trees are the same, or alike, and any tree's paths, are as the document has them: proved with no condition. -/
import Derived.Test.YteckncopbicmcaaGreatRows
import Derived.Test.YteckncopbicmcaaGreatFTreeTellsp6
set_option linter.all false
namespace Go.Proofs.YteckncopbicmcaaGreat.treeTells
open Go Go.Esc Go.ChangeShapes Go.WideShapes Go.ChangeAt Go.RowKit Go.ChangeMaps
set_option maxRecDepth 100000 in
theorem lifted (os:Os) (started:os.Started) (H:Type) (enc:TypeId × Value → H) :
    ReturnsInHanded {} Tryz.checked os 5 .any (Rows.treeTellsSpec.pre6 enc Tryz.prog Tryz.f5 Rows.treeTellsRow.domain false) (Rows.treeTellsSpec.post enc Tryz.prog Tryz.f5 false true false false):=by
  refine D1x (C:=Tryz.checked) D0Q started (by kernel_rfl) Tryz.func5
    (ChangeSpec.witness6 (enc:=enc) (C:=Tryz.checked) false ⟨#[],#[.slice none 0 0,.slice none 0 0],[]⟩ 8 (by kernel_rfl) (by kernel_rfl) (by kernel_rfl) (by kernel_rfl))
    C9H (by rw [Tryz.params5];intro t ht;simp only [List.mem_cons,List.not_mem_nil,or_false] at ht;rcases ht with rfl | rfl <;> exact ⟨by kernel_rfl,of_decide_eq_true (by kernel_rfl)⟩) (by kernel_rfl) Tryz.underlying4 rfl (fun ds hd=>?_) ?_
  · match ds,hd with
    | [_,_],_=>rfl
  · intro W base args ds ps hval hA
    rw [Tryz.params5] at hA hval
    obtain ⟨v0,v1,d0,d1,p0,p1,e,rfl,rfl,h0,h1⟩:=trodAll_two hA
    have ho:=Opened.nought W
    obtain ⟨a0,μ0,l0,n0,x0,le0,ho0,r0,w0,b0⟩:=B49 (n:=8) (sh:=ndSh) ho (by kernel_rfl:Tryz.prog.underlying 73=some (.slice 77)) Tryz.underlying77 (by rfl) (by kernel_rfl) (by decide) (hval 0 73 v0 (by simp) (by rw [e];rfl)) h0
    obtain ⟨a1,μ1,l1,n1,x1,le1,ho1,r1,w1,b1⟩:=B49 (n:=8) (sh:=ndSh) ho0 (by kernel_rfl:Tryz.prog.underlying 73=some (.slice 77)) Tryz.underlying77 (by rfl) (by kernel_rfl) (by decide) (hval 1 73 v1 (by simp) (by rw [e];rfl)) h1
    obtain ⟨t0,T0⟩:=B9y w0 b0.1
    obtain ⟨t1,T1⟩:=B9y w1 b1.1
    exact ⟨[a0,a1],(([] ++ l0) ++ l1),μ1,_,ho1.1,by rw [e];exact ⟨(r0.mono le1),r1,trivial⟩,(C34 _ _ _ _ (D27 (T0.more _) T1)).2.1⟩
theorem joined:joinedFacts Tryz.prog 5 Tryz.f5 Rows.treeTellsSpec Rows.treeTellsRow=true:=by
  unfold joinedFacts
  rw [C9Z,C9Q,C9X]
  kernel_rfl
theorem over:Rows.treeTellsRow.holds Tryz.pinned (OpenSpec.ofChange Rows.treeTellsSpec) :=
  OpenClaim.holds_of_wide 5 Tryz.f5 rfl rfl rfl rfl rfl rfl rfl ⟨rfl,rfl,rfl,rfl,rfl⟩ rfl rfl rfl rfl rfl (by kernel_rfl) Tryz.func5 joined
    (of_decide_eq_true (by kernel_rfl)) (by unfold Func.isWrapper;first | (rw [if_pos (by decide +kernel)];kernel_rfl) | (rw [if_neg (by decide +kernel)];exact ⟨rfl,rfl⟩))
    (fun os started H enc _=>lifted os started H enc)
theorem proved:Rows.TreeTellsSaid:=over
#print axioms proved
end Go.Proofs.YteckncopbicmcaaGreat.treeTells
