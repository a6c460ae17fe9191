/- DreadLists: the entries of any directory of any device, its stray ones, and how many each bucket has, are as the document has them: proved with no condition. -/
import Derived.Test.YteckncopbicmcaaGreatRows
import Derived.Test.YteckncopbicmcaaGreatFDreadListsp6
set_option linter.all false
namespace Go.Proofs.YteckncopbicmcaaGreat.dreadLists
open Go Go.Esc Go.ChangeShapes Go.WideShapes Go.ChangeAt Go.RowKit Go.ChangeMaps
set_option maxRecDepth 100000 in
theorem lifted (os:Os) (started:os.Started) (H:Type) (enc:TypeId × Value → H) :
    ReturnsInHanded {} Tryz.checked os 4 .any (Rows.dreadListsSpec.pre6 enc Tryz.prog Tryz.f4 Rows.dreadListsRow.domain false) (Rows.dreadListsSpec.post enc Tryz.prog Tryz.f4 false true false false):=by
  refine D2F (C:=Tryz.checked) D1U started (by kernel_rfl) Tryz.func4
    (ChangeSpec.witness6 (enc:=enc) (C:=Tryz.checked) false ⟨#[],#[.slice none 0 0,.int .i64 0],[]⟩ 8 (by kernel_rfl) (by kernel_rfl) (by kernel_rfl) (by kernel_rfl))
    D0M (by rw [Tryz.params4];intro t ht;simp only [List.mem_cons,List.not_mem_nil,or_false] at ht;rcases ht with rfl | rfl <;> exact ⟨by kernel_rfl,of_decide_eq_true (by kernel_rfl)⟩) (by kernel_rfl) Tryz.underlying4 rfl (fun ds hd=>?_) ?_
  · match ds,hd with
    | [_,_],_=>rfl
  · intro W base args ds ps hval hA
    rw [Tryz.params4] at hA hval
    obtain ⟨v0,v1,d0,d1,p0,p1,e,rfl,rfl,h0,h1⟩:=trodAll_two hA
    have ho:=Opened.nought W
    obtain ⟨a0,μ0,l0,n0,x0,le0,ho0,r0,w0,b0⟩:=C7x (n:=8) (sh:=List.replicate 256 (.i .u8)) ho (hval 0 22 v0 (by simp) (by rw [e];rfl)) h0 (by kernel_rfl:Tryz.prog.underlying 22=some (.slice 98)) (by kernel_rfl) (by kernel_rfl) (by decide +kernel)
    obtain ⟨a1,w1,r1⟩:=C7v (n:=8) (k:=.i64) (hval 1 3 v1 (by simp) (by rw [e];rfl)) h1 (by kernel_rfl) (by kernel_rfl)
    obtain ⟨D,hD,rfl,rfl⟩:=D1N _ _ b0.1
    rw [List.length_replicate] at w0
    exact ⟨[a0,.c (.i .i64 a1)],([] ++ l0),μ0,_,ho0.1,by rw [e];exact ⟨r0,r1 _,trivial⟩,(C4A _ _ _ _ (C8k w0 hD)).2.1⟩
theorem joined:joinedFacts Tryz.prog 4 Tryz.f4 Rows.dreadListsSpec Rows.dreadListsRow=true:=by
  unfold joinedFacts
  rw [D08,D0V,D05]
  kernel_rfl
theorem over:Rows.dreadListsRow.holds Tryz.pinned (OpenSpec.ofChange Rows.dreadListsSpec) :=
  OpenClaim.holds_of_wide 4 Tryz.f4 rfl rfl rfl rfl rfl rfl rfl ⟨rfl,rfl,rfl,rfl,rfl⟩ rfl rfl rfl rfl rfl (by kernel_rfl) Tryz.func4 joined
    (of_decide_eq_true (by kernel_rfl)) (by unfold Func.isWrapper;first | (rw [if_pos (by decide +kernel)];kernel_rfl) | (rw [if_neg (by decide +kernel)];exact ⟨rfl,rfl⟩))
    (fun os started H enc _=>lifted os started H enc)
theorem proved:Rows.DreadListsSaid:=over
#print axioms proved
end Go.Proofs.YteckncopbicmcaaGreat.dreadLists
