/- MendCuts: behind any first writes of the plan of any device the plan that is made then leads to the same blocks, by what is left of it, and the tree behind it is the same: proved with no condition. -/
import Derived.Test.YtbnkgnfhgbhblaaGreatRows
import Derived.Test.YtbnkgnfhgbhblaaGreatFMendCutsp6
set_option linter.all false
namespace Go.Proofs.YtbnkgnfhgbhblaaGreat.mendCuts
open Go Go.Esc Go.ChangeShapes Go.WideShapes Go.ChangeAt Go.RowKit Go.ChangeMaps
set_option maxRecDepth 100000 in
theorem lifted (os:Os) (started:os.Started) (H:Type) (enc:TypeId × Value->H) :
  ReturnsInHanded {} Tryz.checked os 7 .any (Rows.mendCutsSpec.pre6 enc Tryz.prog Tryz.f7 Rows.mendCutsRow.domain false) (Rows.mendCutsSpec.post enc Tryz.prog Tryz.f7 false true false false):=by
 refine D30 (C:=Tryz.checked) D7h started (by kernel_rfl) Tryz.func7
  (ChangeSpec.witness6 (enc:=enc) (C:=Tryz.checked) false ⟨#[],#[.slice none 0 0,.int .u8 0],[]⟩ 8 (by kernel_rfl) (by kernel_rfl) (by kernel_rfl) (by kernel_rfl))
  D5j (by rw [Tryz.params7];intro t ht;simp only [List.mem_cons,List.not_mem_nil,or_false] at ht;rcases ht with rfl | rfl<;>exact ⟨by kernel_rfl,of_decide_eq_true (by kernel_rfl)⟩) (by kernel_rfl) Tryz.underlying4 rfl (fun ds hd=>?_) ?_
 ·match ds,hd with
  | [_,_],_=>rfl
 ·intro W base args ds ps vP hA;rw [Tryz.params7] at hA vP;obtain ⟨v0,v1,d0,d1,p0,p1,e,rfl,rfl,h0,h1⟩:=trodAll_two hA;have ho:=Opened.nought W;obtain ⟨a0,μ0,l0,n0,x0,le0,ho0,r0,w0,b0⟩:=D6v (n:=8) (sh:=List.replicate 256 (.i .u8)) ho (vP 0 22 v0 (by simp) (by rw [e];rfl)) h0 (by kernel_rfl:Tryz.prog.underlying 22=some (.slice 55)) (by kernel_rfl) (by kernel_rfl) (by decide +kernel);obtain ⟨a1,w1,r1⟩:=D4L (n:=8) (k:=.u8) (vP 1 5 v1 (by simp) (by rw [e];rfl)) h1 (by kernel_rfl) (by kernel_rfl);obtain ⟨D,hD,rfl,rfl⟩:=D7d _ _ b0.1;rw [List.length_replicate] at w0;obtain ⟨p,rfl⟩:=byte_of w1;exact ⟨[a0,.c (.i .u8 (p.toNat:Int))],([]++l0),μ0,_,ho0.1,by rw [e];exact ⟨r0,r1 _,trivial⟩,(B1i _ _ _ _ (C6Q w0 hD p.toNat_lt)).2.1⟩
theorem joined:joinedFacts Tryz.prog 7 Tryz.f7 Rows.mendCutsSpec Rows.mendCutsRow=true:=by
 unfold joinedFacts;rw [C6P,D3s,D5o]
 kernel_rfl
theorem over:Rows.mendCutsRow.holds Tryz.pinned (OpenSpec.ofChange Rows.mendCutsSpec) :=
 OpenClaim.holds_of_wide 7 Tryz.f7 rfl rfl rfl rfl rfl rfl rfl ⟨rfl,rfl,rfl,rfl,rfl⟩ rfl rfl rfl rfl rfl (by kernel_rfl) Tryz.func7 joined
  (of_decide_eq_true (by kernel_rfl)) (by unfold Func.isWrapper;first | (rw [if_pos (by decide +kernel)];kernel_rfl) | (rw [if_neg (by decide +kernel)];exact ⟨rfl,rfl⟩))
  (fun os started H enc _=>lifted os started H enc)
theorem proved:Rows.MendCutsSaid:=over
#print axioms proved
end Go.Proofs.YtbnkgnfhgbhblaaGreat.mendCuts
