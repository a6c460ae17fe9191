/- MendPlans: which blocks of any device are written, and how, is as the document has it: proved with no condition. -/
import Derived.Test.YtbnkgnfhgbhblaaGreatRows
import Derived.Test.YtbnkgnfhgbhblaaGreatFMendPlansp6
set_option linter.all false
namespace Go.Proofs.YtbnkgnfhgbhblaaGreat.mendPlans
open Go Go.Esc Go.ChangeShapes Go.WideShapes Go.ChangeAt Go.RowKit Go.ChangeMaps
set_option maxRecDepth 100000 in
theorem lifted (os:Os) (started:os.Started) (H:Type) (enc:TypeId × Value->H) :
  ReturnsInHanded {} Tryz.checked os 5 .any (Rows.mendPlansSpec.pre6 enc Tryz.prog Tryz.f5 Rows.mendPlansRow.domain false) (Rows.mendPlansSpec.post enc Tryz.prog Tryz.f5 false true false false):=by
 refine E1g (C:=Tryz.checked) E4w started (by kernel_rfl) Tryz.func5
  (ChangeSpec.witness6 (enc:=enc) (C:=Tryz.checked) false ⟨#[],#[.slice none 0 0],[]⟩ 8 (by kernel_rfl) (by kernel_rfl) (by kernel_rfl) (by kernel_rfl))
  E2q (by rw [Tryz.params5];intro t ht;simp only [List.mem_cons,List.not_mem_nil,or_false] at ht;rcases ht with rfl<;>exact ⟨by kernel_rfl,of_decide_eq_true (by kernel_rfl)⟩) (by kernel_rfl) Tryz.underlying4 rfl (fun ds hd=>?_) ?_
 ·match ds,hd with
  | [_],_=>rfl
 ·intro W base args ds ps C7Y hA;rw [Tryz.params5] at hA C7Y;obtain ⟨v0,d0,e,rfl,h0⟩:=trodAll_one hA;have ho:=Opened.nought W;obtain ⟨a0,μ0,l0,n0,x0,le0,ho0,r0,w0,b0⟩:=E3F (n:=8) (sh:=List.replicate 256 (.i .u8)) ho (C7Y 0 22 v0 (by simp) (by rw [e];rfl)) h0 (by kernel_rfl:Tryz.prog.underlying 22=some (.slice 55)) (by kernel_rfl) (by kernel_rfl) (by decide +kernel);obtain ⟨D,hD,rfl,rfl⟩:=E4s _ _ b0.1;rw [List.length_replicate] at w0;exact ⟨[a0],([]++l0),μ0,_,ho0.1,by rw [e];exact ⟨r0,trivial⟩,(B2X _ _ _ _ (D3l w0 hD)).2.1⟩
theorem joined:joinedFacts Tryz.prog 5 Tryz.f5 Rows.mendPlansSpec Rows.mendPlansRow=true:=by
 unfold joinedFacts;rw [D5e,E0J,E2t]
 kernel_rfl
theorem over:Rows.mendPlansRow.holds Tryz.pinned (OpenSpec.ofChange Rows.mendPlansSpec) :=
 OpenClaim.holds_of_wide 5 Tryz.f5 rfl rfl rfl rfl rfl rfl rfl ⟨rfl,rfl,rfl,rfl,rfl⟩ rfl rfl rfl rfl rfl (by kernel_rfl) Tryz.func5 joined
  (of_decide_eq_true (by kernel_rfl)) (by unfold Func.isWrapper;first | (rw [if_pos (by decide +kernel)];kernel_rfl) | (rw [if_neg (by decide +kernel)];exact ⟨rfl,rfl⟩))
  (fun os started H enc _=>lifted os started H enc)
theorem proved:Rows.MendPlansSaid:=over
#print axioms proved
end Go.Proofs.YtbnkgnfhgbhblaaGreat.mendPlans
