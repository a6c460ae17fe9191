/- ClaimRight: whatever the blocks of a device are, the blocks as they ought to be are right, what is kept of these is all of them, and they are as they ought to be: proved with no condition. -/
import Derived.Test.YtbipebfdappanaaGreatRows
import Derived.Test.YtbipebfdappanaaGreatFClaimRightp6
set_option linter.all false
namespace Go.Proofs.YtbipebfdappanaaGreat.claimRight
open Go Go.Esc Go.ChangeShapes Go.WideShapes Go.ChangeAt Go.RowKit Go.ChangeMaps
set_option maxRecDepth 100000 in
theorem lifted (os:Os) (started:os.Started) (H:Type) (enc:TypeId × Value->H) :
  ReturnsInHanded {} Tryz.checked os 3 .any (Rows.claimRightSpec.pre6 enc Tryz.prog Tryz.f3 Rows.claimRightRow.domain false) (Rows.claimRightSpec.post enc Tryz.prog Tryz.f3 false true false false):=by
 refine E0r (C:=Tryz.checked) E3M started (by kernel_rfl) Tryz.func3
  (ChangeSpec.witness6 (enc:=enc) (C:=Tryz.checked) false ⟨#[],#[.slice none 0 0],[]⟩ 8 (by kernel_rfl) (by kernel_rfl) (by kernel_rfl) (by kernel_rfl))
  E1L (by rw [Tryz.params3];intro t ht;simp only [List.mem_cons,List.not_mem_nil,or_false] at ht;rcases ht with rfl<;>exact ⟨by kernel_rfl,of_decide_eq_true (by kernel_rfl)⟩) (by kernel_rfl) Tryz.underlying4 rfl (fun ds hd=>?_) ?_
 ·match ds,hd with
  | [_],_=>rfl
 ·intro W base args ds ps C6i hA;rw [Tryz.params3] at hA C6i;obtain ⟨v0,d0,e,rfl,h0⟩:=trodAll_one hA;have ho:=Opened.nought W;obtain ⟨a0,μ0,l0,n0,x0,le0,ho0,r0,w0,b0⟩:=E2Z (n:=8) (sh:=List.replicate 256 (.i .u8)) ho (C6i 0 22 v0 (by simp) (by rw [e];rfl)) h0 (by kernel_rfl:Tryz.prog.underlying 22=some (.slice 43)) (by kernel_rfl) (by kernel_rfl) (by decide +kernel);obtain ⟨D,hD,rfl,rfl⟩:=E3I _ _ b0.1;rw [List.length_replicate] at w0;exact ⟨[a0],([]++l0),μ0,_,ho0.1,by rw [e];exact ⟨r0,trivial⟩,(B2M _ _ _ _ (C7Z w0 hD)).2.1⟩
theorem joined:joinedFacts Tryz.prog 3 Tryz.f3 Rows.claimRightSpec Rows.claimRightRow=true:=by
 unfold joinedFacts;rw [D2P,D9V,E1P]
 kernel_rfl
theorem over:Rows.claimRightRow.holds Tryz.pinned (OpenSpec.ofChange Rows.claimRightSpec) :=
 OpenClaim.holds_of_wide 3 Tryz.f3 rfl rfl rfl rfl rfl rfl rfl ⟨rfl,rfl,rfl,rfl,rfl⟩ rfl rfl rfl rfl rfl (by kernel_rfl) Tryz.func3 joined
  (of_decide_eq_true (by kernel_rfl)) (by unfold Func.isWrapper;first | (rw [if_pos (by decide +kernel)];kernel_rfl) | (rw [if_neg (by decide +kernel)];exact ⟨rfl,rfl⟩))
  (fun os started H enc _=>lifted os started H enc)
theorem proved:Rows.ClaimRightSaid:=over
#print axioms proved
end Go.Proofs.YtbipebfdappanaaGreat.claimRight
