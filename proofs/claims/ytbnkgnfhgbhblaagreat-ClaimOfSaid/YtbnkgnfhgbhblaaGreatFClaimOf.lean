/- ClaimOf: what of any device can be kept, inode by inode and block by block, is as the document has it: proved with no condition. -/
import Derived.Test.YtbnkgnfhgbhblaaGreatRows
import Derived.Test.YtbnkgnfhgbhblaaGreatFClaimOfp6
set_option linter.all false
namespace Go.Proofs.YtbnkgnfhgbhblaaGreat.claimOf
open Go Go.Esc Go.ChangeShapes Go.WideShapes Go.ChangeAt Go.RowKit Go.ChangeMaps
set_option maxRecDepth 100000 in
theorem lifted (os:Os) (started:os.Started) (H:Type) (enc:TypeId × Value->H) :
  ReturnsInHanded {} Tryz.checked os 3 .any (Rows.claimOfSpec.pre6 enc Tryz.prog Tryz.f3 Rows.claimOfRow.domain false) (Rows.claimOfSpec.post enc Tryz.prog Tryz.f3 false true false false):=by
 refine D8b (C:=Tryz.checked) E1i started (by kernel_rfl) Tryz.func3
  (ChangeSpec.witness6 (enc:=enc) (C:=Tryz.checked) false ⟨#[],#[.slice none 0 0],[]⟩ 8 (by kernel_rfl) (by kernel_rfl) (by kernel_rfl) (by kernel_rfl))
  D9e (by rw [Tryz.params3];intro t ht;simp only [List.mem_cons,List.not_mem_nil,or_false] at ht;rcases ht with rfl<;>exact ⟨by kernel_rfl,of_decide_eq_true (by kernel_rfl)⟩) (by kernel_rfl) Tryz.underlying4 rfl (fun ds hd=>?_) ?_
 ·match ds,hd with
  | [_],_=>rfl
 ·intro W base args ds ps C5v hA;rw [Tryz.params3] at hA C5v;obtain ⟨v0,d0,e,rfl,h0⟩:=trodAll_one hA;have ho:=Opened.nought W;obtain ⟨a0,μ0,l0,n0,x0,le0,ho0,r0,w0,b0⟩:=E0q (n:=8) (sh:=List.replicate 256 (.i .u8)) ho (C5v 0 22 v0 (by simp) (by rw [e];rfl)) h0 (by kernel_rfl:Tryz.prog.underlying 22=some (.slice 55)) (by kernel_rfl) (by kernel_rfl) (by decide +kernel);obtain ⟨D,hD,rfl,rfl⟩:=E1e _ _ b0.1;rw [List.length_replicate] at w0;exact ⟨[a0],([]++l0),μ0,_,ho0.1,by rw [e];exact ⟨r0,trivial⟩,(B5o _ _ _ _ (D3h w0 hD)).2.1⟩
theorem joined:joinedFacts Tryz.prog 3 Tryz.f3 Rows.claimOfSpec Rows.claimOfRow=true:=by
 unfold joinedFacts;rw [D2i,D7E,D9h]
 kernel_rfl
theorem over:Rows.claimOfRow.holds Tryz.pinned (OpenSpec.ofChange Rows.claimOfSpec) :=
 OpenClaim.holds_of_wide 3 Tryz.f3 rfl rfl rfl rfl rfl rfl rfl ⟨rfl,rfl,rfl,rfl,rfl⟩ rfl rfl rfl rfl rfl (by kernel_rfl) Tryz.func3 joined
  (of_decide_eq_true (by kernel_rfl)) (by unfold Func.isWrapper;first | (rw [if_pos (by decide +kernel)];kernel_rfl) | (rw [if_neg (by decide +kernel)];exact ⟨rfl,rfl⟩))
  (fun os started H enc _=>lifted os started H enc)
theorem proved:Rows.ClaimOfSaid:=over
#print axioms proved
end Go.Proofs.YtbnkgnfhgbhblaaGreat.claimOf
