/- ClaimKeeps: of a device that is right the blocks ought to be as they are, and what is kept of any device is what it had, names and bytes, or nought: proved with no condition. -/
import Derived.Test.YtbipebfdappanaaGreatRows
import Derived.Test.YtbipebfdappanaaGreatFClaimKeepsp7
set_option linter.all false
namespace Go.Proofs.YtbipebfdappanaaGreat.claimKeeps
open Go Go.Esc Go.ChangeShapes Go.WideShapes Go.ChangeAt Go.RowKit Go.ChangeMaps
set_option maxRecDepth 100000 in
theorem lifted (os:Os) (started:os.Started) (H:Type) (enc:TypeId × Value->H) :
  ReturnsInHanded {} Tryz.checked os 4 .any (Rows.claimKeepsSpec.pre6 enc Tryz.prog Tryz.f4 Rows.claimKeepsRow.domain false) (Rows.claimKeepsSpec.post enc Tryz.prog Tryz.f4 false true false false):=by
 refine E1m (C:=Tryz.checked) E4K started (by kernel_rfl) Tryz.func4
  (ChangeSpec.witness6 (enc:=enc) (C:=Tryz.checked) false ⟨#[],#[.slice none 0 0],[]⟩ 8 (by kernel_rfl) (by kernel_rfl) (by kernel_rfl) (by kernel_rfl))
  E2G (by rw [Tryz.params4];intro t ht;simp only [List.mem_cons,List.not_mem_nil,or_false] at ht;rcases ht with rfl<;>exact ⟨by kernel_rfl,of_decide_eq_true (by kernel_rfl)⟩) (by kernel_rfl) Tryz.underlying4 rfl (fun ds hd=>?_) ?_
 ·match ds,hd with
  | [_],_=>rfl
 ·intro W base args ds ps C7a hA;rw [Tryz.params4] at hA C7a;obtain ⟨v0,d0,e,rfl,h0⟩:=trodAll_one hA;have ho:=Opened.nought W;obtain ⟨a0,μ0,l0,n0,x0,le0,ho0,r0,w0,b0⟩:=E3W (n:=8) (sh:=List.replicate 256 (.i .u8)) ho (C7a 0 22 v0 (by simp) (by rw [e];rfl)) h0 (by kernel_rfl:Tryz.prog.underlying 22=some (.slice 43)) (by kernel_rfl) (by kernel_rfl) (by decide +kernel);obtain ⟨D,hD,rfl,rfl⟩:=E4G _ _ b0.1;rw [List.length_replicate] at w0;exact ⟨[a0],([]++l0),μ0,_,ho0.1,by rw [e];exact ⟨r0,trivial⟩,(B3u _ _ _ _ (C8X w0 hD)).2.1⟩
theorem joined:joinedFacts Tryz.prog 4 Tryz.f4 Rows.claimKeepsSpec Rows.claimKeepsRow=true:=by
 unfold joinedFacts;rw [D3T,E0R,E2K]
 kernel_rfl
theorem over:Rows.claimKeepsRow.holds Tryz.pinned (OpenSpec.ofChange Rows.claimKeepsSpec) :=
 OpenClaim.holds_of_wide 4 Tryz.f4 rfl rfl rfl rfl rfl rfl rfl ⟨rfl,rfl,rfl,rfl,rfl⟩ rfl rfl rfl rfl rfl (by kernel_rfl) Tryz.func4 joined
  (of_decide_eq_true (by kernel_rfl)) (by unfold Func.isWrapper;first | (rw [if_pos (by decide +kernel)];kernel_rfl) | (rw [if_neg (by decide +kernel)];exact ⟨rfl,rfl⟩))
  (fun os started H enc _=>lifted os started H enc)
theorem proved:Rows.ClaimKeepsSaid:=over
#print axioms proved
end Go.Proofs.YtbipebfdappanaaGreat.claimKeeps
