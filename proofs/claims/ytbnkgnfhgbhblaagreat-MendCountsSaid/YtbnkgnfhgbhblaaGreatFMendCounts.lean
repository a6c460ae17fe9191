/- MendCounts: what is mended of any device, one by one, is as the document has it: proved with no condition. -/
import Derived.Test.YtbnkgnfhgbhblaaGreatRows
import Derived.Test.YtbnkgnfhgbhblaaGreatFMendCountsp6
set_option linter.all false
namespace Go.Proofs.YtbnkgnfhgbhblaaGreat.mendCounts
open Go Go.Esc Go.ChangeShapes Go.WideShapes Go.ChangeAt Go.RowKit Go.ChangeMaps
set_option maxRecDepth 100000 in
theorem lifted (os:Os) (started:os.Started) (H:Type) (enc:TypeId × Value->H) :
  ReturnsInHanded {} Tryz.checked os 6 .any (Rows.mendCountsSpec.pre6 enc Tryz.prog Tryz.f6 Rows.mendCountsRow.domain false) (Rows.mendCountsSpec.post enc Tryz.prog Tryz.f6 false true false false):=by
 refine D9V (C:=Tryz.checked) E3d started (by kernel_rfl) Tryz.func6
  (ChangeSpec.witness6 (enc:=enc) (C:=Tryz.checked) false ⟨#[],#[.slice none 0 0],[]⟩ 8 (by kernel_rfl) (by kernel_rfl) (by kernel_rfl) (by kernel_rfl))
  E04 (by rw [Tryz.params6];intro t ht;simp only [List.mem_cons,List.not_mem_nil,or_false] at ht;rcases ht with rfl<;>exact ⟨by kernel_rfl,of_decide_eq_true (by kernel_rfl)⟩) (by kernel_rfl) Tryz.underlying4 rfl (fun ds hd=>?_) ?_
 ·match ds,hd with
  | [_],_=>rfl
 ·intro W base args ds ps C69 hA;rw [Tryz.params6] at hA C69;obtain ⟨v0,d0,e,rfl,h0⟩:=trodAll_one hA;have ho:=Opened.nought W;obtain ⟨a0,μ0,l0,n0,x0,le0,ho0,r0,w0,b0⟩:=E2l (n:=8) (sh:=List.replicate 256 (.i .u8)) ho (C69 0 22 v0 (by simp) (by rw [e];rfl)) h0 (by kernel_rfl:Tryz.prog.underlying 22=some (.slice 55)) (by kernel_rfl) (by kernel_rfl) (by decide +kernel);obtain ⟨D,hD,rfl,rfl⟩:=E29 _ _ b0.1;rw [List.length_replicate] at w0;exact ⟨[a0],([]++l0),μ0,_,ho0.1,by rw [e];exact ⟨r0,trivial⟩,(B0I _ _ _ _ (C9s w0 hD)).2.1⟩
theorem joined:joinedFacts Tryz.prog 6 Tryz.f6 Rows.mendCountsSpec Rows.mendCountsRow=true:=by
 unfold joinedFacts;rw [D3U,D9q,E07]
 kernel_rfl
theorem over:Rows.mendCountsRow.holds Tryz.pinned (OpenSpec.ofChange Rows.mendCountsSpec) :=
 OpenClaim.holds_of_wide 6 Tryz.f6 rfl rfl rfl rfl rfl rfl rfl ⟨rfl,rfl,rfl,rfl,rfl⟩ rfl rfl rfl rfl rfl (by kernel_rfl) Tryz.func6 joined
  (of_decide_eq_true (by kernel_rfl)) (by unfold Func.isWrapper;first | (rw [if_pos (by decide +kernel)];kernel_rfl) | (rw [if_neg (by decide +kernel)];exact ⟨rfl,rfl⟩))
  (fun os started H enc _=>lifted os started H enc)
theorem proved:Rows.MendCountsSaid:=over
#print axioms proved
end Go.Proofs.YtbnkgnfhgbhblaaGreat.mendCounts
