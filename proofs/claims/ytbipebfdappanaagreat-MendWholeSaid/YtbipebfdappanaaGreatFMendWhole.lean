/- MendWhole: behind the whole plan any device is right, and nothing of it is to be mended any more: proved with no condition. -/
import Derived.Test.YtbipebfdappanaaGreatRows
import Derived.Test.YtbipebfdappanaaGreatFMendWholep7
set_option linter.all false
namespace Go.Proofs.YtbipebfdappanaaGreat.mendWhole
open Go Go.Esc Go.ChangeShapes Go.WideShapes Go.ChangeAt Go.RowKit Go.ChangeMaps
set_option maxRecDepth 100000 in
theorem lifted (os:Os) (started:os.Started) (H:Type) (enc:TypeId × Value->H) :
  ReturnsInHanded {} Tryz.checked os 5 .any (Rows.mendWholeSpec.pre6 enc Tryz.prog Tryz.f5 Rows.mendWholeRow.domain false) (Rows.mendWholeSpec.post enc Tryz.prog Tryz.f5 false true false false):=by
 refine E2C (C:=Tryz.checked) E5Z started (by kernel_rfl) Tryz.func5
  (ChangeSpec.witness6 (enc:=enc) (C:=Tryz.checked) false ⟨#[],#[.slice none 0 0],[]⟩ 8 (by kernel_rfl) (by kernel_rfl) (by kernel_rfl) (by kernel_rfl))
  E3Y (by rw [Tryz.params5];intro t ht;simp only [List.mem_cons,List.not_mem_nil,or_false] at ht;rcases ht with rfl<;>exact ⟨by kernel_rfl,of_decide_eq_true (by kernel_rfl)⟩) (by kernel_rfl) Tryz.underlying4 rfl (fun ds hd=>?_) ?_
 ·match ds,hd with
  | [_],_=>rfl
 ·intro W base args ds ps C7S hA;rw [Tryz.params5] at hA C7S;obtain ⟨v0,d0,e,rfl,h0⟩:=trodAll_one hA;have ho:=Opened.nought W;obtain ⟨a0,μ0,l0,n0,x0,le0,ho0,r0,w0,b0⟩:=E5d (n:=8) (sh:=List.replicate 256 (.i .u8)) ho (C7S 0 22 v0 (by simp) (by rw [e];rfl)) h0 (by kernel_rfl:Tryz.prog.underlying 22=some (.slice 43)) (by kernel_rfl) (by kernel_rfl) (by decide +kernel);obtain ⟨D,hD,rfl,rfl⟩:=E5V _ _ b0.1;rw [List.length_replicate] at w0;exact ⟨[a0],([]++l0),μ0,_,ho0.1,by rw [e];exact ⟨r0,trivial⟩,(B6t _ _ _ _ (D2K w0 hD)).2.1⟩
theorem joined:joinedFacts Tryz.prog 5 Tryz.f5 Rows.mendWholeSpec Rows.mendWholeRow=true:=by
 unfold joinedFacts;rw [D4M,E14,E32]
 kernel_rfl
theorem over:Rows.mendWholeRow.holds Tryz.pinned (OpenSpec.ofChange Rows.mendWholeSpec) :=
 OpenClaim.holds_of_wide 5 Tryz.f5 rfl rfl rfl rfl rfl rfl rfl ⟨rfl,rfl,rfl,rfl,rfl⟩ rfl rfl rfl rfl rfl (by kernel_rfl) Tryz.func5 joined
  (of_decide_eq_true (by kernel_rfl)) (by unfold Func.isWrapper;first | (rw [if_pos (by decide +kernel)];kernel_rfl) | (rw [if_neg (by decide +kernel)];exact ⟨rfl,rfl⟩))
  (fun os started H enc _=>lifted os started H enc)
theorem proved:Rows.MendWholeSaid:=over
#print axioms proved
end Go.Proofs.YtbipebfdappanaaGreat.mendWhole
