/- MendApplies: any blocks, with any first writes of any list done, are as the document has them: proved with no condition. -/
import Derived.Test.YteckncopbicmcaaGreatRows
import Derived.Test.YteckncopbicmcaaGreatFMendAppliesp6
set_option linter.all false
namespace Go.Proofs.YteckncopbicmcaaGreat.mendApplies
open Go Go.Esc Go.ChangeShapes Go.WideShapes Go.ChangeAt Go.RowKit Go.ChangeMaps
set_option maxRecDepth 100000 in
theorem lifted (os:Os) (started:os.Started) (H:Type) (enc:TypeId × Value->H) :
  ReturnsInHanded {} Tryz.checked os 10 .any (Rows.mendAppliesSpec.pre6 enc Tryz.prog Tryz.f10 Rows.mendAppliesRow.domain false) (Rows.mendAppliesSpec.post enc Tryz.prog Tryz.f10 false true false false):=by
 refine D13 (C:=Tryz.checked) D44 started (by kernel_rfl) Tryz.func10
  (ChangeSpec.witness6 (enc:=enc) (C:=Tryz.checked) false ⟨#[],#[.slice none 0 0,.slice none 0 0,.int .i64 0],[]⟩ 8 (by kernel_rfl) (by kernel_rfl) (by kernel_rfl) (by kernel_rfl))
  D3i (by rw [Tryz.params10];intro t ht;simp only [List.mem_cons,List.not_mem_nil,or_false] at ht;rcases ht with rfl | rfl | rfl<;>exact ⟨by kernel_rfl,of_decide_eq_true (by kernel_rfl)⟩) (by kernel_rfl) Tryz.underlying4 rfl (fun ds hd=>?_) ?_
 ·match ds,hd with
  | [_,_,_],_=>rfl
 ·intro W base args ds ps oE hA;rw [Tryz.params10] at hA oE;obtain ⟨v0,v1,v2,d0,d1,d2,p0,p1,p2,e,rfl,rfl,h0,h1,h2⟩:=trodAll_three hA;have ho:=Opened.nought W;obtain ⟨a0,μ0,l0,n0,x0,le0,ho0,r0,w0,b0⟩:=D2U (n:=8) ho (oE 0 70 v0 (by simp) (by rw [e];rfl)) h0 (by kernel_rfl:Tryz.prog.underlying 70=some (.slice 5)) (by kernel_rfl) (by kernel_rfl);obtain ⟨a1,μ1,l1,n1,x1,le1,ho1,r1,w1,b1⟩:=D2V (n:=8) ho0 (oE 1 63 v1 (by simp) (by rw [e];rfl)) h1 (by kernel_rfl:Tryz.prog.underlying 63=some (.slice 3)) (by kernel_rfl) (by kernel_rfl);obtain ⟨a2,w2,r2⟩:=D2S (n:=8) (k:=.i64) (oE 2 3 v2 (by simp) (by rw [e];rfl)) h2 (by kernel_rfl) (by kernel_rfl);exact ⟨[a0,a1,.c (.i .i64 a2)],(([]++l0)++l1),μ1,_,ho1.1,by rw [e];exact ⟨(r0.mono le1),r1,r2 _,trivial⟩,(A7o _ _ _ _ (C0T (w0.more _) w1)).2.1⟩
theorem joined:joinedFacts Tryz.prog 10 Tryz.f10 Rows.mendAppliesSpec Rows.mendAppliesRow=true:=by
 unfold joinedFacts;rw [C6n,D1G,D3n]
 kernel_rfl
theorem over:Rows.mendAppliesRow.holds Tryz.pinned (OpenSpec.ofChange Rows.mendAppliesSpec) :=
 OpenClaim.holds_of_wide 10 Tryz.f10 rfl rfl rfl rfl rfl rfl rfl ⟨rfl,rfl,rfl,rfl,rfl⟩ rfl rfl rfl rfl rfl (by kernel_rfl) Tryz.func10 joined
  (of_decide_eq_true (by kernel_rfl)) (by unfold Func.isWrapper;first | (rw [if_pos (by decide +kernel)];kernel_rfl) | (rw [if_neg (by decide +kernel)];exact ⟨rfl,rfl⟩))
  (fun os started H enc _=>lifted os started H enc)
theorem proved:Rows.MendAppliesSaid:=over
#print axioms proved
end Go.Proofs.YteckncopbicmcaaGreat.mendApplies
