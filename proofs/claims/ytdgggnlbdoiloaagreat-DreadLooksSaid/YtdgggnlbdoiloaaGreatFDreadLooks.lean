/- DreadLooks: where any directory of any device has any name, and where its hash leads, is as the document has it: proved with no condition. -/
import Derived.Test.YtdgggnlbdoiloaaGreatRows
import Derived.Test.YtdgggnlbdoiloaaGreatFDreadLooksp6
set_option linter.all false
namespace Go.Proofs.YtdgggnlbdoiloaaGreat.dreadLooks
open Go Go.Esc Go.ChangeShapes Go.WideShapes Go.ChangeAt Go.RowKit Go.ChangeMaps
set_option maxRecDepth 100000 in
theorem lifted (os:Os) (started:os.Started) (H:Type) (enc:TypeId × Value → H) :
    ReturnsInHanded {} Tryz.checked os 3 .any (Rows.dreadLooksSpec.pre6 enc Tryz.prog Tryz.f3 Rows.dreadLooksRow.domain false) (Rows.dreadLooksSpec.post enc Tryz.prog Tryz.f3 false true false false):=by
  refine J4k (C:=Tryz.checked) J2q started (by kernel_rfl) Tryz.func3
    (ChangeSpec.witness6 (enc:=enc) (C:=Tryz.checked) false ⟨#[],#[.slice none 0 0,.int .i64 0,.string ⟨#[]⟩],[]⟩ 8 (by kernel_rfl) (by kernel_rfl) (by kernel_rfl) (by kernel_rfl))
    I0D (by rw [Tryz.params3];intro t ht;simp only [List.mem_cons,List.not_mem_nil,or_false] at ht;rcases ht with rfl | rfl | rfl <;> exact ⟨by kernel_rfl,of_decide_eq_true (by kernel_rfl)⟩) (by kernel_rfl) Tryz.underlying4 rfl (fun ds hd=>?_) ?_
  · match ds,hd with
    | [_,_,_],_=>rfl
  · intro W base args ds ps hval hA
    rw [Tryz.params3] at hA hval
    obtain ⟨v0,v1,v2,d0,d1,d2,p0,p1,p2,e,rfl,rfl,h0,h1,h2⟩:=trodAll_three hA
    have ho:=Opened.nought W
    obtain ⟨a0,μ0,l0,n0,x0,le0,ho0,r0,w0,b0⟩:=D7g (n:=8) (sh:=List.replicate 256 (.i .u8)) ho (hval 0 22 v0 (by simp) (by rw [e];rfl)) h0 (by kernel_rfl:Tryz.prog.underlying 22=some (.slice 76)) (by kernel_rfl) (by kernel_rfl) (by decide +kernel)
    obtain ⟨a1,w1,r1⟩:=D7f (n:=8) (k:=.i64) (hval 1 3 v1 (by simp) (by rw [e];rfl)) h1 (by kernel_rfl) (by kernel_rfl)
    obtain ⟨a2,w2,r2⟩:=D7h (n:=8) (hval 2 9 v2 (by simp) (by rw [e];rfl)) h2 (by kernel_rfl) (by kernel_rfl)
    obtain ⟨D,hD,rfl,rfl⟩:=J2j _ _ b0.1
    rw [List.length_replicate] at w0
    exact ⟨[a0,.c (.i .i64 a1),.c (.s a2)],([] ++ l0),μ0,_,ho0.1,by rw [e];exact ⟨r0,r1 _,r2 _,trivial⟩,(D4p _ _ _ _ (E3F w0 hD)).2.1⟩
theorem joined:joinedFacts Tryz.prog 3 Tryz.f3 Rows.dreadLooksSpec Rows.dreadLooksRow=true:=by
  unfold joinedFacts
  rw [I0X,I0L,I0U]
  kernel_rfl
theorem over:Rows.dreadLooksRow.holds Tryz.pinned (OpenSpec.ofChange Rows.dreadLooksSpec) :=
  OpenClaim.holds_of_wide 3 Tryz.f3 rfl rfl rfl rfl rfl rfl rfl ⟨rfl,rfl,rfl,rfl,rfl⟩ rfl rfl rfl rfl rfl (by kernel_rfl) Tryz.func3 joined
    (of_decide_eq_true (by kernel_rfl)) (by unfold Func.isWrapper;first | (rw [if_pos (by decide +kernel)];kernel_rfl) | (rw [if_neg (by decide +kernel)];exact ⟨rfl,rfl⟩))
    (fun os started H enc _=>lifted os started H enc)
theorem proved:Rows.DreadLooksSaid:=over
#print axioms proved
end Go.Proofs.YtdgggnlbdoiloaaGreat.dreadLooks
