/- DreadOnce: just what is listed is found, with the same inode; names rise, each once; and each entry of a bucket is listed, or stray: proved with no condition. -/
import Derived.Test.YtdgggnlbdoiloaaRows
import Derived.Test.YtdgggnlbdoiloaaFDreadOncep5
set_option linter.all false
namespace Go.Proofs.Ytdgggnlbdoiloaa.dreadOnce
open Go Go.Esc Go.ChangeShapes Go.WideShapes Go.ChangeAt Go.RowKit Go.ChangeMaps
set_option maxRecDepth 100000 in
theorem lifted (os:Os) (started:os.Started) (H:Type) (enc:TypeId × Value → H) :
    ReturnsInHanded {} Try.checked os 11 .any (Rows.dreadOnceSpec.pre6 enc Try.prog Try.f11 Rows.dreadOnceRow.domain false) (Rows.dreadOnceSpec.post enc Try.prog Try.f11 false true false false):=by
  refine H13 (C:=Try.checked) H0v started (by kernel_rfl) Try.func11
    (ChangeSpec.witness6 (enc:=enc) (C:=Try.checked) false ⟨#[],#[.slice none 0 0,.int .i64 0,.string ⟨#[]⟩],[]⟩ 8 (by kernel_rfl) (by kernel_rfl) (by kernel_rfl) (by kernel_rfl))
    F8J (by rw [Try.params11];intro t ht;simp only [List.mem_cons,List.not_mem_nil,or_false] at ht;rcases ht with rfl | rfl | rfl <;> exact ⟨by kernel_rfl,of_decide_eq_true (by kernel_rfl)⟩) (by kernel_rfl) Try.underlying4 rfl (fun ds hd=>?_) ?_
  · match ds,hd with
    | [_,_,_],_=>rfl
  · intro W base args ds ps hval hA
    rw [Try.params11] at hA hval
    obtain ⟨v0,v1,v2,d0,d1,d2,p0,p1,p2,e,rfl,rfl,h0,h1,h2⟩:=trodAll_three hA
    have ho:=Opened.nought W
    obtain ⟨a0,μ0,l0,n0,x0,le0,ho0,r0,w0,b0⟩:=C9Y (n:=8) (sh:=List.replicate 256 (.i .u8)) ho (hval 0 29 v0 (by simp) (by rw [e];rfl)) h0 (by kernel_rfl:Try.prog.underlying 29=some (.slice 65)) (by kernel_rfl) (by kernel_rfl) (by decide +kernel)
    obtain ⟨a1,w1,r1⟩:=C9X (n:=8) (k:=.i64) (hval 1 3 v1 (by simp) (by rw [e];rfl)) h1 (by kernel_rfl) (by kernel_rfl)
    obtain ⟨a2,w2,r2⟩:=C9Z (n:=8) (hval 2 9 v2 (by simp) (by rw [e];rfl)) h2 (by kernel_rfl) (by kernel_rfl)
    obtain ⟨D,hD,rfl,rfl⟩:=H0o _ _ b0.1
    rw [List.length_replicate] at w0
    exact ⟨[a0,.c (.i .i64 a1),.c (.s a2)],([] ++ l0),μ0,_,ho0.1,by rw [e];exact ⟨r0,r1 _,r2 _,trivial⟩,(C7Q _ _ _ _ (D6o w0 hD)).2.1⟩
theorem joined:joinedFacts Try.prog 11 Try.f11 Rows.dreadOnceSpec Rows.dreadOnceRow=true:=by
  unfold joinedFacts
  rw [F82,F8R,F80]
  kernel_rfl
theorem over:Rows.dreadOnceRow.holds Try.pinned (OpenSpec.ofChange Rows.dreadOnceSpec) :=
  OpenClaim.holds_of_wide 11 Try.f11 rfl rfl rfl rfl rfl rfl rfl ⟨rfl,rfl,rfl,rfl,rfl⟩ rfl rfl rfl rfl rfl (by kernel_rfl) Try.func11 joined
    (of_decide_eq_true (by kernel_rfl)) (by unfold Func.isWrapper;first | (rw [if_pos (by decide +kernel)];kernel_rfl) | (rw [if_neg (by decide +kernel)];exact ⟨rfl,rfl⟩))
    (fun os started H enc _=>lifted os started H enc)
theorem proved:Rows.DreadOnceSaid:=over
#print axioms proved
end Go.Proofs.Ytdgggnlbdoiloaa.dreadOnce
