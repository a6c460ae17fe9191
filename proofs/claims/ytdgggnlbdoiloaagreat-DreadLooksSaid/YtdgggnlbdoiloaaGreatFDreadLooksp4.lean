/- What the proof of this claim leans on, part 4. -/
import Derived.Test.YtdgggnlbdoiloaaGreatFDreadLooksp3
set_option linter.all false
section
namespace Go.Proofs.YtdgggnlbdoiloaaGreat
open Go Go.Esc
def IsView (h:A0) (f:Cell) (D:Dev):Prop:=∃ r q rw rw',f=.f 26 [(r,0)] ∧ rd h r=some ⟨[.sl q 0 D.length 256],rw⟩ ∧ rd h q=some ⟨C9 D,rw'⟩
theorem IsView.ro {h:A0} {f:Cell} {D:Dev} (hv:IsView h f D):IsView (ro h) f D:=by
  obtain ⟨r,q,rw,rw',e,h1,h2⟩:=hv
  exact ⟨r,q,false,false,e,A94 h1 rfl,A94 h2 (A5y D)⟩
theorem IsView.more {h:A0} {f:Cell} {D:Dev} (hv:IsView h f D) (l:A0):IsView (h ++ l) f D:=by
  obtain ⟨r,q,rw,rw',e,h1,h2⟩:=hv
  exact ⟨r,q,rw,rw',e,C8 h1,C8 h2⟩
theorem IsView.since {g h:A0} {f:Cell} {D:Dev} (hv:IsView g f D) (h1:Low g.length g h):IsView h f D:=by
  obtain ⟨r,q,rw,rw',e,h2,h3⟩:=hv
  exact ⟨r,q,rw,rw',e,h1.rd h2,h1.rd h3⟩
theorem IsView.get {h:A0} {f:Cell} {D:Dev} (hv:IsView h f D):∃ id cs,f=.f id cs:=by
  obtain ⟨r,q,rw,rw',e,_⟩:=hv
  exact ⟨_,_,e⟩
def vwC (b n m:Int) (f:Cell):List Cell:=[.i .i64 b,.i .i64 n,.i .u64 m,f]
section
variable {D:Dev} {n m:Int} {f:Cell}
theorem B0j {b:Int}:ldN (some (Row.mk (vwC b n m f) true)) 0 3=some (.a (C4 b n m)):=rfl
theorem A38 {b:Int}:ldN (some (Row.mk (vwC b n m f) true)) 0 4=some (.a (vwC b n m f)):=rfl
end
theorem K0g {h:A0} {r q:Nat} {rw rw':Bool} {D:Dev} {no:Nat} (hD:okD D) (hno:no < D.length) (h1:rd h r=some ⟨[.sl q 0 D.length 256],rw⟩) (h2:rd h q=some ⟨C9 D,rw'⟩) :
    A45 [.c (.i .i64 (no:Int)),.c (.p r 0)] h=some (.a (A3 D[no]),h):=by
  have key:∀ g rw rw',rd g r=some ⟨[.sl q 0 D.length 256],rw⟩ → rd g q=some ⟨C9 D,rw'⟩ → ∃ g',A7j 0 [.c (.i .i64 (no:Int)),.c (.p r 0)] g=some (.a (A3 D[no]),g'):=by
    intro g rw rw' h1 h2
    have hz:(List.replicate 256 (Cell.i .u8 0)).length=256:=List.length_replicate
    have hB:(A3 D[no]).length=256:=by rw [B4,hD.at hno]
    have l1:A9 (g ++ [some (Row.mk (List.replicate 256 (.i .u8 0)) true)]) (.c (.p r 0))=some (.c (.sl q 0 D.length 256)):=K6 (cs:=[.sl q 0 D.length 256]) (C8 h1) rfl (by cases rw <;> rfl)
    have a1:D0 256 (.c (.sl q 0 D.length 256)) (.c (.i .i64 (no:Int)))=some (.c (.p q (0 + no * 256))):=I9 hno
    have l2:A5 (g ++ [some (Row.mk (List.replicate 256 (.i .u8 0)) true)]) 256 (.c (.p q (0 + no * 256)))=some (.a (A3 D[no])):=by
      rw [A5v (cs:=C9 D) (rw:=rw') (C8 h2) (by rw [Y0 hD];omega) (by
        rw [Nat.zero_add,A1h hD hno,I3];simp),Nat.zero_add,A1h hD hno]
    rw [Nat.zero_add] at a1 l2
    rw [D3O]
    generalize List.replicate 256 (Cell.i .u8 0)=z at *
    generalize A3 D[no]=y at *
    exact ⟨_,by simp only [esc,esh,Nat.reduceAdd,Nat.reduceMul,Nat.reduceLT,l1,a1,l2,hz,hB] <;> rfl⟩
  obtain ⟨g',e⟩:=key (ro h) false false (A94 h1 rfl) (A94 h2 (A5y D))
  exact D6t e (by simp [Val.flat])
theorem K1S {b n m no:Int} {f:Nat} {cs:List (Nat × Nat)} {h:A0}:A47 [.a (vwC b n m (.f f cs)),.c (.i .i64 no)] h=some (.c (.b (decide (0 ≤ no) && decide (no < b))),h):=by
  have key:∀ g,∃ g',A7m 0 [.a (vwC b n m (.f f cs)),.c (.i .i64 no)] g=some (.c (.b (decide (0 ≤ no) && decide (no < b))),g'):=by
    intro g
    rw [D3Q]
    unfold vwC
    by_cases c1:0 ≤ no
    · exact ⟨_,by simp only [esc,esh,Nat.reduceAdd,Nat.reduceMul,Nat.reduceLT,c1] <;> rfl⟩
    · exact ⟨_,by simp only [esc,esh,Nat.reduceAdd,Nat.reduceMul,Nat.reduceLT,c1,Bool.false_and] <;> rfl⟩
  obtain ⟨g',e⟩:=key (ro h)
  exact D6w e rfl
theorem B0i {n m no:Int} {f:Cell} {D:Dev} {h:A0} (hD:okD D) (hv:IsView h f D):U2 [.a (vwC D.length n m f),.c (.i .i64 no)] h=some (.a (A3 (blk D no)),h):=by
  have key:∀ g,IsView g f D → ∃ g',A7l 0 [.a (vwC D.length n m f),.c (.i .i64 no)] g=some (.a (A3 (blk D no)),g'):=by
    intro g hv
    have hz:(A3 (zeros 256)).length=256:=by rw [B4];exact zeros_length
    have hB:(A3 (blk D no)).length=256:=by rw [B4,A5d hD]
    obtain ⟨r,q,rw',rw'',rfl,h1,h2⟩:=hv
    have hT:=fun h=>K1S (b:=D.length) (n:=n) (m:=m) (no:=no) (f:=26) (cs:=[(r,0)]) (h:=h)
    have hcv:∀ (x:Val) (h:A0),M7 A1y (.c (.f 26 [(r,0)])) [x] h=A45 [x,.c (.p r 0)] h:=fun _ _=>Eq.trans rfl rfl
    rw [D3P,M0]
    by_cases c1:0 ≤ no ∧ no < D.length
    · have c2:=c1.1
      have c3:=c1.2
      obtain ⟨k,rfl⟩:∃ k:Nat,no=k:=⟨no.toNat,by omega⟩
      have e1:=B1n (D:=D) (i:=k) (by omega)
      have hO:=K0g (h:=g ++ [some (Row.mk (vwC D.length n m (.f 26 [(r,0)])) true),some (Row.mk (A3 (zeros 256)) true)]) hD (show k < D.length by omega) (C8 h1) (C8 h2)
      rw [← e1] at hO
      simp only [c2,c3,decide_true,Bool.and_self] at hT
      generalize A3 (zeros 256)=z at *
      generalize A3 (blk D k)=y at *
      unfold vwC at *
      exact ⟨_,by simp only [esc,esh,Nat.reduceAdd,Nat.reduceMul,Nat.reduceLT,hT,hcv,hO,hz,hB] <;> rfl⟩
    · have e1:=D7p (D:=D) (i:=no) (by omega)
      have ht:(decide (0 ≤ no) && decide (no < (D.length:Int)))=false:=by
        rw [Bool.and_eq_false_iff,decide_eq_false_iff_not,decide_eq_false_iff_not];omega
      simp only [ht] at hT
      rw [e1] at hB ⊢
      have ef:B0 (A3 (zeros 256)) []=some (A3 (zeros 256)):=rfl
      generalize A3 (zeros 256)=z at *
      unfold vwC at *
      exact ⟨_,by simp only [esc,esh,Nat.reduceAdd,Nat.reduceMul,Nat.reduceLT,hT,ef,hz] <;> rfl⟩
  obtain ⟨g',e⟩:=key (ro h) hv.ro
  exact D6v e (by simp [Val.flat])
theorem D7b {h:A0} {id m sz:Nat} {ys:List Cell} {y:Val} (hr:rd h id=some ⟨[],true⟩) (hy:Has h y sz m ys) (hsz:0 < sz) (hn:m ≤ 1073741824) :
    E5 h sz (.c (.sl id 0 0 sz)) y=some (.c (.sl h.length 0 m sz),h.set id none ++ [some ⟨ys,true⟩]):=by
  have h1:=hy.add
  have h2:ys.length / sz=m:=by rw [hy.length];exact Nat.mul_div_cancel m hsz
  simp only [E5,h1,hr,Option.bind_some,h2,List.nil_append,Nat.zero_add]
  rw [if_pos ⟨trivial,trivial,by simp,trivial,hn⟩]
def S1 (D:Dev):Bool:=okS (D.headD []) && decide (fieldN (D.headD []) 8 2=D.length)
def A1M (D:Dev):Int:=fieldN (D.headD []) 10 2
def A1L (D:Dev):Int:=fieldN (D.headD []) 12 8
theorem K0W {v:Val} {h:A0} (hv:Has h v 256 0 []):∃ t,A0A [v] h=some (.t [.a (vwC 0 0 0 .nf),.c (.i .i64 13)],h ++ t):=by
  have ef:B0 [Cell.i .i64 0,.i .i64 0,.i .u64 0,.nf] []=some [Cell.i .i64 0,.i .i64 0,.i .u64 0,.nf]:=rfl
  have hl:=hv.len
  rw [show ((0:Nat):Int)=0 from rfl] at hl
  exact ⟨_,A7s (n:=0) (by rw [A7k];simp only [esc,esh,Nat.reduceAdd,Nat.reduceMul,Nat.reduceLT,hl,ef,vwC] <;> rfl)⟩
theorem C5Y {b:List UInt8} (h:okS b=false):Y4 b=C4 0 0 0:=by unfold Y4;rw [h];rfl
theorem B2j {b:List UInt8} (h:okS b=true):Y4 b=C4 (fieldN b 8 2) (fieldN b 10 2) (fieldN b 12 8):=by unfold Y4;rw [h];rfl
theorem K0X {v:Val} {D:Dev} {h:A0} (hv:Has h v 256 D.length (C9 D)) (hD:okD D) (h0:0 < D.length) (hn:S1 D=false):∃ t,A0A [v] h=some (.t [.a (vwC 0 0 0 .nf),.c (.i .i64 13)],h ++ t):=by
  have ef:B0 [Cell.i .i64 0,.i .i64 0,.i .u64 0,.nf] []=some [Cell.i .i64 0,.i .i64 0,.i .u64 0,.nf]:=rfl
  have hl:=hv.len
  have hv2:=hv.more [some (Row.mk [.i .i64 0,.i .i64 0,.i .u64 0,.nf] true)]
  obtain ⟨b,E,rfl⟩:∃ b E,D=b :: E:=by cases D with | nil=>simp at h0 | cons b E=>exact ⟨b,E,rfl⟩
  obtain ⟨id,off,rfl,hid,_,hB⟩:=hv2.sl h0
  have hBl:(A3 b).length=256:=by rw [B4,hD.cons.1]
  have l2:=hB 0 256 (by rw [Y0 hD];omega)
  have ec:((C9 (b :: E)).drop 0).take 256=A3 b:=by
    have:=A1h (i:=0) hD h0
    rwa [Nat.zero_mul] at this
  rw [ec,Nat.add_zero] at l2
  have a1:D0 256 (.c (.sl id off (b :: E).length 256)) (.c (.i .i64 0))=some (.c (.p id off)):=by
    have:=I9 (k:=.i64) (id:=id) (off:=off) (sz:=256) (j:=0) (len:=(b :: E).length) h0
    rwa [Nat.zero_mul,Nat.add_zero] at this
  have hG:=fun h=>D0P (h:=h) hD.cons.1
  have c0:¬ (((b :: E).length:Nat):Int)=0:=by omega
  have n13:¬ (13:Int)=0:=by decide
  unfold S1 at hn
  simp only [List.headD_cons] at hn
  cases ho:okS b with
  | false =>
    simp only [ho,C5Y ho,cond_false] at hG
    refine ⟨[some (Row.mk [.i .i64 0,.i .i64 0,.i .u64 0,.nf] true),some (Row.mk [.i .i64 0,.i .i64 0,.i .u64 0] true)],A7s (n:=0) ?_⟩
    rw [A7k]
    generalize (b :: E).length=N at *
    generalize A3 b=y at *
    unfold C4 at *
    simp only [esc,esh,Nat.reduceAdd,Nat.reduceMul,Nat.reduceLT,ef,vwC,l2,a1,hG,n13,eq_self,c0] <;> rfl
  | true =>
    rw [ho,Bool.true_and] at hn
    replace hn:=of_decide_eq_false hn
    simp only [ho,B2j ho,cond_true] at hG
    refine ⟨[some (Row.mk [.i .i64 0,.i .i64 0,.i .u64 0,.nf] true),some (Row.mk [.i .i64 (fieldN b 8 2),.i .i64 (fieldN b 10 2),.i .u64 (fieldN b 12 8)] true)],A7s (n:=0) ?_⟩
    rw [A7k]
    generalize (b :: E).length=N at *
    generalize A3 b=y at *
    generalize fieldN b 8 2=n1 at *
    unfold C4 at *
    simp only [esc,esh,Nat.reduceAdd,Nat.reduceMul,Nat.reduceLT,ef,vwC,l2,a1,hG,n13,eq_self,c0,hn] <;> rfl
theorem K0h {v:Val} {D:Dev} {h:A0} (hv:Has h v 256 D.length (C9 D)) (hD:okD D) (hn:S1 D=false):∃ t,A0A [v] h=some (.t [.a (vwC 0 0 0 .nf),.c (.i .i64 13)],h ++ t):=by
  by_cases h0:D=[]
  · subst h0;exact K0W hv
  · exact K0X hv hD (List.length_pos_iff.2 h0) hn
theorem D1S {v:Val} {D:Dev} {h:A0} (hv:Has h v 256 D.length (C9 D)) (hD:okD D) (hn:S1 D=true) (h60:D.length ≤ 1073741824) :
    ∃ f t,A0A [v] h=some (.t [.a (vwC D.length (A1M D) (A1L D) f),.c (.i .i64 0)],h ++ t) ∧ IsView (h ++ t) f D:=by
  obtain ⟨b,E,rfl⟩:∃ b E,D=b :: E:=by
    cases D with
    | nil=>simp only [S1,List.headD_nil,List.length_nil,Bool.and_eq_true,decide_eq_true_eq] at hn;exact absurd hn.1 (by decide)
    | cons b E=>exact ⟨b,E,rfl⟩
  have h0:0 < (b :: E).length:=by simp
  have hv2:=hv.more [some (Row.mk [.i .i64 0,.i .i64 0,.i .u64 0,.nf] true)]
  unfold S1 at hn
  simp only [List.headD_cons,Bool.and_eq_true,decide_eq_true_eq] at hn
  have ho:=hn.1
  have hn2:=of_decide_eq_true hn.2
  have hv3:=hv.more [some (Row.mk [.i .i64 0,.i .i64 0,.i .u64 0,.nf] true),some (Row.mk (C4 (b :: E).length (fieldN b 10 2) (fieldN b 12 8)) true),some (Row.mk [] true)]
  obtain ⟨id,off,rfl,hid,_,hB⟩:=hv2.sl h0
  have hBl:(A3 b).length=256:=by rw [B4,hD.cons.1]
  have l2:=hB 0 256 (by rw [Y0 hD];omega)
  have ec:((C9 (b :: E)).drop 0).take 256=A3 b:=by
    have:=A1h (i:=0) hD h0
    rwa [Nat.zero_mul] at this
  rw [ec,Nat.add_zero] at l2
  have a1:D0 256 (.c (.sl id off (b :: E).length 256)) (.c (.i .i64 0))=some (.c (.p id off)):=by
    have:=I9 (k:=.i64) (id:=id) (off:=off) (sz:=256) (j:=0) (len:=(b :: E).length) h0
    rwa [Nat.zero_mul,Nat.add_zero] at this
  have hG:=fun h=>D0P (h:=h) hD.cons.1
  have c0:¬ (((b :: E).length:Nat):Int)=0:=by omega
  have n13:¬ (13:Int)=0:=by decide
  simp only [ho,B2j ho,cond_true,hn2] at hG
  have eN:A1M (b :: E)=fieldN b 10 2:=rfl
  have eM:A1L (b :: E)=fieldN b 12 8:=rfl
  have hA:=D7b (id:=h.length + 2) (by simp) hv3 (by omega) h60
  have ef1:B0 ([]:List Cell) []=some []:=rfl
  have hlt:id < h.length:=by
    rcases hv with ⟨e,_⟩ | ⟨i,o,r,e,hr,_⟩
    · cases e
    · cases e;exact D5 hr
  rw [eN,eM]
  unfold IsView
  generalize C9 (b :: E)=C at *
  have emk:X8 26 [.c (.p (h.length + 4) 0)]=some (.c (.f 26 [(h.length + 4,0)])):=rfl
  refine ⟨.f 26 [(h.length + 4,0)],[some (Row.mk (vwC (b :: E).length (fieldN b 10 2) (fieldN b 12 8) (.f 26 [(h.length + 4,0)])) true),some (Row.mk (C4 (b :: E).length (fieldN b 10 2) (fieldN b 12 8)) true),none,some (Row.mk C true),some (Row.mk [.sl (h.length + 3) 0 (b :: E).length 256] true)],A7s (n:=0) ?_,h.length + 4,h.length + 3,true,true,rfl,A3e,A3e⟩
  rw [A7k]
  generalize (b :: E).length=N at *
  generalize A3 b=y at *
  generalize fieldN b 10 2=n1 at *
  generalize fieldN b 12 8=n2 at *
  have ef2:∀ x,B0 [Cell.i .i64 0,.i .i64 0,.i .u64 0,.nf] [(0,3,.a [.i .i64 (N:Int),.i .i64 n1,.i .u64 n2]),(3,1,.c x)]=some [.i .i64 (N:Int),.i .i64 n1,.i .u64 n2,x]:=fun _=>rfl
  unfold C4 vwC at *
  simp only [esc,esh,Nat.reduceAdd,Nat.reduceMul,Nat.reduceLT] at hA
  simp only [esc,esh,Nat.reduceAdd,Nat.reduceMul,Nat.reduceLT,l2,a1,hG,n13,eq_self,c0,hA,ef1,ef2,emk] <;> rfl
end Go.Proofs.YtdgggnlbdoiloaaGreat
end
section
namespace Go.Proofs.YtdgggnlbdoiloaaGreat
open Go Go.Esc
def zI (n:Nat):List Int:=List.replicate n 0
theorem K7 {n:Nat}:(zI n).length=n:=by simp [zI]
end Go.Proofs.YtdgggnlbdoiloaaGreat
end
section
namespace Go.Proofs.YtdgggnlbdoiloaaGreat
open Go Go.Esc
abbrev A7 (k l s p:Int) (d:List Int):List Cell:=.i .i64 k :: .i .i64 l :: .i .i64 s :: .i .i64 p :: encI d
def A0s (n:Int):Bool:=decide (0 ≤ n) && decide (n ≤ 65535)
theorem A1T {n:Int} {h:A0}:A2J [.c (.i .i64 n)] h=some (.c (.b (A0s n)),h):=by
  refine D5M (n:=0) (h2:=ro h) ?_ rfl
  rw [D3n]
  unfold A0s
  by_cases c:0 ≤ n
  · simp only [esc,c,Bool.true_and]
  · simp only [esc,c,Bool.false_and]
theorem C9b {g:A0} {k l s p:Int} {d:List Int} {z:List Cell} {q:Nat} (hd:d.length=7) (hz:z.length=7):∀ e i m:Nat,i + e=6 → e < m →
    A89 q m (.c (.p g.length 0)) (.c (.p (g.length + 1) 0)) (.c (.p (g.length + 2) 0)) (.a (encI (d.take 6))) (.c (.i .i64 i)) (g ++ [some ⟨A7 k l s p d,true⟩,some ⟨z,true⟩,some ⟨encI (d.take i ++ zI (7 - i)),true⟩]) =
      some (.a (encI d),g ++ [some ⟨A7 k l s p d,true⟩,some ⟨encI d,true⟩,some ⟨encI d,true⟩])
  | e,i,0,_,hm=>by omega
  | 0,i,m + 1,hi,hm=>by
    have e0:i=6:=by omega
    subst e0
    have h1':¬ ((6:Nat):Int) < 6:=by omega
    have l1:(A7 k l s p d)[10]? = some (.i .i64 d[6]):=by
      have:(encI d)[6]? = some (.i .i64 d[6]):=by rw [Y2,List.getElem?_eq_getElem (by omega)];rfl
      exact this
    have a1:D7 7 1 (.c (.p (g.length + 2) 0)) (.c (.i .i64 6))=some (.c (.p (g.length + 2) 6)):=rfl
    have ho:6 < (encI (d.take 6 ++ zI (7 - 6))).length:=by rw [G6,List.length_append,K7,List.length_take];omega
    have es:(encI (d.take 6 ++ zI (7 - 6))).set 6 (.i .i64 d[6])=encI d:=by
      rw [A78]
      congr 1
      have h6:(d.take 6).length=6:=by simp;omega
      rw [List.set_append_right _ _ (by omega),h6]
      have:d=d.take 6 ++ [d[6]]:=by
        rw [← List.take_succ_eq_append_getElem (by omega),List.take_of_length_le (by omega)]
      conv=>rhs;rw [this]
      rfl
    have hl:(encI d).length=7:=by rw [G6,hd]
    rw [C5e]
    simp only [esc,esh,Nat.reduceAdd,Nat.reduceMul,Nat.reduceLT,h1',l1,a1,ho,es,hl,hz]
  | e + 1,i,m + 1,hi,hm=>by
    have ih:=C9b (g:=g) (k:=k) (l:=l) (s:=s) (p:=p) (q:=q) hd hz e (i + 1) m (by omega) (by omega)
    have h1':(i:Int) < 6:=by omega
    have hx:V9 6 (.a (encI (d.take 6))) (.c (.i .i64 (i:Int)))=some (.c (.i .i64 d[i])):=by
      rw [A8R (by omega),Y2,List.getElem?_take_of_lt (by omega),List.getElem?_eq_getElem (by omega)];rfl
    have a1:D7 7 1 (.c (.p (g.length + 2) 0)) (.c (.i .i64 (i:Int)))=some (.c (.p (g.length + 2) i)):=by rw [S5 (by omega)];simp
    have ho:i < (encI (d.take i ++ zI (7 - i))).length:=by rw [G6,List.length_append,K7,List.length_take];omega
    have es:(encI (d.take i ++ zI (7 - i))).set i (.i .i64 d[i])=encI (d.take (i + 1) ++ zI (7 - (i + 1))):=by
      rw [A78]
      refine congrArg encI ?_
      have h6:(d.take i).length=i:=by simp;omega
      rw [List.set_append_right _ _ (by omega),h6,Nat.sub_self,List.take_succ_eq_append_getElem (by omega),List.append_assoc]
      refine congrArg (d.take i ++ ·) ?_
      rw [show 7 - i=7 - (i + 1) + 1 by omega]
      unfold zI
      rw [List.replicate_succ,List.set_cons_zero];rfl
    rw [C5e]
    simp only [esc,esh,Nat.reduceAdd,Nat.reduceMul,Nat.reduceLT,h1',hx,a1,ho,es,E6 (show i + 1 < 9223372036854775808 by omega)]
    exact ih
theorem H5B {k l s p:Int} {d:List Int} (hd:d.length=7):ldN (some ⟨A7 k l s p d,true⟩) 4 6=some (.a (encI (d.take 6))):=by
  have h1:(A7 k l s p d).length=11:=by simp [G6,hd]
  simp only [ldN,Option.bind_some]
  rw [if_pos ⟨by omega,by simp⟩]
  simp only [List.drop_succ_cons,List.drop_zero]
  unfold encI
  rw [List.map_take]
theorem B2d {k l s p:Int} {d:List Int} {h:A0} (hd:d.length=7):A2H [.a (A7 k l s p d)] h=some (.a (encI d),h):=by
  have key:∀ N,7 < N → ∀ g,∃ g',A6Y N [.a (A7 k l s p d)] g=some (.a (encI d),g'):=by
    intro N hN g
    have:=C9b (g:=g) (k:=k) (l:=l) (s:=s) (p:=p) (z:=encI (zI 7)) (q:=N) hd (by rw [G6,K7]) 6 0 N (by omega) (by omega)
    have e0:encI (d.take 0 ++ zI (7 - 0))=[Cell.i .i64 0,.i .i64 0,.i .i64 0,.i .i64 0,.i .i64 0,.i .i64 0,.i .i64 0]:=rfl
    have e1:encI (zI 7)=[Cell.i .i64 0,.i .i64 0,.i .i64 0,.i .i64 0,.i .i64 0,.i .i64 0,.i .i64 0]:=rfl
    rw [e0,e1] at this
    rw [D3l]
    exact ⟨_,by simp only [esc,esh,Nat.reduceAdd,Nat.reduceMul,Nat.reduceLT,H5B hd];exact this⟩
  obtain ⟨g',e⟩:=key (h.length + 8) (by omega) (ro h)
  exact D5K e (by simp)
def B0m (l s p:Int) (d:List Int):Bool:=decide (l=0 ∧ s=0 ∧ p=0 ∧ d=zI 7)
def C95 (k l s p:Int) (d:List Int):Bool:=decide (0 ≤ k ∧ k ≤ 2) && (A0s l && (A0s p && (decide (0 ≤ s ∧ s ≤ 34304) && d.all A0s)))
def Y6 (k l s p:Int) (d:List Int):Bool:=if k=0 then B0m l s p d else C95 k l s p d
theorem B57 {h:A0} {d:List Int} {q:Nat} (hd:d.length=7):∀ e i m:Nat,i + e=7 → e < m →
    A85 q m (.a (encI d)) (.c (.i .i64 i)) h=some (.c (.i .i64 (bif (d.drop i).all A0s then 0 else 1)),h)
  | e,i,0,_,hm=>by omega
  | 0,i,m + 1,hi,hm=>by
    have c0:¬ (i:Int) < 7:=by omega
    rw [C4F,List.drop_of_length_le (by omega)]
    simp only [esc,c0,List.all_nil]
  | e + 1,i,m + 1,hi,hm=>by
    have ih:=B57 (h:=h) (q:=q) hd e (i + 1) m (by omega) (by omega)
    have c0:(i:Int) < 7:=by omega
    have hx:V9 7 (.a (encI d)) (.c (.i .i64 (i:Int)))=some (.c (.i .i64 d[i])):=by
      rw [A8R (by omega),Y2,List.getElem?_eq_getElem (by omega)];rfl
    rw [C4F,List.drop_eq_getElem_cons (by omega),List.all_cons]
    cases c1:A0s d[i] with
    | true =>
      simp only [esc,c0,hx,A1T,c1,Bool.true_and,E6 (show i + 1 < 9223372036854775808 by omega)]
      exact ih
    | false=>simp only [esc,c0,hx,A1T,c1,Bool.false_and]
theorem D6T {k l s p k' l' s' p':Int} {d d':List Int} {neg:Bool} (hd:d.length=7) (hd':d'.length=7) :
    aeq neg [Sh.i .i64,.i .i64,.i .i64,.i .i64,.i .i64,.i .i64,.i .i64,.i .i64,.i .i64,.i .i64,.i .i64] (.a (A7 k l s p d)) (.a (A7 k' l' s' p' d'))=some (.c (.b (bif neg then !decide (k :: l :: s :: p :: d=k' :: l' :: s' :: p' :: d') else decide (k :: l :: s :: p :: d=k' :: l' :: s' :: p' :: d')))):=by
  have h1:=D6O (l:=k :: l :: s :: p :: d) (m:=k' :: l' :: s' :: p' :: d') (n:=11) (by simp [hd]) (by simp [hd'])
  have h2:=D6N (l:=k :: l :: s :: p :: d) (m:=k' :: l' :: s' :: p' :: d') (n:=11) (by simp [hd]) (by simp [hd'])
  cases neg
  · exact h2
  · exact h1
theorem K1Y {l s p:Int} {d:List Int}:decide ((0:Int) :: l :: s :: p :: d=0 :: 0 :: 0 :: 0 :: zI 7)=B0m l s p d:=by
  unfold B0m
  simp
theorem B1d:B0 [Cell.i .i64 0,.i .i64 0,.i .i64 0,.i .i64 0,.i .i64 0,.i .i64 0,.i .i64 0,.i .i64 0,.i .i64 0,.i .i64 0,.i .i64 0] []=some (A7 0 0 0 0 (zI 7)):=rfl
theorem C4E {k l s p:Int} {d:List Int} {h:A0} (hd:d.length=7):A4P [.a (A7 k l s p d)] h=some (.c (.i .i64 (bif Y6 k l s p d then 0 else 1)),h):=by
  have hlen:(A7 k l s p d).length=11:=by simp [G6,hd]
  have key:∀ N,8 < N → ∀ g,∃ g',A6V N [.a (A7 k l s p d)] g=some (.c (.i .i64 (bif Y6 k l s p d then 0 else 1)),g'):=by
    intro N hN g
    have lp:=fun g=>B57 (h:=g) (q:=N) hd 7 0 N (by omega) (by omega)
    simp only [List.drop_zero,Int.cast_ofNat_Int] at lp
    rw [D3i]
    unfold Y6
    by_cases k0:k=0
    · subst k0
      rw [if_pos rfl]
      have c1:¬ (0:Int) < 0:=by omega
      have c2:¬ (2:Int) < 0:=by omega
      have hq:=D6T (k:=0) (l:=l) (s:=s) (p:=p) (k':=0) (l':=0) (s':=0) (p':=0) (neg:=true) hd (K7 (n:=7))
      simp only [cond_true,K1Y] at hq
      cases hz:B0m l s p d with
      | false =>
        rw [hz] at hq
        exact ⟨_,by simp only [esc,esh,Nat.reduceAdd,Nat.reduceMul,Nat.reduceLT,c1,c2,hlen,B1d,hq] <;> rfl⟩
      | true =>
        rw [hz] at hq
        have hz':=of_decide_eq_true hz
        obtain ⟨rfl,rfl,rfl,rfl⟩:=hz'
        have sm:A0s 0=true:=by decide
        have al:(zI 7).all A0s=true:=by decide
        have c3:¬ (34304:Int) < 0:=by omega
        rw [al] at lp
        exact ⟨_,by simp only [esc,esh,Nat.reduceAdd,Nat.reduceMul,Nat.reduceLT,c1,c2,c3,hlen,B1d,hq,A1T,sm,B2d hd,lp] <;> rfl⟩
    · rw [if_neg k0]
      unfold C95
      by_cases c1:k < 0
      · rw [decide_eq_false (show ¬ (0 ≤ k ∧ k ≤ 2) by omega)]
        exact ⟨_,by simp only [esc,esh,Nat.reduceAdd,Nat.reduceMul,Nat.reduceLT,c1,Bool.false_and] <;> rfl⟩
      · by_cases c2:2 < k
        · rw [decide_eq_false (show ¬ (0 ≤ k ∧ k ≤ 2) by omega)]
          exact ⟨_,by simp only [esc,esh,Nat.reduceAdd,Nat.reduceMul,Nat.reduceLT,c1,c2,Bool.false_and] <;> rfl⟩
        · rw [decide_eq_true (show 0 ≤ k ∧ k ≤ 2 by omega),Bool.true_and]
          cases sl:A0s l with
          | false=>exact ⟨_,by simp only [esc,esh,Nat.reduceAdd,Nat.reduceMul,Nat.reduceLT,c1,c2,k0,A1T,sl,Bool.false_and] <;> rfl⟩
          | true =>
            cases sp:A0s p with
            | false=>exact ⟨_,by simp only [esc,esh,Nat.reduceAdd,Nat.reduceMul,Nat.reduceLT,c1,c2,k0,A1T,sl,sp,Bool.true_and,Bool.false_and] <;> rfl⟩
            | true =>
              by_cases c3:s < 0
              · rw [decide_eq_false (show ¬ (0 ≤ s ∧ s ≤ 34304) by omega)]
                exact ⟨_,by simp only [esc,esh,Nat.reduceAdd,Nat.reduceMul,Nat.reduceLT,c1,c2,k0,A1T,sl,sp,c3,Bool.true_and,Bool.false_and] <;> rfl⟩
              · by_cases c4:34304 < s
                · rw [decide_eq_false (show ¬ (0 ≤ s ∧ s ≤ 34304) by omega)]
                  exact ⟨_,by simp only [esc,esh,Nat.reduceAdd,Nat.reduceMul,Nat.reduceLT,c1,c2,k0,A1T,sl,sp,c3,c4,Bool.true_and,Bool.false_and] <;> rfl⟩
                · rw [decide_eq_true (show 0 ≤ s ∧ s ≤ 34304 by omega)]
                  exact ⟨_,by simp only [esc,esh,Nat.reduceAdd,Nat.reduceMul,Nat.reduceLT,c1,c2,k0,A1T,sl,sp,c3,c4,Bool.true_and,hlen,B2d hd,lp] <;> rfl⟩
  obtain ⟨g',e⟩:=key (h.length + 9) (by omega) (ro h)
  exact D5E e rfl
def Q4 (k l s p:Int):List UInt8:=B5 1 k ++ zeros 1 ++ B5 2 l ++ B5 4 s ++ B5 2 p
def O0 (d:List Int):List UInt8:=(d.map (B5 2)).flatten
def J0 (k l s p:Int) (d:List Int):List UInt8:=Q4 k l s p ++ O0 d ++ zeros 8
theorem A5r {k l s p:Int}:(Q4 k l s p).length=10:=by simp [Q4]
theorem A83 {d:List Int}:(O0 d).length=2 * d.length:=by
  unfold O0
  induction d with
  | nil=>rfl
  | cons x d ih=>simp only [List.map_cons,List.flatten_cons,List.length_append,A1g,List.length_cons,ih];omega
theorem A5q {k l s p:Int} {d:List Int} (hd:d.length=7):(J0 k l s p d).length=32:=by
  unfold J0;rw [List.length_append,List.length_append,A5r,A83,zeros_length,hd]
theorem H5z {d:List Int} {x:Int}:O0 (d ++ [x])=O0 d ++ B5 2 x:=by simp [O0]
theorem H5A {k l s p:Int}:L7 (L7 (L7 (L7 (zeros 256) 0 1 k) 2 2 l) 4 4 s) 8 2 p=D4 256 (Q4 k l s p):=by
  rw [← B2w]
  have h1:=A0P (l:=[]) (a:=0) (w:=1) (v:=k) (by simp) (by omega) (by omega) (by omega)
  have h2:=A0P (l:=[] ++ zeros (0 - 0) ++ B5 1 k) (a:=2) (w:=2) (v:=l) (by simp) (by omega) (by omega) (by omega)
  have h3:=A0P (l:=[] ++ zeros (0 - 0) ++ B5 1 k ++ zeros 1 ++ B5 2 l) (a:=4) (w:=4) (v:=s) (by simp) (by omega) (by omega) (by omega)
  have h4:=A0P (l:=[] ++ zeros (0 - 0) ++ B5 1 k ++ zeros 1 ++ B5 2 l ++ zeros 0 ++ B5 4 s) (a:=8) (w:=2) (v:=p) (by simp) (by omega) (by omega) (by omega)
  simp only [List.length_append,List.length_nil,zeros_length,A1g,Nat.sub_self,Nat.zero_sub,Nat.reduceAdd,Nat.reduceSub] at h1 h2 h3 h4
  simp only [Int.cast_ofNat_Int] at h1 h2 h3 h4
  rw [h1,h2,h3,h4]
  congr 1
theorem C9F {g:A0} {c0:List Cell} {B:List UInt8} {z:List Cell} {q:Nat} (hB:B.length=256) (hz:z.length=32):∀ e i m:Nat,i + e=32 → e < m →
    A9d q m (.c (.p (g.length + 1) 0)) (.c (.p (g.length + 2) 0)) (.c (.p (g.length + 3) 0)) (.c (.i .i64 i)) (g ++ [some ⟨c0,true⟩,some ⟨z,true⟩,some ⟨A3 (B.take i ++ zeros (32 - i)),true⟩,some ⟨A3 B,true⟩]) =
      some (.t [.a (A3 (B.take 32)),.c (.i .i64 0)],g ++ [some ⟨c0,true⟩,some ⟨A3 (B.take 32),true⟩,some ⟨A3 (B.take 32),true⟩,some ⟨A3 B,true⟩])
  | e,i,0,_,hm=>by omega
  | 0,i,m + 1,hi,hm=>by
    have e0:i=32:=by omega
    subst e0
    have h1':¬ ((32:Nat):Int) < 32:=by omega
    have hl:(A3 (B.take 32)).length=32:=by rw [B4,List.length_take];omega
    have e1:A3 (B.take 32 ++ zeros (32 - 32))=A3 (B.take 32):=by simp [zeros]
    rw [C5u,e1]
    simp only [esc,esh,Nat.reduceAdd,Nat.reduceMul,Nat.reduceLT,h1',hl,hz]
  | e + 1,i,m + 1,hi,hm=>by
    have ih:=C9F (g:=g) (c0:=c0) (q:=q) hB hz e (i + 1) m (by omega) (by omega)
    have h1':(i:Int) < 32:=by omega
    have a1:D7 256 1 (.c (.p (g.length + 3) 0)) (.c (.i .i64 (i:Int)))=some (.c (.p (g.length + 3) i)):=by rw [S5 (by omega)];simp
    have a2:D7 32 1 (.c (.p (g.length + 2) 0)) (.c (.i .i64 (i:Int)))=some (.c (.p (g.length + 2) i)):=by rw [S5 (by omega)];simp
    have l1:(A3 B)[i]? = some (.i .u8 B[i].toNat):=by rw [W4,List.getElem?_eq_getElem (by omega)];rfl
    have ho:i < (A3 (B.take i ++ zeros (32 - i))).length:=by rw [B4,List.length_append,zeros_length,List.length_take];omega
    have es:(A3 (B.take i ++ zeros (32 - i))).set i (.i .u8 B[i].toNat)=A3 (B.take (i + 1) ++ zeros (32 - (i + 1))):=by
      rw [A0G]
      refine congrArg A3 ?_
      have h6:(B.take i).length=i:=by simp;omega
      rw [List.set_append_right _ _ (by omega),h6,Nat.sub_self,List.take_succ_eq_append_getElem (by omega),List.append_assoc]
      refine congrArg (B.take i ++ ·) ?_
      rw [show 32 - i=32 - (i + 1) + 1 by omega]
      unfold zeros
      rw [List.replicate_succ,List.set_cons_zero];rfl
    rw [C5u]
    simp only [esc,esh,Nat.reduceAdd,Nat.reduceMul,Nat.reduceLT,h1',a1,a2,l1,ho,es,E6 (show i + 1 < 9223372036854775808 by omega)]
    exact ih
theorem C9G {g:A0} {k l s p:Int} {d:List Int} {c0 z:List Cell} {q:Nat} (hd:d.length=7) (hz:z.length=32) (hq:33 < q):∀ e i m:Nat,i + e=7 → e < m →
    A9c q m (.c (.p (g.length + 1) 0)) (.c (.p (g.length + 2) 0)) (.c (.p (g.length + 3) 0)) (.a (encI d)) (.c (.i .i64 i)) (g ++ [some ⟨c0,true⟩,some ⟨z,true⟩,some ⟨A3 (zeros 32),true⟩,some ⟨A3 (D4 256 (Q4 k l s p ++ O0 (d.take i))),true⟩]) =
      some (.t [.a (A3 (J0 k l s p d)),.c (.i .i64 0)],g ++ [some ⟨c0,true⟩,some ⟨A3 (J0 k l s p d),true⟩,some ⟨A3 (J0 k l s p d),true⟩,some ⟨A3 (D4 256 (Q4 k l s p ++ O0 d)),true⟩])
  | e,i,0,_,hm=>by omega
  | 0,i,m + 1,hi,hm=>by
    have e0:i=7:=by omega
    subst e0
    have h1':¬ ((7:Nat):Int) < 7:=by omega
    rw [List.take_of_length_le (by omega)]
    have hlen:(Q4 k l s p ++ O0 d).length=24:=by rw [List.length_append,A5r,A83,hd]
    have:=C9F (g:=g) (c0:=c0) (z:=z) (q:=q) (B:=D4 256 (Q4 k l s p ++ O0 d)) (J1 (by omega)) hz 32 0 q (by omega) (by omega)
    have e1:(D4 256 (Q4 k l s p ++ O0 d)).take 32=J0 k l s p d:=by
      unfold D4 J0
      rw [List.take_append,List.take_of_length_le (by omega),hlen]
      refine congrArg (Q4 k l s p ++ O0 d ++ ·) ?_
      unfold zeros
      rw [List.take_replicate];rfl
    rw [e1] at this
    simp only [List.take_zero,List.nil_append,Nat.sub_zero] at this
    rw [C5t]
    simp only [esc,h1']
    exact this
  | e + 1,i,m + 1,hi,hm=>by
    have ih:=C9G (g:=g) (k:=k) (l:=l) (s:=s) (p:=p) (c0:=c0) hd hz hq e (i + 1) m (by omega) (by omega)
    have h1':(i:Int) < 7:=by omega
    have hx:V9 7 (.a (encI d)) (.c (.i .i64 (i:Int)))=some (.c (.i .i64 d[i])):=by
      rw [A8R (by omega),Y2,List.getElem?_eq_getElem (by omega)];rfl
    have hlen:(Q4 k l s p ++ O0 (d.take i)).length=10 + 2 * i:=by rw [List.length_append,A5r,A83,List.length_take];omega
    have hL:(A3 (D4 256 (Q4 k l s p ++ O0 (d.take i)))).length=256:=by rw [B4,J1 (by omega)]
    have e2:IntKind.wrap .i64 (2 * (i:Int))=((2 * i:Nat):Int):=by rw [wrap_i64 (by omega) (by omega)];omega
    have e3:IntKind.wrap .i64 (10 + ((2 * i:Nat):Int))=((10 + 2 * i:Nat):Int):=by rw [wrap_i64 (by omega) (by omega)];omega
    have hw:=A0L (l:=D4 256 (Q4 k l s p ++ O0 (d.take i))) (h:=g ++ [some ⟨c0,true⟩,some ⟨z,true⟩,some ⟨A3 (zeros 32),true⟩,some ⟨A3 (D4 256 (Q4 k l s p ++ O0 (d.take i))),true⟩]) (J1 (by omega)) (a:=((10 + 2 * i:Nat):Int)) (w:=2) (v:=d[i])
    have e4:=A0P (l:=Q4 k l s p ++ O0 (d.take i)) (a:=10 + 2 * i) (w:=2) (v:=d[i]) (by omega) (by omega) (by omega) (by omega)
    rw [show ((2:Nat):Int)=2 from rfl,hlen,Nat.sub_self,show zeros 0=[] from rfl,List.append_nil,List.append_assoc,← H5z,← List.take_succ_eq_append_getElem (by omega)] at e4
    rw [e4] at hw
    have hL':(A3 (D4 256 (Q4 k l s p ++ O0 (d.take (i + 1))))).length=256:=by
      rw [B4,J1 (by rw [List.length_append,A5r,A83,List.length_take];omega)]
    rw [C5t]
    simp only [esc,esh,Nat.reduceAdd,Nat.reduceMul,Nat.reduceLT,h1',hx,hL,e2,e3,hw,hL',E6 (show i + 1 < 9223372036854775808 by omega)]
    exact ih
theorem C5s {k l s p:Int} {d:List Int} {h:A0} (hd:d.length=7) :
    A2I [.a (A7 k l s p d)] h=some (.t [.a (A3 (bif Y6 k l s p d then J0 k l s p d else zeros 32)),.c (.i .i64 (bif Y6 k l s p d then 0 else 1))],h):=by
  have hlen:(A7 k l s p d).length=11:=by simp [G6,hd]
  have key:∀ N,33 < N → ∀ g,∃ g',A6Z N [.a (A7 k l s p d)] g=some (.t [.a (A3 (bif Y6 k l s p d then J0 k l s p d else zeros 32)),.c (.i .i64 (bif Y6 k l s p d then 0 else 1))],g'):=by
    intro N hN g
    have hz:(A3 (zeros 32)).length=32:=by rw [B4];exact zeros_length
    have hz2:(A3 (zeros 256)).length=256:=by rw [B4];exact zeros_length
    rw [D3m,M0,M0]
    cases c:Y6 k l s p d with
    | false =>
      generalize zeros 32=z at *
      generalize zeros 256=y at *
      exact ⟨_,by simp only [esc,esh,Nat.reduceAdd,Nat.reduceMul,Nat.reduceLT,hlen,C4E hd,c,hz,Int.reduceEq] <;> rfl⟩
    | true =>
      have:=C9G (g:=g) (k:=k) (l:=l) (s:=s) (p:=p) (c0:=A7 k l s p d) (z:=A3 (zeros 32)) (q:=N) hd hz hN 7 0 N (by omega) (by omega)
      simp only [List.take_zero,show O0 []=[] from rfl,List.append_nil] at this
      have w1:=fun h=>A0L (h:=h) (l:=zeros 256) zeros_length (a:=0) (w:=1) (v:=k)
      have w2:=fun h=>A0L (h:=h) (l:=L7 (zeros 256) 0 1 k) (Z2 zeros_length) (a:=2) (w:=2) (v:=l)
      have w3:=fun h=>A0L (h:=h) (l:=L7 (L7 (zeros 256) 0 1 k) 2 2 l) (Z2 (Z2 zeros_length)) (a:=4) (w:=4) (v:=s)
      have w4:=fun h=>A0L (h:=h) (l:=L7 (L7 (L7 (zeros 256) 0 1 k) 2 2 l) 4 4 s) (Z2 (Z2 (Z2 zeros_length))) (a:=8) (w:=2) (v:=p)
      have l1:(A3 (L7 (zeros 256) 0 1 k)).length=256:=by rw [B4,Z2 zeros_length]
      have l2:(A3 (L7 (L7 (zeros 256) 0 1 k) 2 2 l)).length=256:=by rw [B4,Z2 (Z2 zeros_length)]
      have l3:(A3 (L7 (L7 (L7 (zeros 256) 0 1 k) 2 2 l) 4 4 s)).length=256:=by rw [B4,Z2 (Z2 (Z2 zeros_length))]
      have l4:(A3 (D4 256 (Q4 k l s p))).length=256:=by rw [B4,J1 (by rw [A5r];omega)]
      simp only [H5A] at w4
      generalize zeros 32=z at *
      generalize zeros 256=y at *
      exact ⟨_,by simp only [esc,esh,Nat.reduceAdd,Nat.reduceMul,Nat.reduceLT,hlen,C4E hd,c,hz,hz2,w1,w2,w3,w4,l1,l2,l3,l4,B2d hd];exact this⟩
  obtain ⟨g',e⟩:=key (h.length + 34) (by omega) (ro h)
  exact D5L e (by simp)
def S4 (b:List UInt8):Int:=fieldN b 0 1
def U6 (b:List UInt8):Int:=fieldN b 2 2
def U8 (b:List UInt8):Int:=fieldN b 4 4
def U7 (b:List UInt8):Int:=fieldN b 8 2
def H3 (b:List UInt8):List Int:=(List.range 7).map fun j=>fieldN b (10 + 2 * j) 2
theorem O8 {b:List UInt8}:(H3 b).length=7:=by simp [H3]
theorem C3e {b:List UInt8} {i:Nat} (hi:i < 7):(H3 b)[i]? = some (fieldN b (10 + 2 * i) 2):=by simp [H3,hi]
theorem C4A {k l s p x:Int} {d:List Int} {i:Nat}:(A7 k l s p d).set (4 + i) (.i .i64 x)=A7 k l s p (d.set i x):=by
  rw [show 4 + i=i + 1 + 1 + 1 + 1 by omega]
  simp only [A7,List.set_cons_succ,A78]
theorem D1E {D:List Int} (hD:D.length=7) {i:Nat} (hi:i < 7):(D.take i ++ zI (7 - i)).set i D[i]=D.take (i + 1) ++ zI (7 - (i + 1)):=by
  have h6:(D.take i).length=i:=by simp;omega
  rw [List.set_append_right _ _ (by omega),h6,Nat.sub_self,List.take_succ_eq_append_getElem (by omega),List.append_assoc]
  refine congrArg (D.take i ++ ·) ?_
  rw [show 7 - i=7 - (i + 1) + 1 by omega]
  unfold zI
  rw [List.replicate_succ,List.set_cons_zero];rfl
theorem C3m {g:A0} {b:List UInt8} {k l s p:Int} {c0 z:List Cell} {q:Nat} (hb:b.length=32) (hz:z.length=11):∀ e i m:Nat,i + e=6 → e < m →
    A87 q m (.c (.p (g.length + 1) 0)) (.c (.p (g.length + 2) 0)) (.c (.p (g.length + 3) 0)) (.c (.i .i64 i)) (g ++ [some ⟨c0,true⟩,some ⟨z,true⟩,some ⟨A3 (D4 256 b),true⟩,some ⟨A7 k l s p ((H3 b).take i ++ zI (7 - i)),true⟩]) =
      some (.a (A7 k l s p (H3 b)),g ++ [some ⟨c0,true⟩,some ⟨A7 k l s p (H3 b),true⟩,some ⟨A3 (D4 256 b),true⟩,some ⟨A7 k l s p (H3 b),true⟩])
  | e,i,0,_,hm=>by omega
  | 0,i,m + 1,hi,hm=>by
    have e0:i=6:=by omega
    subst e0
    have h1':¬ ((6:Nat):Int) < 6:=by omega
    have hX:(A3 (D4 256 b)).length=256:=by rw [B4,J1 (by omega)]
    have ha:=fun h=>A10 (h:=h) (l:=D4 256 b) (J1 (by omega)) (a:=22) (w:=2)
    have e1:=B1m (b:=b) (a:=22) (w:=2) (by omega) (by omega) (by omega) (by omega)
    simp only [Int.cast_ofNat_Int] at e1
    simp only [e1] at ha
    have hl0:(A7 k l s p ((H3 b).take 6 ++ zI (7 - 6))).length=11:=by simp [G6,O8,K7]
    have ho:(encI ((H3 b).take 6 ++ zI (7 - 6))).length=7:=by simp [G6,O8,K7]
    have hg6:(H3 b)[6]'(by rw [O8];omega)=fieldN b 22 2:=by
      have:=C3e (b:=b) (i:=6) (by omega)
      rw [List.getElem?_eq_getElem (by rw [O8];omega)] at this
      exact Option.some.inj this
    have es:(A7 k l s p ((H3 b).take 6 ++ zI (7 - 6))).set 10 (.i .i64 (fieldN b 22 2))=A7 k l s p (H3 b):=by
      have h1:=C4A (k:=k) (l:=l) (s:=s) (p:=p) (x:=fieldN b 22 2) (d:=(H3 b).take 6 ++ zI (7 - 6)) (i:=6)
      rw [show 4 + 6=10 from rfl] at h1
      rw [h1,← hg6,D1E O8 (by omega)]
      have:(H3 b).take (6 + 1) ++ zI (7 - (6 + 1))=H3 b:=by rw [List.take_of_length_le (by rw [O8];omega)];simp [zI]
      rw [this]
    have hl1:(A7 k l s p (H3 b)).length=11:=by simp [G6,O8]
    rw [C40]
    simp only [esc,esh,Nat.reduceAdd,Nat.reduceMul,Nat.reduceLT,h1',hX,ha,ho,es,hl1,hz,G6,O8]
  | e + 1,i,m + 1,hi,hm=>by
    have ih:=C3m (g:=g) (k:=k) (l:=l) (s:=s) (p:=p) (c0:=c0) (q:=q) hb hz e (i + 1) m (by omega) (by omega)
    have h1':(i:Int) < 6:=by omega
    have hX:(A3 (D4 256 b)).length=256:=by rw [B4,J1 (by omega)]
    have e2:IntKind.wrap .i64 (2 * (i:Int))=((2 * i:Nat):Int):=by rw [wrap_i64 (by omega) (by omega)];omega
    have e3:IntKind.wrap .i64 (10 + ((2 * i:Nat):Int))=((10 + 2 * i:Nat):Int):=by rw [wrap_i64 (by omega) (by omega)];omega
    have ha:=fun h=>A10 (h:=h) (l:=D4 256 b) (J1 (by omega)) (a:=((10 + 2 * i:Nat):Int)) (w:=2)
    have e1:=B1m (b:=b) (a:=10 + 2 * i) (w:=2) (by omega) (by omega) (by omega) (by omega)
    rw [show ((2:Nat):Int)=2 from rfl] at e1
    simp only [e1] at ha
    have a1:D7 6 1 (.c (.p (g.length + 3) 4)) (.c (.i .i64 (i:Int)))=some (.c (.p (g.length + 3) (4 + i))):=by rw [S5 (by omega)];simp
    have ho:(encI ((H3 b).take i ++ zI (7 - i))).length=7:=by simp [G6,O8,K7];omega
    have ho2:4 + i < 11:=by omega
    have hgi:(H3 b)[i]'(by rw [O8];omega)=fieldN b (10 + 2 * i) 2:=by
      have:=C3e (b:=b) (i:=i) (by omega)
      rw [List.getElem?_eq_getElem (by rw [O8];omega)] at this
      exact Option.some.inj this
    have es:(A7 k l s p ((H3 b).take i ++ zI (7 - i))).set (4 + i) (.i .i64 (fieldN b (10 + 2 * i) 2))=A7 k l s p ((H3 b).take (i + 1) ++ zI (7 - (i + 1))):=by
      rw [C4A,← hgi,D1E O8 (by omega)]
    rw [C40]
    simp only [esc,esh,Nat.reduceAdd,Nat.reduceMul,Nat.reduceLT,h1',hX,e2,e3,ha,a1,ho,ho2,es,E6 (show i + 1 < 9223372036854775808 by omega)]
    exact ih
theorem B2c {b:List UInt8} {h:A0} (hb:b.length=32):A4R [.a (A3 b)] h=some (.a (A7 (S4 b) (U6 b) (U8 b) (U7 b) (H3 b)),h):=by
  have key:∀ N,7 < N → ∀ g,∃ g',A6X N [.a (A3 b)] g=some (.a (A7 (S4 b) (U6 b) (U8 b) (U7 b) (H3 b)),g'):=by
    intro N hN g
    have hl:(A3 b).length=32:=by rw [B4,hb]
    have hX:(A3 (D4 256 b)).length=256:=by rw [B4,J1 (by omega)]
    have hz:(List.replicate 256 (Cell.i .u8 0)).length=256:=List.length_replicate
    have z11:[Cell.i .i64 0,.i .i64 0,.i .i64 0,.i .i64 0,.i .i64 0,.i .i64 0,.i .i64 0,.i .i64 0,.i .i64 0,.i .i64 0,.i .i64 0]=A7 0 0 0 0 (zI 7):=rfl
    have l11:(A7 0 0 0 0 (zI 7)).length=11:=rfl
    have ho:=A9M (h:=g ++ [some ⟨A3 b,true⟩,some ⟨A7 0 0 0 0 (zI 7),true⟩]) (v:=.c (.sl g.length 0 32 1)) (nv:=32) (data:=b) (Has.tr (by simp) (by omega) (I3 _)) (by omega)
    rw [A9S (by omega)] at ho
    have at_:∀ (a w:Nat),a + w ≤ 32 → 1 ≤ w → w ≤ 4 → ∀ h,N5 [.a (A3 (D4 256 b)),.c (.i .i64 a),.c (.i .i64 w)] h=some (.c (.i .i64 (fieldN b a w)),h):=fun a w h1 h2 h3 h=>by
      rw [A10 (J1 (by omega)),B1m (by omega) (by omega) h2 h3]
    have a1:=at_ 0 1 (by omega) (by omega) (by omega)
    have a2:=at_ 2 2 (by omega) (by omega) (by omega)
    have a3:=at_ 4 4 (by omega) (by omega) (by omega)
    have a4:=at_ 8 2 (by omega) (by omega) (by omega)
    simp only [Int.cast_ofNat_Int] at a1 a2 a3 a4
    have ef:B0 (A7 0 0 0 0 (zI 7)) [(0,1,.c (.i .i64 (fieldN b 0 1))),(1,1,.c (.i .i64 (fieldN b 2 2))),(2,1,.c (.i .i64 (fieldN b 4 4))),(3,1,.c (.i .i64 (fieldN b 8 2)))]=some (A7 (S4 b) (U6 b) (U8 b) (U7 b) (zI 7)):=rfl
    have lf:(A7 (S4 b) (U6 b) (U8 b) (U7 b) (zI 7)).length=11:=rfl
    have:=C3m (g:=g) (b:=b) (k:=S4 b) (l:=U6 b) (s:=U8 b) (p:=U7 b) (c0:=A3 b) (z:=A7 0 0 0 0 (zI 7)) (q:=N) hb l11 6 0 N (by omega) (by omega)
    simp only [List.take_zero,List.nil_append,Nat.sub_zero] at this
    rw [D3k,z11]
    generalize List.replicate 256 (Cell.i .u8 0)=z at *
    generalize A7 0 0 0 0 (zI 7)=y at *
    exact ⟨_,by simp only [esc,esh,Nat.reduceAdd,Nat.reduceMul,Nat.reduceLT,hl,ho,hz,hX,a1,a2,a3,a4,ef,l11,lf];exact this⟩
  obtain ⟨g',e⟩:=key (h.length + 8) (by omega) (ro h)
  exact D5I e (by simp)
def A0F (b:List UInt8):Bool:=Y6 (S4 b) (U6 b) (U8 b) (U7 b) (H3 b) && decide (J0 (S4 b) (U6 b) (U8 b) (U7 b) (H3 b)=b)
def W2 (b:List UInt8):List Cell:=bif A0F b then A7 (S4 b) (U6 b) (U8 b) (U7 b) (H3 b) else A7 0 0 0 0 (zI 7)
theorem B6f {b:List UInt8}:(W2 b).length=11:=by
  unfold W2
  cases A0F b <;> simp [G6,O8,K7]
theorem C2m {b:List UInt8}:D9 (W2 b)=true:=by
  unfold W2
  cases A0F b <;> simp
theorem H7b {b:List UInt8} {h:A0} (hb:b.length=32):A4Q [.a (A3 b)] h=some (.t [.a (W2 b),.c (.b (A0F b))],h):=by
  have key:∀ g,∃ g',A6W 0 [.a (A3 b)] g=some (.t [.a (W2 b),.c (.b (A0F b))],g'):=by
    intro g
    have hl:(A3 b).length=32:=by rw [B4,hb]
    have hI:(A7 (S4 b) (U6 b) (U8 b) (U7 b) (H3 b)).length=11:=by simp [G6,O8]
    have z11:[Cell.i .i64 0,.i .i64 0,.i .i64 0,.i .i64 0,.i .i64 0,.i .i64 0,.i .i64 0,.i .i64 0,.i .i64 0,.i .i64 0,.i .i64 0]=A7 0 0 0 0 (zI 7):=rfl
    have l11:(A7 0 0 0 0 (zI 7)).length=11:=rfl
    have af:=B1d
    rw [z11] at af
    have hz:(List.replicate 32 (Cell.i .u8 0)).length=32:=List.length_replicate
    have hp:=fun h=>C5s (h:=h) (k:=S4 b) (l:=U6 b) (s:=U8 b) (p:=U7 b) (d:=H3 b) O8
    have hB:(A3 (J0 (S4 b) (U6 b) (U8 b) (U7 b) (H3 b))).length=32:=by rw [B4,A5q O8]
    have hZ:(A3 (zeros 32)).length=32:=by rw [B4];exact zeros_length
    have hq:=A7t (l:=J0 (S4 b) (U6 b) (U8 b) (U7 b) (H3 b)) (m:=b) (n:=32) (A5q O8) hb
    rw [D3j,z11]
    unfold W2 A0F
    generalize List.replicate 32 (Cell.i .u8 0)=z at *
    generalize A7 0 0 0 0 (zI 7)=y at *
    cases c:Y6 (S4 b) (U6 b) (U8 b) (U7 b) (H3 b) with
    | false =>
      simp only [c,cond_false] at hp
      exact ⟨_,by simp only [esc,esh,Nat.reduceAdd,Nat.reduceMul,Nat.reduceLT,hl,B2c hb,hI,l11,hp,hz,hZ,Int.reduceEq,af,Bool.false_and] <;> rfl⟩
    | true =>
      simp only [c,cond_true] at hp
      cases c2:decide (J0 (S4 b) (U6 b) (U8 b) (U7 b) (H3 b)=b) with
      | false =>
        rw [c2] at hq
        exact ⟨_,by simp only [esc,esh,Nat.reduceAdd,Nat.reduceMul,Nat.reduceLT,hl,B2c hb,hI,l11,hp,hz,hB,hq,af,Bool.and_false] <;> rfl⟩
      | true =>
        rw [c2] at hq
        exact ⟨_,by simp only [esc,esh,Nat.reduceAdd,Nat.reduceMul,Nat.reduceLT,hl,B2c hb,hI,l11,hp,hz,hB,hq,Bool.and_true] <;> rfl⟩
  obtain ⟨g',e⟩:=key (ro h)
  exact D5G e (by simp [C2m])
end Go.Proofs.YtdgggnlbdoiloaaGreat
end
noncomputable section
namespace Go.Proofs.YtdgggnlbdoiloaaGreat
open Go Go.Esc
set_option maxRecDepth 100000
def C4g:List AOper:=[aO 1 (.box (.t 0)),aO 2 (.mv (.v (.c (.i .i64 0))))]
def H4p:ACode:=.ops C4g
def C4h:List AOper:=[aO 3 (.fAddr (.t 1) 0),aO 4 (.load1 (.t 3)),aO 5 (.min (.t 4) (.v (.c (.i .i64 5)))),aO 6 (.max (.v (.c (.i .i64 0))) (.t 5)),aO 2 (.mv (.t 6))]
def H4r:ACode:=.ops C4h
def H4t:ACode:=.seq [2] H4r .ret
def H4v:ACode:=.seq [1] H4p H4t
def A_index_depth:AFn:=⟨H4v,[.tmp 2]⟩
def A50:B6:=C1
def H4q (n:Nat):SmV:=A2 A50 C4g
def H4s (n:Nat):SmV:=A2 A50 C4h
def H4u (n:Nat):SmV:=A1 [2] (H4s n) A8
def H4w (n:Nat):SmV:=A1 [1] (H4q n) (H4u n)
def A6S (n:Nat) (args:List Val) (h:A0):A6:=(H4w n) A_index_depth.fin (params 0 args) h
theorem D3e (n:Nat) (a0:Val) (h:A0):A6S n [a0] h=bnd (cells? a0) fun c1=>bnd (B9 ((.c (.p h.length 0))) 0) fun v2=>bnd (A9 ((h ++ [some (Row.mk (c1) true)])) v2) fun v3=>bnd (A1e v3 (.c (.i .i64 5))) fun v4=>bnd (A3E (.c (.i .i64 0)) v4) fun v5=>some (v5,(h ++ [some (Row.mk (c1) true)])):=by kernel_rfl
theorem K_index_depth:FnK Tryz.prog 77 A_index_depth A50 A6S:=.mk' (C3) Tryz.func77 (by kernel_rfl) (by intro n args h;kernel_rfl)
def A07:Fun:=tidy (Lim A_index_depth A50)
theorem B04:SOk Tryz.prog 77 A07:=K_index_depth.sok
theorem D5y {n:Nat} {args:List Val} {h h2:A0} {v:Val} (he:A6S n args (ro h)=some (v,h2)) (hf:v.flat=true):A07 args h=some (v,h):=K_index_depth.flat he hf
def C4i:List AOper:=[aO 2 (.mv (.v (.c (.b false))))]
def H4x:ACode:=.ops C4i
def C4j:List AOper:=[aO 3 (.mv (.t 0)),aO 4 (.bin .geq (.t 3) (.v (.c (.i .i64 0)))),aO 5 (.mv (.t 4)),{ dst:=some 6,op:=.mv (.t 0),guard:=some (5,true) },{ dst:=some 7,op:=.bin .leq (.t 6) (.v (.c (.i .i64 65535))),guard:=some (5,true) },aO 8 (.pick (.t 5) (.t 7) (.v (.c (.b false)))),aO 2 (.mv (.t 8))]
def H4z:ACode:=.ops C4j
def H4B:ACode:=.seq [2] H4z .ret
def H4D:ACode:=.seq [0] H4x H4B
def A_index_fine:AFn:=⟨H4D,[.tmp 2]⟩
def A51:B6:=C1
def H4y (n:Nat):SmV:=A2 A51 C4i
def H4A (n:Nat):SmV:=A2 A51 C4j
def H4C (n:Nat):SmV:=A1 [2] (H4A n) A8
def H4E (n:Nat):SmV:=A1 [0] (H4y n) (H4C n)
def B0O (n:Nat) (args:List Val) (h:A0):A6:=(H4E n) A_index_fine.fin (params 0 args) h
theorem D3f (n:Nat) (a0:Val) (h:A0):B0O n [a0] h=bnd (A4 .geq a0 (.c (.i .i64 0))) fun v1=>bnd (gd v1 true (some (a0,h)) (some (.no,h))) fun p2=>bnd (gd v1 true (bnd (A4 .leq p2.1 (.c (.i .i64 65535))) fun v3=>some (v3,p2.2)) (some (.no,p2.2))) fun p4=>bnd (C5 v1 p4.1 (.c (.b false))) fun v5=>some (v5,p4.2):=by kernel_rfl
theorem K_index_fine:FnK Tryz.prog 98 A_index_fine A51 B0O:=.mk' (C3) Tryz.func98 (by kernel_rfl) (by intro n args h;kernel_rfl)
def A4N:Fun:=tidy (Lim A_index_fine A51)
theorem D5A:SOk Tryz.prog 98 A4N:=K_index_fine.sok
theorem D5z {n:Nat} {args:List Val} {h h2:A0} {v:Val} (he:B0O n args (ro h)=some (v,h2)) (hf:v.flat=true):A4N args h=some (v,h):=K_index_fine.flat he hf
def C32:List AOper:=[aO 1 (.box (.t 0)),aO 2 (.alloc (List.replicate 256 (.i .u8 0))),aO 3 (.mv (.v (.c (.i .i64 0))))]
def H3m:ACode:=.ops C32
def C33:List AOper:=[aO 7 (.fAddr (.t 1) 0),aO 8 (.load1 (.t 7)),aO 9 (.loadN 33 (.t 1)),aO 10 (.call 77 [(.t 9)])]
def C38:List AOper:=[aO 11 (.bin .neq (.t 8) (.t 10))]
def H3o:ACode:=.draw 0 C33 C38
def C39:List AOper:=[aO 12 (.build (List.replicate 256 (.i .u8 0)) []),{ dst:=none,op:=.storeN 256 (.t 2) (.t 12) },aO 3 (.mv (.v (.c (.i .i64 1))))]
def H3K:ACode:=.ops C39
def H34:ACode:=.seq [2,3] H3K .ret
def H4c:ACode:=.cond (.t 11) H34 .skip
def H4e:ACode:=.seq [1,2,11] H3o H4c
def C4a:List AOper:=[{ dst:=some 13,op:=.buildSl 1 4 ([.i .u8 0,.i .u8 0,.i .u8 0,.i .u8 0]) [(0,1,(.v (.c (.i .u8 105)))),(1,1,(.v (.c (.i .u8 100)))),(2,1,(.v (.c (.i .u8 120)))),(3,1,(.v (.c (.i .u8 33))))],slot:=some 0 },aO 14 (.mark (.t 13)),aO 15 (.call 92 [(.t 14)]),aO 16 (.fAddr (.t 1) 0),aO 17 (.load1 (.t 16)),aO 18 (.call 93 [(.t 15),(.v (.c (.i .i64 4))),(.v (.c (.i .i64 1))),(.t 17)]),{ dst:=some 4,op:=.alloc (List.replicate 256 (.i .u8 0)),slot:=some 1 }]
def C4b:List AOper:=[{ dst:=none,op:=.storeN 256 (.t 4) (.t 18) }]
def H4g:ACode:=.draw 2 C4a C4b
def C4c:List AOper:=[aO 19 (.fAddr (.t 1) 1),aO 20 (.loadN 32 (.t 19)),aO 21 (.mv (.v (.c (.i .i64 0))))]
def H4i:ACode:=.ops C4c
def C4d:List AOper:=[aO 22 (.bin .lss (.t 21) (.v (.c (.i .i64 32))))]
def H4k:ACode:=.ops C4d
def H4m:ACode:=.cond (.t 22) .skip (.exit 0)
def C4e:List AOper:=[aO 23 (.mv (.t 21)),aO 24 (.idxA1 32 (.t 20) (.t 21)),aO 5 (.mv (.t 23)),aO 6 (.mv (.t 24))]
def H3p:ACode:=.ops C4e
def C4f:List AOper:=[aO 25 (.mv (.t 6)),aO 26 (.call 98 [(.t 25)]),aO 27 (.un .not (.t 26))]
def H3r:ACode:=.ops C4f
def C34:List AOper:=[aO 28 (.build (List.replicate 256 (.i .u8 0)) []),{ dst:=none,op:=.storeN 256 (.t 2) (.t 28) },aO 3 (.mv (.v (.c (.i .i64 1))))]
def H3t:ACode:=.ops C34
def H3v:ACode:=.seq [2,3] H3t .ret
def H3x:ACode:=.cond (.t 27) H3v .skip
def H3z:ACode:=.seq [2,4,5,6,20,21,27] H3r H3x
def C35:List AOper:=[aO 29 (.loadN 256 (.t 4)),aO 30 (.mv (.t 5)),aO 31 (.bin .mul (.v (.c (.i .i64 2))) (.t 30)),aO 32 (.bin .add (.v (.c (.i .i64 32))) (.t 31)),aO 33 (.mv (.t 6)),aO 34 (.call 93 [(.t 29),(.t 32),(.v (.c (.i .i64 2))),(.t 33)]),{ dst:=none,op:=.storeN 256 (.t 4) (.t 34) }]
def H3B:ACode:=.ops C35
def H3D:ACode:=.seq [2,4,5,6,20,21] H3z H3B
def H3F:ACode:=.seq [2,4,5,6,20,21] H3p H3D
def H3H:ACode:=.block 1 H3F
def C36:List AOper:=[aO 35 (.bin .add (.t 21) (.v (.c (.i .i64 1)))),aO 21 (.mv (.t 35))]
def H3L:ACode:=.ops C36
def H3N:ACode:=.seq [2,4,20,21] H3H H3L
def H3P:ACode:=.seq [2,4,20,21] H4m H3N
def H3R:ACode:=.seq [2,4,20,21,22] H4k H3P
def H3S:ACode:=.loop [2,4,20,21] H3R
def H3U:ACode:=.block 0 H3S
def H3W:ACode:=.seq [2,4,20,21] H4i H3U
def C37:List AOper:=[aO 36 (.loadN 256 (.t 4)),{ dst:=none,op:=.storeN 256 (.t 2) (.t 36) },aO 3 (.mv (.v (.c (.i .i64 0))))]
def H3Y:ACode:=.ops C37
def H30:ACode:=.seq [2,3] H3Y .ret
def H31:ACode:=.seq [2,4] H3W H30
def H35:ACode:=.seq [1,2,4] H4g H31
def H37:ACode:=.seq [1,2] H4e H35
def H39:ACode:=.seq [1,2] H3m H37
def A_index_Put:AFn:=⟨H39,[.cellN 2 256,.tmp 3]⟩
def T8:B6:=B1 77 A07 (B1 92 A0i (B1 93 P9 (B1 98 A4N C1)))
def H3n (n:Nat):SmV:=A2 T8 C32
def H3J (n:Nat):SmV:=N3 T8 0 C33 C38
def H33 (n:Nat):SmV:=A2 T8 C39
def H4b (n:Nat):SmV:=A1 [2,3] (H33 n) A8
def H4d (n:Nat):SmV:=B8 (.t 11) (H4b n) C0
def H4f (n:Nat):SmV:=A1 [1,2,11] (H3J n) (H4d n)
def H4h (n:Nat):SmV:=N3 T8 2 C4a C4b
def H4j (n:Nat):SmV:=A2 T8 C4c
def H4l (n:Nat):SmV:=A2 T8 C4d
def H4n (n:Nat):SmV:=B8 (.t 22) C0 (E3 0)
def H3q (n:Nat):SmV:=A2 T8 C4e
def H3s (n:Nat):SmV:=A2 T8 C4f
def H3u (n:Nat):SmV:=A2 T8 C34
def H3w (n:Nat):SmV:=A1 [2,3] (H3u n) A8
def H3y (n:Nat):SmV:=B8 (.t 27) (H3w n) C0
def H3A (n:Nat):SmV:=A1 [2,4,5,6,20,21,27] (H3s n) (H3y n)
def H3C (n:Nat):SmV:=A2 T8 C35
def H3E (n:Nat):SmV:=A1 [2,4,5,6,20,21] (H3A n) (H3C n)
def H3G (n:Nat):SmV:=A1 [2,4,5,6,20,21] (H3q n) (H3E n)
def H3I (n:Nat):SmV:=C6 1 (H3G n)
def H3M (n:Nat):SmV:=A2 T8 C36
def H3O (n:Nat):SmV:=A1 [2,4,20,21] (H3I n) (H3M n)
def H3Q (n:Nat):SmV:=A1 [2,4,20,21] (H4n n) (H3O n)
def C3Y (n:Nat):SmV:=A1 [2,4,20,21,22] (H4l n) (H3Q n)
def H3T (n:Nat):SmV:=E4 n [2,4,20,21] (C3Y n)
def H3V (n:Nat):SmV:=C6 0 (H3T n)
def H3X (n:Nat):SmV:=A1 [2,4,20,21] (H4j n) (H3V n)
def H3Z (n:Nat):SmV:=A2 T8 C37
def C3Z (n:Nat):SmV:=A1 [2,3] (H3Z n) A8
def H32 (n:Nat):SmV:=A1 [2,4] (H3X n) (C3Z n)
def H36 (n:Nat):SmV:=A1 [1,2,4] (H4h n) (H32 n)
def H38 (n:Nat):SmV:=A1 [1,2] (H4f n) (H36 n)
def H4a (n:Nat):SmV:=A1 [1,2] (H3n n) (H38 n)
def A8Y (n:Nat):AExit → Env → A0 → A6:=fun x e h=>match x with | .normal=>hold ((C3Z n) A_index_Put.fin (e.keep [2,4]) h) | .exit id=>A_index_Put.fin (.exit id) e h | .ret=>A_index_Put.fin .ret e h
def H4o (n:Nat):AExit → Env → A0 → A6:=fun x e h=>match x with | .exit i=>bif Nat.beq i 0 then (A8Y n) .normal e h else (A8Y n) (.exit i) e h | .normal=>(A8Y n) .normal e h | .ret=>(A8Y n) .ret e h
def A8Z (n m:Nat) (x2 x4 x20 x21:Val) (h:A0):A6:=E1 (C3Y n) [2,4,20,21] (H4o n) m [(2,x2),(4,x4),(20,x20),(21,x21)] h
def A6R (n:Nat) (args:List Val) (h:A0):A6:=(H4a n) A_index_Put.fin (params 0 args) h
theorem D3d (n:Nat) (a0:Val) (h:A0):A6R n [a0] h=bnd (cells? a0) fun c1=>bnd (B9 ((.c (.p h.length 0))) 0) fun v2=>bnd (A9 (((h ++ [some (Row.mk (c1) true)]) ++ [some (Row.mk (List.replicate 256 (.i .u8 0)) true)])) v2) fun v3=>bnd (A5 (((h ++ [some (Row.mk (c1) true)]) ++ [some (Row.mk (List.replicate 256 (.i .u8 0)) true)])) 33 ((.c (.p h.length 0)))) fun v4=>bnd (quiet (((((h ++ [some (Row.mk (c1) true)]) ++ [some (Row.mk (List.replicate 256 (.i .u8 0)) true)])) ++ [])) (A07 [v4] (((((h ++ [some (Row.mk (c1) true)]) ++ [some (Row.mk (List.replicate 256 (.i .u8 0)) true)])) ++ [])))) fun p5=>bnd (A4 .neq v3 p5.1) fun v6=>cnd v6 (bnd (B0 (List.replicate 256 (.i .u8 0)) []) fun c7=>bnd (B7 p5.2 256 ((.c (.p ((h ++ [some (Row.mk (c1) true)])).length 0))) ((.a c7))) fun h8=>C7 [A5 h8 256 ((.c (.p ((h ++ [some (Row.mk (c1) true)])).length 0))),some (.c (.i .i64 1))] h8) (bnd (B0 ([.i .u8 0,.i .u8 0,.i .u8 0,.i .u8 0]) [(0,1,.c (.i .u8 105)),(1,1,.c (.i .u8 100)),(2,1,.c (.i .u8 120)),(3,1,.c (.i .u8 33))]) fun c9=>bnd (O3 ((((p5.2 ++ [none,none])).set (p5.2.length + 0) (some (Row.mk (c9) true)))) ((.c (.sl (p5.2.length + 0) 0 4 1)))) fun v10=>bnd (quiet ((((p5.2 ++ [none,none])).set (p5.2.length + 0) (some (Row.mk (c9) true)))) (A0i [v10] ((((p5.2 ++ [none,none])).set (p5.2.length + 0) (some (Row.mk (c9) true)))))) fun p11=>bnd (B9 ((.c (.p h.length 0))) 0) fun v12=>bnd (A9 p5.2 v12) fun v13=>bnd (quiet p11.2 (P9 [p11.1,.c (.i .i64 4),.c (.i .i64 1),v13] p11.2)) fun p14=>bnd (B7 ((p14.2.set (p5.2.length + 1) (some (Row.mk (List.replicate 256 (.i .u8 0)) true)))) 256 ((.c (.p (p5.2.length + 1) 0))) p14.1) fun h15=>bnd (B9 ((.c (.p h.length 0))) 1) fun v16=>bnd (A5 h15 32 v16) fun v17=>A8Z n n ((.c (.p ((h ++ [some (Row.mk (c1) true)])).length 0))) ((.c (.p (p5.2.length + 1) 0))) v17 (.c (.i .i64 0)) h15):=by kernel_rfl
theorem C31 (n m:Nat) (x2 x4 x20 x21:Val) (h:A0):A8Z n (m + 1) x2 x4 x20 x21 h=bnd (A4 .lss x21 (.c (.i .i64 32))) fun v18=>cnd v18 (bnd (V9 32 x20 x21) fun v19=>bnd (A4N [v19] h) fun p20=>bnd (aun .not p20.1) fun v21=>cnd v21 (bnd (B0 (List.replicate 256 (.i .u8 0)) []) fun c22=>bnd (B7 p20.2 256 x2 ((.a c22))) fun h23=>C7 [A5 h23 256 x2,some (.c (.i .i64 1))] h23) (bnd (A5 p20.2 256 x4) fun v24=>bnd (A4 .mul (.c (.i .i64 2)) x21) fun v25=>bnd (A4 .add (.c (.i .i64 32)) v25) fun v26=>bnd (P9 [v24,v26,.c (.i .i64 2),v19] p20.2) fun p27=>bnd (B7 p27.2 256 x4 p27.1) fun h28=>bnd (A4 .add x21 (.c (.i .i64 1))) fun v29=>A8Z n m x2 x4 x20 v29 h28)) (bnd (A5 h 256 x4) fun v30=>bnd (B7 h 256 x2 v30) fun h31=>C7 [A5 h31 256 x2,some (.c (.i .i64 0))] h31):=by kernel_rfl
theorem K_index_Put:FnK Tryz.prog 57 A_index_Put T8 A6R:=.mk' (B3 B04 (B3 A7q (B3 B07 (B3 D5A C3)))) Tryz.func57 (by kernel_rfl) (by intro n args h;kernel_rfl)
def A2F:Fun:=tidy (Lim A_index_Put T8)
theorem B3s:SOk Tryz.prog 57 A2F:=K_index_Put.sok
theorem D5x {n:Nat} {args:List Val} {h h2:A0} {v:Val} (he:A6R n args (ro h)=some (v,h2)) (hf:v.flat=true):A2F args h=some (v,h):=K_index_Put.flat he hf
def C4x:List AOper:=[aO 1 (.box (.t 0)),aO 2 (.mv (.v (.c (.i .i64 0))))]
def H5q:ACode:=.ops C4x
def C4y:List AOper:=[aO 3 (.loadN 33 (.t 1)),aO 4 (.call 77 [(.t 3)]),aO 5 (.conv .u64 (.t 4)),aO 6 (.bin .shl (.v (.c (.i .i64 1))) (.t 5)),aO 2 (.mv (.t 6))]
def H5s:ACode:=.ops C4y
def H5u:ACode:=.seq [2] H5s .ret
def H5w:ACode:=.seq [1] H5q H5u
def A_index_many:AFn:=⟨H5w,[.tmp 2]⟩
def A52:B6:=B1 77 A07 C1
def H5r (n:Nat):SmV:=A2 A52 C4x
def H5t (n:Nat):SmV:=A2 A52 C4y
def H5v (n:Nat):SmV:=A1 [2] (H5t n) A8
def H5x (n:Nat):SmV:=A1 [1] (H5r n) (H5v n)
def A6U (n:Nat) (args:List Val) (h:A0):A6:=(H5x n) A_index_many.fin (params 0 args) h
theorem D3h (n:Nat) (a0:Val) (h:A0):A6U n [a0] h=bnd (cells? a0) fun c1=>bnd (A5 ((h ++ [some (Row.mk (c1) true)])) 33 ((.c (.p h.length 0)))) fun v2=>bnd (A07 [v2] ((h ++ [some (Row.mk (c1) true)]))) fun p3=>bnd (G8 .u64 p3.1) fun v4=>bnd (A4 .shl (.c (.i .i64 1)) v4) fun v5=>some (v5,p3.2):=by kernel_rfl
theorem K_index_many:FnK Tryz.prog 109 A_index_many A52 A6U:=.mk' (B3 B04 C3) Tryz.func109 (by kernel_rfl) (by intro n args h;kernel_rfl)
def A2G:Fun:=tidy (Lim A_index_many A52)
theorem B3t:SOk Tryz.prog 109 A2G:=K_index_many.sok
theorem D5D {n:Nat} {args:List Val} {h h2:A0} {v:Val} (he:A6U n args (ro h)=some (v,h2)) (hf:v.flat=true):A2G args h=some (v,h):=K_index_many.flat he hf
def C3G:List AOper:=[aO 1 (.box (.t 0)),aO 2 (.alloc ([.i .i64 0] ++ List.replicate 32 (.i .i64 0))),aO 3 (.mv (.v (.c (.i .i64 0))))]
def H1K:ACode:=.ops C3G
def C3H:List AOper:=[aO 9 (.loadN 256 (.t 1)),aO 10 (.call 61 [(.t 9),(.v (.c (.i .i64 4))),(.v (.c (.i .i64 1)))]),aO 11 (.build ([.i .i64 0] ++ List.replicate 32 (.i .i64 0)) [(0,1,(.t 10))]),aO 4 (.alloc ([.i .i64 0] ++ List.replicate 32 (.i .i64 0))),{ dst:=none,op:=.storeN 33 (.t 4) (.t 11) }]
def H1M:ACode:=.ops C3H
def C3O:List AOper:=[aO 12 (.mv (.v (.c (.i .i64 0))))]
def H17:ACode:=.ops C3O
def C3P:List AOper:=[aO 13 (.bin .lss (.t 12) (.v (.c (.i .i64 32))))]
def H2t:ACode:=.ops C3P
def H2N:ACode:=.cond (.t 13) .skip (.exit 0)
def C3Q:List AOper:=[aO 14 (.mv (.t 12)),aO 5 (.mv (.t 14))]
def H20:ACode:=.ops C3Q
def C3R:List AOper:=[aO 15 (.mv (.t 5)),aO 16 (.loadN 256 (.t 1)),aO 17 (.mv (.t 5)),aO 18 (.bin .mul (.v (.c (.i .i64 2))) (.t 17)),aO 19 (.bin .add (.v (.c (.i .i64 32))) (.t 18)),aO 20 (.call 61 [(.t 16),(.t 19),(.v (.c (.i .i64 2)))]),aO 21 (.fAddr (.t 4) 1),aO 22 (.iAddrA 32 1 (.t 21) (.t 15)),{ dst:=none,op:=.store1 (.t 22) (.t 20) }]
def H22:ACode:=.ops C3R
def H24:ACode:=.seq [1,2,4,5,12] H20 H22
def H26:ACode:=.block 1 H24
def C3S:List AOper:=[aO 23 (.bin .add (.t 12) (.v (.c (.i .i64 1)))),aO 12 (.mv (.t 23))]
def H28:ACode:=.ops C3S
def H1N:ACode:=.seq [1,2,4,12] H26 H28
def H1P:ACode:=.seq [1,2,4,12] H2N H1N
def H1R:ACode:=.seq [1,2,4,12,13] H2t H1P
def H1S:ACode:=.loop [1,2,4,12] H1R
def H1U:ACode:=.block 0 H1S
def H1W:ACode:=.seq [1,2,4,12] H17 H1U
def C3T:List AOper:=[aO 25 (.loadN 33 (.t 4)),aO 26 (.call 57 [(.t 25)]),aO 24 (.mv (.t 26)),aO 27 (.ext (.t 24) 0),aO 28 (.ext (.t 24) 1),aO 6 (.alloc (List.replicate 256 (.i .u8 0))),{ dst:=none,op:=.storeN 256 (.t 6) (.t 27) },aO 7 (.mv (.t 28))]
def H1Y:ACode:=.ops C3T
def C3U:List AOper:=[aO 29 (.mv (.t 7)),aO 30 (.bin .neq (.t 29) (.v (.c (.i .i64 0)))),aO 31 (.mv (.t 30)),{ dst:=some 32,op:=.loadN 256 (.t 6),guard:=some (31,false) },{ dst:=some 33,op:=.loadN 256 (.t 1),guard:=some (31,false) },{ dst:=some 34,op:=.eqA true (List.replicate 256 (.i .u8)) (.t 32) (.t 33),guard:=some (31,false) },aO 35 (.pick (.t 31) (.v (.c (.b true))) (.t 34))]
def H10:ACode:=.ops C3U
def C3V:List AOper:=[aO 36 (.build ([.i .i64 0] ++ List.replicate 32 (.i .i64 0)) []),{ dst:=none,op:=.storeN 33 (.t 2) (.t 36) },aO 3 (.mv (.v (.c (.i .i64 14))))]
def H12:ACode:=.ops C3V
def H14:ACode:=.seq [2,3] H12 .ret
def H18:ACode:=.cond (.t 35) H14 .skip
def H2a:ACode:=.seq [2,4,35] H10 H18
def C3I:List AOper:=[aO 37 (.loadN 33 (.t 4)),aO 38 (.call 109 [(.t 37)]),aO 8 (.mv (.t 38))]
def H2c:ACode:=.ops C3I
def C3J:List AOper:=[aO 39 (.mv (.t 8)),aO 40 (.bin .lss (.t 39) (.v (.c (.i .i64 32))))]
def H2e:ACode:=.ops C3J
def H2g:ACode:=.cond (.t 40) .skip (.exit 2)
def H2i:ACode:=.seq [2,4,8,40] H2e H2g
def C3K:List AOper:=[aO 43 (.mv (.t 8)),aO 44 (.fAddr (.t 4) 1),aO 45 (.iAddrA 32 1 (.t 44) (.t 43)),aO 46 (.load1 (.t 45)),aO 47 (.bin .neq (.t 46) (.v (.c (.i .i64 0))))]
def H2k:ACode:=.ops C3K
def C3L:List AOper:=[aO 48 (.build ([.i .i64 0] ++ List.replicate 32 (.i .i64 0)) []),{ dst:=none,op:=.storeN 33 (.t 2) (.t 48) },aO 3 (.mv (.v (.c (.i .i64 14))))]
def H2m:ACode:=.ops C3L
def H2o:ACode:=.seq [2,3] H2m .ret
def H2q:ACode:=.cond (.t 47) H2o .skip
def H2u:ACode:=.seq [2,4,8,47] H2k H2q
def H2w:ACode:=.block 3 H2u
def C3M:List AOper:=[aO 41 (.mv (.t 8)),aO 42 (.bin .add (.t 41) (.v (.c (.i .i64 1)))),aO 8 (.mv (.t 42))]
def H2y:ACode:=.ops C3M
def H2A:ACode:=.seq [2,4,8] H2w H2y
def H2C:ACode:=.seq [2,4,8] H2i H2A
def H2D:ACode:=.loop [2,4,8] H2C
def H2F:ACode:=.block 2 H2D
def H2H:ACode:=.seq [2,4,8] H2c H2F
def C3N:List AOper:=[aO 49 (.loadN 33 (.t 4)),{ dst:=none,op:=.storeN 33 (.t 2) (.t 49) },aO 3 (.mv (.v (.c (.i .i64 0))))]
def H2J:ACode:=.ops C3N
def H2L:ACode:=.seq [2,3] H2J .ret
def H2O:ACode:=.seq [2,4] H2H H2L
def H2Q:ACode:=.seq [2,4] H2a H2O
def H2S:ACode:=.seq [1,2,4,6,7] H1Y H2Q
def H2T:ACode:=.seq [1,2,4] H1W H2S
def H2V:ACode:=.seq [1,2,4] H1M H2T
def H2X:ACode:=.seq [1,2] H1K H2V
def A_index_Get:AFn:=⟨H2X,[.cellN 2 33,.tmp 3]⟩
def O2:B6:=B1 61 N5 (B1 57 A2F (B1 109 A2G C1))
def H1L (n:Nat):SmV:=A2 O2 C3G
def H16 (n:Nat):SmV:=A2 O2 C3H
def H2s (n:Nat):SmV:=A2 O2 C3O
def H2M (n:Nat):SmV:=A2 O2 C3P
def H2Z (n:Nat):SmV:=B8 (.t 13) C0 (E3 0)
def H21 (n:Nat):SmV:=A2 O2 C3Q
def H23 (n:Nat):SmV:=A2 O2 C3R
def H25 (n:Nat):SmV:=A1 [1,2,4,5,12] (H21 n) (H23 n)
def H27 (n:Nat):SmV:=C6 1 (H25 n)
def H29 (n:Nat):SmV:=A2 O2 C3S
def H1O (n:Nat):SmV:=A1 [1,2,4,12] (H27 n) (H29 n)
def H1Q (n:Nat):SmV:=A1 [1,2,4,12] (H2Z n) (H1O n)
def C3A (n:Nat):SmV:=A1 [1,2,4,12,13] (H2M n) (H1Q n)
def H1T (n:Nat):SmV:=E4 n [1,2,4,12] (C3A n)
def H1V (n:Nat):SmV:=C6 0 (H1T n)
def H1X (n:Nat):SmV:=A1 [1,2,4,12] (H2s n) (H1V n)
def H1Z (n:Nat):SmV:=A2 O2 C3T
def H11 (n:Nat):SmV:=A2 O2 C3U
def H13 (n:Nat):SmV:=A2 O2 C3V
def H15 (n:Nat):SmV:=A1 [2,3] (H13 n) A8
def H19 (n:Nat):SmV:=B8 (.t 35) (H15 n) C0
def H2b (n:Nat):SmV:=A1 [2,4,35] (H11 n) (H19 n)
def H2d (n:Nat):SmV:=A2 O2 C3I
def H2f (n:Nat):SmV:=A2 O2 C3J
def H2h (n:Nat):SmV:=B8 (.t 40) C0 (E3 2)
def H2j (n:Nat):SmV:=A1 [2,4,8,40] (H2f n) (H2h n)
def H2l (n:Nat):SmV:=A2 O2 C3K
def H2n (n:Nat):SmV:=A2 O2 C3L
def H2p (n:Nat):SmV:=A1 [2,3] (H2n n) A8
def H2r (n:Nat):SmV:=B8 (.t 47) (H2p n) C0
def H2v (n:Nat):SmV:=A1 [2,4,8,47] (H2l n) (H2r n)
def H2x (n:Nat):SmV:=C6 3 (H2v n)
def H2z (n:Nat):SmV:=A2 O2 C3M
def H2B (n:Nat):SmV:=A1 [2,4,8] (H2x n) (H2z n)
def C3B (n:Nat):SmV:=A1 [2,4,8] (H2j n) (H2B n)
def H2E (n:Nat):SmV:=E4 n [2,4,8] (C3B n)
def H2G (n:Nat):SmV:=C6 2 (H2E n)
def H2I (n:Nat):SmV:=A1 [2,4,8] (H2d n) (H2G n)
def H2K (n:Nat):SmV:=A2 O2 C3N
def C3C (n:Nat):SmV:=A1 [2,3] (H2K n) A8
def H2P (n:Nat):SmV:=A1 [2,4] (H2I n) (C3C n)
def H2R (n:Nat):SmV:=A1 [2,4] (H2b n) (H2P n)
def C3D (n:Nat):SmV:=A1 [1,2,4,6,7] (H1Z n) (H2R n)
def H2U (n:Nat):SmV:=A1 [1,2,4] (H1X n) (C3D n)
def H2W (n:Nat):SmV:=A1 [1,2,4] (H16 n) (H2U n)
def H2Y (n:Nat):SmV:=A1 [1,2] (H1L n) (H2W n)
def A8U (n:Nat):AExit → Env → A0 → A6:=fun x e h=>match x with | .normal=>hold ((C3D n) A_index_Get.fin (e.keep [1,2,4]) h) | .exit id=>A_index_Get.fin (.exit id) e h | .ret=>A_index_Get.fin .ret e h
def H3b (n:Nat):AExit → Env → A0 → A6:=fun x e h=>match x with | .exit i=>bif Nat.beq i 0 then (A8U n) .normal e h else (A8U n) (.exit i) e h | .normal=>(A8U n) .normal e h | .ret=>(A8U n) .ret e h
def A8W (n m:Nat) (x1 x2 x4 x12:Val) (h:A0):A6:=E1 (C3A n) [1,2,4,12] (H3b n) m [(1,x1),(2,x2),(4,x4),(12,x12)] h
def A6P (n:Nat) (args:List Val) (h:A0):A6:=(H2Y n) A_index_Get.fin (params 0 args) h
def A8V (n:Nat):AExit → Env → A0 → A6:=fun x e h=>match x with | .normal=>hold ((C3C n) A_index_Get.fin (e.keep [2,4]) h) | .exit id=>A_index_Get.fin (.exit id) e h | .ret=>A_index_Get.fin .ret e h
def H3c (n:Nat):AExit → Env → A0 → A6:=fun x e h=>match x with | .exit i=>bif Nat.beq i 2 then (A8V n) .normal e h else (A8V n) (.exit i) e h | .normal=>(A8V n) .normal e h | .ret=>(A8V n) .ret e h
def A8X (n m:Nat) (x2 x4 x8:Val) (h:A0):A6:=E1 (C3B n) [2,4,8] (H3c n) m [(2,x2),(4,x4),(8,x8)] h
theorem D3b (n:Nat) (a0:Val) (h:A0):A6P n [a0] h=bnd (cells? a0) fun c1=>bnd (A5 (((h ++ [some (Row.mk (c1) true)]) ++ [some (Row.mk ([.i .i64 0] ++ List.replicate 32 (.i .i64 0)) true)])) 256 ((.c (.p h.length 0)))) fun v2=>bnd (N5 [v2,.c (.i .i64 4),.c (.i .i64 1)] (((h ++ [some (Row.mk (c1) true)]) ++ [some (Row.mk ([.i .i64 0] ++ List.replicate 32 (.i .i64 0)) true)]))) fun p3=>bnd (B0 ([.i .i64 0] ++ List.replicate 32 (.i .i64 0)) [(0,1,p3.1)]) fun c4=>bnd (B7 ((p3.2 ++ [some (Row.mk ([.i .i64 0] ++ List.replicate 32 (.i .i64 0)) true)])) 33 ((.c (.p p3.2.length 0))) ((.a c4))) fun h5=>A8W n n ((.c (.p h.length 0))) ((.c (.p ((h ++ [some (Row.mk (c1) true)])).length 0))) ((.c (.p p3.2.length 0))) (.c (.i .i64 0)) h5:=by kernel_rfl
theorem C3E (n m:Nat) (x1 x2 x4 x12:Val) (h:A0):A8W n (m + 1) x1 x2 x4 x12 h=bnd (A4 .lss x12 (.c (.i .i64 32))) fun v6=>cnd v6 (bnd (A5 h 256 x1) fun v7=>bnd (A4 .mul (.c (.i .i64 2)) x12) fun v8=>bnd (A4 .add (.c (.i .i64 32)) v8) fun v9=>bnd (N5 [v7,v9,.c (.i .i64 2)] h) fun p10=>bnd (B9 x4 1) fun v11=>bnd (D7 32 1 v11 x12) fun v12=>bnd (F2 p10.2 v12 p10.1) fun h13=>bnd (A4 .add x12 (.c (.i .i64 1))) fun v14=>A8W n m x1 x2 x4 v14 h13) (bnd (A5 h 33 x4) fun v15=>bnd (A2F [v15] h) fun p16=>bnd (C2 p16.1 0) fun v17=>bnd (C2 p16.1 1) fun v18=>bnd (B7 ((p16.2 ++ [some (Row.mk (List.replicate 256 (.i .u8 0)) true)])) 256 ((.c (.p p16.2.length 0))) v17) fun h19=>bnd (A4 .neq v18 (.c (.i .i64 0))) fun v20=>bnd (gd v20 false (bnd (A5 h19 256 ((.c (.p p16.2.length 0)))) fun v21=>some (v21,h19)) (some (.no,h19))) fun p22=>bnd (gd v20 false (bnd (A5 p22.2 256 x1) fun v23=>some (v23,p22.2)) (some (.no,p22.2))) fun p24=>bnd (gd v20 false (bnd (aeq true (List.replicate 256 (.i .u8)) p22.1 p24.1) fun v25=>some (v25,p24.2)) (some (.no,p24.2))) fun p26=>bnd (C5 v20 (.c (.b true)) p26.1) fun v27=>cnd v27 (bnd (B0 ([.i .i64 0] ++ List.replicate 32 (.i .i64 0)) []) fun c28=>bnd (B7 p26.2 33 x2 ((.a c28))) fun h29=>C7 [A5 h29 33 x2,some (.c (.i .i64 14))] h29) (bnd (A5 p26.2 33 x4) fun v30=>bnd (A2G [v30] p26.2) fun p31=>A8X n n x2 x4 p31.1 p31.2)):=by kernel_rfl
theorem C3F (n m:Nat) (x2 x4 x8:Val) (h:A0):A8X n (m + 1) x2 x4 x8 h=bnd (A4 .lss x8 (.c (.i .i64 32))) fun v32=>cnd v32 (bnd (B9 x4 1) fun v33=>bnd (D7 32 1 v33 x8) fun v34=>bnd (A9 h v34) fun v35=>bnd (A4 .neq v35 (.c (.i .i64 0))) fun v36=>cnd v36 (bnd (B0 ([.i .i64 0] ++ List.replicate 32 (.i .i64 0)) []) fun c37=>bnd (B7 h 33 x2 ((.a c37))) fun h38=>C7 [A5 h38 33 x2,some (.c (.i .i64 14))] h38) (bnd (A4 .add x8 (.c (.i .i64 1))) fun v39=>A8X n m x2 x4 v39 h)) (bnd (A5 h 33 x4) fun v40=>bnd (B7 h 33 x2 v40) fun h41=>C7 [A5 h41 33 x2,some (.c (.i .i64 0))] h41):=by kernel_rfl
theorem K_index_Get:FnK Tryz.prog 75 A_index_Get O2 A6P:=.mk' (B3 A7p (B3 B3s (B3 B3t C3))) Tryz.func75 (by kernel_rfl) (by intro n args h;kernel_rfl)
def A4L:Fun:=tidy (Lim A_index_Get O2)
theorem D5u:SOk Tryz.prog 75 A4L:=K_index_Get.sok
theorem D5t {n:Nat} {args:List Val} {h h2:A0} {v:Val} (he:A6P n args (ro h)=some (v,h2)) (hf:v.flat=true):A4L args h=some (v,h):=K_index_Get.flat he hf
def C3W:List AOper:=[aO 2 (.box (.t 0)),aO 4 (.mv (.v (.c (.i .i64 0))))]
def H3d:ACode:=.ops C3W
def C3X:List AOper:=[aO 5 (.mv (.t 1)),aO 6 (.loadN 33 (.t 2)),aO 7 (.call 77 [(.t 6)]),aO 8 (.call 76 [(.t 5),(.t 7)]),aO 4 (.mv (.t 8))]
def H3f:ACode:=.ops C3X
def H3h:ACode:=.seq [4] H3f .ret
def H3j:ACode:=.seq [1,2] H3d H3h
def A_index_Place:AFn:=⟨H3j,[.tmp 4]⟩
def A5Z:B6:=B1 77 A07 (B1 76 A4S C1)
def H3e (n:Nat):SmV:=A2 A5Z C3W
def H3g (n:Nat):SmV:=A2 A5Z C3X
def H3i (n:Nat):SmV:=A1 [4] (H3g n) A8
def H3k (n:Nat):SmV:=A1 [1,2] (H3e n) (H3i n)
def A6Q (n:Nat) (args:List Val) (h:A0):A6:=(H3k n) A_index_Place.fin (params 0 args) h
theorem D3c (n:Nat) (a0 a1:Val) (h:A0):A6Q n [a0,a1] h=bnd (cells? a0) fun c1=>bnd (A5 ((h ++ [some (Row.mk (c1) true)])) 33 ((.c (.p h.length 0)))) fun v2=>bnd (A07 [v2] ((h ++ [some (Row.mk (c1) true)]))) fun p3=>bnd (A4S [a1,p3.1] p3.2) fun p4=>some (p4.1,p4.2):=by kernel_rfl
theorem K_index_Place:FnK Tryz.prog 36 A_index_Place A5Z A6Q:=.mk' (B3 B04 (B3 D5P C3)) Tryz.func36 (by kernel_rfl) (by intro n args h;kernel_rfl)
def A4M:Fun:=tidy (Lim A_index_Place A5Z)
theorem D5w:SOk Tryz.prog 36 A4M:=K_index_Place.sok
theorem D5v {n:Nat} {args:List Val} {h h2:A0} {v:Val} (he:A6Q n args (ro h)=some (v,h2)) (hf:v.flat=true):A4M args h=some (v,h):=K_index_Place.flat he hf
def C4n:List AOper:=[aO 2 (.box (.t 0)),aO 4 (.mv (.v (.c (.b false))))]
def H4G:ACode:=.ops C4n
def C4o:List AOper:=[aO 6 (.mv (.t 1)),aO 7 (.mv (.v (.c (.i .i64 0))))]
def H4I:ACode:=.ops C4o
def C4p:List AOper:=[aO 8 (.bin .lss (.t 7) (.t 6))]
def H43:ACode:=.ops C4p
def H5a:ACode:=.cond (.t 8) .skip (.exit 0)
def C4q:List AOper:=[aO 9 (.mv (.t 7)),aO 5 (.mv (.t 9))]
def H5c:ACode:=.ops C4q
def C4r:List AOper:=[aO 10 (.mv (.t 5)),aO 11 (.fAddr (.t 2) 1),aO 12 (.iAddrA 32 1 (.t 11) (.t 10)),aO 13 (.load1 (.t 12)),aO 14 (.mv (.t 1)),aO 15 (.fAddr (.t 2) 1),aO 16 (.iAddrA 32 1 (.t 15) (.t 14)),aO 17 (.load1 (.t 16))]
def C4s:List AOper:=[aO 18 (.bin .eql (.t 13) (.t 17))]
def H5e:ACode:=.draw 0 C4r C4s
def C4t:List AOper:=[aO 4 (.mv (.v (.c (.b false))))]
def H5g:ACode:=.ops C4t
def H5i:ACode:=.seq [4] H5g .ret
def H5k:ACode:=.cond (.t 18) H5i .skip
def H5m:ACode:=.seq [1,2,6,7,18] H5e H5k
def H4J:ACode:=.seq [1,2,5,6,7] H5c H5m
def H4L:ACode:=.block 1 H4J
def C4u:List AOper:=[aO 19 (.bin .add (.t 7) (.v (.c (.i .i64 1)))),aO 7 (.mv (.t 19))]
def H4N:ACode:=.ops C4u
def H4P:ACode:=.seq [1,2,6,7] H4L H4N
def H4R:ACode:=.seq [1,2,6,7] H5a H4P
def H4T:ACode:=.seq [1,2,6,7,8] H43 H4R
def H4U:ACode:=.loop [1,2,6,7] H4T
def H4W:ACode:=.block 0 H4U
def H4Y:ACode:=.seq [1,2,6,7] H4I H4W
def C4v:List AOper:=[aO 4 (.mv (.v (.c (.b true))))]
def H40:ACode:=.ops C4v
def H44:ACode:=.seq [4] H40 .ret
def H45:ACode:=.seq [] H4Y H44
def H47:ACode:=.seq [1,2] H4G H45
def A_index_first:AFn:=⟨H47,[.tmp 4]⟩
def A0x:B6:=C1
def H4H (n:Nat):SmV:=A2 A0x C4n
def H42 (n:Nat):SmV:=A2 A0x C4o
def H49 (n:Nat):SmV:=A2 A0x C4p
def H5b (n:Nat):SmV:=B8 (.t 8) C0 (E3 0)
def H5d (n:Nat):SmV:=A2 A0x C4q
def H5f (n:Nat):SmV:=N3 A0x 0 C4r C4s
def H5h (n:Nat):SmV:=A2 A0x C4t
def H5j (n:Nat):SmV:=A1 [4] (H5h n) A8
def H5l (n:Nat):SmV:=B8 (.t 18) (H5j n) C0
def H5n (n:Nat):SmV:=A1 [1,2,6,7,18] (H5f n) (H5l n)
def H4K (n:Nat):SmV:=A1 [1,2,5,6,7] (H5d n) (H5n n)
def H4M (n:Nat):SmV:=C6 1 (H4K n)
def H4O (n:Nat):SmV:=A2 A0x C4u
def H4Q (n:Nat):SmV:=A1 [1,2,6,7] (H4M n) (H4O n)
def H4S (n:Nat):SmV:=A1 [1,2,6,7] (H5b n) (H4Q n)
def C4k (n:Nat):SmV:=A1 [1,2,6,7,8] (H49 n) (H4S n)
def H4V (n:Nat):SmV:=E4 n [1,2,6,7] (C4k n)
def H4X (n:Nat):SmV:=C6 0 (H4V n)
def H4Z (n:Nat):SmV:=A1 [1,2,6,7] (H42 n) (H4X n)
def H41 (n:Nat):SmV:=A2 A0x C4v
def C4l (n:Nat):SmV:=A1 [4] (H41 n) A8
def H46 (n:Nat):SmV:=A1 [] (H4Z n) (C4l n)
def H48 (n:Nat):SmV:=A1 [1,2] (H4H n) (H46 n)
def A80 (n:Nat):AExit → Env → A0 → A6:=fun x e h=>match x with | .normal=>hold ((C4l n) A_index_first.fin (e.keep []) h) | .exit id=>A_index_first.fin (.exit id) e h | .ret=>A_index_first.fin .ret e h
def H5p (n:Nat):AExit → Env → A0 → A6:=fun x e h=>match x with | .exit i=>bif Nat.beq i 0 then (A80 n) .normal e h else (A80 n) (.exit i) e h | .normal=>(A80 n) .normal e h | .ret=>(A80 n) .ret e h
def A81 (n m:Nat) (x1 x2 x6 x7:Val) (h:A0):A6:=E1 (C4k n) [1,2,6,7] (H5p n) m [(1,x1),(2,x2),(6,x6),(7,x7)] h
def A6T (n:Nat) (args:List Val) (h:A0):A6:=(H48 n) A_index_first.fin (params 0 args) h
theorem D3g (n:Nat) (a0 a1:Val) (h:A0):A6T n [a0,a1] h=bnd (cells? a0) fun c1=>A81 n n a1 ((.c (.p h.length 0))) a1 (.c (.i .i64 0)) ((h ++ [some (Row.mk (c1) true)])):=by kernel_rfl
theorem C4m (n m:Nat) (x1 x2 x6 x7:Val) (h:A0):A81 n (m + 1) x1 x2 x6 x7 h=bnd (A4 .lss x7 x6) fun v2=>cnd v2 (bnd (B9 x2 1) fun v3=>bnd (D7 32 1 v3 x7) fun v4=>bnd (A9 h v4) fun v5=>bnd (B9 x2 1) fun v6=>bnd (D7 32 1 v6 x1) fun v7=>bnd (A9 h v7) fun v8=>bnd (A4 .eql v5 v8) fun v9=>cnd v9 (some ((.c (.b false)),(h ++ []))) (bnd (A4 .add x7 (.c (.i .i64 1))) fun v10=>A81 n m x1 x2 x6 v10 ((h ++ [])))) (some ((.c (.b true)),h)):=by kernel_rfl
theorem K_index_first:FnK Tryz.prog 112 A_index_first A0x A6T:=.mk' (C3) Tryz.func112 (by kernel_rfl) (by intro n args h;kernel_rfl)
def A4O:Fun:=tidy (Lim A_index_first A0x)
theorem D5C:SOk Tryz.prog 112 A4O:=K_index_first.sok
theorem D5B {n:Nat} {args:List Val} {h h2:A0} {v:Val} (he:A6T n args (ro h)=some (v,h2)) (hf:v.flat=true):A4O args h=some (v,h):=K_index_first.flat he hf
def C3r:List AOper:=[aO 1 (.box (.t 0)),aO 2 (.nilrow 1)]
def H0Z:ACode:=.ops C3r
def C3s:List AOper:=[aO 3 (.nilrow 1)]
def H01:ACode:=.ops C3s
def C3t:List AOper:=[aO 5 (.loadN 33 (.t 1)),aO 6 (.call 109 [(.t 5)]),aO 7 (.mv (.v (.c (.i .i64 0))))]
def H1l:ACode:=.ops C3t
def C3u:List AOper:=[aO 8 (.bin .lss (.t 7) (.t 6))]
def H1u:ACode:=.ops C3u
def H1w:ACode:=.cond (.t 8) .skip (.exit 0)
def C3v:List AOper:=[aO 9 (.mv (.t 7)),aO 4 (.mv (.t 9))]
def H1y:ACode:=.ops C3v
def C3w:List AOper:=[aO 10 (.mv (.t 4)),aO 11 (.fAddr (.t 1) 1),aO 12 (.iAddrA 32 1 (.t 11) (.t 10)),aO 13 (.load1 (.t 12)),aO 14 (.bin .neq (.t 13) (.v (.c (.i .i64 0)))),aO 15 (.mv (.t 14)),{ dst:=some 16,op:=.loadN 33 (.t 1),guard:=some (15,true) },{ dst:=some 17,op:=.mv (.t 4),guard:=some (15,true) },{ dst:=some 18,op:=.call 112 [(.t 16),(.t 17)],guard:=some (15,true) },aO 19 (.pick (.t 15) (.t 18) (.v (.c (.b false))))]
def H1A:ACode:=.ops C3w
def C3x:List AOper:=[aO 20 (.mv (.t 3)),aO 21 (.mv (.t 4)),aO 22 (.fAddr (.t 1) 1),aO 23 (.iAddrA 32 1 (.t 22) (.t 21)),aO 24 (.load1 (.t 23)),aO 25 (.buildSl 1 1 ([.i .i64 0]) [(0,1,(.t 24))]),aO 26 (.app 1 (.t 20) (.t 25)),aO 3 (.mv (.t 26))]
def H1C:ACode:=.ops C3x
def H1E:ACode:=.cond (.t 19) H1C .skip
def H1G:ACode:=.seq [1,3,4,6,7,19] H1A H1E
def H02:ACode:=.seq [1,3,4,6,7] H1y H1G
def H04:ACode:=.block 1 H02
def C3y:List AOper:=[aO 27 (.bin .add (.t 7) (.v (.c (.i .i64 1)))),aO 7 (.mv (.t 27))]
def H06:ACode:=.ops C3y
def H07:ACode:=.seq [1,3,6,7] H04 H06
def H09:ACode:=.seq [1,3,6,7] H1w H07
def H1b:ACode:=.seq [1,3,6,7,8] H1u H09
def H1c:ACode:=.loop [1,3,6,7] H1b
def H1e:ACode:=.block 0 H1c
def H1g:ACode:=.seq [1,3,6,7] H1l H1e
def C3z:List AOper:=[aO 28 (.mv (.t 3)),aO 2 (.mv (.t 28))]
def H1i:ACode:=.ops C3z
def H1m:ACode:=.seq [2] H1i .ret
def H1n:ACode:=.seq [3] H1g H1m
def H1p:ACode:=.seq [1,3] H01 H1n
def H1r:ACode:=.seq [1] H0Z H1p
def A_index_Buckets:AFn:=⟨H1r,[.tmp 2]⟩
def A0b:B6:=B1 109 A2G (B1 112 A4O C1)
def H00 (n:Nat):SmV:=A2 A0b C3r
def H1k (n:Nat):SmV:=A2 A0b C3s
def H1t (n:Nat):SmV:=A2 A0b C3t
def H1v (n:Nat):SmV:=A2 A0b C3u
def H1x (n:Nat):SmV:=B8 (.t 8) C0 (E3 0)
def H1z (n:Nat):SmV:=A2 A0b C3v
def H1B (n:Nat):SmV:=A2 A0b C3w
def H1D (n:Nat):SmV:=A2 A0b C3x
def H1F (n:Nat):SmV:=B8 (.t 19) (H1D n) C0
def H1H (n:Nat):SmV:=A1 [1,3,4,6,7,19] (H1B n) (H1F n)
def H03 (n:Nat):SmV:=A1 [1,3,4,6,7] (H1z n) (H1H n)
def H05 (n:Nat):SmV:=C6 1 (H03 n)
def C3o (n:Nat):SmV:=A2 A0b C3y
def H08 (n:Nat):SmV:=A1 [1,3,6,7] (H05 n) (C3o n)
def H1a (n:Nat):SmV:=A1 [1,3,6,7] (H1x n) (H08 n)
def B17 (n:Nat):SmV:=A1 [1,3,6,7,8] (H1v n) (H1a n)
def H1d (n:Nat):SmV:=E4 n [1,3,6,7] (B17 n)
def H1f (n:Nat):SmV:=C6 0 (H1d n)
def H1h (n:Nat):SmV:=A1 [1,3,6,7] (H1t n) (H1f n)
def H1j (n:Nat):SmV:=A2 A0b C3z
def C3p (n:Nat):SmV:=A1 [2] (H1j n) A8
def H1o (n:Nat):SmV:=A1 [3] (H1h n) (C3p n)
def H1q (n:Nat):SmV:=A1 [1,3] (H1k n) (H1o n)
def H1s (n:Nat):SmV:=A1 [1] (H00 n) (H1q n)
def A8S (n:Nat):AExit → Env → A0 → A6:=fun x e h=>match x with | .normal=>hold ((C3p n) A_index_Buckets.fin (e.keep [3]) h) | .exit id=>A_index_Buckets.fin (.exit id) e h | .ret=>A_index_Buckets.fin .ret e h
def A8T (n:Nat):AExit → Env → A0 → A6:=fun x e h=>match x with | .exit i=>bif Nat.beq i 0 then (A8S n) .normal e h else (A8S n) (.exit i) e h | .normal=>(A8S n) .normal e h | .ret=>(A8S n) .ret e h
def A5p (n m:Nat) (x1 x3 x6 x7:Val) (h:A0):A6:=E1 (B17 n) [1,3,6,7] (A8T n) m [(1,x1),(3,x3),(6,x6),(7,x7)] h
def A6O (n:Nat) (args:List Val) (h:A0):A6:=(H1s n) A_index_Buckets.fin (params 0 args) h
def H1J (n m:Nat):AExit → Env → A0 → A6:=fun x e h=>match x with | .normal=>E1 (B17 n) [1,3,6,7] (A8T n) m (e.keep [1,3,6,7]) h | .exit id=>(A8T n) (.exit id) e h | .ret=>(A8T n) .ret e h
def B18 (n m:Nat) (x1 x3 x6 x7:Val) (h:A0):A6:=hold ((C3o n) (H1J n m) [(1,x1),(3,x3),(6,x6),(7,x7)] h)
theorem D3a (n:Nat) (a0:Val) (h:A0):A6O n [a0] h=bnd (cells? a0) fun c1=>bnd (A5 ((((h ++ [some (Row.mk (c1) true)]) ++ [some (Row.mk ([]) true)]) ++ [some (Row.mk ([]) true)])) 33 ((.c (.p h.length 0)))) fun v2=>bnd (A2G [v2] ((((h ++ [some (Row.mk (c1) true)]) ++ [some (Row.mk ([]) true)]) ++ [some (Row.mk ([]) true)]))) fun p3=>A5p n n ((.c (.p h.length 0))) ((.c (.sl (((h ++ [some (Row.mk (c1) true)]) ++ [some (Row.mk ([]) true)])).length 0 0 1))) p3.1 (.c (.i .i64 0)) p3.2:=by kernel_rfl
theorem C3q (n m:Nat) (x1 x3 x6 x7:Val) (h:A0):A5p n (m + 1) x1 x3 x6 x7 h=bnd (A4 .lss x7 x6) fun v4=>cnd v4 (bnd (B9 x1 1) fun v5=>bnd (D7 32 1 v5 x7) fun v6=>bnd (A9 h v6) fun v7=>bnd (A4 .neq v7 (.c (.i .i64 0))) fun v8=>bnd (gd v8 true (bnd (A5 h 33 x1) fun v9=>some (v9,h)) (some (.no,h))) fun p10=>bnd (gd v8 true (some (x7,p10.2)) (some (.no,p10.2))) fun p11=>bnd (gd v8 true (bnd (A4O [p10.1,p11.1] p11.2) fun p12=>some (p12.1,p12.2)) (some (.no,p11.2))) fun p13=>bnd (C5 v8 p13.1 (.c (.b false))) fun v14=>cnd v14 (bnd (B9 x1 1) fun v15=>bnd (D7 32 1 v15 x7) fun v16=>bnd (A9 p13.2 v16) fun v17=>bnd (B0 ([.i .i64 0]) [(0,1,v17)]) fun c18=>bnd (E5 ((p13.2 ++ [some (Row.mk (c18) true)])) 1 x3 ((.c (.sl p13.2.length 0 1 1)))) fun p19=>B18 n m x1 p19.1 x6 x7 p19.2) (B18 n m x1 x3 x6 x7 p13.2)) (some (x3,h)):=by kernel_rfl
theorem B19 (n m:Nat) (x1 x3 x6 x7:Val) (h:A0):B18 n m x1 x3 x6 x7 h=bnd (A4 .add x7 (.c (.i .i64 1))) fun v20=>A5p n m x1 x3 x6 v20 h:=by kernel_rfl
theorem K_index_Buckets:FnK Tryz.prog 83 A_index_Buckets A0b A6O:=.mk' (B3 B3t (B3 D5C C3)) Tryz.func83 (by kernel_rfl) (by intro n args h;kernel_rfl)
def A4K:Fun:=tidy (Lim A_index_Buckets A0b)
theorem D5r:SOk Tryz.prog 83 A4K:=K_index_Buckets.sok
theorem D5s {n:Nat} {args:List Val} {h h2:A0} {v:Val} {sz k:Nat} {cs:List Cell} (he:A6O n args (ro h)=some (v,h2)) (ho:Out h.length h2 v sz k cs) (hf:D9 cs=true):A4K args h=some (.c (.sl h.length 0 k sz),h ++ [some ⟨cs,true⟩]):=K_index_Buckets.out he ho hf
end Go.Proofs.YtdgggnlbdoiloaaGreat
end
noncomputable section
namespace Go.Proofs.YtdgggnlbdoiloaaGreat
open Go Go.Esc
set_option maxRecDepth 100000
def C2H:List AOper:=[aO 2 (.box (.t 0)),aO 3 (.box (.t 1)),aO 4 (.alloc ([.i .i64 0] ++ List.replicate 32 (.i .i64 0))),aO 5 (.mv (.v (.c (.b false))))]
def G80:ACode:=.ops C2H
def C2I:List AOper:=[aO 8 (.fAddr (.t 3) 0),aO 9 (.load1 (.t 8)),aO 10 (.bin .neq (.t 9) (.v (.c (.i .i64 2)))),aO 11 (.mv (.t 10)),{ dst:=some 12,op:=.fAddr (.t 2) 0,guard:=some (11,false) },{ dst:=some 13,op:=.loadN 3 (.t 12),guard:=some (11,false) },{ dst:=some 14,op:=.fAddr (.t 3) 4,guard:=some (11,false) },{ dst:=some 15,op:=.iAddrA 6 1 (.t 14) (.v (.c (.i .i64 0))),guard:=some (11,false) },{ dst:=some 16,op:=.load1 (.t 15),guard:=some (11,false) },{ dst:=some 17,op:=.call 31 [(.t 13),(.t 16)],guard:=some (11,false) },{ dst:=some 18,op:=.un .not (.t 17),guard:=some (11,false) },aO 19 (.pick (.t 11) (.v (.c (.b true))) (.t 18))]
def G82:ACode:=.ops C2I
def C2J:List AOper:=[aO 20 (.build ([.i .i64 0] ++ List.replicate 32 (.i .i64 0)) []),{ dst:=none,op:=.storeN 33 (.t 4) (.t 20) },aO 5 (.mv (.v (.c (.b false))))]
def G88:ACode:=.ops C2J
def G9a:ACode:=.seq [4,5] G88 .ret
def G9c:ACode:=.cond (.t 19) G9a .skip
def G9e:ACode:=.seq [2,3,4,19] G82 G9c
def C2K:List AOper:=[aO 22 (.loadN 4 (.t 2)),aO 23 (.fAddr (.t 3) 4),aO 24 (.iAddrA 6 1 (.t 23) (.v (.c (.i .i64 0)))),aO 25 (.load1 (.t 24)),aO 26 (.call 30 [(.t 22),(.t 25)]),aO 27 (.call 75 [(.t 26)]),aO 21 (.mv (.t 27)),aO 28 (.ext (.t 21) 0),aO 29 (.ext (.t 21) 1),aO 6 (.alloc ([.i .i64 0] ++ List.replicate 32 (.i .i64 0))),{ dst:=none,op:=.storeN 33 (.t 6) (.t 28) },aO 7 (.mv (.t 29))]
def G9g:ACode:=.ops C2K
def C2L:List AOper:=[aO 30 (.loadN 33 (.t 6)),aO 31 (.mv (.t 7)),aO 32 (.bin .eql (.t 31) (.v (.c (.i .i64 0)))),{ dst:=none,op:=.storeN 33 (.t 4) (.t 30) },aO 5 (.mv (.t 32))]
def G9i:ACode:=.ops C2L
def G9k:ACode:=.seq [4,5] G9i .ret
def G9m:ACode:=.seq [4,6,7] G9g G9k
def G83:ACode:=.seq [2,3,4] G9e G9m
def G85:ACode:=.seq [2,3,4] G80 G83
def A_fmap_Index:AFn:=⟨G85,[.cellN 4 33,.tmp 5]⟩
def A2g:B6:=B1 31 A05 (B1 30 U2 (B1 75 A4L C1))
def G81 (n:Nat):SmV:=A2 A2g C2H
def G87 (n:Nat):SmV:=A2 A2g C2I
def G89 (n:Nat):SmV:=A2 A2g C2J
def G9b (n:Nat):SmV:=A1 [4,5] (G89 n) A8
def G9d (n:Nat):SmV:=B8 (.t 19) (G9b n) C0
def G9f (n:Nat):SmV:=A1 [2,3,4,19] (G87 n) (G9d n)
def G9h (n:Nat):SmV:=A2 A2g C2K
def G9j (n:Nat):SmV:=A2 A2g C2L
def G9l (n:Nat):SmV:=A1 [4,5] (G9j n) A8
def G9n (n:Nat):SmV:=A1 [4,6,7] (G9h n) (G9l n)
def G84 (n:Nat):SmV:=A1 [2,3,4] (G9f n) (G9n n)
def G86 (n:Nat):SmV:=A1 [2,3,4] (G81 n) (G84 n)
def A6H (n:Nat) (args:List Val) (h:A0):A6:=(G86 n) A_fmap_Index.fin (params 0 args) h
theorem D21 (n:Nat) (a0 a1:Val) (h:A0):A6H n [a0,a1] h=bnd (cells? a0) fun c1=>bnd (cells? a1) fun c2=>bnd (B9 ((.c (.p ((h ++ [some (Row.mk (c1) true)])).length 0))) 0) fun v3=>bnd (A9 ((((h ++ [some (Row.mk (c1) true)]) ++ [some (Row.mk (c2) true)]) ++ [some (Row.mk ([.i .i64 0] ++ List.replicate 32 (.i .i64 0)) true)])) v3) fun v4=>bnd (A4 .neq v4 (.c (.i .i64 2))) fun v5=>bnd (gd v5 false (bnd (B9 ((.c (.p h.length 0))) 0) fun v6=>some (v6,(((h ++ [some (Row.mk (c1) true)]) ++ [some (Row.mk (c2) true)]) ++ [some (Row.mk ([.i .i64 0] ++ List.replicate 32 (.i .i64 0)) true)]))) (some (.no,(((h ++ [some (Row.mk (c1) true)]) ++ [some (Row.mk (c2) true)]) ++ [some (Row.mk ([.i .i64 0] ++ List.replicate 32 (.i .i64 0)) true)])))) fun p7=>bnd (gd v5 false (bnd (A5 p7.2 3 p7.1) fun v8=>some (v8,p7.2)) (some (.no,p7.2))) fun p9=>bnd (gd v5 false (bnd (B9 ((.c (.p ((h ++ [some (Row.mk (c1) true)])).length 0))) 4) fun v10=>some (v10,p9.2)) (some (.no,p9.2))) fun p11=>bnd (gd v5 false (bnd (D7 6 1 p11.1 (.c (.i .i64 0))) fun v12=>some (v12,p11.2)) (some (.no,p11.2))) fun p13=>bnd (gd v5 false (bnd (A9 p13.2 p13.1) fun v14=>some (v14,p13.2)) (some (.no,p13.2))) fun p15=>bnd (gd v5 false (bnd (A05 [p9.1,p15.1] p15.2) fun p16=>some (p16.1,p16.2)) (some (.no,p15.2))) fun p17=>bnd (gd v5 false (bnd (aun .not p17.1) fun v18=>some (v18,p17.2)) (some (.no,p17.2))) fun p19=>bnd (C5 v5 (.c (.b true)) p19.1) fun v20=>cnd v20 (bnd (B0 ([.i .i64 0] ++ List.replicate 32 (.i .i64 0)) []) fun c21=>bnd (B7 p19.2 33 ((.c (.p (((h ++ [some (Row.mk (c1) true)]) ++ [some (Row.mk (c2) true)])).length 0))) ((.a c21))) fun h22=>C7 [A5 h22 33 ((.c (.p (((h ++ [some (Row.mk (c1) true)]) ++ [some (Row.mk (c2) true)])).length 0))),some (.c (.b false))] h22) (bnd (A5 p19.2 4 ((.c (.p h.length 0)))) fun v23=>bnd (B9 ((.c (.p ((h ++ [some (Row.mk (c1) true)])).length 0))) 4) fun v24=>bnd (D7 6 1 v24 (.c (.i .i64 0))) fun v25=>bnd (A9 p19.2 v25) fun v26=>bnd (U2 [v23,v26] p19.2) fun p27=>bnd (A4L [p27.1] p27.2) fun p28=>bnd (C2 p28.1 0) fun v29=>bnd (C2 p28.1 1) fun v30=>bnd (B7 ((p28.2 ++ [some (Row.mk ([.i .i64 0] ++ List.replicate 32 (.i .i64 0)) true)])) 33 ((.c (.p p28.2.length 0))) v29) fun h31=>bnd (A5 h31 33 ((.c (.p p28.2.length 0)))) fun v32=>bnd (A4 .eql v30 (.c (.i .i64 0))) fun v33=>bnd (B7 h31 33 ((.c (.p (((h ++ [some (Row.mk (c1) true)]) ++ [some (Row.mk (c2) true)])).length 0))) v32) fun h34=>C7 [A5 h34 33 ((.c (.p (((h ++ [some (Row.mk (c1) true)]) ++ [some (Row.mk (c2) true)])).length 0))),some v33] h34):=by kernel_rfl
theorem K_fmap_Index:FnK Tryz.prog 35 A_fmap_Index A2g A6H:=.mk' (B3 B02 (B3 A46 (B3 D5u C3))) Tryz.func35 (by kernel_rfl) (by intro n args h;kernel_rfl)
def A2D:Fun:=tidy (Lim A_fmap_Index A2g)
theorem B3q:SOk Tryz.prog 35 A2D:=K_fmap_Index.sok
theorem D5f {n:Nat} {args:List Val} {h h2:A0} {v:Val} (he:A6H n args (ro h)=some (v,h2)) (hf:v.flat=true):A2D args h=some (v,h):=K_fmap_Index.flat he hf
def C2u:List AOper:=[aO 2 (.box (.t 0)),aO 3 (.box (.t 1)),aO 4 (.nilrow 1)]
def G70:ACode:=.ops C2u
def C2v:List AOper:=[aO 11 (.loadN 4 (.t 2)),aO 12 (.loadN 11 (.t 3)),aO 13 (.call 35 [(.t 11),(.t 12)]),aO 10 (.mv (.t 13)),aO 14 (.ext (.t 10) 0),aO 15 (.ext (.t 10) 1),aO 5 (.alloc ([.i .i64 0] ++ List.replicate 32 (.i .i64 0))),{ dst:=none,op:=.storeN 33 (.t 5) (.t 14) },aO 6 (.mv (.t 15))]
def G72:ACode:=.ops C2v
def C2y:List AOper:=[aO 16 (.mv (.t 6)),aO 17 (.un .not (.t 16))]
def G8n:ACode:=.ops C2y
def C2z:List AOper:=[aO 4 (.nilrow 1)]
def G8H:ACode:=.ops C2z
def G8N:ACode:=.seq [4] G8H .ret
def G8P:ACode:=.cond (.t 17) G8N .skip
def G8R:ACode:=.seq [2,5,17] G8n G8P
def C2A:List AOper:=[aO 7 (.nilrow 1)]
def G8T:ACode:=.ops C2A
def C2B:List AOper:=[aO 18 (.loadN 33 (.t 5)),aO 19 (.call 83 [(.t 18)]),aO 20 (.len (.t 19)),aO 21 (.mv (.v (.c (.i .i64 0))))]
def G8V:ACode:=.ops C2B
def C2C:List AOper:=[aO 22 (.bin .lss (.t 21) (.t 20))]
def G8X:ACode:=.ops C2C
def G73:ACode:=.cond (.t 22) .skip (.exit 0)
def C2D:List AOper:=[aO 23 (.iAddrL 1 (.t 19) (.t 21)),aO 24 (.load1 (.t 23)),aO 9 (.mv (.t 24))]
def G75:ACode:=.ops C2D
def C2E:List AOper:=[aO 25 (.fAddr (.t 2) 0),aO 26 (.loadN 3 (.t 25)),aO 27 (.mv (.t 9)),aO 28 (.call 31 [(.t 26),(.t 27)])]
def G77:ACode:=.ops C2E
def C2F:List AOper:=[aO 29 (.mv (.t 7)),aO 30 (.mv (.t 9)),aO 31 (.buildSl 1 1 ([.i .i64 0]) [(0,1,(.t 30))]),aO 32 (.app 1 (.t 29) (.t 31)),aO 7 (.mv (.t 32))]
def G79:ACode:=.ops C2F
def G8b:ACode:=.cond (.t 28) G79 .skip
def G8d:ACode:=.seq [2,7,9,19,20,21,28] G77 G8b
def G8f:ACode:=.seq [2,7,9,19,20,21] G75 G8d
def G8h:ACode:=.block 1 G8f
def C2w:List AOper:=[aO 33 (.bin .add (.t 21) (.v (.c (.i .i64 1)))),aO 21 (.mv (.t 33))]
def G8j:ACode:=.ops C2w
def G8k:ACode:=.seq [2,7,19,20,21] G8h G8j
def G8o:ACode:=.seq [2,7,19,20,21] G73 G8k
def G8q:ACode:=.seq [2,7,19,20,21,22] G8X G8o
def G8r:ACode:=.loop [2,7,19,20,21] G8q
def G8t:ACode:=.block 0 G8r
def G8v:ACode:=.seq [2,7,19,20,21] G8V G8t
def C2x:List AOper:=[aO 34 (.mv (.t 7)),aO 4 (.mv (.t 34))]
def G8x:ACode:=.ops C2x
def G8z:ACode:=.seq [4] G8x .ret
def G8A:ACode:=.seq [7] G8v G8z
def G8C:ACode:=.seq [2,5,7] G8T G8A
def G8E:ACode:=.seq [2,5] G8R G8C
def G8I:ACode:=.seq [2,5,6] G72 G8E
def G8K:ACode:=.seq [2,3] G70 G8I
def A_fmap_Buckets:AFn:=⟨G8K,[.tmp 4]⟩
def T7:B6:=B1 35 A2D (B1 83 A4K (B1 31 A05 C1))
def G71 (n:Nat):SmV:=A2 T7 C2u
def G8m (n:Nat):SmV:=A2 T7 C2v
def G8G (n:Nat):SmV:=A2 T7 C2y
def G8M (n:Nat):SmV:=A2 T7 C2z
def G8O (n:Nat):SmV:=A1 [4] (G8M n) A8
def G8Q (n:Nat):SmV:=B8 (.t 17) (G8O n) C0
def G8S (n:Nat):SmV:=A1 [2,5,17] (G8G n) (G8Q n)
def G8U (n:Nat):SmV:=A2 T7 C2A
def G8W (n:Nat):SmV:=A2 T7 C2B
def G8Y (n:Nat):SmV:=A2 T7 C2C
def G74 (n:Nat):SmV:=B8 (.t 22) C0 (E3 0)
def G76 (n:Nat):SmV:=A2 T7 C2D
def G78 (n:Nat):SmV:=A2 T7 C2E
def G8a (n:Nat):SmV:=A2 T7 C2F
def G8c (n:Nat):SmV:=B8 (.t 28) (G8a n) C0
def G8e (n:Nat):SmV:=A1 [2,7,9,19,20,21,28] (G78 n) (G8c n)
def G8g (n:Nat):SmV:=A1 [2,7,9,19,20,21] (G76 n) (G8e n)
def G8i (n:Nat):SmV:=C6 1 (G8g n)
def C2p (n:Nat):SmV:=A2 T7 C2w
def G8l (n:Nat):SmV:=A1 [2,7,19,20,21] (G8i n) (C2p n)
def G8p (n:Nat):SmV:=A1 [2,7,19,20,21] (G74 n) (G8l n)
def B1Y (n:Nat):SmV:=A1 [2,7,19,20,21,22] (G8Y n) (G8p n)
def G8s (n:Nat):SmV:=E4 n [2,7,19,20,21] (B1Y n)
def G8u (n:Nat):SmV:=C6 0 (G8s n)
def G8w (n:Nat):SmV:=A1 [2,7,19,20,21] (G8W n) (G8u n)
def G8y (n:Nat):SmV:=A2 T7 C2x
def C2q (n:Nat):SmV:=A1 [4] (G8y n) A8
def G8B (n:Nat):SmV:=A1 [7] (G8w n) (C2q n)
def G8D (n:Nat):SmV:=A1 [2,5,7] (G8U n) (G8B n)
def G8F (n:Nat):SmV:=A1 [2,5] (G8S n) (G8D n)
def G8J (n:Nat):SmV:=A1 [2,5,6] (G8m n) (G8F n)
def G8L (n:Nat):SmV:=A1 [2,3] (G71 n) (G8J n)
def A8M (n:Nat):AExit → Env → A0 → A6:=fun x e h=>match x with | .normal=>hold ((C2q n) A_fmap_Buckets.fin (e.keep [7]) h) | .exit id=>A_fmap_Buckets.fin (.exit id) e h | .ret=>A_fmap_Buckets.fin .ret e h
def A8N (n:Nat):AExit → Env → A0 → A6:=fun x e h=>match x with | .exit i=>bif Nat.beq i 0 then (A8M n) .normal e h else (A8M n) (.exit i) e h | .normal=>(A8M n) .normal e h | .ret=>(A8M n) .ret e h
def A8O (n m:Nat) (x2 x7 x19 x20 x21:Val) (h:A0):A6:=E1 (B1Y n) [2,7,19,20,21] (A8N n) m [(2,x2),(7,x7),(19,x19),(20,x20),(21,x21)] h
def A6G (n:Nat) (args:List Val) (h:A0):A6:=(G8L n) A_fmap_Buckets.fin (params 0 args) h
def G8Z (n m:Nat):AExit → Env → A0 → A6:=fun x e h=>match x with | .normal=>E1 (B1Y n) [2,7,19,20,21] (A8N n) m (e.keep [2,7,19,20,21]) h | .exit id=>(A8N n) (.exit id) e h | .ret=>(A8N n) .ret e h
def B1Z (n m:Nat) (x2 x7 x19 x20 x21:Val) (h:A0):A6:=hold ((C2p n) (G8Z n m) [(2,x2),(7,x7),(19,x19),(20,x20),(21,x21)] h)
theorem D20 (n:Nat) (a0 a1:Val) (h:A0):A6G n [a0,a1] h=bnd (cells? a0) fun c1=>bnd (cells? a1) fun c2=>bnd (A5 ((((h ++ [some (Row.mk (c1) true)]) ++ [some (Row.mk (c2) true)]) ++ [some (Row.mk ([]) true)])) 4 ((.c (.p h.length 0)))) fun v3=>bnd (A5 ((((h ++ [some (Row.mk (c1) true)]) ++ [some (Row.mk (c2) true)]) ++ [some (Row.mk ([]) true)])) 11 ((.c (.p ((h ++ [some (Row.mk (c1) true)])).length 0)))) fun v4=>bnd (A2D [v3,v4] ((((h ++ [some (Row.mk (c1) true)]) ++ [some (Row.mk (c2) true)]) ++ [some (Row.mk ([]) true)]))) fun p5=>bnd (C2 p5.1 0) fun v6=>bnd (C2 p5.1 1) fun v7=>bnd (B7 ((p5.2 ++ [some (Row.mk ([.i .i64 0] ++ List.replicate 32 (.i .i64 0)) true)])) 33 ((.c (.p p5.2.length 0))) v6) fun h8=>bnd (aun .not v7) fun v9=>cnd v9 (some (((.c (.sl h8.length 0 0 1))),(h8 ++ [some (Row.mk ([]) true)]))) (bnd (A5 ((h8 ++ [some (Row.mk ([]) true)])) 33 ((.c (.p p5.2.length 0)))) fun v10=>bnd (A4K [v10] ((h8 ++ [some (Row.mk ([]) true)]))) fun p11=>bnd (F5 p11.1) fun v12=>A8O n n ((.c (.p h.length 0))) ((.c (.sl h8.length 0 0 1))) p11.1 v12 (.c (.i .i64 0)) p11.2):=by kernel_rfl
theorem C2t (n m:Nat) (x2 x7 x19 x20 x21:Val) (h:A0):A8O n (m + 1) x2 x7 x19 x20 x21 h=bnd (A4 .lss x21 x20) fun v13=>cnd v13 (bnd (D0 1 x19 x21) fun v14=>bnd (A9 h v14) fun v15=>bnd (B9 x2 0) fun v16=>bnd (A5 h 3 v16) fun v17=>bnd (A05 [v17,v15] h) fun p18=>cnd p18.1 (bnd (B0 ([.i .i64 0]) [(0,1,v15)]) fun c19=>bnd (E5 ((p18.2 ++ [some (Row.mk (c19) true)])) 1 x7 ((.c (.sl p18.2.length 0 1 1)))) fun p20=>B1Z n m x2 p20.1 x19 x20 x21 p20.2) (B1Z n m x2 x7 x19 x20 x21 p18.2)) (some (x7,h)):=by kernel_rfl
theorem C2s (n m:Nat) (x2 x7 x19 x20 x21:Val) (h:A0):B1Z n m x2 x7 x19 x20 x21 h=bnd (A4 .add x21 (.c (.i .i64 1))) fun v21=>A8O n m x2 x7 x19 x20 v21 h:=by kernel_rfl
theorem K_fmap_Buckets:FnK Tryz.prog 46 A_fmap_Buckets T7 A6G:=.mk' (B3 B3q (B3 D5r (B3 B02 C3))) Tryz.func46 (by kernel_rfl) (by intro n args h;kernel_rfl)
def A2C:Fun:=tidy (Lim A_fmap_Buckets T7)
theorem B3p:SOk Tryz.prog 46 A2C:=K_fmap_Buckets.sok
theorem D5e {n:Nat} {args:List Val} {h h2:A0} {v:Val} {sz k:Nat} {cs:List Cell} (he:A6G n args (ro h)=some (v,h2)) (ho:Out h.length h2 v sz k cs) (hf:D9 cs=true):A2C args h=some (.c (.sl h.length 0 k sz),h ++ [some ⟨cs,true⟩]):=K_fmap_Buckets.out he ho hf
end Go.Proofs.YtdgggnlbdoiloaaGreat
end
section
namespace Go.Proofs.YtdgggnlbdoiloaaGreat
open Go Go.Esc
theorem C9E {h:A0} {id n sz:Nat} {cs ys:List Cell} (hr:rd h id=some ⟨cs,true⟩) (hl:cs.length=n * sz) (hy:ys.length=sz) (hsz:0 < sz) (hn:n + 1 ≤ 1073741824) :
    ∃ h',E5 (h ++ [some ⟨ys,true⟩]) sz (.c (.sl id 0 n sz)) (.c (.sl h.length 0 1 sz))=some (.c (.sl (h.length + 1) 0 (n + 1) sz),h') ∧ rd h' (h.length + 1)=some ⟨cs ++ ys,true⟩ ∧ (∀ i r,i ≠ id → rd h i=some r → rd h' i=some r) ∧ (∀ b,b ≤ id → b ≤ h.length → Low b h h'):=by
  have hlt:=D5 hr
  refine ⟨(h ++ [some (Row.mk ys true)]).set id none ++ [some (Row.mk (cs ++ ys) true)],?_,?_,fun i r hi hir=>?_,fun b hb hb2=>(((Low.refl hb2).new _).set hb none).new _⟩
  · rw [R9 (h:=h ++ [some ⟨ys,true⟩]) (m:=1) (C8 hr) hl N2 (by omega) rfl hsz hn]
    simp
  · have:=N2 (h:=(h ++ [some (Row.mk ys true)]).set id none) (r:=Row.mk (cs ++ ys) true)
    rw [List.length_set] at this
    simpa using this
  · refine C8 ?_
    rw [G3 (Ne.symm hi)]
    exact C8 hir
def D18 (h:A0) (x:Cell) (l:List Int) (b:Nat) (rs:List Nat):Prop:=(l=[] ∧ x=.ns) ∨ ∃ id,x=.sl id 0 l.length 1 ∧ rd h id=some ⟨encI l,true⟩ ∧ b ≤ id ∧ id ∉ rs
def VarI (h:A0) (r:Nat) (l:List Int) (b:Nat) (rs:List Nat):Prop:=∃ x,rd h r=some ⟨[x],true⟩ ∧ D18 h x l b rs
theorem VarI.nil {h:A0} {r b:Nat} {rs:List Nat} (hr:rd h r=some ⟨[.ns],true⟩):VarI h r [] b rs:=⟨.ns,hr,.inl ⟨rfl,rfl⟩⟩
theorem VarI.keep {h h':A0} {r b:Nat} {l:List Int} {rs:List Nat} (hv:VarI h r l b rs) (h1:rd h' r=rd h r) (h2:∀ id,id ∉ rs → ∀ x,rd h id=some x → rd h' id=some x):VarI h' r l b rs:=by
  obtain ⟨x,hx,hd⟩:=hv
  refine ⟨x,by rw [h1];exact hx,?_⟩
  rcases hd with hd | ⟨id,e,hr,hb,hn⟩
  · exact .inl hd
  · exact .inr ⟨id,e,h2 id hn _ hr,hb,hn⟩
theorem VarI.more {h:A0} {r b:Nat} {l:List Int} {rs:List Nat} (hv:VarI h r l b rs) (t:A0):VarI (h ++ t) r l b rs:=by
  obtain ⟨x,hx,hd⟩:=hv
  refine ⟨x,C8 hx,?_⟩
  rcases hd with hd | ⟨id,e,hr,hb,hn⟩
  · exact .inl hd
  · exact .inr ⟨id,e,C8 hr,hb,hn⟩
theorem B37 {h:A0} {jd m sz:Nat} {ys:List Cell} (hy:rd h jd=some ⟨ys,true⟩) (hyl:ys.length=m * sz) (hsz:0 < sz) (hn:m ≤ 1073741824) :
    E5 h sz (.c .ns) (.c (.sl jd 0 m sz))=some (.c (.sl h.length 0 m sz),h ++ [some ⟨ys,true⟩]):=by
  have h2:M3 h sz (.c (.sl jd 0 m sz))=some ys:=by
    simp only [M3,if_true,W8,hy,Option.bind_some,List.drop_zero,Nat.zero_add]
    rw [← hyl,List.take_length,if_pos ⟨Nat.le_refl _,rfl⟩]
  have e1:ys.length / sz=m:=by rw [hyl];exact Nat.mul_div_cancel _ hsz
  simp only [E5,h2,Option.bind_some]
  rw [e1,if_pos hn]
theorem VarI.push {h:A0} {r b:Nat} {l:List Int} {rs:List Nat} (hv:VarI h r l b rs) (hr:r ∈ rs) (hbr:b ≤ r) (hbh:b ≤ h.length) (hlt:∀ j ∈ rs,j < h.length) (hl:l.length ≤ 100000) (n:Int) :
    ∃ x v h2 h3,A9 h (.c (.p r 0))=some (.c x) ∧ E5 (h ++ [some ⟨[.i .i64 n],true⟩]) 1 (.c x) (.c (.sl h.length 0 1 1))=some (.c v,h2) ∧ F2 h2 (.c (.p r 0)) (.c v)=some h3 ∧
      VarI h3 r (l ++ [n]) b rs ∧ Low b h h3 ∧ (∀ j ∈ rs,j ≠ r → rd h3 j=rd h j) ∧ h.length ≤ h3.length:=by
  obtain ⟨x,hx,hd⟩:=hv
  have hrl:=D5 hx
  have l1:A9 h (.c (.p r 0))=some (.c x):=K6 hx rfl (by simp)
  rcases hd with ⟨rfl,rfl⟩ | ⟨id,rfl,hi,hb,hn⟩
  · have hA:=B37 (h:=h ++ [some ⟨[.i .i64 n],true⟩]) (jd:=h.length) (m:=1) (sz:=1) (ys:=[.i .i64 n]) (by simp) rfl (by omega) (by omega)
    have e1:(h ++ [some (Row.mk [.i .i64 n] true)]).length=h.length + 1:=by simp
    rw [e1] at hA
    have hr2:rd (h ++ [some (Row.mk [.i .i64 n] true)] ++ [some (Row.mk [.i .i64 n] true)]) r=some ⟨[.ns],true⟩:=C8 (C8 hx)
    have s1:=Z1 (x:=.sl (h.length + 1) 0 1 1) (off:=0) hr2 (by simp)
    refine ⟨.ns,_,_,_,l1,hA,s1,⟨.sl (h.length + 1) 0 1 1,I5 (D5 hr2),.inr ⟨h.length + 1,rfl,?_,by omega,fun h1=>by have:=hlt _ h1;omega⟩⟩,(((Low.refl hbh).new _).new _).set hbr _,fun j hj hjr=>?_,by simp⟩
    · rw [G3 (by omega)]
      have:=N2 (h:=h ++ [some (Row.mk [.i .i64 n] true)]) (r:=⟨[.i .i64 n],true⟩)
      rw [e1] at this
      exact this
    · rw [G3 (Ne.symm hjr)]
      have:=hlt j hj
      rw [L5 (by simp;omega),L5 this]
  · have hil:=D5 hi
    have hne:id ≠ r:=fun e=>hn (e ▸ hr)
    have hA:=R9 (h:=h ++ [some ⟨[.i .i64 n],true⟩]) (id:=id) (jd:=h.length) (n:=l.length) (m:=1) (sz:=1) (cs:=encI l) (ys:=[.i .i64 n]) (rw:=true) (C8 hi) (by rw [G6,Nat.mul_one]) (by simp) rfl rfl (by omega) (by omega)
    have e1:(h ++ [some (Row.mk [.i .i64 n] true)]).length=h.length + 1:=by simp
    rw [e1] at hA
    have ee:encI l ++ [Cell.i .i64 n]=encI (l ++ [n]):=by rw [B8i];rfl
    rw [ee] at hA
    have hr2:rd ((h ++ [some (Row.mk [.i .i64 n] true)]).set id none ++ [some (Row.mk (encI (l ++ [n])) true)]) r=some ⟨[.sl id 0 l.length 1],true⟩:=by
      refine C8 ?_
      rw [G3 hne];exact C8 hx
    have s1:=Z1 (x:=.sl (h.length + 1) 0 (l.length + 1) 1) (off:=0) hr2 (by simp)
    refine ⟨_,_,_,_,l1,hA,s1,⟨.sl (h.length + 1) 0 (l.length + 1) 1,I5 (D5 hr2),.inr ⟨h.length + 1,by simp,?_,by omega,fun h1=>by have:=hlt _ h1;omega⟩⟩,((((Low.refl hbh).new _).set hb _).new _).set hbr _,fun j hj hjr=>?_,by simp;omega⟩
    · rw [G3 (by omega)]
      have:=N2 (h:=(h ++ [some (Row.mk [.i .i64 n] true)]).set id none) (r:=⟨encI (l ++ [n]),true⟩)
      rw [List.length_set,e1] at this
      exact this
    · have hji:j ≠ id:=fun e=>hn (e ▸ hj)
      have:=hlt j hj
      rw [G3 (Ne.symm hjr),L5 (by simp;omega),G3 (Ne.symm hji),L5 this]
end Go.Proofs.YtdgggnlbdoiloaaGreat
end
section
namespace Go.Proofs.YtdgggnlbdoiloaaGreat
open Go Go.Esc
def M8 (d:Int):Nat:=(max 0 (min d 5)).toNat
theorem A5j (d:Int):M8 d ≤ 5:=by unfold M8;omega
theorem B6k {d:Int} (h0:0 ≤ d) (h5:d ≤ 5):((M8 d:Nat):Int)=d:=by unfold M8;omega
theorem E3x (d:Int):(max 0 (min d 5))=((M8 d:Nat):Int):=by unfold M8;omega
def G0 (d:Int):Nat:=2 ^ M8 d
theorem C9C {n:Nat} (h:n ≤ 5):2 ^ n ≤ 32:=by
  have:=Nat.pow_le_pow_right (n:=2) (by omega) h
  simpa using this
theorem A3T (d:Int):G0 d ≤ 32:=C9C (A5j d)
theorem Z3:[Cell.i .i64 0] ++ List.replicate 32 (Cell.i .i64 0)=encI (0 :: zI 32):=by
  simp [encI,zI]
def toX (t:List Int) (i:Nat):Int:=t.getD i 0
theorem J92 {t:List Int} {i:Nat} (h:i < t.length):t[i]? = some (toX t i):=by
  unfold toX;rw [List.getD_eq_getElem?_getD,List.getElem?_eq_getElem h];rfl
def S2 (n:Int):Bool:=decide (0 ≤ n) && decide (n ≤ 65535)
theorem H4F {n:Int} {h:A0}:A4N [.c (.i .i64 n)] h=some (.c (.b (S2 n)),h):=by
  refine D5z (n:=0) (h2:=ro h) ?_ rfl
  rw [D3f]
  unfold S2
  by_cases c:0 ≤ n
  · simp only [esc,c,Bool.true_and]
  · simp only [esc,c,Bool.false_and]
theorem I6 {d:Int} {t:List Int} (ht:t.length=32):(encI (d :: t)).length=33:=by rw [G6];simp [ht]
theorem F1l {d:Int} {t:List Int} {i:Nat} (ht:t.length=32) (hi:i < 32):(encI (d :: t))[1 + i]? = some (.i .i64 (toX t i)):=by
  rw [Y2,Nat.add_comm 1 i,List.getElem?_cons_succ,J92 (by omega)];rfl
theorem B8k {d:Int} {t:List Int} {i:Nat} {v:Int}:(encI (d :: t)).set (1 + i) (.i .i64 v)=encI (d :: t.set i v):=by
  rw [A78,Nat.add_comm 1 i,List.set_cons_succ]
theorem ldX {h:A0} {id:Nat} {d:Int} {t:List Int} {rw:Bool} (hr:rd h id=some ⟨encI (d :: t),rw⟩) (ht:t.length=32) {i:Nat} (hi:i < 32):A9 h (.c (.p id (1 + i)))=some (.c (.i .i64 (toX t i))) :=
  K6 hr (F1l ht hi) (by simp [Cell.isX])
theorem adX {id i:Nat} (hi:i < 32):D7 32 1 (.c (.p id (0 + 1))) (.c (.i .i64 (i:Int)))=some (.c (.p id (1 + i))):=by rw [S5 hi];simp
theorem B2a {d:Int} {t:List Int} {h:A0}:A07 [.a (encI (d :: t))] h=some (.c (.i .i64 (M8 d:Nat)),h):=by
  have key:∀ g,∃ g',A6S 0 [.a (encI (d :: t))] g=some (.c (.i .i64 (M8 d:Nat)),g'):=by
    intro g
    have e1:A1e (.c (.i .i64 d)) (.c (.i .i64 5))=some (.c (.i .i64 (min d 5))):=by
      simp only [A1e]
      by_cases h:(5:Int) < d
      · rw [if_pos h,Int.min_eq_right (by omega)]
      · rw [if_neg h,Int.min_eq_left (by omega)]
    have e2:A3E (.c (.i .i64 0)) (.c (.i .i64 (min d 5)))=some (.c (.i .i64 (M8 d:Nat))):=by
      rw [← E3x]
      simp only [A3E]
      by_cases h:(min d 5:Int) > 0
      · rw [if_pos h,Int.max_eq_right (by omega)]
      · rw [if_neg h,Int.max_eq_left (by omega)]
    have e3:A9 (g ++ [some (Row.mk (encI (d :: t)) true)]) (.c (.p g.length 0))=some (.c (.i .i64 d)):=K6 (N2) rfl rfl
    rw [D3e]
    generalize hz:encI (d :: t)=z at *
    exact ⟨_,by simp only [esc,e3,e1,e2] <;> rfl⟩
  obtain ⟨g',e⟩:=key (ro h)
  exact D5y e rfl
theorem J45 {k:Nat} (hk:k ≤ 5):A4 .shl (.c (.i .i64 1)) (.c (.i .u64 (k:Int)))=some (.c (.i .i64 ((2 ^ k:Nat):Int))):=by
  rw [B08 (by omega)]
  have h1:Nat.min (k:Int).toNat (IntKind.i64).bits=k:=by
    have:(IntKind.i64).bits=64:=rfl
    rw [this,Int.toNat_natCast];exact Nat.min_eq_left (by omega)
  have h2:=C9C hk
  rw [h1,Int.one_mul]
  have e:(2:Int) ^ k=((2 ^ k:Nat):Int):=by simp
  rw [e]
  generalize 2 ^ k=y at h2 ⊢
  rw [wrap_i64 (by omega) (by omega)]
theorem D16 {k:Nat} (hk:k ≤ 64):IntKind.wrap .u64 (k:Int)=(k:Int):=wrap_u64 (by omega) (by omega)
theorem C4w {d:Int} {t:List Int} {h:A0} (ht:t.length=32):A2G [.a (encI (d :: t))] h=some (.c (.i .i64 (G0 d:Nat)),h):=by
  have key:∀ g,∃ g',A6U 0 [.a (encI (d :: t))] g=some (.c (.i .i64 (G0 d:Nat)),g'):=by
    intro g
    have hl:=I6 (d:=d) ht
    have hd:=fun h=>B2a (d:=d) (t:=t) (h:=h)
    have e1:=J45 (A5j d)
    have e2:=D16 (k:=M8 d) (by have:=A5j d;omega)
    rw [D3h]
    unfold G0
    generalize encI (d :: t)=z at *
    exact ⟨_,by simp only [esc,esh,Nat.reduceAdd,Nat.reduceMul,Nat.reduceLT,hl,hd,e1,e2] <;> rfl⟩
  obtain ⟨g',e⟩:=key (ro h)
  exact D5D e rfl
def A5m (t:List Int) (i:Nat):Bool:=(List.range i).all fun k=>!decide (toX t k=toX t i)
theorem C2l {d:Int} {t:List Int} {g:A0} {i q:Nat} (ht:t.length=32) (hi:i < 32):∀ e k m:Nat,k + e=i → e < m →
    A81 q m (.c (.i .i64 (i:Int))) (.c (.p g.length 0)) (.c (.i .i64 (i:Int))) (.c (.i .i64 (k:Int))) (g ++ [some ⟨encI (d :: t),true⟩]) =
      some (.c (.b ((List.range' k e).all fun k=>!decide (toX t k=toX t i))),g ++ [some ⟨encI (d :: t),true⟩])
  | e,k,0,_,hm=>by omega
  | 0,k,m + 1,hk,hm=>by
    have c0:¬ (k:Int) < i:=by omega
    rw [C4m]
    simp only [esc,c0,List.range'_zero]
  | e + 1,k,m + 1,hk,hm=>by
    have ih:=C2l (d:=d) (g:=g) (q:=q) ht hi e (k + 1) m (by omega) (by omega)
    have c0:(k:Int) < i:=by omega
    have a1:=adX (id:=g.length) (i:=k) (by omega)
    have a2:=adX (id:=g.length) (i:=i) (by omega)
    have l1:=ldX (h:=g ++ [some (Row.mk (encI (d :: t)) true)]) (id:=g.length) N2 ht (i:=k) (by omega)
    have l2:=ldX (h:=g ++ [some (Row.mk (encI (d :: t)) true)]) (id:=g.length) N2 ht (i:=i) (by omega)
    rw [C4m,List.range'_succ,List.all_cons]
    by_cases c:toX t k=toX t i
    · rw [decide_eq_true c,Bool.not_true,Bool.false_and]
      rw [c] at l1
      simp only [esc,c0,a1,a2,l1,l2]
    · rw [decide_eq_false c,Bool.not_false,Bool.true_and]
      simp only [esc,c0,a1,a2,l1,l2,c,E6 (show k + 1 < 9223372036854775808 by omega)]
      exact ih
theorem H5o {d:Int} {t:List Int} {i:Nat} {h:A0} (ht:t.length=32) (hi:i < 32):A4O [.a (encI (d :: t)),.c (.i .i64 (i:Int))] h=some (.c (.b (A5m t i)),h):=by
  have key:∀ N,i < N → ∀ g,∃ g',A6T N [.a (encI (d :: t)),.c (.i .i64 (i:Int))] g=some (.c (.b (A5m t i)),g'):=by
    intro N hN g
    have e:=C2l (d:=d) (g:=g) (q:=N) ht hi i 0 N (by omega) hN
    rw [D3g]
    unfold A5m
    rw [List.range_eq_range']
    exact ⟨_,by simp only [esc];exact e⟩
  obtain ⟨g',e⟩:=key (i + 1) (by omega) (ro h)
  exact D5B e rfl
end Go.Proofs.YtdgggnlbdoiloaaGreat
end
section
namespace Go.Proofs.YtdgggnlbdoiloaaGreat
open Go Go.Esc
def I4 (d:List Int):List UInt8:=(d.map (B5 2)).flatten
theorem A3W {d:List Int}:(I4 d).length=2 * d.length:=by
  induction d with
  | nil=>rfl
  | cons x d ih=>simp only [I4,List.map_cons,List.flatten_cons,List.length_append,A1g,List.length_cons] at ih ⊢;omega
theorem C7M {d:List Int} {x:Int}:I4 (d ++ [x])=I4 d ++ B5 2 x:=by simp [I4]
def magX:List UInt8:=[105,100,120,33]
def J9 (d:Int):List UInt8:=magX ++ B5 1 d ++ zeros 27
theorem A3Q {d:Int}:(J9 d).length=32:=by simp [J9,magX]
def I1 (d:Int) (t:List Int):List UInt8:=D4 256 (J9 d ++ I4 t)
theorem A5o {d:Int} {t:List Int} (ht:t.length=32):(I1 d t).length=256:=J1 (by rw [List.length_append,A3Q,A3W];omega)
theorem J2u {n k:Nat} {l:List UInt8} (h:l.length + k ≤ n):D4 n (l ++ zeros k)=D4 n l:=by
  unfold D4 zeros
  rw [List.append_assoc,List.replicate_append_replicate,List.length_append,List.length_replicate]
  congr 2;omega
def okX (d:Int) (t:List Int):Bool:=decide (0 ≤ d) && (decide (d ≤ 5) && t.all S2)
theorem C5T {d:Int} {t:List Int} {g:A0} {y:List Cell} {q:Nat} (ht:t.length=32) (hyl:y.length=33):∀ e i m:Nat,i + e=32 → e < m →
    ∃ h',A8Z q m (.c (.p (g.length + 1) 0)) (.c (.p (g.length + 3) 0)) (.a (encI t)) (.c (.i .i64 (i:Int))) (g ++ [some (Row.mk y true),some (Row.mk (A3 (zeros 256)) true),some (Row.mk (A3 magX) true),some (Row.mk (A3 (D4 256 (J9 d ++ I4 (t.take i)))) true)]) =
      some (.t [.a (A3 (bif (t.drop i).all S2 then I1 d t else zeros 256)),.c (.i .i64 (bif (t.drop i).all S2 then 0 else 1))],h')
  | e,i,0,_,hm=>by omega
  | 0,i,m + 1,hi,hm=>by
    have e0:i=32:=by omega
    subst e0
    have c0:¬ ((32:Nat):Int) < 32:=by omega
    have hz:(A3 (zeros 256)).length=256:=by rw [B4];exact zeros_length
    have hB:(A3 (I1 d t)).length=256:=by rw [B4];exact A5o ht
    have eB:D4 256 (J9 d ++ I4 t)=I1 d t:=rfl
    rw [C31,List.take_of_length_le (by omega),List.drop_of_length_le (by omega),List.all_nil,cond_true,cond_true,eB]
    generalize I1 d t=B at *
    generalize A3 magX=mg at *
    generalize zeros 256=z at *
    exact ⟨_,by simp only [esc,esh,Nat.reduceAdd,Nat.reduceMul,Nat.reduceLT,c0,hz,hB] <;> rfl⟩
  | e + 1,i,m + 1,hi,hm=>by
    obtain ⟨h',ih⟩:=C5T (d:=d) (g:=g) (q:=q) ht hyl e (i + 1) m (by omega) (by omega)
    have c0:(i:Int) < 32:=by omega
    have hz:(A3 (zeros 256)).length=256:=by rw [B4];exact zeros_length
    have haf:B0 (List.replicate 256 (Cell.i .u8 0)) []=some (List.replicate 256 (Cell.i .u8 0)):=rfl
    rw [M0] at haf
    have hx:V9 32 (.a (encI t)) (.c (.i .i64 (i:Int)))=some (.c (.i .i64 t[i])):=by
      rw [A8R (by omega),Y2,List.getElem?_eq_getElem (by omega)];rfl
    have hF:=fun h=>H4F (n:=t[i]) (h:=h)
    have hnl:(J9 d ++ I4 (t.take i)).length=32 + 2 * i:=by rw [List.length_append,A3Q,A3W,List.length_take];omega
    have hP0:(D4 256 (J9 d ++ I4 (t.take i))).length=256:=J1 (by omega)
    have hp:(A3 (D4 256 (J9 d ++ I4 (t.take i)))).length=256:=by rw [B4,hP0]
    have hW:=fun h=>A0L (h:=h) (l:=D4 256 (J9 d ++ I4 (t.take i))) hP0 (a:=((32 + 2 * i:Nat):Int)) (w:=2) (v:=t[i])
    have ew:=A0P (l:=J9 d ++ I4 (t.take i)) (a:=32 + 2 * i) (w:=2) (v:=t[i]) (by omega) (by omega) (by omega) (by omega)
    rw [hnl,Nat.sub_self,show zeros 0=[] from rfl,List.append_nil,List.append_assoc,← C7M,← List.take_succ_eq_append_getElem (by omega)] at ew
    rw [show ((2:Nat):Int)=2 from rfl] at ew
    rw [ew] at hW
    have hp2:(A3 (D4 256 (J9 d ++ I4 (t.take (i + 1))))).length=256:=by rw [B4,J1 (by rw [List.length_append,A3Q,A3W,List.length_take];omega)]
    have w1:IntKind.wrap .i64 (2 * (i:Int))=((2 * i:Nat):Int):=by rw [wrap_i64 (by omega) (by omega)];omega
    have w2:IntKind.wrap .i64 (32 + ((2 * i:Nat):Int))=((32 + 2 * i:Nat):Int):=by rw [wrap_i64 (by omega) (by omega)];omega
    rw [C31,M0,List.drop_eq_getElem_cons (by omega:i < t.length),List.all_cons]
    generalize D4 256 (J9 d ++ I4 (t.take (i + 1)))=P1 at *
    generalize D4 256 (J9 d ++ I4 (t.take i))=P0 at *
    generalize I1 d t=B at *
    generalize A3 magX=mg at *
    generalize zeros 256=z at *
    cases c:S2 t[i] with
    | false =>
      rw [c] at hF
      rw [Bool.false_and,cond_false,cond_false]
      exact ⟨_,by simp only [esc,esh,Nat.reduceAdd,Nat.reduceMul,Nat.reduceLT,c0,hx,hF,haf,hz] <;> rfl⟩
    | true =>
      rw [c] at hF
      rw [Bool.true_and]
      refine ⟨h',?_⟩
      simp only [esc,esh,Nat.reduceAdd,Nat.reduceMul,Nat.reduceLT,c0,hx,hF,hp,w1,w2,hW,hp2,E6 (show i + 1 < 9223372036854775808 by omega)]
      exact ih
theorem C30 {d:Int} {t:List Int} {h:A0} (ht:t.length=32):A2F [.a (encI (d :: t))] h=some (.t [.a (A3 (bif okX d t then I1 d t else zeros 256)),.c (.i .i64 (bif okX d t then 0 else 1))],h):=by
  have key:∀ N,32 < N → ∀ g,∃ g',A6R N [.a (encI (d :: t))] g=some (.t [.a (A3 (bif okX d t then I1 d t else zeros 256)),.c (.i .i64 (bif okX d t then 0 else 1))],g'):=by
    intro N hN g
    have hB:=I6 (d:=d) ht
    have hz:(A3 (zeros 256)).length=256:=by rw [B4];exact zeros_length
    have hD:=fun h=>B2a (d:=d) (t:=t) (h:=h)
    have l0:(encI (d :: t))[0]? = some (.i .i64 d):=rfl
    have haf:B0 (List.replicate 256 (Cell.i .u8 0)) []=some (List.replicate 256 (Cell.i .u8 0)):=rfl
    rw [M0] at haf
    rw [D3d,M0]
    unfold okX
    by_cases c:0 ≤ d ∧ d ≤ 5
    · rw [decide_eq_true c.1,decide_eq_true c.2,Bool.true_and,Bool.true_and]
      have hd:=B6k c.1 c.2
      rw [hd] at hD
      have ef:B0 [Cell.i .u8 0,.i .u8 0,.i .u8 0,.i .u8 0] [(0,1,.c (.i .u8 105)),(1,1,.c (.i .u8 100)),(2,1,.c (.i .u8 120)),(3,1,.c (.i .u8 33))]=some (A3 magX):=rfl
      have hO:=A9M (data:=magX) (v:=.c (.sl (g.length + 2) 0 4 1)) (nv:=4) (h:=g ++ [some (Row.mk (encI (d :: t)) true),some (Row.mk (A3 (zeros 256)) true),some (Row.mk (A3 magX) true),none]) (Has.row (rw:=true) (by simp) rfl (I3 _)) (by decide)
      rw [A9S (by decide)] at hO
      have hM:O3 (g ++ [some (Row.mk (encI (d :: t)) true),some (Row.mk (A3 (zeros 256)) true),some (Row.mk (A3 magX) true),none]) (.c (.sl (g.length + 2) 0 4 1))=some (.c (.sl (g.length + 2) 0 4 1)):=by simp [O3]
      have hW:=fun h=>A0L (h:=h) (l:=D4 256 magX) (J1 (by decide)) (a:=4) (w:=1) (v:=d)
      have ew:=A0P (l:=magX) (a:=4) (w:=1) (v:=d) (by decide) (by omega) (by omega) (by omega)
      have e5:magX ++ zeros (4 - magX.length) ++ B5 1 d=magX ++ B5 1 d:=rfl
      have e6:D4 256 (magX ++ B5 1 d)=D4 256 (J9 d ++ I4 (t.take 0)):=by
        rw [List.take_zero,show I4 []=[] from rfl,List.append_nil]
        exact (J2u (by simp [magX])).symm
      rw [e5,e6] at ew
      rw [show ((4:Nat):Int)=4 from rfl,show ((1:Nat):Int)=1 from rfl] at ew
      rw [ew] at hW
      have hp2:(A3 (D4 256 (J9 d ++ I4 (t.take 0)))).length=256:=by rw [B4,J1 (by rw [List.length_append,A3Q,A3W,List.length_take];omega)]
      have e7:A5 (g ++ [some (Row.mk (encI (d :: t)) true),some (Row.mk (A3 (zeros 256)) true),some (Row.mk (A3 magX) true),some (Row.mk (A3 (D4 256 (J9 d ++ I4 (t.take 0)))) true)]) 32 (.c (.p g.length 1))=some (.a (encI t)):=by
        rw [R8]
        simp only [List.getElem?_cons_zero,Option.join_some,ldN,Option.bind_some]
        rw [if_pos ⟨by rw [hB];omega,rfl⟩]
        have:(encI (d :: t)).drop 1=encI t:=rfl
        rw [this,List.take_of_length_le (by rw [G6];omega)]
      obtain ⟨h',e⟩:=C5T (d:=d) (t:=t) (g:=g) (q:=N) ht hB 32 0 N (by omega) hN
      rw [List.drop_zero] at e
      generalize D4 256 (J9 d ++ I4 (t.take 0))=P1 at *
      generalize D4 256 magX=P2 at *
      generalize I1 d t=B at *
      generalize A3 magX=mg at *
      generalize zeros 256=z at *
      generalize encI (d :: t)=y at *
      refine ⟨h',?_⟩
      simp only [esc,esh,Nat.reduceAdd,Nat.reduceMul,Nat.reduceLT,hB,hz,l0,hD,ef,hM,hO,hW,hp2,e7,show g.length + 2 + 1=g.length + 3 from rfl]
      exact e
    · have cd:¬ d=((M8 d:Nat):Int):=by unfold M8;omega
      have ec:(decide (0 ≤ d) && (decide (d ≤ 5) && t.all S2))=false:=by
        by_cases c1:0 ≤ d
        · rw [decide_eq_false (show ¬ d ≤ 5 by omega)];simp
        · rw [decide_eq_false c1];rfl
      rw [ec,cond_false,cond_false]
      generalize zeros 256=z at *
      generalize encI (d :: t)=y at *
      exact ⟨_,by simp only [esc,esh,Nat.reduceAdd,Nat.reduceMul,Nat.reduceLT,hB,hz,l0,hD,cd,haf] <;> rfl⟩
  obtain ⟨g',e⟩:=key (h.length + 33) (by omega) (ro h)
  refine D5x e ?_
  cases okX d t <;> simp
def getD (b:List UInt8):Int:=fieldN b 4 1
def C2o (b:List UInt8) (i:Nat):Int:=fieldN b (32 + 2 * i) 2
def D1 (b:List UInt8) (n:Nat):List Int:=(List.range n).map (C2o b) ++ zI (32 - n)
theorem A3P {b:List UInt8} {n:Nat} (hn:n ≤ 32):(D1 b n).length=32:=by simp [D1,zI];omega
theorem C3g {b:List UInt8} {k:Nat} (hk:k < 32):D1 b (k + 1)=(D1 b k).set k (C2o b k):=by
  unfold D1
  have e:zI (32 - k)=0 :: zI (32 - (k + 1)):=by
    unfold zI
    rw [show 32 - k=(32 - (k + 1)) + 1 by omega,List.replicate_succ]
  rw [e,List.set_append_right _ _ (by simp),List.range_succ,List.map_append,List.append_assoc]
  simp
theorem A7A {b:List UInt8} {a w:Nat} (h:a + w ≤ 256) (hw:1 ≤ w) (hw4:w ≤ 4):((atN b (a:Int) w:Nat):Int)=fieldN b a w:=by
  unfold atN fieldN
  rw [if_pos ⟨by omega,T3.2 (by omega)⟩]
  simp only [Int.toNat_natCast]
def T0 (t:List Int) (n e:Nat):Bool:=(List.range' n e).all fun i=>decide (toX t i=0)
def I8 (b:List UInt8):Bool:=okX (getD b) (D1 b 32) && (decide (I1 (getD b) (D1 b 32)=b) && T0 (D1 b 32) (G0 (getD b)) (32 - G0 (getD b)))
theorem C3i {b:List UInt8} {d:Int} {t:List Int} {ix iz q:Nat} {h:A0} (ht:t.length=32) (hx:rd h ix=some ⟨encI (d :: t),true⟩) (hz:rd h iz=some ⟨encI (0 :: zI 32),true⟩):∀ e i m:Nat,i + e=32 → e < m →
    ∃ h',A8X q m (.c (.p iz 0)) (.c (.p ix 0)) (.c (.i .i64 (i:Int))) h=some (.t [.a (encI (bif T0 t i e then d :: t else 0 :: zI 32)),.c (.i .i64 (bif T0 t i e then 0 else 14))],h')
  | e,i,0,_,hm=>by omega
  | 0,i,m + 1,hi,hm=>by
    have e0:i=32:=by omega
    subst e0
    have c0:¬ ((32:Nat):Int) < 32:=by omega
    have hX:=I6 (d:=d) ht
    have hZ:(encI (0 :: zI 32)).length=33:=I6 (d:=0) K7
    have s1:=G9 (h:=h) (id:=ix) hx hX
    have s2:=storeAll (h:=h) (id:=iz) (xs:=encI (d :: t)) hz hZ hX
    have s3:=G9 (h:=h.set iz (some ⟨encI (d :: t),true⟩)) (id:=iz) (I5 (D5 hz)) hX
    have er:T0 t 32 0=true:=rfl
    rw [C3F,er,cond_true,cond_true]
    generalize encI (d :: t)=y at *
    exact ⟨_,by simp only [esc,c0,s1,s2,s3] <;> rfl⟩
  | e + 1,i,m + 1,hi,hm=>by
    obtain ⟨h',ih⟩:=C3i (b:=b) (q:=q) ht hx hz e (i + 1) m (by omega) (by omega)
    have c0:(i:Int) < 32:=by omega
    have hZ:(encI (0 :: zI 32)).length=33:=I6 (d:=0) K7
    have a1:=adX (id:=ix) (i:=i) (by omega)
    have l1:=ldX (h:=h) (id:=ix) hx ht (i:=i) (by omega)
    have haf:B0 (encI (0 :: zI 32)) []=some (encI (0 :: zI 32)):=rfl
    have s2:=storeAll (h:=h) (id:=iz) (xs:=encI (0 :: zI 32)) hz hZ hZ
    have s3:=G9 (h:=h.set iz (some ⟨encI (0 :: zI 32),true⟩)) (id:=iz) (I5 (D5 hz)) hZ
    have er:T0 t i (e + 1)=(decide (toX t i=0) && T0 t (i + 1) e):=by unfold T0;rw [List.range'_succ,List.all_cons]
    rw [C3F,er,Z3]
    by_cases c:toX t i=0
    · rw [decide_eq_true c,Bool.true_and]
      rw [c] at l1
      generalize encI (0 :: zI 32)=z at *
      exact ⟨h',by simp only [esc,c0,a1,l1,E6 (show i + 1 < 9223372036854775808 by omega)];exact ih⟩
    · rw [decide_eq_false c,Bool.false_and,cond_false,cond_false]
      generalize encI (0 :: zI 32)=z at *
      exact ⟨_,by simp only [esc,c0,a1,l1,c,haf,s2,s3] <;> rfl⟩
theorem C3h {b:List UInt8} {g:A0} {q:Nat} (hb:b.length=256) (hq:32 < q):∀ e i m:Nat,i + e=32 → e < m →
    ∃ h',A8W q m (.c (.p g.length 0)) (.c (.p (g.length + 1) 0)) (.c (.p (g.length + 2) 0)) (.c (.i .i64 (i:Int))) (g ++ [some (Row.mk (A3 b) true),some (Row.mk (encI (0 :: zI 32)) true),some (Row.mk (encI (getD b :: D1 b i)) true)]) =
      some (.t [.a (encI (bif I8 b then getD b :: D1 b 32 else 0 :: zI 32)),.c (.i .i64 (bif I8 b then 0 else 14))],h')
  | e,i,0,_,hm=>by omega
  | 0,i,m + 1,hi,hm=>by
    have e0:i=32:=by omega
    subst e0
    have c0:¬ ((32:Nat):Int) < 32:=by omega
    have hB:(A3 b).length=256:=by rw [B4,hb]
    have ht:=A3P (b:=b) (n:=32) (Nat.le_refl _)
    have hX:=I6 (d:=getD b) ht
    have hZ:(encI (0 :: zI 32)).length=33:=I6 (d:=0) K7
    have hz0:(List.replicate 256 (Cell.i .u8 0)).length=256:=List.length_replicate
    have hP:=fun h=>C30 (d:=getD b) (t:=D1 b 32) (h:=h) ht
    have hM:=fun h=>C4w (d:=getD b) (h:=h) ht
    have hm32:=A3T (getD b)
    have haf:B0 (encI (0 :: zI 32)) []=some (encI (0 :: zI 32)):=rfl
    unfold I8
    rw [C3E,Z3]
    cases co:okX (getD b) (D1 b 32) with
    | false =>
      rw [co] at hP
      simp only [cond_false] at hP
      have hzz:(A3 (zeros 256)).length=256:=by rw [B4];exact zeros_length
      rw [Bool.false_and,cond_false,cond_false]
      generalize encI (0 :: zI 32)=z at *
      generalize encI (getD b :: D1 b 32)=y at *
      generalize List.replicate 256 (Cell.i .u8 0)=zz at *
      generalize zeros 256=zzz at *
      exact ⟨_,by simp only [esc,esh,Nat.reduceAdd,Nat.reduceMul,Nat.reduceLT,c0,hX,hP,hz0,hzz,haf,hZ,show decide ((1:Int)=0)=false from rfl] <;> rfl⟩
    | true =>
      rw [co] at hP
      simp only [cond_true] at hP
      rw [Bool.true_and]
      have hil:=A5o (d:=getD b) ht
      have hI:(A3 (I1 (getD b) (D1 b 32))).length=256:=by rw [B4,hil]
      have hE:=A7t (n:=256) hil hb
      by_cases ce:I1 (getD b) (D1 b 32)=b
      · rw [decide_eq_true ce,Bool.true_and]
        rw [decide_eq_true ce] at hE
        obtain ⟨h',e⟩:=C3i (b:=b) (d:=getD b) (t:=D1 b 32) (ix:=g.length + 2) (iz:=g.length + 1) (q:=q) (h:=g ++ [some (Row.mk (A3 b) true),some (Row.mk (encI (0 :: zI 32)) true),some (Row.mk (encI (getD b :: D1 b 32)) true),some (Row.mk (A3 (I1 (getD b) (D1 b 32))) true)]) ht (by simp) (by simp) (32 - G0 (getD b)) (G0 (getD b)) q (by omega) (by omega)
        refine ⟨h',?_⟩
        generalize T0 (D1 b 32) (G0 (getD b)) (32 - G0 (getD b))=R at *
        generalize I1 (getD b) (D1 b 32)=I at *
        generalize getD b :: D1 b 32=Y at *
        generalize encI (0 :: zI 32)=z at *
        generalize List.replicate 256 (Cell.i .u8 0)=zz at *
        simp only [esc,esh,Nat.reduceAdd,Nat.reduceMul,Nat.reduceLT,c0,hX,hP,hz0,hI,hB,hE,hM]
        exact e
      · rw [decide_eq_false ce,Bool.false_and,cond_false,cond_false]
        rw [decide_eq_false ce] at hE
        generalize I1 (getD b) (D1 b 32)=I at *
        generalize encI (0 :: zI 32)=z at *
        generalize encI (getD b :: D1 b 32)=y at *
        generalize List.replicate 256 (Cell.i .u8 0)=zz at *
        exact ⟨_,by simp only [esc,esh,Nat.reduceAdd,Nat.reduceMul,Nat.reduceLT,c0,hX,hP,hz0,hI,hB,hE,haf,hZ] <;> rfl⟩
  | e + 1,i,m + 1,hi,hm=>by
    obtain ⟨h',ih⟩:=C3h (g:=g) (q:=q) hb hq e (i + 1) m (by omega) (by omega)
    have c0:(i:Int) < 32:=by omega
    have hB:(A3 b).length=256:=by rw [B4,hb]
    have ht:=A3P (b:=b) (n:=i) (by omega)
    have hX:=I6 (d:=getD b) ht
    have hA:=fun h=>A10 (h:=h) hb (a:=((32 + 2 * i:Nat):Int)) (w:=2)
    have ea:=A7A (b:=b) (a:=32 + 2 * i) (w:=2) (by omega) (by omega) (by omega)
    rw [show ((2:Nat):Int)=2 from rfl] at ea
    rw [ea] at hA
    have w1:IntKind.wrap .i64 (2 * (i:Int))=((2 * i:Nat):Int):=by rw [wrap_i64 (by omega) (by omega)];omega
    have w2:IntKind.wrap .i64 (32 + ((2 * i:Nat):Int))=((32 + 2 * i:Nat):Int):=by rw [wrap_i64 (by omega) (by omega)];omega
    have a1:=adX (id:=g.length + 2) (i:=i) (by omega)
    have hs:(encI (getD b :: D1 b i)).set (1 + i) (.i .i64 (fieldN b (32 + 2 * i) 2))=encI (getD b :: D1 b (i + 1)):=by rw [B8k,C3g (by omega)];rfl
    have hlt:1 + i < (encI (getD b :: D1 b i)).length:=by rw [hX];omega
    rw [C3E]
    generalize I8 b=G at *
    generalize getD b :: D1 b 32=Y at *
    generalize encI (getD b :: D1 b (i + 1))=y1 at *
    generalize encI (getD b :: D1 b i)=y at *
    generalize encI (0 :: zI 32)=z at *
    refine ⟨h',?_⟩
    simp only [esc,esh,Nat.reduceAdd,Nat.reduceMul,Nat.reduceLT,c0,hB,w1,w2,hA,a1,hlt,hs,E6 (show i + 1 < 9223372036854775808 by omega)]
    exact ih
theorem H3a {b:List UInt8} {h:A0} (hb:b.length=256):A4L [.a (A3 b)] h=some (.t [.a (encI (bif I8 b then getD b :: D1 b 32 else 0 :: zI 32)),.c (.i .i64 (bif I8 b then 0 else 14))],h):=by
  have key:∀ N,32 < N → ∀ g,∃ g',A6P N [.a (A3 b)] g=some (.t [.a (encI (bif I8 b then getD b :: D1 b 32 else 0 :: zI 32)),.c (.i .i64 (bif I8 b then 0 else 14))],g'):=by
    intro N hN g
    have hB:(A3 b).length=256:=by rw [B4,hb]
    have hZ:(encI (0 :: zI 32)).length=33:=I6 (d:=0) K7
    have hA:=fun h=>A10 (h:=h) hb (a:=4) (w:=1)
    have ea:=A7A (b:=b) (a:=4) (w:=1) (by omega) (by omega) (by omega)
    rw [show ((4:Nat):Int)=4 from rfl,show ((1:Nat):Int)=1 from rfl] at ea
    rw [ea] at hA
    have ef:B0 (encI (0 :: zI 32)) [(0,1,.c (.i .i64 (fieldN b 4 1)))]=some (encI (getD b :: D1 b 0)):=by
      have e1:(0 + 1 ≤ (encI (0 :: zI 32)).length):=by rw [hZ];omega
      simp only [B0,cells?]
      rw [if_pos ⟨rfl,e1⟩]
      rfl
    have hX:=I6 (d:=getD b) (A3P (b:=b) (n:=0) (by omega))
    obtain ⟨h',e⟩:=C3h (g:=g) (q:=N) hb hN 32 0 N (by omega) hN
    rw [D3b,Z3]
    generalize I8 b=G at *
    generalize getD b :: D1 b 32=Y at *
    generalize encI (getD b :: D1 b 0)=y at *
    generalize encI (0 :: zI 32)=z at *
    exact ⟨h',by simp only [esc,esh,Nat.reduceAdd,Nat.reduceMul,Nat.reduceLT,hB,hZ,hA,ef,hX];exact e⟩
  obtain ⟨g',e⟩:=key (h.length + 33) (by omega) (ro h)
  refine D5t e ?_
  cases I8 b <;> simp
end Go.Proofs.YtdgggnlbdoiloaaGreat
end
section
namespace Go.Proofs.YtdgggnlbdoiloaaGreat
open Go Go.Esc
def A1G (t:List Int) (i:Nat):Bool:=!decide (toX t i=0) && A5m t i
def H5 (t:List Int) (k:Nat):List Int:=((List.range k).filter (A1G t)).map (toX t)
theorem B4o {t:List Int} {k:Nat}:H5 t (k + 1)=H5 t k ++ (if A1G t k=true then [toX t k] else []):=by
  unfold H5
  rw [List.range_succ,List.filter_append,List.map_append,List.filter_cons]
  by_cases c:A1G t k=true <;> simp [c]
theorem B1o (t:List Int) (k:Nat):(H5 t k).length ≤ k:=by
  unfold H5;rw [List.length_map];exact Nat.le_trans (List.length_filter_le _ _) (by simp)
theorem B1s {d:Int} {t:List Int} {g:A0} {n q:Nat} (ht:t.length=32) (hn:n ≤ 32):∀ (e i m:Nat) (h:A0) (id:Nat),i + e=n → e < m → Low (g ++ [some (Row.mk (encI (d :: t)) true)]).length (g ++ [some (Row.mk (encI (d :: t)) true)]) h → (g ++ [some (Row.mk (encI (d :: t)) true)]).length ≤ id → rd h id=some ⟨encI (H5 t i),true⟩ →
    ∃ v h',A5p q m (.c (.p g.length 0)) (.c (.sl id 0 (H5 t i).length 1)) (.c (.i .i64 (n:Int))) (.c (.i .i64 (i:Int))) h=some (v,h') ∧ Out g.length h' v 1 (H5 t n).length (encI (H5 t n))
  | e,i,0,h,id,_,hm,_,_,_=>by omega
  | 0,i,m + 1,h,id,hi,hm,hlow,hid,hr=>by
    have e0:i=n:=by omega
    subst e0
    have c0:¬ (i:Int) < i:=by omega
    rw [List.length_append] at hid
    rw [C3q]
    exact ⟨_,_,by simp only [esc,c0] <;> rfl,by rw [G6];omega,_,rfl,by omega,hr⟩
  | e + 1,i,m + 1,h,id,hi,hm,hlow,hid,hr=>by
    have c0:(i:Int) < n:=by omega
    have hB:=I6 (d:=d) ht
    have hrd:rd h g.length=some ⟨encI (d :: t),true⟩:=hlow.rd (by simp)
    have s1:=G9 (h:=h) (id:=g.length) (cs:=encI (d :: t)) hrd hB
    have a1:=adX (id:=g.length) (i:=i) (by omega)
    have l1:=ldX (h:=h) (id:=g.length) hrd ht (i:=i) (by omega)
    have hFs:=fun h=>H5o (d:=d) (t:=t) (i:=i) (h:=h) ht (by omega)
    have w1:=E6 (show i + 1 < 9223372036854775808 by omega)
    have hul:=B1o t i
    rw [C3q]
    have skip:A1G t i=false → ∃ v h',A5p q m (.c (.p g.length 0)) (.c (.sl id 0 (H5 t i).length 1)) (.c (.i .i64 (n:Int))) (.c (.i .i64 ((i + 1:Nat):Int))) h=some (v,h') ∧ Out g.length h' v 1 (H5 t n).length (encI (H5 t n)):=by
      intro c
      have hu:H5 t (i + 1)=H5 t i:=by rw [B4o,c];simp
      have:=B1s (q:=q) ht hn e (i + 1) m h id (by omega) (by omega) hlow hid (by rw [hu];exact hr)
      rw [hu] at this;exact this
    by_cases cz:toX t i=0
    · obtain ⟨v,h',f1,f2⟩:=skip (by unfold A1G;rw [decide_eq_true cz];rfl)
      rw [cz] at l1
      refine ⟨v,h',?_,f2⟩
      generalize encI (d :: t)=z at *
      simp only [esc,c0,a1,l1,B19,w1]
      exact f1
    · cases cs:A5m t i with
      | false =>
        obtain ⟨v,h',f1,f2⟩:=skip (by unfold A1G;rw [cs,Bool.and_false])
        rw [cs] at hFs
        refine ⟨v,h',?_,f2⟩
        generalize encI (d :: t)=z at *
        simp only [esc,c0,a1,l1,cz,s1,hFs,B19,w1]
        exact f1
      | true =>
        rw [cs] at hFs
        have cb:A1G t i=true:=by unfold A1G;rw [cs,decide_eq_false cz];rfl
        have hu:H5 t (i + 1)=H5 t i ++ [toX t i]:=by rw [B4o,if_pos cb]
        obtain ⟨h1,b1,b2,b3,b4,b5⟩:=push (ys:=[.i .i64 (toX t i)]) (sz:=1) (n:=(H5 t i).length) hlow hr (by rw [G6];omega) hid rfl (by omega) (by omega)
        have he:encI (H5 t i) ++ [.i .i64 (toX t i)]=encI (H5 t (i + 1)):=by rw [hu];simp [encI]
        rw [he] at b2
        obtain ⟨v,h',f1,f2⟩:=B1s (q:=q) ht hn e (i + 1) m h1 (h.length + 1) (by omega) (by omega) b3 b4 b2
        have hl1:(H5 t (i + 1)).length=(H5 t i).length + 1:=by rw [hu];simp
        rw [hl1] at f1
        have ef:B0 [Cell.i .i64 0] [(0,1,.c (.i .i64 (toX t i)))]=some [.i .i64 (toX t i)]:=rfl
        refine ⟨v,h',?_,f2⟩
        generalize encI (d :: t)=z at *
        simp only [esc,c0,a1,l1,cz,s1,hFs,ef,b1,B19,w1]
        exact f1
theorem H1I {d:Int} {t:List Int} {h:A0} (ht:t.length=32):A4K [.a (encI (d :: t))] h=some (.c (.sl h.length 0 (H5 t (G0 d)).length 1),h ++ [some ⟨encI (H5 t (G0 d)),true⟩]):=by
  have key:∀ N,32 < N → ∀ g,∃ v g',A6O N [.a (encI (d :: t))] g=some (v,g') ∧ Out g.length g' v 1 (H5 t (G0 d)).length (encI (H5 t (G0 d))):=by
    intro N hN g
    have hB:=I6 (d:=d) ht
    have hM:=fun h=>C4w (d:=d) (h:=h) ht
    have hm:=A3T d
    obtain ⟨v,g',f1,f2⟩:=B1s (g:=g) (d:=d) (q:=N) ht hm (G0 d) 0 N (g ++ [some (Row.mk (encI (d :: t)) true),some (Row.mk [] true),some (Row.mk [] true)]) (g.length + 2) (by omega) (by omega)
      (by have:=(Low.refl (h:=g ++ [some (Row.mk (encI (d :: t)) true)]) (Nat.le_refl _)).new [some ⟨[],true⟩,some ⟨[],true⟩]
          simpa using this) (by simp) (by simp [H5,encI])
    rw [show H5 t 0=[] from rfl] at f1
    rw [D3a]
    refine ⟨v,g',?_,f2⟩
    generalize encI (d :: t)=z at *
    simp only [esc,esh,Nat.reduceAdd,Nat.reduceMul,Nat.reduceLT,hB,hM] at f1 ⊢
    exact f1
  obtain ⟨v,g',e,ho⟩:=key (h.length + 33) (by omega) (ro h)
  exact D5s e (by simpa [L6] using ho) (by simp)
def A0I (h:Nat) (b:Int):Nat:=if b < 1 then 0 else if 32 ≤ b then h else h % 2 ^ b.toNat
theorem I1w {x:Nat} {b:Int} {h:A0} (hx:x < 4294967296):A4S [.c (.i .u32 (x:Int)),.c (.i .i64 b)] h=some (.c (.i .i64 (A0I x b:Nat)),h):=by
  have key:∀ g,∃ g',A60 0 [.c (.i .u32 (x:Int)),.c (.i .i64 b)] g=some (.c (.i .i64 (A0I x b:Nat)),g'):=by
    intro g
    rw [D3o]
    unfold A0I
    by_cases c1:b < 1
    · rw [if_pos c1]
      exact ⟨_,by simp only [esc,c1] <;> rfl⟩
    · rw [if_neg c1]
      have w1:IntKind.wrap .i64 (x:Int)=(x:Int):=wrap_i64 (by omega) (by omega)
      by_cases c2:32 ≤ b
      · rw [if_pos c2]
        exact ⟨_,by simp only [esc,c1,c2,w1] <;> rfl⟩
      · rw [if_neg c2]
        obtain ⟨k,rfl⟩:∃ k:Nat,b=k:=⟨b.toNat,by omega⟩
        have hk:k < 32:=by omega
        rw [Int.toNat_natCast]
        have w2:=D16 (k:=k) (by omega)
        have hp:2 ^ k ≤ 2 ^ 31:=Nat.pow_le_pow_right (by omega) (by omega)
        have hp0:0 < 2 ^ k:=Nat.pow_pos (by omega)
        have e1:A4 .shl (.c (.i .u32 1)) (.c (.i .u64 (k:Int)))=some (.c (.i .u32 ((2 ^ k:Nat):Int))):=by
          rw [B08 (by omega)]
          have h1:Nat.min (k:Int).toNat (IntKind.u32).bits=k:=by
            have:(IntKind.u32).bits=32:=rfl
            rw [this,Int.toNat_natCast];exact Nat.min_eq_left (by omega)
          rw [h1,Int.one_mul]
          have e:(2:Int) ^ k=((2 ^ k:Nat):Int):=by simp
          rw [e]
          generalize 2 ^ k=y at hp hp0 ⊢
          rw [wrap_u32 (by omega) (by omega)]
        have w3:IntKind.wrap .u32 (((2 ^ k:Nat):Int) - 1)=((2 ^ k - 1:Nat):Int):=by rw [wrap_u32 (by omega) (by omega)];omega
        have e2:=D63 (a:=x) (b:=2 ^ k - 1) hx (by omega)
        rw [Nat.and_two_pow_sub_one_eq_mod] at e2
        have hm:x % 2 ^ k < 2 ^ k:=Nat.mod_lt _ hp0
        have w4:IntKind.wrap .i64 ((x % 2 ^ k:Nat):Int)=((x % 2 ^ k:Nat):Int):=wrap_i64 (by omega) (by omega)
        generalize 2 ^ k - 1=y at *
        generalize x % 2 ^ k=z at *
        exact ⟨_,by simp only [esc,c1,c2,w2,e1,w3,e2,w4] <;> rfl⟩
  obtain ⟨g',e⟩:=key (ro h)
  exact D5O e rfl
theorem H3l {d:Int} {t:List Int} {x:Nat} {h:A0} (ht:t.length=32) (hx:x < 4294967296):A4M [.a (encI (d :: t)),.c (.i .u32 (x:Int))] h=some (.c (.i .i64 (x % G0 d:Nat)),h):=by
  have key:∀ g,∃ g',A6Q 0 [.a (encI (d :: t)),.c (.i .u32 (x:Int))] g=some (.c (.i .i64 (x % G0 d:Nat)),g'):=by
    intro g
    have hB:=I6 (d:=d) ht
    have hD:=fun h=>B2a (d:=d) (t:=t) (h:=h)
    have hL:=fun h=>I1w (x:=x) (b:=(M8 d:Nat)) (h:=h) hx
    have e:A0I x (M8 d:Nat)=x % G0 d:=by
      unfold A0I G0
      have:=A5j d
      rw [Int.toNat_natCast]
      by_cases c:((M8 d:Nat):Int) < 1
      · have:M8 d=0:=by omega
        rw [if_pos c,this];simp [Nat.mod_one]
      · rw [if_neg c,if_neg (by omega)]
    rw [e] at hL
    rw [D3c]
    generalize encI (d :: t)=y at *
    exact ⟨_,by simp only [esc,esh,Nat.reduceAdd,Nat.reduceMul,Nat.reduceLT,hB,hD,hL] <;> rfl⟩
  obtain ⟨g',e⟩:=key (ro h)
  exact D5v e rfl
end Go.Proofs.YtdgggnlbdoiloaaGreat
end
section
namespace Go.Proofs.YtdgggnlbdoiloaaGreat
open Go Go.Esc
def L9 (D:Dev) (n k:Int) (d:List Int):Bool:=decide (k=2) && N0 D.length n (d.getD 0 0) && I8 (blk D (d.getD 0 0))
def J8 (D:Dev) (n k:Int) (d:List Int):List Int:=bif L9 D n k d then getD (blk D (d.getD 0 0)) :: D1 (blk D (d.getD 0 0)) 32 else 0 :: zI 32
theorem A8Q (b:List UInt8):(D1 b 32).length=32:=by simp [D1,zI]
theorem B15 (D:Dev) (n k:Int) (d:List Int):∃ x t,J8 D n k d=x :: t ∧ t.length=32:=by
  unfold J8
  cases L9 D n k d with
  | false=>exact ⟨_,_,rfl,K7⟩
  | true=>exact ⟨_,_,rfl,A8Q _⟩
theorem B16 (D:Dev) (n k:Int) (d:List Int):(encI (J8 D n k d)).length=33:=by
  obtain ⟨x,t,e,h⟩:=B15 D n k d
  rw [e,G6];simp [h]
theorem C2G {D:Dev} {n m k l s p:Int} {d:List Int} {f:Cell} {h:A0} (hD:okD D) (hd:d.length=7) (hv:IsView h f D) :
    A2D [.a (vwC D.length n m f),.a (A7 k l s p d)] h=some (.t [.a (encI (J8 D n k d)),.c (.b (L9 D n k d))],h):=by
  have key:∀ g,IsView g f D → ∃ g',A6H 0 [.a (vwC D.length n m f),.a (A7 k l s p d)] g=some (.t [.a (encI (J8 D n k d)),.c (.b (L9 D n k d))],g'):=by
    intro g hv
    have l3:=B0j (b:=D.length) (n:=n) (m:=m) (f:=f)
    have l4:=A38 (b:=D.length) (n:=n) (m:=m) (f:=f)
    have i0:(A7 k l s p d)[0]? = some (.i .i64 k):=rfl
    have i4:(A7 k l s p d)[4]? = some (.i .i64 (d.getD 0 0)):=by
      have:(A7 k l s p d)[4]? = (encI d)[0]? := rfl
      rw [this,Y2,List.getElem?_eq_getElem (by omega),List.getD_eq_getElem?_getD,List.getElem?_eq_getElem (by omega)];rfl
    have ad:∀ q,D7 6 1 (.c (.p q 4)) (.c (.i .i64 0))=some (.c (.p q 4)):=fun q=>rfl
    have hz:(encI (0 :: zI 32)).length=33:=I6 (d:=0) K7
    have ef:B0 (encI (0 :: zI 32)) []=some (encI (0 :: zI 32)):=rfl
    have n12:¬ (14:Int)=0:=by decide
    rw [D21,Z3]
    unfold J8 L9
    by_cases c1:k=2
    · have hI:=fun h=>B12 (b:=D.length) (n:=n) (m:=m) (i:=d.getD 0 0) (h:=h)
      cases c2:N0 D.length n (d.getD 0 0) with
      | false =>
        simp only [c2] at hI
        simp only [Bool.and_false,Bool.false_and,cond_false]
        generalize vwC D.length n m f=V at *
        generalize A7 k l s p d=I at *
        generalize encI (0 :: zI 32)=z at *
        exact ⟨_,by simp only [esc,esh,Nat.reduceAdd,Nat.reduceMul,Nat.reduceLT,eq_self,i0,c1,l3,ad,i4,hI,hz,ef] <;> rfl⟩
      | true =>
        simp only [c2] at hI
        have hB:=B0i (n:=n) (m:=m) (no:=d.getD 0 0) (h:=g ++ [some (Row.mk (vwC D.length n m f) true),some (Row.mk (A7 k l s p d) true),some (Row.mk (encI (0 :: zI 32)) true)]) hD (hv.more _)
        have hG:=fun h=>H3a (h:=h) (A5d hD (i:=d.getD 0 0))
        have hX:(encI (getD (blk D (d.getD 0 0)) :: D1 (blk D (d.getD 0 0)) 32)).length=33:=I6 (A8Q _)
        rw [decide_eq_true c1,Bool.true_and,Bool.true_and]
        cases c3:I8 (blk D (d.getD 0 0)) with
        | false =>
          simp only [c3,cond_false] at hG
          rw [cond_false]
          generalize encI (getD (blk D (d.getD 0 0)) :: D1 (blk D (d.getD 0 0)) 32)=x at *
          generalize A3 (blk D (d.getD 0 0))=y at *
          generalize vwC D.length n m f=V at *
          generalize A7 k l s p d=I at *
          generalize encI (0 :: zI 32)=z at *
          exact ⟨_,by simp only [esc,esh,Nat.reduceAdd,Nat.reduceMul,Nat.reduceLT,eq_self,i0,c1,l3,l4,ad,i4,hI,hB,hG,hz,hX,ef,n12] <;> rfl⟩
        | true =>
          simp only [c3,cond_true] at hG
          rw [cond_true]
          generalize encI (getD (blk D (d.getD 0 0)) :: D1 (blk D (d.getD 0 0)) 32)=x at *
          generalize A3 (blk D (d.getD 0 0))=y at *
          generalize vwC D.length n m f=V at *
          generalize A7 k l s p d=I at *
          generalize encI (0 :: zI 32)=z at *
          exact ⟨_,by simp only [esc,esh,Nat.reduceAdd,Nat.reduceMul,Nat.reduceLT,eq_self,i0,c1,l3,l4,ad,i4,hI,hB,hG,hz,hX,ef,n12] <;> rfl⟩
    · rw [decide_eq_false c1,Bool.false_and,Bool.false_and,cond_false]
      generalize vwC D.length n m f=V at *
      generalize A7 k l s p d=I at *
      generalize encI (0 :: zI 32)=z at *
      exact ⟨_,by simp only [esc,esh,Nat.reduceAdd,Nat.reduceMul,Nat.reduceLT,eq_self,i0,c1,hz,ef] <;> rfl⟩
  obtain ⟨g',e⟩:=key (ro h) hv.ro
  exact D5f e (by simp [Val.flat,Cell.flat])
def G5 (D:Dev) (n k:Int) (d:List Int):List Int:=bif L9 D n k d then (H5 (D1 (blk D (d.getD 0 0)) 32) (G0 (getD (blk D (d.getD 0 0))))).filter (N0 D.length n) else []
theorem B1t {D:Dev} {n m:Int} {f:Cell} {g:A0} {p q sid:Nat} {L:List Int} (h1:rd g p=some ⟨vwC D.length n m f,true⟩) (hL:L.length ≤ 32):∀ (e i M id:Nat) (h:A0) (l:List Int),i + e=L.length → e < M → l.length ≤ i → Low g.length g h → g.length ≤ id → id ≠ sid → rd h sid=some ⟨encI L,true⟩ → rd h id=some ⟨encI l,true⟩ →
    ∃ v' h',A8O q M (.c (.p p 0)) (.c (.sl id 0 l.length 1)) (.c (.sl sid 0 L.length 1)) (.c (.i .i64 (L.length:Int))) (.c (.i .i64 (i:Int))) h=some (v',h') ∧ Out g.length h' v' 1 (l ++ (L.drop i).filter (N0 D.length n)).length (encI (l ++ (L.drop i).filter (N0 D.length n)))
  | e,i,0,id,h,l,_,hm,_,_,_,_,_,_=>by omega
  | 0,i,M + 1,id,h,l,hi,hm,hl,hlow,hid,hne,hs,hr=>by
    have e0:i=L.length:=by omega
    subst e0
    have c0:¬ ((L.length:Nat):Int) < (L.length:Nat):=by omega
    rw [C2t,List.drop_of_length_le (Nat.le_refl _),List.filter_nil,List.append_nil]
    exact ⟨_,_,by simp only [esc,c0] <;> rfl,by rw [G6,Nat.mul_one],id,rfl,hid,hr⟩
  | e + 1,i,M + 1,id,h,l,hi,hm,hl,hlow,hid,hne,hs,hr=>by
    have hil:i < L.length:=by omega
    have c0:(i:Int) < (L.length:Nat):=by omega
    have ad:D0 1 (.c (.sl sid 0 L.length 1)) (.c (.i .i64 (i:Int)))=some (.c (.p sid i)):=by rw [I9 hil];simp
    have l1:A9 h (.c (.p sid i))=some (.c (.i .i64 L[i])):=K6 hs (by rw [Y2,List.getElem?_eq_getElem hil];rfl) rfl
    have fa:B9 (.c (.p p 0)) 0=some (.c (.p p 0)):=rfl
    have l3:A5 h 3 (.c (.p p 0))=some (.a (C4 D.length n m)):=by rw [A5v (hlow.rd h1) (by simp [vwC]) rfl];rfl
    have hI:=B12 (b:=D.length) (n:=n) (m:=m) (i:=L[i]) (h:=h)
    have w1:=E6 (show i + 1 < 9223372036854775808 by omega)
    rw [C2t,List.drop_eq_getElem_cons hil]
    cases c:N0 D.length n L[i] with
    | false =>
      rw [c] at hI
      obtain ⟨v',h',f1,f2⟩:=B1t (q:=q) h1 hL e (i + 1) M id h l (by omega) (by omega) (by omega) hlow hid hne hs hr
      rw [List.filter_cons_of_neg (by rw [c];simp)]
      refine ⟨v',h',?_,f2⟩
      simp only [K3,A0B,c0,decide_true,A1k,ad,l1,fa,l3,hI,A1j,C2s,A3z,w1]
      exact f1
    | true =>
      rw [c] at hI
      have ef:B0 [Cell.i .i64 0] [(0,1,.c (.i .i64 L[i]))]=some (encI [L[i]]):=rfl
      obtain ⟨h2,a1,a2,a3,a4⟩:=C9E (n:=l.length) (sz:=1) (ys:=encI [L[i]]) hr (by rw [G6,Nat.mul_one]) rfl (by omega) (by omega)
      rw [← B8i] at a2
      have el:(l ++ [L[i]]).length=l.length + 1:=by simp
      have hlt:=D5 hs
      obtain ⟨v',h',f1,f2⟩:=B1t (q:=q) h1 hL e (i + 1) M (h.length + 1) h2 (l ++ [L[i]]) (by omega) (by omega) (by rw [el];omega) (hlow.trans (a4 _ hid (by have:=hlow.2.1;omega))) (by have:=hlow.2.1;omega) (by omega) (a3 _ _ (Ne.symm hne) hs) a2
      rw [List.filter_cons_of_pos (by rw [c])]
      rw [List.append_assoc,List.singleton_append] at f2
      rw [el] at f1
      refine ⟨v',h',?_,f2⟩
      simp only [K3,A0B,c0,decide_true,A1k,ad,l1,fa,l3,hI,ef,a1,C2s,A3z,w1]
      exact f1
theorem C2r {D:Dev} {n m k l s p:Int} {d:List Int} {f:Cell} {h:A0} (hD:okD D) (hd:d.length=7) (hv:IsView h f D) :
    A2C [.a (vwC D.length n m f),.a (A7 k l s p d)] h=some (.c (.sl h.length 0 (G5 D n k d).length 1),h ++ [some ⟨encI (G5 D n k d),true⟩]):=by
  have key:∀ g,IsView g f D → ∃ v g',A6G 33 [.a (vwC D.length n m f),.a (A7 k l s p d)] g=some (v,g') ∧ Out g.length g' v 1 (G5 D n k d).length (encI (G5 D n k d)):=by
    intro g hv
    have hIl:(A7 k l s p d).length=11:=by simp [A7,G6,hd]
    have l11:ldN (some (Row.mk (A7 k l s p d) true)) 0 11=some (.a (A7 k l s p d)):=P4 hIl
    have l4:=A38 (b:=D.length) (n:=n) (m:=m) (f:=f)
    have hz:(encI (0 :: zI 32)).length=33:=I6 (d:=0) K7
    have hX:=B16 D n k d
    have hI:=C2G (n:=n) (m:=m) (k:=k) (l:=l) (s:=s) (p:=p) (h:=g ++ [some (Row.mk (vwC D.length n m f) true),some (Row.mk (A7 k l s p d) true),some (Row.mk [] true)]) hD hd (hv.more _)
    rw [D20,Z3]
    cases c:L9 D n k d with
    | false =>
      rw [c] at hI
      have eb:G5 D n k d=[]:=by unfold G5;rw [c];rfl
      rw [eb]
      generalize encI (J8 D n k d)=x at *
      generalize encI (0 :: zI 32)=z at *
      refine ⟨.c (.sl (g.length + 4) 0 0 1),g ++ [some (Row.mk (vwC D.length n m f) true),some (Row.mk (A7 k l s p d) true),some (Row.mk [] true),some (Row.mk x true),some (Row.mk [] true)],?_,rfl,g.length + 4,rfl,by omega,by simp [encI]⟩
      generalize vwC D.length n m f=V at *
      generalize A7 k l s p d=I at *
      simp only [esc,esh,Nat.reduceAdd,Nat.reduceMul,Nat.reduceLT,l4,l11,hI,hz,hX]
    | true =>
      rw [c] at hI
      have eb:G5 D n k d=(H5 (D1 (blk D (d.getD 0 0)) 32) (G0 (getD (blk D (d.getD 0 0))))).filter (N0 D.length n):=by unfold G5;rw [c];rfl
      have ex:J8 D n k d=getD (blk D (d.getD 0 0)) :: D1 (blk D (d.getD 0 0)) 32:=by unfold J8;rw [c];rfl
      rw [ex] at hI hX
      have hB:=fun h=>H1I (d:=getD (blk D (d.getD 0 0))) (h:=h) (A8Q (blk D (d.getD 0 0)))
      have hBl:=B1o (D1 (blk D (d.getD 0 0)) 32) (G0 (getD (blk D (d.getD 0 0))))
      have hml:=A3T (getD (blk D (d.getD 0 0)))
      rw [eb]
      generalize H5 (D1 (blk D (d.getD 0 0)) 32) (G0 (getD (blk D (d.getD 0 0))))=L at *
      generalize encI (getD (blk D (d.getD 0 0)) :: D1 (blk D (d.getD 0 0)) 32)=x at *
      generalize encI (0 :: zI 32)=z at *
      obtain ⟨v',h',f1,f2⟩:=B1t (D:=D) (n:=n) (m:=m) (f:=f) (g:=g ++ [some (Row.mk (vwC D.length n m f) true),some (Row.mk (A7 k l s p d) true),some (Row.mk [] true),some (Row.mk x true)]) (p:=g.length) (q:=33) (sid:=g.length + 5) (L:=L) (by simp) (by omega) L.length 0 33 (g.length + 4) (g ++ [some (Row.mk (vwC D.length n m f) true),some (Row.mk (A7 k l s p d) true),some (Row.mk [] true),some (Row.mk x true),some (Row.mk [] true),some (Row.mk (encI L) true)]) [] (by omega) (by omega) (by simp)
        (by
          have:=(Low.refl (h:=g ++ [some (Row.mk (vwC D.length n m f) true),some (Row.mk (A7 k l s p d) true),some (Row.mk [] true),some (Row.mk x true)]) (Nat.le_refl _)).new [some (Row.mk [] true),some (Row.mk (encI L) true)]
          simpa using this) (by simp) (by omega) (by simp) (by simp [encI])
      rw [List.nil_append,List.drop_zero] at f2
      rw [List.length_nil] at f1
      refine ⟨v',h',?_,f2.1,?_⟩
      · generalize vwC D.length n m f=V at *
        generalize A7 k l s p d=I at *
        simp only [esc,esh,Nat.reduceAdd,Nat.reduceMul,Nat.reduceLT,l4,l11,hI,hz,hX,hB]
        exact f1
      · obtain ⟨id,e,hb,hr⟩:=f2.2
        exact ⟨id,e,by simp at hb;omega,hr⟩
  obtain ⟨v,g',e,ho⟩:=key (ro h) hv.ro
  exact D5e e (by simpa [L6] using ho) (by simp)
end Go.Proofs.YtdgggnlbdoiloaaGreat
end
noncomputable section
namespace Go.Proofs.YtdgggnlbdoiloaaGreat
open Go Go.Esc
set_option maxRecDepth 100000
def C6B:List AOper:=[aO 2 (.mv (.v (.c (.i .i64 0))))]
def I2h:ACode:=.ops C6B
def C6C:List AOper:=[aO 4 (.mv (.t 0)),aO 5 (.lenS (.t 4)),aO 6 (.bin .lss (.t 5) (.v (.c (.i .i64 1)))),aO 7 (.mv (.t 6)),{ dst:=some 8,op:=.mv (.t 0),guard:=some (7,false) },{ dst:=some 9,op:=.lenS (.t 8),guard:=some (7,false) },{ dst:=some 10,op:=.bin .gtr (.t 9) (.v (.c (.i .i64 24))),guard:=some (7,false) },aO 11 (.pick (.t 7) (.v (.c (.b true))) (.t 10)),aO 12 (.mv (.t 11)),{ dst:=some 13,op:=.mv (.t 0),guard:=some (12,false) },{ dst:=some 14,op:=.bin .eql (.t 13) (.v (.c (.s [46]))),guard:=some (12,false) },aO 15 (.pick (.t 12) (.v (.c (.b true))) (.t 14)),aO 16 (.mv (.t 15)),{ dst:=some 17,op:=.mv (.t 0),guard:=some (16,false) },{ dst:=some 18,op:=.bin .eql (.t 17) (.v (.c (.s [46,46]))),guard:=some (16,false) },aO 19 (.pick (.t 16) (.v (.c (.b true))) (.t 18))]
def I2j:ACode:=.ops C6C
def C6D:List AOper:=[aO 2 (.mv (.v (.c (.i .i64 3))))]
def I2F:ACode:=.ops C6D
def I2X:ACode:=.seq [2] I2F .ret
def I2Z:ACode:=.cond (.t 19) I2X .skip
def I21:ACode:=.seq [0,19] I2j I2Z
def C6E:List AOper:=[aO 20 (.mv (.t 0)),aO 21 (.lenS (.t 20)),aO 22 (.mv (.v (.c (.i .i64 0))))]
def I23:ACode:=.ops C6E
def C6F:List AOper:=[aO 23 (.bin .lss (.t 22) (.t 21))]
def I25:ACode:=.ops C6F
def I27:ACode:=.cond (.t 23) .skip (.exit 0)
def C6G:List AOper:=[aO 24 (.mv (.t 22)),aO 3 (.mv (.t 24))]
def I29:ACode:=.ops C6G
def C6H:List AOper:=[aO 25 (.mv (.t 0)),aO 26 (.mv (.t 3)),aO 27 (.idxS (.t 25) (.t 26)),aO 28 (.bin .eql (.t 27) (.v (.c (.i .u8 0)))),aO 29 (.mv (.t 28)),{ dst:=some 30,op:=.mv (.t 0),guard:=some (29,false) },{ dst:=some 31,op:=.mv (.t 3),guard:=some (29,false) },{ dst:=some 32,op:=.idxS (.t 30) (.t 31),guard:=some (29,false) },{ dst:=some 33,op:=.bin .eql (.t 32) (.v (.c (.i .u8 47))),guard:=some (29,false) },aO 34 (.pick (.t 29) (.v (.c (.b true))) (.t 33))]
def I2k:ACode:=.ops C6H
def C6I:List AOper:=[aO 2 (.mv (.v (.c (.i .i64 3))))]
def I2m:ACode:=.ops C6I
def I2o:ACode:=.seq [2] I2m .ret
def I2q:ACode:=.cond (.t 34) I2o .skip
def I2s:ACode:=.seq [0,21,22,34] I2k I2q
def I2u:ACode:=.seq [0,3,21,22] I29 I2s
def I2w:ACode:=.block 1 I2u
def C6J:List AOper:=[aO 35 (.bin .add (.t 22) (.v (.c (.i .i64 1)))),aO 22 (.mv (.t 35))]
def I2y:ACode:=.ops C6J
def I2A:ACode:=.seq [0,21,22] I2w I2y
def I2C:ACode:=.seq [0,21,22] I27 I2A
def I2G:ACode:=.seq [0,21,22,23] I25 I2C
def I2H:ACode:=.loop [0,21,22] I2G
def I2J:ACode:=.block 0 I2H
def I2L:ACode:=.seq [0,21,22] I23 I2J
def C6K:List AOper:=[aO 2 (.mv (.v (.c (.i .i64 0))))]
def I2N:ACode:=.ops C6K
def I2P:ACode:=.seq [2] I2N .ret
def I2Q:ACode:=.seq [] I2L I2P
def I2S:ACode:=.seq [0] I21 I2Q
def I2U:ACode:=.seq [0] I2h I2S
def A_name_Check:AFn:=⟨I2U,[.tmp 2]⟩
def X1:B6:=C1
def I2i (n:Nat):SmV:=A2 X1 C6B
def I2E (n:Nat):SmV:=A2 X1 C6C
def I2W (n:Nat):SmV:=A2 X1 C6D
def I2Y (n:Nat):SmV:=A1 [2] (I2W n) A8
def I20 (n:Nat):SmV:=B8 (.t 19) (I2Y n) C0
def I22 (n:Nat):SmV:=A1 [0,19] (I2E n) (I20 n)
def I24 (n:Nat):SmV:=A2 X1 C6E
def I26 (n:Nat):SmV:=A2 X1 C6F
def I28 (n:Nat):SmV:=B8 (.t 23) C0 (E3 0)
def I3a (n:Nat):SmV:=A2 X1 C6G
def I2l (n:Nat):SmV:=A2 X1 C6H
def I2n (n:Nat):SmV:=A2 X1 C6I
def I2p (n:Nat):SmV:=A1 [2] (I2n n) A8
def I2r (n:Nat):SmV:=B8 (.t 34) (I2p n) C0
def I2t (n:Nat):SmV:=A1 [0,21,22,34] (I2l n) (I2r n)
def I2v (n:Nat):SmV:=A1 [0,3,21,22] (I3a n) (I2t n)
def I2x (n:Nat):SmV:=C6 1 (I2v n)
def I2z (n:Nat):SmV:=A2 X1 C6J
def I2B (n:Nat):SmV:=A1 [0,21,22] (I2x n) (I2z n)
def I2D (n:Nat):SmV:=A1 [0,21,22] (I28 n) (I2B n)
def C6y (n:Nat):SmV:=A1 [0,21,22,23] (I26 n) (I2D n)
def I2I (n:Nat):SmV:=E4 n [0,21,22] (C6y n)
def I2K (n:Nat):SmV:=C6 0 (I2I n)
def I2M (n:Nat):SmV:=A1 [0,21,22] (I24 n) (I2K n)
def I2O (n:Nat):SmV:=A2 X1 C6K
def C6z (n:Nat):SmV:=A1 [2] (I2O n) A8
def I2R (n:Nat):SmV:=A1 [] (I2M n) (C6z n)
def I2T (n:Nat):SmV:=A1 [0] (I22 n) (I2R n)
def I2V (n:Nat):SmV:=A1 [0] (I2i n) (I2T n)
def A9t (n:Nat):AExit → Env → A0 → A6:=fun x e h=>match x with | .normal=>hold ((C6z n) A_name_Check.fin (e.keep []) h) | .exit id=>A_name_Check.fin (.exit id) e h | .ret=>A_name_Check.fin .ret e h
def I3b (n:Nat):AExit → Env → A0 → A6:=fun x e h=>match x with | .exit i=>bif Nat.beq i 0 then (A9t n) .normal e h else (A9t n) (.exit i) e h | .normal=>(A9t n) .normal e h | .ret=>(A9t n) .ret e h
def A9u (n m:Nat) (x0 x21 x22:Val) (h:A0):A6:=E1 (C6y n) [0,21,22] (I3b n) m [(0,x0),(21,x21),(22,x22)] h
def B0S (n:Nat) (args:List Val) (h:A0):A6:=(I2V n) A_name_Check.fin (params 0 args) h
theorem D3r (n:Nat) (a0:Val) (h:A0):B0S n [a0] h=bnd (Q0 a0) fun v1=>bnd (A4 .lss v1 (.c (.i .i64 1))) fun v2=>bnd (gd v2 false (some (a0,h)) (some (.no,h))) fun p3=>bnd (gd v2 false (bnd (Q0 p3.1) fun v4=>some (v4,p3.2)) (some (.no,p3.2))) fun p5=>bnd (gd v2 false (bnd (A4 .gtr p5.1 (.c (.i .i64 24))) fun v6=>some (v6,p5.2)) (some (.no,p5.2))) fun p7=>bnd (C5 v2 (.c (.b true)) p7.1) fun v8=>bnd (gd v8 false (some (a0,p7.2)) (some (.no,p7.2))) fun p9=>bnd (gd v8 false (bnd (A4 .eql p9.1 (.c (.s [46]))) fun v10=>some (v10,p9.2)) (some (.no,p9.2))) fun p11=>bnd (C5 v8 (.c (.b true)) p11.1) fun v12=>bnd (gd v12 false (some (a0,p11.2)) (some (.no,p11.2))) fun p13=>bnd (gd v12 false (bnd (A4 .eql p13.1 (.c (.s [46,46]))) fun v14=>some (v14,p13.2)) (some (.no,p13.2))) fun p15=>bnd (C5 v12 (.c (.b true)) p15.1) fun v16=>cnd v16 (some ((.c (.i .i64 3)),p15.2)) (bnd (Q0 a0) fun v17=>A9u n n a0 v17 (.c (.i .i64 0)) p15.2):=by kernel_rfl
theorem C6A (n m:Nat) (x0 x21 x22:Val) (h:A0):A9u n (m + 1) x0 x21 x22 h=bnd (A4 .lss x22 x21) fun v18=>cnd v18 (bnd (U3 x0 x22) fun v19=>bnd (A4 .eql v19 (.c (.i .u8 0))) fun v20=>bnd (gd v20 false (some (x0,h)) (some (.no,h))) fun p21=>bnd (gd v20 false (some (x22,p21.2)) (some (.no,p21.2))) fun p22=>bnd (gd v20 false (bnd (U3 p21.1 p22.1) fun v23=>some (v23,p22.2)) (some (.no,p22.2))) fun p24=>bnd (gd v20 false (bnd (A4 .eql p24.1 (.c (.i .u8 47))) fun v25=>some (v25,p24.2)) (some (.no,p24.2))) fun p26=>bnd (C5 v20 (.c (.b true)) p26.1) fun v27=>cnd v27 (some ((.c (.i .i64 3)),p26.2)) (bnd (A4 .add x22 (.c (.i .i64 1))) fun v28=>A9u n m x0 x21 v28 p26.2)) (some ((.c (.i .i64 0)),h)):=by kernel_rfl
theorem K_name_Check:FnK Tryz.prog 114 A_name_Check X1 B0S:=.mk' (C3) Tryz.func114 (by kernel_rfl) (by intro n args h;kernel_rfl)
def A2L:Fun:=tidy (Lim A_name_Check X1)
theorem B3x:SOk Tryz.prog 114 A2L:=K_name_Check.sok
theorem D5T {n:Nat} {args:List Val} {h h2:A0} {v:Val} (he:B0S n args (ro h)=some (v,h2)) (hf:v.flat=true):A2L args h=some (v,h):=K_name_Check.flat he hf
def C6Q:List AOper:=[aO 2 (.alloc (List.replicate 25 (.i .u8 0))),aO 3 (.mv (.v (.c (.i .i64 0))))]
def I3l:ACode:=.ops C6Q
def C6R:List AOper:=[aO 4 (.alloc (List.replicate 25 (.i .u8 0)))]
def I3n:ACode:=.ops C6R
def C6U:List AOper:=[aO 7 (.mv (.t 0)),aO 8 (.call 114 [(.t 7)]),aO 5 (.mv (.t 8))]
def I3J:ACode:=.ops C6U
def C6V:List AOper:=[aO 9 (.mv (.t 5)),aO 10 (.bin .neq (.t 9) (.v (.c (.i .i64 0))))]
def I33:ACode:=.ops C6V
def C6W:List AOper:=[aO 11 (.loadN 25 (.t 4)),aO 12 (.mv (.t 5)),{ dst:=none,op:=.storeN 25 (.t 2) (.t 11) },aO 3 (.mv (.t 12))]
def I37:ACode:=.ops C6W
def I39:ACode:=.seq [2,3] I37 .ret
def I4b:ACode:=.cond (.t 10) I39 .skip
def I4d:ACode:=.seq [0,2,4,5,10] I33 I4b
def I4f:ACode:=.seq [0,2,4,5] I3J I4d
def C6X:List AOper:=[aO 13 (.mv (.t 0)),aO 14 (.lenS (.t 13)),aO 15 (.conv .u8 (.t 14)),aO 16 (.iAddrA 25 1 (.t 4) (.v (.c (.i .i64 0)))),{ dst:=none,op:=.store1 (.t 16) (.t 15) }]
def I4h:ACode:=.ops C6X
def C6Y:List AOper:=[aO 17 (.mv (.t 0)),aO 18 (.lenS (.t 17)),aO 19 (.mv (.v (.c (.i .i64 0))))]
def I3o:ACode:=.ops C6Y
def C6Z:List AOper:=[aO 20 (.bin .lss (.t 19) (.t 18))]
def I3q:ACode:=.ops C6Z
def I3s:ACode:=.cond (.t 20) .skip (.exit 0)
def C60:List AOper:=[aO 21 (.mv (.t 19)),aO 6 (.mv (.t 21))]
def I3u:ACode:=.ops C60
def C61:List AOper:=[aO 22 (.mv (.t 6)),aO 23 (.bin .add (.v (.c (.i .i64 1))) (.t 22)),aO 24 (.mv (.t 0)),aO 25 (.mv (.t 6)),aO 26 (.idxS (.t 24) (.t 25)),aO 27 (.iAddrA 25 1 (.t 4) (.t 23)),{ dst:=none,op:=.store1 (.t 27) (.t 26) }]
def I3w:ACode:=.ops C61
def I3y:ACode:=.seq [0,2,4,6,18,19] I3u I3w
def I3A:ACode:=.block 1 I3y
def C6S:List AOper:=[aO 28 (.bin .add (.t 19) (.v (.c (.i .i64 1)))),aO 19 (.mv (.t 28))]
def I3C:ACode:=.ops C6S
def I3E:ACode:=.seq [0,2,4,18,19] I3A I3C
def I3G:ACode:=.seq [0,2,4,18,19] I3s I3E
def I3K:ACode:=.seq [0,2,4,18,19,20] I3q I3G
def I3L:ACode:=.loop [0,2,4,18,19] I3K
def I3N:ACode:=.block 0 I3L
def I3P:ACode:=.seq [0,2,4,18,19] I3o I3N
def C6T:List AOper:=[aO 29 (.loadN 25 (.t 4)),{ dst:=none,op:=.storeN 25 (.t 2) (.t 29) },aO 3 (.mv (.v (.c (.i .i64 0))))]
def I3R:ACode:=.ops C6T
def I3T:ACode:=.seq [2,3] I3R .ret
def I3U:ACode:=.seq [2,4] I3P I3T
def I3W:ACode:=.seq [0,2,4] I4h I3U
def I3Y:ACode:=.seq [0,2,4] I4f I3W
def I30:ACode:=.seq [0,2,4] I3n I3Y
def I34:ACode:=.seq [0,2] I3l I30
def A_name_Pack:AFn:=⟨I34,[.cellN 2 25,.tmp 3]⟩
def U0:B6:=B1 114 A2L C1
def I3m (n:Nat):SmV:=A2 U0 C6Q
def I3I (n:Nat):SmV:=A2 U0 C6R
def I32 (n:Nat):SmV:=A2 U0 C6U
def I36 (n:Nat):SmV:=A2 U0 C6V
def I38 (n:Nat):SmV:=A2 U0 C6W
def I4a (n:Nat):SmV:=A1 [2,3] (I38 n) A8
def I4c (n:Nat):SmV:=B8 (.t 10) (I4a n) C0
def I4e (n:Nat):SmV:=A1 [0,2,4,5,10] (I36 n) (I4c n)
def I4g (n:Nat):SmV:=A1 [0,2,4,5] (I32 n) (I4e n)
def I4i (n:Nat):SmV:=A2 U0 C6X
def I3p (n:Nat):SmV:=A2 U0 C6Y
def I3r (n:Nat):SmV:=A2 U0 C6Z
def I3t (n:Nat):SmV:=B8 (.t 20) C0 (E3 0)
def I3v (n:Nat):SmV:=A2 U0 C60
def I3x (n:Nat):SmV:=A2 U0 C61
def I3z (n:Nat):SmV:=A1 [0,2,4,6,18,19] (I3v n) (I3x n)
def I3B (n:Nat):SmV:=C6 1 (I3z n)
def I3D (n:Nat):SmV:=A2 U0 C6S
def I3F (n:Nat):SmV:=A1 [0,2,4,18,19] (I3B n) (I3D n)
def I3H (n:Nat):SmV:=A1 [0,2,4,18,19] (I3t n) (I3F n)
def C6N (n:Nat):SmV:=A1 [0,2,4,18,19,20] (I3r n) (I3H n)
def I3M (n:Nat):SmV:=E4 n [0,2,4,18,19] (C6N n)
def I3O (n:Nat):SmV:=C6 0 (I3M n)
def I3Q (n:Nat):SmV:=A1 [0,2,4,18,19] (I3p n) (I3O n)
def I3S (n:Nat):SmV:=A2 U0 C6T
def C6O (n:Nat):SmV:=A1 [2,3] (I3S n) A8
def I3V (n:Nat):SmV:=A1 [2,4] (I3Q n) (C6O n)
def I3X (n:Nat):SmV:=A1 [0,2,4] (I4i n) (I3V n)
def I3Z (n:Nat):SmV:=A1 [0,2,4] (I4g n) (I3X n)
def I31 (n:Nat):SmV:=A1 [0,2,4] (I3I n) (I3Z n)
def I35 (n:Nat):SmV:=A1 [0,2] (I3m n) (I31 n)
def A9v (n:Nat):AExit → Env → A0 → A6:=fun x e h=>match x with | .normal=>hold ((C6O n) A_name_Pack.fin (e.keep [2,4]) h) | .exit id=>A_name_Pack.fin (.exit id) e h | .ret=>A_name_Pack.fin .ret e h
def I4j (n:Nat):AExit → Env → A0 → A6:=fun x e h=>match x with | .exit i=>bif Nat.beq i 0 then (A9v n) .normal e h else (A9v n) (.exit i) e h | .normal=>(A9v n) .normal e h | .ret=>(A9v n) .ret e h
def A9w (n m:Nat) (x0 x2 x4 x18 x19:Val) (h:A0):A6:=E1 (C6N n) [0,2,4,18,19] (I4j n) m [(0,x0),(2,x2),(4,x4),(18,x18),(19,x19)] h
def A61 (n:Nat) (args:List Val) (h:A0):A6:=(I35 n) A_name_Pack.fin (params 0 args) h
theorem D3t (n:Nat) (a0:Val) (h:A0):A61 n [a0] h=bnd (A2L [a0] (((h ++ [some (Row.mk (List.replicate 25 (.i .u8 0)) true)]) ++ [some (Row.mk (List.replicate 25 (.i .u8 0)) true)]))) fun p1=>bnd (A4 .neq p1.1 (.c (.i .i64 0))) fun v2=>cnd v2 (bnd (A5 p1.2 25 ((.c (.p ((h ++ [some (Row.mk (List.replicate 25 (.i .u8 0)) true)])).length 0)))) fun v3=>bnd (B7 p1.2 25 ((.c (.p h.length 0))) v3) fun h4=>C7 [A5 h4 25 ((.c (.p h.length 0))),some p1.1] h4) (bnd (Q0 a0) fun v5=>bnd (G8 .u8 v5) fun v6=>bnd (D7 25 1 ((.c (.p ((h ++ [some (Row.mk (List.replicate 25 (.i .u8 0)) true)])).length 0))) (.c (.i .i64 0))) fun v7=>bnd (F2 p1.2 v7 v6) fun h8=>bnd (Q0 a0) fun v9=>A9w n n a0 ((.c (.p h.length 0))) ((.c (.p ((h ++ [some (Row.mk (List.replicate 25 (.i .u8 0)) true)])).length 0))) v9 (.c (.i .i64 0)) h8):=by kernel_rfl
theorem C6P (n m:Nat) (x0 x2 x4 x18 x19:Val) (h:A0):A9w n (m + 1) x0 x2 x4 x18 x19 h=bnd (A4 .lss x19 x18) fun v10=>cnd v10 (bnd (A4 .add (.c (.i .i64 1)) x19) fun v11=>bnd (U3 x0 x19) fun v12=>bnd (D7 25 1 x4 v11) fun v13=>bnd (F2 h v13 v12) fun h14=>bnd (A4 .add x19 (.c (.i .i64 1))) fun v15=>A9w n m x0 x2 x4 x18 v15 h14) (bnd (A5 h 25 x4) fun v16=>bnd (B7 h 25 x2 v16) fun h17=>C7 [A5 h17 25 x2,some (.c (.i .i64 0))] h17):=by kernel_rfl
theorem K_name_Pack:FnK Tryz.prog 115 A_name_Pack U0 A61:=.mk' (B3 B3x C3) Tryz.func115 (by kernel_rfl) (by intro n args h;kernel_rfl)
def A2M:Fun:=tidy (Lim A_name_Pack U0)
theorem B3y:SOk Tryz.prog 115 A2M:=K_name_Pack.sok
theorem D5W {n:Nat} {args:List Val} {h h2:A0} {v:Val} (he:A61 n args (ro h)=some (v,h2)) (hf:v.flat=true):A2M args h=some (v,h):=K_name_Pack.flat he hf
def C7v:List AOper:=[aO 1 (.box (.t 0)),aO 2 (.mv (.v (.c (.s [])))),aO 3 (.mv (.v (.c (.i .i64 0))))]
def I5Z:ACode:=.ops C7v
def C7w:List AOper:=[aO 8 (.iAddrA 25 1 (.t 1) (.v (.c (.i .i64 0)))),aO 9 (.load1 (.t 8)),aO 10 (.conv .i64 (.t 9)),aO 4 (.mv (.t 10))]
def I51:ACode:=.ops C7w
def C7x:List AOper:=[aO 11 (.mv (.t 4)),aO 12 (.bin .gtr (.t 11) (.v (.c (.i .i64 24))))]
def I6n:ACode:=.ops C7x
def C7y:List AOper:=[aO 2 (.mv (.v (.c (.s [])))),aO 3 (.mv (.v (.c (.i .i64 3))))]
def I6t:ACode:=.ops C7y
def I6v:ACode:=.seq [2,3] I6t .ret
def I6x:ACode:=.cond (.t 12) I6v .skip
def I6z:ACode:=.seq [1,4,12] I6n I6x
def C7z:List AOper:=[aO 13 (.mv (.t 4)),aO 14 (.bin .add (.v (.c (.i .i64 1))) (.t 13)),aO 15 (.slA 25 1 (.t 1) (some (.v (.c (.i .i64 1)))) (some (.t 14))),aO 16 (.b2s (.t 15)),aO 5 (.mv (.t 16))]
def I6B:ACode:=.ops C7z
def C7A:List AOper:=[aO 18 (.mv (.t 5)),aO 19 (.call 115 [(.t 18)]),aO 17 (.mv (.t 19)),aO 20 (.ext (.t 17) 0),aO 21 (.ext (.t 17) 1),aO 6 (.alloc (List.replicate 25 (.i .u8 0))),{ dst:=none,op:=.storeN 25 (.t 6) (.t 20) },aO 7 (.mv (.t 21))]
def I6D:ACode:=.ops C7A
def C7B:List AOper:=[aO 22 (.mv (.t 7)),aO 23 (.bin .neq (.t 22) (.v (.c (.i .i64 0)))),aO 24 (.mv (.t 23)),{ dst:=some 25,op:=.loadN 25 (.t 6),guard:=some (24,false) },{ dst:=some 26,op:=.loadN 25 (.t 1),guard:=some (24,false) },{ dst:=some 27,op:=.eqA true (List.replicate 25 (.i .u8)) (.t 25) (.t 26),guard:=some (24,false) },aO 28 (.pick (.t 24) (.v (.c (.b true))) (.t 27))]
def I6F:ACode:=.ops C7B
def C7C:List AOper:=[aO 2 (.mv (.v (.c (.s [])))),aO 3 (.mv (.v (.c (.i .i64 3))))]
def I52:ACode:=.ops C7C
def I54:ACode:=.seq [2,3] I52 .ret
def I56:ACode:=.cond (.t 28) I54 .skip
def I58:ACode:=.seq [5,28] I6F I56
def I6a:ACode:=.seq [1,5,6,7] I6D I58
def C7D:List AOper:=[aO 29 (.mv (.t 5)),aO 2 (.mv (.t 29)),aO 3 (.mv (.v (.c (.i .i64 0))))]
def I6c:ACode:=.ops C7D
def I6e:ACode:=.seq [2,3] I6c .ret
def I6g:ACode:=.seq [5] I6a I6e
def I6i:ACode:=.seq [1,5] I6B I6g
def I6k:ACode:=.seq [1,4] I6z I6i
def I6o:ACode:=.seq [1,4] I51 I6k
def I6q:ACode:=.seq [1] I5Z I6o
def A_name_Unpack:AFn:=⟨I6q,[.tmp 2,.tmp 3]⟩
def A0d:B6:=B1 115 A2M C1
def I50 (n:Nat):SmV:=A2 A0d C7v
def I6m (n:Nat):SmV:=A2 A0d C7w
def I6s (n:Nat):SmV:=A2 A0d C7x
def I6u (n:Nat):SmV:=A2 A0d C7y
def I6w (n:Nat):SmV:=A1 [2,3] (I6u n) A8
def I6y (n:Nat):SmV:=B8 (.t 12) (I6w n) C0
def I6A (n:Nat):SmV:=A1 [1,4,12] (I6s n) (I6y n)
def I6C (n:Nat):SmV:=A2 A0d C7z
def I6E (n:Nat):SmV:=A2 A0d C7A
def I6G (n:Nat):SmV:=A2 A0d C7B
def I53 (n:Nat):SmV:=A2 A0d C7C
def I55 (n:Nat):SmV:=A1 [2,3] (I53 n) A8
def I57 (n:Nat):SmV:=B8 (.t 28) (I55 n) C0
def I59 (n:Nat):SmV:=A1 [5,28] (I6G n) (I57 n)
def I6b (n:Nat):SmV:=A1 [1,5,6,7] (I6E n) (I59 n)
def I6d (n:Nat):SmV:=A2 A0d C7D
def I6f (n:Nat):SmV:=A1 [2,3] (I6d n) A8
def I6h (n:Nat):SmV:=A1 [5] (I6b n) (I6f n)
def I6j (n:Nat):SmV:=A1 [1,5] (I6C n) (I6h n)
def I6l (n:Nat):SmV:=A1 [1,4] (I6A n) (I6j n)
def I6p (n:Nat):SmV:=A1 [1,4] (I6m n) (I6l n)
def I6r (n:Nat):SmV:=A1 [1] (I50 n) (I6p n)
def A64 (n:Nat) (args:List Val) (h:A0):A6:=(I6r n) A_name_Unpack.fin (params 0 args) h
theorem D3w (n:Nat) (a0:Val) (h:A0):A64 n [a0] h=bnd (cells? a0) fun c1=>bnd (D7 25 1 ((.c (.p h.length 0))) (.c (.i .i64 0))) fun v2=>bnd (A9 ((h ++ [some (Row.mk (c1) true)])) v2) fun v3=>bnd (G8 .i64 v3) fun v4=>bnd (A4 .gtr v4 (.c (.i .i64 24))) fun v5=>cnd v5 (C7 [some (.c (.s [])),some (.c (.i .i64 3))] ((h ++ [some (Row.mk (c1) true)]))) (bnd (A4 .add (.c (.i .i64 1)) v4) fun v6=>bnd (O4 ((h ++ [some (Row.mk (c1) true)])) 25 1 ((.c (.p h.length 0))) (some (.c (.i .i64 1))) (some v6)) fun v7=>bnd (N7 ((h ++ [some (Row.mk (c1) true)])) v7) fun v8=>bnd (A2M [v8] ((h ++ [some (Row.mk (c1) true)]))) fun p9=>bnd (C2 p9.1 0) fun v10=>bnd (C2 p9.1 1) fun v11=>bnd (B7 ((p9.2 ++ [some (Row.mk (List.replicate 25 (.i .u8 0)) true)])) 25 ((.c (.p p9.2.length 0))) v10) fun h12=>bnd (A4 .neq v11 (.c (.i .i64 0))) fun v13=>bnd (gd v13 false (bnd (A5 h12 25 ((.c (.p p9.2.length 0)))) fun v14=>some (v14,h12)) (some (.no,h12))) fun p15=>bnd (gd v13 false (bnd (A5 p15.2 25 ((.c (.p h.length 0)))) fun v16=>some (v16,p15.2)) (some (.no,p15.2))) fun p17=>bnd (gd v13 false (bnd (aeq true (List.replicate 25 (.i .u8)) p15.1 p17.1) fun v18=>some (v18,p17.2)) (some (.no,p17.2))) fun p19=>bnd (C5 v13 (.c (.b true)) p19.1) fun v20=>cnd v20 (C7 [some (.c (.s [])),some (.c (.i .i64 3))] p19.2) (C7 [some v8,some (.c (.i .i64 0))] p19.2)):=by kernel_rfl
theorem K_name_Unpack:FnK Tryz.prog 118 A_name_Unpack A0d A64:=.mk' (B3 B3y C3) Tryz.func118 (by kernel_rfl) (by intro n args h;kernel_rfl)
def A4W:Fun:=tidy (Lim A_name_Unpack A0d)
theorem D52:SOk Tryz.prog 118 A4W:=K_name_Unpack.sok
theorem D51 {n:Nat} {args:List Val} {h h2:A0} {v:Val} (he:A64 n args (ro h)=some (v,h2)) (hf:v.flat=true):A4W args h=some (v,h):=K_name_Unpack.flat he hf
def C6L:List AOper:=[aO 4 (.mv (.v (.c (.b false))))]
def I3c:ACode:=.ops C6L
def C6M:List AOper:=[aO 5 (.mv (.t 0)),aO 6 (.mv (.t 1)),aO 7 (.bin .lss (.t 5) (.t 6)),aO 4 (.mv (.t 7))]
def I3e:ACode:=.ops C6M
def I3g:ACode:=.seq [4] I3e .ret
def I3i:ACode:=.seq [0,1] I3c I3g
def A_name_Less:AFn:=⟨I3i,[.tmp 4]⟩
def A55:B6:=C1
def I3d (n:Nat):SmV:=A2 A55 C6L
def I3f (n:Nat):SmV:=A2 A55 C6M
def I3h (n:Nat):SmV:=A1 [4] (I3f n) A8
def I3j (n:Nat):SmV:=A1 [0,1] (I3d n) (I3h n)
def B0T (n:Nat) (args:List Val) (h:A0):A6:=(I3j n) A_name_Less.fin (params 0 args) h
theorem D3s (n:Nat) (a0 a1:Val) (h:A0):B0T n [a0,a1] h=bnd (A4 .lss a0 a1) fun v1=>some (v1,h):=by kernel_rfl
theorem K_name_Less:FnK Tryz.prog 111 A_name_Less A55 B0T:=.mk' (C3) Tryz.func111 (by kernel_rfl) (by intro n args h;kernel_rfl)
def A4U:Fun:=tidy (Lim A_name_Less A55)
theorem D5V:SOk Tryz.prog 111 A4U:=K_name_Less.sok
theorem D5U {n:Nat} {args:List Val} {h h2:A0} {v:Val} (he:B0T n args (ro h)=some (v,h2)) (hf:v.flat=true):A4U args h=some (v,h):=K_name_Less.flat he hf
def C65:List AOper:=[aO 4 (.mv (.v (.c (.i .i64 0)))),aO 5 (.mv (.v (.c (.b false))))]
def I4k:ACode:=.ops C65
def C66:List AOper:=[aO 9 (.mv (.t 0)),aO 10 (.len (.t 9)),aO 6 (.mv (.v (.c (.i .i64 0)))),aO 7 (.mv (.t 10))]
def I4m:ACode:=.ops C66
def C67:List AOper:=[aO 11 (.mv (.t 6)),aO 12 (.mv (.t 7)),aO 13 (.bin .lss (.t 11) (.t 12))]
def I4G:ACode:=.ops C67
def I4K:ACode:=.cond (.t 13) .skip (.exit 0)
def I4M:ACode:=.seq [0,1,6,7,13] I4G I4K
def C68:List AOper:=[aO 14 (.mv (.t 6)),aO 15 (.mv (.t 7)),aO 16 (.mv (.t 6)),aO 17 (.bin .sub (.t 15) (.t 16)),aO 18 (.bin .quo (.t 17) (.v (.c (.i .i64 2)))),aO 19 (.bin .add (.t 14) (.t 18)),aO 8 (.mv (.t 19))]
def I4O:ACode:=.ops C68
def C69:List AOper:=[aO 20 (.mv (.t 0)),aO 21 (.mv (.t 8)),aO 22 (.iAddrL 1 (.t 20) (.t 21)),aO 23 (.load1 (.t 22)),aO 24 (.mv (.t 1)),aO 25 (.call 111 [(.t 23),(.t 24)])]
def I4Q:ACode:=.ops C69
def C7a:List AOper:=[aO 26 (.mv (.t 8)),aO 27 (.bin .add (.t 26) (.v (.c (.i .i64 1)))),aO 6 (.mv (.t 27))]
def I4S:ACode:=.ops C7a
def C7b:List AOper:=[aO 28 (.mv (.t 8)),aO 7 (.mv (.t 28))]
def I4U:ACode:=.ops C7b
def I4W:ACode:=.cond (.t 25) I4S I4U
def I4n:ACode:=.seq [0,1,6,7,8,25] I4Q I4W
def I4p:ACode:=.seq [0,1,6,7,8] I4O I4n
def I4r:ACode:=.block 1 I4p
def I4t:ACode:=.seq [0,1,6,7] I4M I4r
def I4u:ACode:=.loop [0,1,6,7] I4t
def I4w:ACode:=.block 0 I4u
def C7c:List AOper:=[aO 29 (.mv (.t 6)),aO 30 (.mv (.t 6)),aO 31 (.mv (.t 0)),aO 32 (.len (.t 31)),aO 33 (.bin .lss (.t 30) (.t 32)),aO 34 (.mv (.t 33)),{ dst:=some 35,op:=.mv (.t 0),guard:=some (34,true) },{ dst:=some 36,op:=.mv (.t 6),guard:=some (34,true) },{ dst:=some 37,op:=.iAddrL 1 (.t 35) (.t 36),guard:=some (34,true) },{ dst:=some 38,op:=.load1 (.t 37),guard:=some (34,true) },{ dst:=some 39,op:=.mv (.t 1),guard:=some (34,true) },{ dst:=some 40,op:=.bin .eql (.t 38) (.t 39),guard:=some (34,true) },aO 41 (.pick (.t 34) (.t 40) (.v (.c (.b false)))),aO 4 (.mv (.t 29))]
def C7d:List AOper:=[aO 5 (.mv (.t 41))]
def I4y:ACode:=.draw 0 C7c C7d
def I4A:ACode:=.seq [4,5] I4y .ret
def I4B:ACode:=.seq [0,1,6] I4w I4A
def I4D:ACode:=.seq [0,1,6,7] I4m I4B
def I4H:ACode:=.seq [0,1] I4k I4D
def A_name_Place:AFn:=⟨I4H,[.tmp 4,.tmp 5]⟩
def A0y:B6:=B1 111 A4U C1
def I4l (n:Nat):SmV:=A2 A0y C65
def I4F (n:Nat):SmV:=A2 A0y C66
def I4J (n:Nat):SmV:=A2 A0y C67
def I4L (n:Nat):SmV:=B8 (.t 13) C0 (E3 0)
def I4N (n:Nat):SmV:=A1 [0,1,6,7,13] (I4J n) (I4L n)
def I4P (n:Nat):SmV:=A2 A0y C68
def I4R (n:Nat):SmV:=A2 A0y C69
def I4T (n:Nat):SmV:=A2 A0y C7a
def I4V (n:Nat):SmV:=A2 A0y C7b
def I4X (n:Nat):SmV:=B8 (.t 25) (I4T n) (I4V n)
def I4o (n:Nat):SmV:=A1 [0,1,6,7,8,25] (I4R n) (I4X n)
def I4q (n:Nat):SmV:=A1 [0,1,6,7,8] (I4P n) (I4o n)
def I4s (n:Nat):SmV:=C6 1 (I4q n)
def C62 (n:Nat):SmV:=A1 [0,1,6,7] (I4N n) (I4s n)
def I4v (n:Nat):SmV:=E4 n [0,1,6,7] (C62 n)
def I4x (n:Nat):SmV:=C6 0 (I4v n)
def I4z (n:Nat):SmV:=N3 A0y 0 C7c C7d
def C63 (n:Nat):SmV:=A1 [4,5] (I4z n) A8
def I4C (n:Nat):SmV:=A1 [0,1,6] (I4x n) (C63 n)
def I4E (n:Nat):SmV:=A1 [0,1,6,7] (I4F n) (I4C n)
def I4I (n:Nat):SmV:=A1 [0,1] (I4l n) (I4E n)
def A9x (n:Nat):AExit → Env → A0 → A6:=fun x e h=>match x with | .normal=>hold ((C63 n) A_name_Place.fin (e.keep [0,1,6]) h) | .exit id=>A_name_Place.fin (.exit id) e h | .ret=>A_name_Place.fin .ret e h
def I4Z (n:Nat):AExit → Env → A0 → A6:=fun x e h=>match x with | .exit i=>bif Nat.beq i 0 then (A9x n) .normal e h else (A9x n) (.exit i) e h | .normal=>(A9x n) .normal e h | .ret=>(A9x n) .ret e h
def A3V (n m:Nat) (x0 x1 x6 x7:Val) (h:A0):A6:=E1 (C62 n) [0,1,6,7] (I4Z n) m [(0,x0),(1,x1),(6,x6),(7,x7)] h
def A62 (n:Nat) (args:List Val) (h:A0):A6:=(I4I n) A_name_Place.fin (params 0 args) h
theorem D3u (n:Nat) (a0 a1:Val) (h:A0):A62 n [a0,a1] h=bnd (F5 a0) fun v1=>A3V n n a0 a1 (.c (.i .i64 0)) v1 h:=by kernel_rfl
theorem C64 (n m:Nat) (x0 x1 x6 x7:Val) (h:A0):A3V n (m + 1) x0 x1 x6 x7 h=bnd (A4 .lss x6 x7) fun v2=>cnd v2 (bnd (A4 .sub x7 x6) fun v3=>bnd (A4 .quo v3 (.c (.i .i64 2))) fun v4=>bnd (A4 .add x6 v4) fun v5=>bnd (D0 1 x0 v5) fun v6=>bnd (A9 h v6) fun v7=>bnd (A4U [v7,x1] h) fun p8=>cnd p8.1 (bnd (A4 .add v5 (.c (.i .i64 1))) fun v9=>A3V n m x0 x1 v9 x7 p8.2) (A3V n m x0 x1 x6 v5 p8.2)) (bnd (F5 x0) fun v10=>bnd (A4 .lss x6 v10) fun v11=>bnd (gd v11 true (some (x0,(h ++ []))) (some (.no,(h ++ [])))) fun p12=>bnd (gd v11 true (some (x6,p12.2)) (some (.no,p12.2))) fun p13=>bnd (gd v11 true (bnd (D0 1 p12.1 p13.1) fun v14=>some (v14,p13.2)) (some (.no,p13.2))) fun p15=>bnd (gd v11 true (bnd (A9 h p15.1) fun v16=>some (v16,p15.2)) (some (.no,p15.2))) fun p17=>bnd (gd v11 true (some (x1,p17.2)) (some (.no,p17.2))) fun p18=>bnd (gd v11 true (bnd (A4 .eql p17.1 p18.1) fun v19=>some (v19,p18.2)) (some (.no,p18.2))) fun p20=>bnd (C5 v11 p20.1 (.c (.b false))) fun v21=>C7 [some x6,some v21] p20.2):=by kernel_rfl
theorem K_name_Place:FnK Tryz.prog 82 A_name_Place A0y A62:=.mk' (B3 D5V C3) Tryz.func82 (by kernel_rfl) (by intro n args h;kernel_rfl)
def A3x:Fun:=tidy (Lim A_name_Place A0y)
theorem D5Y:SOk Tryz.prog 82 A3x:=K_name_Place.sok
theorem D5X {n:Nat} {args:List Val} {h h2:A0} {v:Val} (he:A62 n args (ro h)=some (v,h2)) (hf:v.flat=true):A3x args h=some (v,h):=K_name_Place.flat he hf
def C7i:List AOper:=[aO 2 (.nilrow 1)]
def I40:ACode:=.ops C7i
def C7j:List AOper:=[aO 3 (.nilrow 1)]
def I42:ACode:=.ops C7j
def C7n:List AOper:=[aO 8 (.mv (.t 0)),aO 9 (.len (.t 8)),aO 10 (.mv (.v (.c (.i .i64 0))))]
def I5n:ACode:=.ops C7n
def C7o:List AOper:=[aO 11 (.bin .lss (.t 10) (.t 9))]
def I5H:ACode:=.ops C7o
def I5L:ACode:=.cond (.t 11) .skip (.exit 0)
def C7p:List AOper:=[aO 12 (.iAddrL 1 (.t 8) (.t 10)),aO 13 (.load1 (.t 12)),aO 5 (.mv (.t 13))]
def I5N:ACode:=.ops C7p
def C7q:List AOper:=[aO 15 (.mv (.t 3)),aO 16 (.mv (.t 5)),aO 17 (.call 82 [(.t 15),(.t 16)]),aO 14 (.mv (.t 17)),aO 18 (.ext (.t 14) 0),aO 19 (.ext (.t 14) 1),aO 6 (.mv (.t 18)),aO 7 (.mv (.t 19))]
def I5P:ACode:=.ops C7q
def C7r:List AOper:=[aO 20 (.mv (.t 7))]
def I5R:ACode:=.ops C7r
def I5T:ACode:=.cond (.t 20) (.exit 1) .skip
def I5V:ACode:=.seq [3,5,6,8,9,10,20] I5R I5T
def C7s:List AOper:=[aO 21 (.mv (.t 3)),aO 22 (.buildSl 1 1 ([.s []]) [(0,1,(.v (.c (.s []))))]),aO 23 (.app 1 (.t 21) (.t 22)),aO 3 (.mv (.t 23))]
def I43:ACode:=.ops C7s
def C7t:List AOper:=[aO 24 (.mv (.t 3)),aO 25 (.mv (.t 6)),aO 26 (.bin .add (.t 25) (.v (.c (.i .i64 1)))),aO 27 (.slL 1 (.t 24) (some (.t 26)) none),aO 28 (.mv (.t 3)),aO 29 (.mv (.t 6)),aO 30 (.slL 1 (.t 28) (some (.t 29)) none)]
def C7u:List AOper:=[aO 31 (.copy 1 (.t 27) (.t 30))]
def I45:ACode:=.draw 0 C7t C7u
def C7k:List AOper:=[aO 32 (.mv (.t 3)),aO 33 (.mv (.t 6)),aO 34 (.mv (.t 5)),aO 35 (.iAddrL 1 (.t 32) (.t 33)),{ dst:=none,op:=.store1 (.t 35) (.t 34) }]
def I47:ACode:=.ops C7k
def I49:ACode:=.seq [3,5,6,8,9,10] I45 I47
def I5b:ACode:=.seq [3,5,6,8,9,10] I43 I49
def I5d:ACode:=.seq [3,5,6,8,9,10] I5V I5b
def I5f:ACode:=.seq [3,5,6,7,8,9,10] I5P I5d
def I5h:ACode:=.seq [3,5,8,9,10] I5N I5f
def I5j:ACode:=.block 1 I5h
def C7l:List AOper:=[aO 36 (.bin .add (.t 10) (.v (.c (.i .i64 1)))),aO 10 (.mv (.t 36))]
def I5l:ACode:=.ops C7l
def I5o:ACode:=.seq [3,8,9,10] I5j I5l
def I5q:ACode:=.seq [3,8,9,10] I5L I5o
def I5s:ACode:=.seq [3,8,9,10,11] I5H I5q
def I5t:ACode:=.loop [3,8,9,10] I5s
def I5v:ACode:=.block 0 I5t
def I5x:ACode:=.seq [3,8,9,10] I5n I5v
def C7m:List AOper:=[aO 37 (.mv (.t 3)),aO 2 (.mv (.t 37))]
def I5z:ACode:=.ops C7m
def I5B:ACode:=.seq [2] I5z .ret
def I5C:ACode:=.seq [3] I5x I5B
def I5E:ACode:=.seq [0,3] I42 I5C
def I5I:ACode:=.seq [0] I40 I5E
def A_name_Sort:AFn:=⟨I5I,[.tmp 2]⟩
def U1:B6:=B1 82 A3x C1
def I41 (n:Nat):SmV:=A2 U1 C7i
def I5m (n:Nat):SmV:=A2 U1 C7j
def I5G (n:Nat):SmV:=A2 U1 C7n
def I5K (n:Nat):SmV:=A2 U1 C7o
def I5M (n:Nat):SmV:=B8 (.t 11) C0 (E3 0)
def I5O (n:Nat):SmV:=A2 U1 C7p
def I5Q (n:Nat):SmV:=A2 U1 C7q
def I5S (n:Nat):SmV:=A2 U1 C7r
def I5U (n:Nat):SmV:=B8 (.t 20) (E3 1) C0
def I5W (n:Nat):SmV:=A1 [3,5,6,8,9,10,20] (I5S n) (I5U n)
def I44 (n:Nat):SmV:=A2 U1 C7s
def I46 (n:Nat):SmV:=N3 U1 0 C7t C7u
def I48 (n:Nat):SmV:=A2 U1 C7k
def I5a (n:Nat):SmV:=A1 [3,5,6,8,9,10] (I46 n) (I48 n)
def I5c (n:Nat):SmV:=A1 [3,5,6,8,9,10] (I44 n) (I5a n)
def I5e (n:Nat):SmV:=A1 [3,5,6,8,9,10] (I5W n) (I5c n)
def I5g (n:Nat):SmV:=A1 [3,5,6,7,8,9,10] (I5Q n) (I5e n)
def I5i (n:Nat):SmV:=A1 [3,5,8,9,10] (I5O n) (I5g n)
def I5k (n:Nat):SmV:=C6 1 (I5i n)
def C7e (n:Nat):SmV:=A2 U1 C7l
def I5p (n:Nat):SmV:=A1 [3,8,9,10] (I5k n) (C7e n)
def I5r (n:Nat):SmV:=A1 [3,8,9,10] (I5M n) (I5p n)
def B2p (n:Nat):SmV:=A1 [3,8,9,10,11] (I5K n) (I5r n)
def I5u (n:Nat):SmV:=E4 n [3,8,9,10] (B2p n)
def I5w (n:Nat):SmV:=C6 0 (I5u n)
def I5y (n:Nat):SmV:=A1 [3,8,9,10] (I5G n) (I5w n)
def I5A (n:Nat):SmV:=A2 U1 C7m
def C7f (n:Nat):SmV:=A1 [2] (I5A n) A8
def I5D (n:Nat):SmV:=A1 [3] (I5y n) (C7f n)
def I5F (n:Nat):SmV:=A1 [0,3] (I5m n) (I5D n)
def I5J (n:Nat):SmV:=A1 [0] (I41 n) (I5F n)
def A9y (n:Nat):AExit → Env → A0 → A6:=fun x e h=>match x with | .normal=>hold ((C7f n) A_name_Sort.fin (e.keep [3]) h) | .exit id=>A_name_Sort.fin (.exit id) e h | .ret=>A_name_Sort.fin .ret e h
def A9z (n:Nat):AExit → Env → A0 → A6:=fun x e h=>match x with | .exit i=>bif Nat.beq i 0 then (A9y n) .normal e h else (A9y n) (.exit i) e h | .normal=>(A9y n) .normal e h | .ret=>(A9y n) .ret e h
def A9A (n m:Nat) (x3 x8 x9 x10:Val) (h:A0):A6:=E1 (B2p n) [3,8,9,10] (A9z n) m [(3,x3),(8,x8),(9,x9),(10,x10)] h
def A63 (n:Nat) (args:List Val) (h:A0):A6:=(I5J n) A_name_Sort.fin (params 0 args) h
def I5Y (n m:Nat):AExit → Env → A0 → A6:=fun x e h=>match x with | .normal=>E1 (B2p n) [3,8,9,10] (A9z n) m (e.keep [3,8,9,10]) h | .exit id=>(A9z n) (.exit id) e h | .ret=>(A9z n) .ret e h
def B2q (n m:Nat) (x3 x8 x9 x10:Val) (h:A0):A6:=hold ((C7e n) (I5Y n m) [(3,x3),(8,x8),(9,x9),(10,x10)] h)
theorem D3v (n:Nat) (a0:Val) (h:A0):A63 n [a0] h=bnd (F5 a0) fun v1=>A9A n n ((.c (.sl ((h ++ [some (Row.mk ([]) true)])).length 0 0 1))) a0 v1 (.c (.i .i64 0)) (((h ++ [some (Row.mk ([]) true)]) ++ [some (Row.mk ([]) true)])):=by kernel_rfl
theorem C7h (n m:Nat) (x3 x8 x9 x10:Val) (h:A0):A9A n (m + 1) x3 x8 x9 x10 h=bnd (A4 .lss x10 x9) fun v2=>cnd v2 (bnd (D0 1 x8 x10) fun v3=>bnd (A9 h v3) fun v4=>bnd (A3x [x3,v4] h) fun p5=>bnd (C2 p5.1 0) fun v6=>bnd (C2 p5.1 1) fun v7=>cnd v7 (B2q n m x3 x8 x9 x10 p5.2) (bnd (B0 ([.s []]) [(0,1,.c (.s []))]) fun c8=>bnd (E5 ((p5.2 ++ [some (Row.mk (c8) true)])) 1 x3 ((.c (.sl p5.2.length 0 1 1)))) fun p9=>bnd (A4 .add v6 (.c (.i .i64 1))) fun v10=>bnd (A0C 1 p9.1 (some v10) none) fun v11=>bnd (A0C 1 p9.1 (some v6) none) fun v12=>bnd (A2R ((p9.2 ++ [])) 1 v11 v12) fun p13=>bnd (D0 1 p9.1 v6) fun v14=>bnd (F2 p13.2 v14 v4) fun h15=>B2q n m p9.1 x8 x9 x10 h15)) (some (x3,h)):=by kernel_rfl
theorem C7g (n m:Nat) (x3 x8 x9 x10:Val) (h:A0):B2q n m x3 x8 x9 x10 h=bnd (A4 .add x10 (.c (.i .i64 1))) fun v16=>A9A n m x3 x8 x9 v16 h:=by kernel_rfl
theorem K_name_Sort:FnK Tryz.prog 45 A_name_Sort U1 A63:=.mk' (B3 D5Y C3) Tryz.func45 (by kernel_rfl) (by intro n args h;kernel_rfl)
def A4V:Fun:=tidy (Lim A_name_Sort U1)
theorem D5Z:SOk Tryz.prog 45 A4V:=K_name_Sort.sok
theorem D50 {n:Nat} {args:List Val} {h h2:A0} {v:Val} {sz k:Nat} {cs:List Cell} (he:A63 n args (ro h)=some (v,h2)) (ho:Out h.length h2 v sz k cs) (hf:D9 cs=true):A4V args h=some (.c (.sl h.length 0 k sz),h ++ [some ⟨cs,true⟩]):=K_name_Sort.out he ho hf
end Go.Proofs.YtdgggnlbdoiloaaGreat
end
section
namespace Go.Proofs.YtdgggnlbdoiloaaGreat
open Go Go.Esc
def S3 (c:UInt8):Bool:=!(decide ((c.toNat:Int)=0) || decide ((c.toNat:Int)=47))
def N9 (s:List UInt8):Bool:=!(decide ((s.length:Int) < 1) || decide (24 < (s.length:Int)) || decide (s=[46]) || decide (s=[46,46])) && s.all S3
theorem A3N {s:List UInt8} (h:N9 s=true):1 ≤ s.length ∧ s.length ≤ 24:=by
  unfold N9 at h
  simp at h
  omega
theorem B56 (s:List UInt8) (hs:s.length < 9223372036854775807) (n:Nat) (h:A0):∀ d i m:Nat,i + d=s.length → d < m →
    A9u n m (.c (.s s)) (.c (.i .i64 s.length)) (.c (.i .i64 i)) h=some (.c (.i .i64 (bif (s.drop i).all S3 then 0 else 3)),h)
  | d,i,0,_,hm=>by omega
  | 0,i,m + 1,hi,hm=>by
    have c0:¬ ((i:Int) < s.length):=by omega
    rw [C6A,show s.drop i=[] from List.drop_of_length_le (by omega)]
    simp only [esc,c0,List.all_nil]
  | d + 1,i,m + 1,hi,hm=>by
    have h1:(i:Int) < s.length:=by omega
    have h2:i < s.length:=by omega
    have ih:=B56 s hs n h d (i + 1) m (by omega) (by omega)
    rw [C6A,List.drop_eq_getElem_cons h2,List.all_cons]
    by_cases c1:(s[i].toNat:Int)=0
    · have f:S3 s[i]=false:=by unfold S3;rw [decide_eq_true c1];rfl
      simp only [esc,h1,A0H h2,c1,f,Bool.false_and]
    · by_cases c2:(s[i].toNat:Int)=47
      · have f:S3 s[i]=false:=by unfold S3;rw [decide_eq_true c2];simp
        simp only [esc,h1,A0H h2,c1,c2,f,Bool.false_and,Int.reduceEq]
      · have f:S3 s[i]=true:=by unfold S3;rw [decide_eq_false c1,decide_eq_false c2];rfl
        simp only [esc,h1,A0H h2,c1,c2,f,Bool.true_and,E6 (show i + 1 < 9223372036854775808 by omega)]
        exact ih
theorem B1x {s:List UInt8} (hs:s.length < 9223372036854775807) (h:A0):A2L [.c (.s s)] h=some (.c (.i .i64 (bif N9 s then 0 else 3)),h):=by
  refine D5T (n:=s.length + 1) (h2:=ro h) ?_ rfl
  rw [D3r]
  have hl:=B56 s hs (s.length + 1) (ro h) s.length 0 (s.length + 1) (by omega) (by omega)
  rw [List.drop_zero] at hl
  unfold N9
  by_cases c1:(s.length:Int) < 1
  · simp only [esc,c1,Bool.true_or,Bool.false_and]
  · by_cases c2:(24:Int) < s.length
    · simp only [esc,c1,c2,Bool.true_or,Bool.false_and,Bool.or_true]
    · by_cases c3:s=[46]
      · subst c3;simp only [esc];rfl
      · by_cases c4:s=[46,46]
        · subst c4;simp only [esc];rfl
        · simp only [esc,c1,c2,c3,c4,Bool.or_self,Bool.true_and]
          exact hl
def K1 (s:List UInt8) (i:Nat):List UInt8:=UInt8.ofNat s.length :: (s.take i ++ zeros (24 - i))
def G1 (s:List UInt8):List UInt8:=bif N9 s then K1 s s.length else zeros 25
theorem A30 {s:List UInt8} {i:Nat} (hi:i ≤ s.length) (hs:s.length ≤ 24):(K1 s i).length=25:=by
  unfold K1
  rw [List.length_cons,List.length_append,zeros_length,List.length_take]
  omega
theorem A3c {s:List UInt8}:(G1 s).length=25:=by
  unfold G1
  cases hf:N9 s with
  | false=>exact zeros_length
  | true=>exact A30 (Nat.le_refl _) (A3N hf).2
theorem J2t {s:List UInt8} {i:Nat} (hi:i < s.length) (hs:s.length ≤ 24):(K1 s i).set (1 + i) s[i]=K1 s (i + 1):=by
  unfold K1
  rw [Nat.add_comm 1 i,List.set_cons_succ]
  refine congrArg (UInt8.ofNat s.length :: ·) ?_
  have hlen:(List.take i s).length=i:=by simp;omega
  rw [List.set_append_right _ _ (by omega),hlen,Nat.sub_self,List.take_succ_eq_append_getElem hi,List.append_assoc]
  refine congrArg (List.take i s ++ ·) ?_
  have e:24 - i=(24 - (i + 1)) + 1:=by omega
  rw [e]
  unfold zeros
  rw [List.replicate_succ,List.set_cons_zero];rfl
theorem C9i (s:List UInt8) (hs:s.length ≤ 24) (h:A0) (c2:List Cell) (l2:c2.length=25) (n:Nat):∀ d i m:Nat,i + d=s.length → d < m →
    A9w n m (.c (.s s)) (.c (.p h.length 0)) (.c (.p (h.length + 1) 0)) (.c (.i .i64 s.length)) (.c (.i .i64 i)) (h ++ [some ⟨c2,true⟩,some ⟨A3 (K1 s i),true⟩]) =
      some (.t [.a (A3 (K1 s s.length)),.c (.i .i64 0)],h ++ [some ⟨A3 (K1 s s.length),true⟩,some ⟨A3 (K1 s s.length),true⟩])
  | d,i,0,_,hm=>by omega
  | 0,i,m + 1,hi,hm=>by
    have h1:¬ ((i:Int) < s.length):=by omega
    have e:i=s.length:=by omega
    subst e
    have hl:(A3 (K1 s s.length)).length=25:=by rw [B4];exact A30 (Nat.le_refl _) hs
    rw [C6P]
    simp only [esc,esh,Nat.reduceAdd,Nat.reduceMul,Nat.reduceLT,h1,hl,l2]
  | d + 1,i,m + 1,hi,hm=>by
    have h1:(i:Int) < s.length:=by omega
    have h3:i < s.length:=by omega
    have hl:(A3 (K1 s i)).length=25:=by rw [B4];exact A30 (by omega) hs
    have ih:=C9i s hs h c2 l2 n d (i + 1) m (by omega) (by omega)
    have e1:IntKind.wrap .i64 (1 + (i:Int))=((1 + i:Nat):Int):=by rw [wrap_i64 (by omega) (by omega)];omega
    have ea:D7 25 1 (.c (.p (h.length + 1) 0)) (.c (.i .i64 ((1 + i:Nat):Int)))=some (.c (.p (h.length + 1) (1 + i))):=by rw [S5 (by omega)];simp
    have ho:1 + i < (A3 (K1 s i)).length:=by omega
    rw [C6P]
    simp only [esc,esh,Nat.reduceAdd,Nat.reduceMul,Nat.reduceLT,h1,e1,A0H h3,ea,ho,A0G,J2t h3 hs,E6 (show i + 1 < 9223372036854775808 by omega)]
    exact ih
theorem C9h {s:List UInt8} (hs:s.length < 9223372036854775807) (h:A0) :
    A2M [.c (.s s)] h=some (.t [.a (A3 (G1 s)),.c (.i .i64 (bif N9 s then 0 else 3))],h):=by
  have key:∀ g,∃ g',A61 (s.length + 1) [.c (.s s)] g=some (.t [.a (A3 (G1 s)),.c (.i .i64 (bif N9 s then 0 else 3))],g'):=by
    intro g
    have hz:=M0 25
    have hl:(A3 (zeros 25)).length=25:=by rw [B4];exact zeros_length
    rw [D3t,hz]
    unfold G1
    cases hf:N9 s with
    | false =>
      generalize zeros 25=Z at *
      exact ⟨_,by simp only [esc,esh,Nat.reduceAdd,Nat.reduceMul,Nat.reduceLT,B1x hs,hf,hl,Int.reduceEq] <;> rfl⟩
    | true =>
      have hs24:=(A3N hf).2
      have e0:(A3 (zeros 25)).set 0 (.i .u8 (IntKind.wrap .u8 s.length))=A3 (K1 s 0):=by
        rw [wrap_u8 (by omega) (by omega)]
        have:((s.length:Nat):Int)=((UInt8.ofNat s.length).toNat:Int):=by rw [UInt8.toNat_ofNat'];omega
        rw [this,A0G]
        rfl
      have:=C9i s hs24 g (A3 (zeros 25)) hl (s.length + 1) s.length 0 (s.length + 1) (by omega) (by omega)
      rw [← e0] at this
      generalize zeros 25=Z at *
      have a0:D7 25 1 (.c (.p (g.length + 1) 0)) (.c (.i .i64 0))=some (.c (.p (g.length + 1) 0)):=rfl
      have ho:0 < (A3 Z).length:=by omega
      exact ⟨_,by simp only [esc,esh,Nat.reduceAdd,Nat.reduceMul,Nat.reduceLT,B1x hs,hf,a0,ho];exact this⟩
  obtain ⟨g',e⟩:=key (ro h)
  exact D5W e (by simp)
def R4 (l:List UInt8):Option (List UInt8) :=
  if (l.headD 0).toNat ≤ 24 then
    if N9 ((l.drop 1).take (l.headD 0).toNat)=true ∧ G1 ((l.drop 1).take (l.headD 0).toNat)=l then some ((l.drop 1).take (l.headD 0).toNat) else none
  else none
theorem J96 {l:List UInt8} (hl:l.length=25) (h:A0) :
    A4W [.a (A3 l)] h=some (.t [.c (.s ((R4 l).getD [])),.c (.i .i64 (if (R4 l).isSome then 0 else 3))],h):=by
  have key:∀ g,∃ g',A64 0 [.a (A3 l)] g=some (.t [.c (.s ((R4 l).getD [])),.c (.i .i64 (if (R4 l).isSome then 0 else 3))],g'):=by
    intro g
    obtain ⟨x,r,rfl⟩:∃ x r,l=x :: r:=by
      cases l with
      | nil=>simp at hl
      | cons x r=>exact ⟨x,r,rfl⟩
    have hx:=x.toNat_lt
    rw [D3w]
    have a0:D7 25 1 (.c (.p g.length 0)) (.c (.i .i64 0))=some (.c (.p g.length 0)):=rfl
    have l0:(A3 (x :: r))[0]? = some (.i .u8 x.toNat):=rfl
    have e1:IntKind.wrap .i64 (x.toNat:Int)=x.toNat:=wrap_i64 (by omega) (by omega)
    have hle:(A3 (x :: r)).length=25:=by rw [B4,hl]
    unfold R4
    simp only [List.headD_cons,List.drop_succ_cons,List.drop_zero]
    by_cases c1:x.toNat ≤ 24
    · rw [if_pos c1]
      have c1':¬ (24:Int) < x.toNat:=by omega
      have e2:IntKind.wrap .i64 (1 + (x.toNat:Int))=((1 + x.toNat:Nat):Int):=by rw [wrap_i64 (by omega) (by omega)];omega
      have e3:=J5c (h:=g) (l:=[some ⟨A3 (x :: r),true⟩]) (k:=0) (n:=25) (a:=1) (b:=1 + x.toNat) (cs:=A3 (x :: r)) rfl hle (by omega) (by omega)
      rw [Nat.add_zero,show 1 + x.toNat - 1=x.toNat by omega,show ((1:Nat):Int)=1 from rfl] at e3
      have hh:Has (g ++ [some ⟨A3 (x :: r),true⟩]) (.c (.sl g.length 1 x.toNat 1)) 1 x.toNat (A3 (r.take x.toNat)):=Has.part N2 (by omega) (by
        rw [B8e,B8h];simp) (I3 _)
      have hs:(r.take x.toNat).length < 9223372036854775807:=by simp;omega
      have hp:=C9h hs (g ++ [some ⟨A3 (x :: r),true⟩])
      have hpl:(A3 (G1 (r.take x.toNat))).length=25:=by rw [B4,A3c]
      have hz:(List.replicate 25 (Cell.i .u8 0)).length=25:=List.length_replicate
      have hq:=A7t (l:=G1 (r.take x.toNat)) (m:=x :: r) A3c hl
      generalize List.replicate 25 (Cell.i .u8 0)=z at *
      cases hf:N9 (r.take x.toNat) with
      | false =>
        rw [hf] at hp
        rw [if_neg (by simp)]
        exact ⟨_,by simp only [esc,esh,Nat.reduceAdd,Nat.reduceMul,Nat.reduceLT,a0,l0,e1,c1',e2,e3,hh.str,hp,hpl,hz,Int.reduceEq,Option.getD_none,Option.isSome_none,Bool.false_eq_true] <;> rfl⟩
      | true =>
        rw [hf] at hp
        by_cases c2:G1 (r.take x.toNat)=x :: r
        · rw [if_pos ⟨rfl,c2⟩]
          exact ⟨_,by simp only [esc,esh,Nat.reduceAdd,Nat.reduceMul,Nat.reduceLT,a0,l0,e1,c1',e2,e3,hh.str,hp,hpl,hz,hle,hq,decide_eq_true c2,Int.reduceEq,Option.getD_some,Option.isSome_some,Bool.false_eq_true] <;> rfl⟩
        · rw [if_neg (fun h=>c2 h.2)]
          exact ⟨_,by simp only [esc,esh,Nat.reduceAdd,Nat.reduceMul,Nat.reduceLT,a0,l0,e1,c1',e2,e3,hh.str,hp,hpl,hz,hle,hq,decide_eq_false c2,Int.reduceEq,Option.getD_none,Option.isSome_none,Bool.false_eq_true] <;> rfl⟩
    · rw [if_neg c1]
      have c1':(24:Int) < x.toNat:=by omega
      exact ⟨_,by simp only [esc,esh,Nat.reduceAdd,Nat.reduceMul,Nat.reduceLT,a0,l0,e1,c1',Option.getD_none,Option.isSome_none,Bool.false_eq_true] <;> rfl⟩
  obtain ⟨g',e⟩:=key (ro h)
  exact D51 e (by simp)
end Go.Proofs.YtdgggnlbdoiloaaGreat
end
noncomputable section
namespace Go.Proofs.YtdgggnlbdoiloaaGreat
open Go Go.Esc
set_option maxRecDepth 100000
def B5u:List AOper:=[aO 0 (.alloc (List.replicate 256 (.i .u8 0)))]
def E1C:ACode:=.ops B5u
def B5v:List AOper:=[aO 1 (.buildSl 1 4 ([.i .u8 0,.i .u8 0,.i .u8 0,.i .u8 0]) [(0,1,(.v (.c (.i .u8 98)))),(1,1,(.v (.c (.i .u8 107)))),(2,1,(.v (.c (.i .u8 116)))),(3,1,(.v (.c (.i .u8 33))))]),aO 2 (.mark (.t 1)),aO 3 (.call 92 [(.t 2)]),{ dst:=none,op:=.storeN 256 (.t 0) (.t 3) }]
def E1E:ACode:=.ops B5v
def E1G:ACode:=.seq [0] E1E .ret
def E1I:ACode:=.seq [0] E1C E1G
def A_bucket_head:AFn:=⟨E1I,[.cellN 0 256]⟩
def A5N:B6:=B1 92 A0i C1
def E1D (n:Nat):SmV:=A2 A5N B5u
def E1F (n:Nat):SmV:=A2 A5N B5v
def E1H (n:Nat):SmV:=A1 [0] (E1F n) A8
def E1J (n:Nat):SmV:=A1 [0] (E1D n) (E1H n)
def A6e (n:Nat) (args:List Val) (h:A0):A6:=(E1J n) A_bucket_head.fin (params 0 args) h
theorem D2i (n:Nat) (h:A0):A6e n [] h=bnd (B0 ([.i .u8 0,.i .u8 0,.i .u8 0,.i .u8 0]) [(0,1,.c (.i .u8 98)),(1,1,.c (.i .u8 107)),(2,1,.c (.i .u8 116)),(3,1,.c (.i .u8 33))]) fun c1=>bnd (O3 (((h ++ [some (Row.mk (List.replicate 256 (.i .u8 0)) true)]) ++ [some (Row.mk (c1) true)])) ((.c (.sl ((h ++ [some (Row.mk (List.replicate 256 (.i .u8 0)) true)])).length 0 4 1)))) fun v2=>bnd (A0i [v2] (((h ++ [some (Row.mk (List.replicate 256 (.i .u8 0)) true)]) ++ [some (Row.mk (c1) true)]))) fun p3=>bnd (B7 p3.2 256 ((.c (.p h.length 0))) p3.1) fun h4=>mp (A5 h4 256 ((.c (.p h.length 0)))) fun v=>(v,h4):=by kernel_rfl
theorem K_bucket_head:FnK Tryz.prog 99 A_bucket_head A5N A6e:=.mk' (B3 A7q C3) Tryz.func99 (by kernel_rfl) (by intro n args h;kernel_rfl)
def A4i:Fun:=tidy (Lim A_bucket_head A5N)
theorem D34:SOk Tryz.prog 99 A4i:=K_bucket_head.sok
theorem D33 {n:Nat} {args:List Val} {h h2:A0} {v:Val} (he:A6e n args (ro h)=some (v,h2)) (hf:v.flat=true):A4i args h=some (v,h):=K_bucket_head.flat he hf
def B5x:List AOper:=[aO 1 (.box (.t 0)),aO 2 (.mv (.v (.c (.b false))))]
def E1L:ACode:=.ops B5x
def B5y:List AOper:=[aO 3 (.fAddr (.t 1) 0),aO 4 (.load1 (.t 3)),aO 5 (.call 114 [(.t 4)]),aO 6 (.bin .eql (.t 5) (.v (.c (.i .i64 0)))),aO 7 (.mv (.t 6)),{ dst:=some 8,op:=.fAddr (.t 1) 1,guard:=some (7,true) },{ dst:=some 9,op:=.load1 (.t 8),guard:=some (7,true) },{ dst:=some 10,op:=.bin .geq (.t 9) (.v (.c (.i .i64 1))),guard:=some (7,true) },aO 11 (.pick (.t 7) (.t 10) (.v (.c (.b false)))),aO 12 (.mv (.t 11)),{ dst:=some 13,op:=.fAddr (.t 1) 1,guard:=some (12,true) },{ dst:=some 14,op:=.load1 (.t 13),guard:=some (12,true) },{ dst:=some 15,op:=.bin .leq (.t 14) (.v (.c (.i .i64 128))),guard:=some (12,true) },aO 16 (.pick (.t 12) (.t 15) (.v (.c (.b false)))),aO 2 (.mv (.t 16))]
def E1N:ACode:=.ops B5y
def E1P:ACode:=.seq [2] E1N .ret
def E1R:ACode:=.seq [1] E1L E1P
def A_bucket_may:AFn:=⟨E1R,[.tmp 2]⟩
def A5O:B6:=B1 114 A2L C1
def E1M (n:Nat):SmV:=A2 A5O B5x
def E1O (n:Nat):SmV:=A2 A5O B5y
def E1Q (n:Nat):SmV:=A1 [2] (E1O n) A8
def E1S (n:Nat):SmV:=A1 [1] (E1M n) (E1Q n)
def A6f (n:Nat) (args:List Val) (h:A0):A6:=(E1S n) A_bucket_may.fin (params 0 args) h
theorem D2j (n:Nat) (a0:Val) (h:A0):A6f n [a0] h=bnd (cells? a0) fun c1=>bnd (B9 ((.c (.p h.length 0))) 0) fun v2=>bnd (A9 ((h ++ [some (Row.mk (c1) true)])) v2) fun v3=>bnd (A2L [v3] ((h ++ [some (Row.mk (c1) true)]))) fun p4=>bnd (A4 .eql p4.1 (.c (.i .i64 0))) fun v5=>bnd (gd v5 true (bnd (B9 ((.c (.p h.length 0))) 1) fun v6=>some (v6,p4.2)) (some (.no,p4.2))) fun p7=>bnd (gd v5 true (bnd (A9 p7.2 p7.1) fun v8=>some (v8,p7.2)) (some (.no,p7.2))) fun p9=>bnd (gd v5 true (bnd (A4 .geq p9.1 (.c (.i .i64 1))) fun v10=>some (v10,p9.2)) (some (.no,p9.2))) fun p11=>bnd (C5 v5 p11.1 (.c (.b false))) fun v12=>bnd (gd v12 true (bnd (B9 ((.c (.p h.length 0))) 1) fun v13=>some (v13,p11.2)) (some (.no,p11.2))) fun p14=>bnd (gd v12 true (bnd (A9 p14.2 p14.1) fun v15=>some (v15,p14.2)) (some (.no,p14.2))) fun p16=>bnd (gd v12 true (bnd (A4 .leq p16.1 (.c (.i .i64 128))) fun v17=>some (v17,p16.2)) (some (.no,p16.2))) fun p18=>bnd (C5 v12 p18.1 (.c (.b false))) fun v19=>some (v19,p18.2):=by kernel_rfl
theorem K_bucket_may:FnK Tryz.prog 100 A_bucket_may A5O A6f:=.mk' (B3 B3x C3) Tryz.func100 (by kernel_rfl) (by intro n args h;kernel_rfl)
def A2m:Fun:=tidy (Lim A_bucket_may A5O)
theorem B28:SOk Tryz.prog 100 A2m:=K_bucket_may.sok
theorem D35 {n:Nat} {args:List Val} {h h2:A0} {v:Val} (he:A6f n args (ro h)=some (v,h2)) (hf:v.flat=true):A2m args h=some (v,h):=K_bucket_may.flat he hf
def B5s:List AOper:=[aO 2 (.mv (.v (.c (.i .i64 0))))]
def E1u:ACode:=.ops B5s
def B5t:List AOper:=[aO 3 (.mv (.t 0)),aO 4 (.bin .add (.t 3) (.v (.c (.i .i64 1)))),aO 5 (.bin .mul (.v (.c (.i .i64 32))) (.t 4)),aO 2 (.mv (.t 5))]
def E1w:ACode:=.ops B5t
def E1y:ACode:=.seq [2] E1w .ret
def E1A:ACode:=.seq [0] E1u E1y
def A_bucket_first:AFn:=⟨E1A,[.tmp 2]⟩
def A5M:B6:=C1
def E1v (n:Nat):SmV:=A2 A5M B5s
def E1x (n:Nat):SmV:=A2 A5M B5t
def E1z (n:Nat):SmV:=A1 [2] (E1x n) A8
def E1B (n:Nat):SmV:=A1 [0] (E1v n) (E1z n)
def A6d (n:Nat) (args:List Val) (h:A0):A6:=(E1B n) A_bucket_first.fin (params 0 args) h
theorem D2h (n:Nat) (a0:Val) (h:A0):A6d n [a0] h=bnd (A4 .add a0 (.c (.i .i64 1))) fun v1=>bnd (A4 .mul (.c (.i .i64 32)) v1) fun v2=>some (v2,h):=by kernel_rfl
theorem K_bucket_first:FnK Tryz.prog 101 A_bucket_first A5M A6d:=.mk' (C3) Tryz.func101 (by kernel_rfl) (by intro n args h;kernel_rfl)
def A04:Fun:=tidy (Lim A_bucket_first A5M)
theorem B27:SOk Tryz.prog 101 A04:=K_bucket_first.sok
theorem D32 {n:Nat} {args:List Val} {h h2:A0} {v:Val} (he:A6d n args (ro h)=some (v,h2)) (hf:v.flat=true):A04 args h=some (v,h):=K_bucket_first.flat he hf
def B5S:List AOper:=[aO 1 (.box (.t 0)),aO 2 (.nilrow 1)]
def E2S:ACode:=.ops B5S
def B5T:List AOper:=[aO 6 (.fAddr (.t 1) 1),aO 7 (.load1 (.t 6)),aO 8 (.conv .u8 (.t 7)),aO 9 (.fAddr (.t 1) 1),aO 10 (.load1 (.t 9)),aO 11 (.bin .shr (.t 10) (.v (.c (.i .u64 8)))),aO 12 (.conv .u8 (.t 11)),aO 13 (.buildSl 1 2 ([.i .u8 0,.i .u8 0]) [(0,1,(.t 8)),(1,1,(.t 12))]),aO 3 (.mv (.t 13))]
def E2U:ACode:=.ops B5T
def B5U:List AOper:=[aO 15 (.fAddr (.t 1) 0),aO 16 (.load1 (.t 15)),aO 17 (.call 115 [(.t 16)]),aO 14 (.mv (.t 17)),aO 18 (.ext (.t 14) 0),aO 19 (.ext (.t 14) 1),aO 4 (.alloc (List.replicate 25 (.i .u8 0))),{ dst:=none,op:=.storeN 25 (.t 4) (.t 18) },aO 5 (.mv (.t 19))]
def E2W:ACode:=.ops B5U
def B5V:List AOper:=[aO 20 (.mv (.t 3)),aO 21 (.slA 25 1 (.t 4) none none),aO 22 (.app 1 (.t 20) (.t 21)),aO 3 (.mv (.t 22))]
def E2Y:ACode:=.ops B5V
def B5W:List AOper:=[aO 23 (.mv (.t 3)),aO 24 (.buildSl 1 5 ([.i .u8 0,.i .u8 0,.i .u8 0,.i .u8 0,.i .u8 0]) [(0,1,(.v (.c (.i .u8 0)))),(1,1,(.v (.c (.i .u8 0)))),(2,1,(.v (.c (.i .u8 0)))),(3,1,(.v (.c (.i .u8 0)))),(4,1,(.v (.c (.i .u8 0))))]),aO 25 (.app 1 (.t 23) (.t 24)),aO 2 (.mv (.t 25))]
def E20:ACode:=.ops B5W
def E22:ACode:=.seq [2] E20 .ret
def E24:ACode:=.seq [3] E2Y E22
def E26:ACode:=.seq [3,4] E2W E24
def E28:ACode:=.seq [1,3] E2U E26
def E3a:ACode:=.seq [1] E2S E28
def A_bucket_written:AFn:=⟨E3a,[.tmp 2]⟩
def A2d:B6:=B1 115 A2M C1
def E2T (n:Nat):SmV:=A2 A2d B5S
def E2V (n:Nat):SmV:=A2 A2d B5T
def E2X (n:Nat):SmV:=A2 A2d B5U
def E2Z (n:Nat):SmV:=A2 A2d B5V
def E21 (n:Nat):SmV:=A2 A2d B5W
def E23 (n:Nat):SmV:=A1 [2] (E21 n) A8
def E25 (n:Nat):SmV:=A1 [3] (E2Z n) (E23 n)
def E27 (n:Nat):SmV:=A1 [3,4] (E2X n) (E25 n)
def E29 (n:Nat):SmV:=A1 [1,3] (E2V n) (E27 n)
def E3b (n:Nat):SmV:=A1 [1] (E2T n) (E29 n)
def A6h (n:Nat) (args:List Val) (h:A0):A6:=(E3b n) A_bucket_written.fin (params 0 args) h
theorem D2l (n:Nat) (a0:Val) (h:A0):A6h n [a0] h=bnd (cells? a0) fun c1=>bnd (B9 ((.c (.p h.length 0))) 1) fun v2=>bnd (A9 (((h ++ [some (Row.mk (c1) true)]) ++ [some (Row.mk ([]) true)])) v2) fun v3=>bnd (G8 .u8 v3) fun v4=>bnd (B9 ((.c (.p h.length 0))) 1) fun v5=>bnd (A9 (((h ++ [some (Row.mk (c1) true)]) ++ [some (Row.mk ([]) true)])) v5) fun v6=>bnd (A4 .shr v6 (.c (.i .u64 8))) fun v7=>bnd (G8 .u8 v7) fun v8=>bnd (B0 ([.i .u8 0,.i .u8 0]) [(0,1,v4),(1,1,v8)]) fun c9=>bnd (B9 ((.c (.p h.length 0))) 0) fun v10=>bnd (A9 ((((h ++ [some (Row.mk (c1) true)]) ++ [some (Row.mk ([]) true)]) ++ [some (Row.mk (c9) true)])) v10) fun v11=>bnd (A2M [v11] ((((h ++ [some (Row.mk (c1) true)]) ++ [some (Row.mk ([]) true)]) ++ [some (Row.mk (c9) true)]))) fun p12=>bnd (C2 p12.1 0) fun v13=>bnd (C2 p12.1 1) fun v14=>bnd (B7 ((p12.2 ++ [some (Row.mk (List.replicate 25 (.i .u8 0)) true)])) 25 ((.c (.p p12.2.length 0))) v13) fun h15=>bnd (O4 h15 25 1 ((.c (.p p12.2.length 0))) none none) fun v16=>bnd (E5 h15 1 ((.c (.sl (((h ++ [some (Row.mk (c1) true)]) ++ [some (Row.mk ([]) true)])).length 0 2 1))) v16) fun p17=>bnd (B0 ([.i .u8 0,.i .u8 0,.i .u8 0,.i .u8 0,.i .u8 0]) [(0,1,.c (.i .u8 0)),(1,1,.c (.i .u8 0)),(2,1,.c (.i .u8 0)),(3,1,.c (.i .u8 0)),(4,1,.c (.i .u8 0))]) fun c18=>bnd (E5 ((p17.2 ++ [some (Row.mk (c18) true)])) 1 p17.1 ((.c (.sl p17.2.length 0 5 1)))) fun p19=>some (p19.1,p19.2):=by kernel_rfl
theorem K_bucket_written:FnK Tryz.prog 102 A_bucket_written A2d A6h:=.mk' (B3 B3y C3) Tryz.func102 (by kernel_rfl) (by intro n args h;kernel_rfl)
def A2o:Fun:=tidy (Lim A_bucket_written A2d)
theorem B3a:SOk Tryz.prog 102 A2o:=K_bucket_written.sok
theorem D37 {n:Nat} {args:List Val} {h h2:A0} {v:Val} {sz k:Nat} {cs:List Cell} (he:A6h n args (ro h)=some (v,h2)) (ho:Out h.length h2 v sz k cs) (hf:D9 cs=true):A2o args h=some (.c (.sl h.length 0 k sz),h ++ [some ⟨cs,true⟩]):=K_bucket_written.out he ho hf
def B5D:List AOper:=[aO 2 (.box (.t 0)),aO 4 (.alloc ([.s [],.i .i64 0])),aO 5 (.mv (.v (.c (.b false))))]
def E1T:ACode:=.ops B5D
def B5E:List AOper:=[aO 6 (.alloc (List.replicate 25 (.i .u8 0)))]
def E1V:ACode:=.ops B5E
def B5J:List AOper:=[aO 11 (.mv (.v (.c (.i .i64 0))))]
def E2g:ACode:=.ops B5J
def B5K:List AOper:=[aO 12 (.bin .lss (.t 11) (.v (.c (.i .i64 25))))]
def E2B:ACode:=.ops B5K
def E2F:ACode:=.cond (.t 12) .skip (.exit 0)
def B5L:List AOper:=[aO 13 (.mv (.t 11)),aO 7 (.mv (.t 13))]
def E2H:ACode:=.ops B5L
def B5M:List AOper:=[aO 14 (.mv (.t 7)),aO 15 (.mv (.t 1)),aO 16 (.call 101 [(.t 15)]),aO 17 (.bin .add (.t 16) (.v (.c (.i .i64 2)))),aO 18 (.mv (.t 7)),aO 19 (.bin .add (.t 17) (.t 18)),aO 20 (.iAddrA 256 1 (.t 2) (.t 19)),aO 21 (.load1 (.t 20)),aO 22 (.iAddrA 25 1 (.t 6) (.t 14)),{ dst:=none,op:=.store1 (.t 22) (.t 21) }]
def E2J:ACode:=.ops B5M
def E2L:ACode:=.seq [1,2,4,6,7,11] E2H E2J
def E2N:ACode:=.block 1 E2L
def B5N:List AOper:=[aO 23 (.bin .add (.t 11) (.v (.c (.i .i64 1)))),aO 11 (.mv (.t 23))]
def E2P:ACode:=.ops B5N
def E1W:ACode:=.seq [1,2,4,6,11] E2N E2P
def E1Y:ACode:=.seq [1,2,4,6,11] E2F E1W
def E10:ACode:=.seq [1,2,4,6,11,12] E2B E1Y
def E11:ACode:=.loop [1,2,4,6,11] E10
def E13:ACode:=.block 0 E11
def E15:ACode:=.seq [1,2,4,6,11] E2g E13
def B5O:List AOper:=[aO 25 (.loadN 25 (.t 6)),aO 26 (.call 118 [(.t 25)]),aO 24 (.mv (.t 26)),aO 27 (.ext (.t 24) 0),aO 28 (.ext (.t 24) 1),aO 8 (.mv (.t 27)),aO 9 (.mv (.t 28))]
def E17:ACode:=.ops B5O
def B5P:List AOper:=[aO 29 (.mv (.t 8)),aO 30 (.loadN 256 (.t 2)),aO 31 (.mv (.t 1)),aO 32 (.call 101 [(.t 31)]),aO 33 (.call 61 [(.t 30),(.t 32),(.v (.c (.i .i64 2)))]),aO 34 (.build ([.s [],.i .i64 0]) [(0,1,(.t 29)),(1,1,(.t 33))]),{ dst:=some 10,op:=.alloc ([.s [],.i .i64 0]),slot:=some 0 }]
def B5Q:List AOper:=[{ dst:=none,op:=.storeN 2 (.t 10) (.t 34) }]
def E19:ACode:=.draw 1 B5P B5Q
def B5F:List AOper:=[aO 35 (.mv (.t 9)),aO 36 (.bin .neq (.t 35) (.v (.c (.i .i64 0)))),aO 37 (.mv (.t 36)),{ dst:=some 38,op:=.loadN 2 (.t 10),guard:=some (37,false) },{ dst:=some 39,op:=.call 100 [(.t 38)],guard:=some (37,false) },{ dst:=some 40,op:=.un .not (.t 39),guard:=some (37,false) },aO 41 (.pick (.t 37) (.v (.c (.b true))) (.t 40)),aO 42 (.mv (.t 41)),{ dst:=some 43,op:=.loadN 2 (.t 10),guard:=some (42,false) },{ dst:=some 44,op:=.call 102 [(.t 43)],guard:=some (42,false) },{ dst:=some 45,op:=.b2sN none (.t 44),guard:=some (42,false) },{ dst:=some 46,op:=.loadN 256 (.t 2),guard:=some (42,false) },{ dst:=some 47,op:=.mv (.t 1),guard:=some (42,false) },{ dst:=some 48,op:=.call 101 [(.t 47)],guard:=some (42,false) },{ dst:=some 49,op:=.call 60 [(.t 46),(.t 48),(.v (.c (.i .i64 32)))],guard:=some (42,false) },{ dst:=some 50,op:=.b2sN none (.t 49),guard:=some (42,false) }]
def B5G:List AOper:=[{ dst:=some 51,op:=.bin .neq (.t 45) (.t 50),guard:=some (42,false) },aO 52 (.pick (.t 42) (.v (.c (.b true))) (.t 51))]
def E2b:ACode:=.draw 0 B5F B5G
def B5H:List AOper:=[aO 53 (.build ([.s [],.i .i64 0]) []),{ dst:=none,op:=.storeN 2 (.t 4) (.t 53) },aO 5 (.mv (.v (.c (.b false))))]
def E2d:ACode:=.ops B5H
def E2h:ACode:=.seq [4,5] E2d .ret
def E2j:ACode:=.cond (.t 52) E2h .skip
def E2l:ACode:=.seq [4,10,52] E2b E2j
def B5I:List AOper:=[aO 54 (.loadN 2 (.t 10)),{ dst:=none,op:=.storeN 2 (.t 4) (.t 54) },aO 5 (.mv (.v (.c (.b true))))]
def E2n:ACode:=.ops B5I
def E2p:ACode:=.seq [4,5] E2n .ret
def E2r:ACode:=.seq [4,10] E2l E2p
def E2t:ACode:=.seq [1,2,4,9,10] E19 E2r
def E2v:ACode:=.seq [1,2,4,8,9] E17 E2t
def E2w:ACode:=.seq [1,2,4,6] E15 E2v
def E2y:ACode:=.seq [1,2,4,6] E1V E2w
def E2C:ACode:=.seq [1,2,4] E1T E2y
def A_bucket_read:AFn:=⟨E2C,[.cellN 4 2,.tmp 5]⟩
def T4:B6:=B1 101 A04 (B1 118 A4W (B1 61 N5 (B1 100 A2m (B1 102 A2o (B1 60 A08 C1)))))
def E1U (n:Nat):SmV:=A2 T4 B5D
def E2f (n:Nat):SmV:=A2 T4 B5E
def E2A (n:Nat):SmV:=A2 T4 B5J
def E2E (n:Nat):SmV:=A2 T4 B5K
def E2G (n:Nat):SmV:=B8 (.t 12) C0 (E3 0)
def E2I (n:Nat):SmV:=A2 T4 B5L
def E2K (n:Nat):SmV:=A2 T4 B5M
def E2M (n:Nat):SmV:=A1 [1,2,4,6,7,11] (E2I n) (E2K n)
def E2O (n:Nat):SmV:=C6 1 (E2M n)
def E2Q (n:Nat):SmV:=A2 T4 B5N
def E1X (n:Nat):SmV:=A1 [1,2,4,6,11] (E2O n) (E2Q n)
def E1Z (n:Nat):SmV:=A1 [1,2,4,6,11] (E2G n) (E1X n)
def B5z (n:Nat):SmV:=A1 [1,2,4,6,11,12] (E2E n) (E1Z n)
def E12 (n:Nat):SmV:=E4 n [1,2,4,6,11] (B5z n)
def E14 (n:Nat):SmV:=C6 0 (E12 n)
def E16 (n:Nat):SmV:=A1 [1,2,4,6,11] (E2A n) (E14 n)
def E18 (n:Nat):SmV:=A2 T4 B5O
def E2a (n:Nat):SmV:=N3 T4 1 B5P B5Q
def E2c (n:Nat):SmV:=N3 T4 0 B5F B5G
def E2e (n:Nat):SmV:=A2 T4 B5H
def E2i (n:Nat):SmV:=A1 [4,5] (E2e n) A8
def E2k (n:Nat):SmV:=B8 (.t 52) (E2i n) C0
def E2m (n:Nat):SmV:=A1 [4,10,52] (E2c n) (E2k n)
def E2o (n:Nat):SmV:=A2 T4 B5I
def E2q (n:Nat):SmV:=A1 [4,5] (E2o n) A8
def E2s (n:Nat):SmV:=A1 [4,10] (E2m n) (E2q n)
def E2u (n:Nat):SmV:=A1 [1,2,4,9,10] (E2a n) (E2s n)
def B5A (n:Nat):SmV:=A1 [1,2,4,8,9] (E18 n) (E2u n)
def E2x (n:Nat):SmV:=A1 [1,2,4,6] (E16 n) (B5A n)
def E2z (n:Nat):SmV:=A1 [1,2,4,6] (E2f n) (E2x n)
def E2D (n:Nat):SmV:=A1 [1,2,4] (E1U n) (E2z n)
def A7L (n:Nat):AExit → Env → A0 → A6:=fun x e h=>match x with | .normal=>hold ((B5A n) A_bucket_read.fin (e.keep [1,2,4,6]) h) | .exit id=>A_bucket_read.fin (.exit id) e h | .ret=>A_bucket_read.fin .ret e h
def E2R (n:Nat):AExit → Env → A0 → A6:=fun x e h=>match x with | .exit i=>bif Nat.beq i 0 then (A7L n) .normal e h else (A7L n) (.exit i) e h | .normal=>(A7L n) .normal e h | .ret=>(A7L n) .ret e h
def A7M (n m:Nat) (x1 x2 x4 x6 x11:Val) (h:A0):A6:=E1 (B5z n) [1,2,4,6,11] (E2R n) m [(1,x1),(2,x2),(4,x4),(6,x6),(11,x11)] h
def A6g (n:Nat) (args:List Val) (h:A0):A6:=(E2D n) A_bucket_read.fin (params 0 args) h
theorem D2k (n:Nat) (a0 a1:Val) (h:A0):A6g n [a0,a1] h=bnd (cells? a0) fun c1=>A7M n n a1 ((.c (.p h.length 0))) ((.c (.p ((h ++ [some (Row.mk (c1) true)])).length 0))) ((.c (.p (((h ++ [some (Row.mk (c1) true)]) ++ [some (Row.mk ([.s [],.i .i64 0]) true)])).length 0))) (.c (.i .i64 0)) ((((h ++ [some (Row.mk (c1) true)]) ++ [some (Row.mk ([.s [],.i .i64 0]) true)]) ++ [some (Row.mk (List.replicate 25 (.i .u8 0)) true)])):=by kernel_rfl
theorem B5C (n m:Nat) (x1 x2 x4 x6 x11:Val) (h:A0):A7M n (m + 1) x1 x2 x4 x6 x11 h=bnd (A4 .lss x11 (.c (.i .i64 25))) fun v2=>cnd v2 (bnd (A04 [x1] h) fun p3=>bnd (A4 .add p3.1 (.c (.i .i64 2))) fun v4=>bnd (A4 .add v4 x11) fun v5=>bnd (D7 256 1 x2 v5) fun v6=>bnd (A9 p3.2 v6) fun v7=>bnd (D7 25 1 x6 x11) fun v8=>bnd (F2 p3.2 v8 v7) fun h9=>bnd (A4 .add x11 (.c (.i .i64 1))) fun v10=>A7M n m x1 x2 x4 x6 v10 h9) (bnd (A5 h 25 x6) fun v11=>bnd (A4W [v11] h) fun p12=>bnd (C2 p12.1 0) fun v13=>bnd (C2 p12.1 1) fun v14=>bnd (A5 p12.2 256 x2) fun v15=>bnd (quiet ((p12.2 ++ [none])) (A04 [x1] ((p12.2 ++ [none])))) fun p16=>bnd (quiet p16.2 (N5 [v15,p16.1,.c (.i .i64 2)] p16.2)) fun p17=>bnd (B0 ([.s [],.i .i64 0]) [(0,1,v13),(1,1,p17.1)]) fun c18=>bnd (B7 ((p17.2.set (p12.2.length + 0) (some (Row.mk ([.s [],.i .i64 0]) true)))) 2 ((.c (.p (p12.2.length + 0) 0))) ((.a c18))) fun h19=>bnd (A4 .neq v14 (.c (.i .i64 0))) fun v20=>bnd (gd v20 false (bnd (A5 h19 2 ((.c (.p (p12.2.length + 0) 0)))) fun v21=>some (v21,(h19 ++ []))) (some (.no,(h19 ++ [])))) fun p22=>bnd (gd v20 false (bnd (quiet p22.2 (A2m [p22.1] p22.2)) fun p23=>some (p23.1,p23.2)) (some (.no,p22.2))) fun p24=>bnd (gd v20 false (bnd (aun .not p24.1) fun v25=>some (v25,p24.2)) (some (.no,p24.2))) fun p26=>bnd (C5 v20 (.c (.b true)) p26.1) fun v27=>bnd (gd v27 false (bnd (A5 h19 2 ((.c (.p (p12.2.length + 0) 0)))) fun v28=>some (v28,p26.2)) (some (.no,p26.2))) fun p29=>bnd (gd v27 false (bnd (quiet p29.2 (A2o [p29.1] p29.2)) fun p30=>some (p30.1,p30.2)) (some (.no,p29.2))) fun p31=>bnd (gd v27 false (bnd (N7 p31.2 p31.1) fun v32=>some (v32,p31.2)) (some (.no,p31.2))) fun p33=>bnd (gd v27 false (bnd (A5 h19 256 x2) fun v34=>some (v34,p33.2)) (some (.no,p33.2))) fun p35=>bnd (gd v27 false (some (x1,p35.2)) (some (.no,p35.2))) fun p36=>bnd (gd v27 false (bnd (quiet p36.2 (A04 [p36.1] p36.2)) fun p37=>some (p37.1,p37.2)) (some (.no,p36.2))) fun p38=>bnd (gd v27 false (bnd (quiet p38.2 (A08 [p35.1,p38.1,.c (.i .i64 32)] p38.2)) fun p39=>some (p39.1,p39.2)) (some (.no,p38.2))) fun p40=>bnd (gd v27 false (bnd (N7 p40.2 p40.1) fun v41=>some (v41,p40.2)) (some (.no,p40.2))) fun p42=>bnd (gd v27 false (bnd (A4 .neq p33.1 p42.1) fun v43=>some (v43,p42.2)) (some (.no,p42.2))) fun p44=>bnd (C5 v27 (.c (.b true)) p44.1) fun v45=>cnd v45 (bnd (B0 ([.s [],.i .i64 0]) []) fun c46=>bnd (B7 p44.2 2 x4 ((.a c46))) fun h47=>C7 [A5 h47 2 x4,some (.c (.b false))] h47) (bnd (A5 p44.2 2 ((.c (.p (p12.2.length + 0) 0)))) fun v48=>bnd (B7 p44.2 2 x4 v48) fun h49=>C7 [A5 h49 2 x4,some (.c (.b true))] h49)):=by kernel_rfl
theorem K_bucket_read:FnK Tryz.prog 108 A_bucket_read T4 A6g:=.mk' (B3 B27 (B3 D52 (B3 A7p (B3 B28 (B3 B3a (B3 B05 C3)))))) Tryz.func108 (by kernel_rfl) (by intro n args h;kernel_rfl)
def A2n:Fun:=tidy (Lim A_bucket_read T4)
theorem B29:SOk Tryz.prog 108 A2n:=K_bucket_read.sok
theorem D36 {n:Nat} {args:List Val} {h h2:A0} {v:Val} (he:A6g n args (ro h)=some (v,h2)) (hf:v.flat=true):A2n args h=some (v,h):=K_bucket_read.flat he hf
def B4r:List AOper:=[aO 4 (.box (.t 0)),aO 5 (.mv (.v (.c (.b false))))]
def D7q:ACode:=.ops B4r
def B4s:List AOper:=[aO 6 (.fAddr (.t 4) 1),aO 7 (.fAddr (.t 6) 0),aO 8 (.load1 (.t 7)),aO 9 (.load1 (.t 1)),aO 10 (.bin .eql (.t 8) (.t 9))]
def D7s:ACode:=.ops B4s
def B4t:List AOper:=[aO 11 (.loadN 3 (.t 4)),{ dst:=none,op:=.storeN 3 (.t 2) (.t 11) },{ dst:=none,op:=.store1 (.t 3) (.v (.c (.b true))) }]
def D7u:ACode:=.ops B4t
def D7w:ACode:=.cond (.t 10) D7u .skip
def D7y:ACode:=.seq [2,3,4,10] D7s D7w
def B4u:List AOper:=[aO 12 (.load1 (.t 3)),aO 13 (.un .not (.t 12)),aO 5 (.mv (.t 13))]
def D7A:ACode:=.ops B4u
def D7C:ACode:=.seq [5] D7A .ret
def D7D:ACode:=.seq [3] D7y D7C
def D7F:ACode:=.seq [1,2,3,4] D7q D7D
def A_bucket_Find_1:AFn:=⟨D7F,[.tmp 5]⟩
def A3l:B6:=C1
def D7r (n:Nat):SmV:=A2 A3l B4r
def D7t (n:Nat):SmV:=A2 A3l B4s
def D7v (n:Nat):SmV:=A2 A3l B4t
def D7x (n:Nat):SmV:=B8 (.t 10) (D7v n) C0
def D7z (n:Nat):SmV:=A1 [2,3,4,10] (D7t n) (D7x n)
def D7B (n:Nat):SmV:=A2 A3l B4u
def B4p (n:Nat):SmV:=A1 [5] (D7B n) A8
def D7E (n:Nat):SmV:=A1 [3] (D7z n) (B4p n)
def D7G (n:Nat):SmV:=A1 [1,2,3,4] (D7r n) (D7E n)
def B1p (n:Nat) (x3:Val) (h:A0):A6:=hold ((B4p n) A_bucket_Find_1.fin [(3,x3)] h)
def B0q (n:Nat) (args:List Val) (h:A0):A6:=(D7G n) A_bucket_Find_1.fin (params 0 args) h
theorem B2Y (n:Nat) (a0 a1 a2 a3:Val) (h:A0):B0q n [a0,a1,a2,a3] h=bnd (cells? a0) fun c1=>bnd (B9 ((.c (.p h.length 0))) 1) fun v2=>bnd (B9 v2 0) fun v3=>bnd (A9 ((h ++ [some (Row.mk (c1) true)])) v3) fun v4=>bnd (A9 ((h ++ [some (Row.mk (c1) true)])) a1) fun v5=>bnd (A4 .eql v4 v5) fun v6=>cnd v6 (bnd (A5 ((h ++ [some (Row.mk (c1) true)])) 3 ((.c (.p h.length 0)))) fun v7=>bnd (B7 ((h ++ [some (Row.mk (c1) true)])) 3 a2 v7) fun h8=>bnd (F2 h8 a3 (.c (.b true))) fun h9=>B1p n a3 h9) (B1p n a3 ((h ++ [some (Row.mk (c1) true)]))):=by kernel_rfl
theorem B4q (n:Nat) (x3:Val) (h:A0):B1p n x3 h=bnd (A9 h x3) fun v10=>bnd (aun .not v10) fun v11=>some (v11,h):=by kernel_rfl
theorem K_bucket_Find_1:FnK Tryz.prog 73 A_bucket_Find_1 A3l B0q:=.mk' (C3) Tryz.func73 (by kernel_rfl) (by intro n args h;kernel_rfl)
def A3u:Fun:=Lim A_bucket_Find_1 A3l
theorem D3R:SOk Tryz.prog 73 A3u:=K_bucket_Find_1.ok
theorem B23 {n:Nat} {args:List Val} {h:A0} {p:Val × A0} (he:B0q n args h=some p):A3u args h=some p:=K_bucket_Find_1.of he
def B5c:List AOper:=[aO 2 (.box (.t 0))]
def E0c:ACode:=.ops B5c
def B5d:List AOper:=[aO 7 (.mv (.v (.c (.i .i64 0))))]
def E0e:ACode:=.ops B5d
def B5e:List AOper:=[aO 8 (.bin .lss (.t 7) (.v (.c (.i .i64 7))))]
def E0z:ACode:=.ops B5e
def E0B:ACode:=.cond (.t 8) .skip (.exit 0)
def B5f:List AOper:=[aO 9 (.mv (.t 7)),aO 4 (.mv (.t 9))]
def E0D:ACode:=.ops B5f
def B5g:List AOper:=[aO 11 (.loadN 256 (.t 2)),aO 12 (.mv (.t 4)),aO 13 (.call 108 [(.t 11),(.t 12)]),aO 10 (.mv (.t 13)),aO 14 (.ext (.t 10) 0),aO 15 (.ext (.t 10) 1),aO 5 (.alloc ([.s [],.i .i64 0])),{ dst:=none,op:=.storeN 2 (.t 5) (.t 14) },aO 6 (.mv (.t 15))]
def E0F:ACode:=.ops B5g
def B5h:List AOper:=[aO 16 (.mv (.t 6)),aO 17 (.mv (.t 16)),{ dst:=some 18,op:=.mv (.t 1),guard:=some (17,true) },{ dst:=some 19,op:=.mv (.t 4),guard:=some (17,true) },{ dst:=some 20,op:=.loadN 2 (.t 5),guard:=some (17,true) },{ dst:=some 21,op:=.build ([.i .i64 0,.s [],.i .i64 0]) [(0,1,(.t 19)),(1,2,(.t 20))],guard:=some (17,true) },{ dst:=some 22,op:=.callV (.t 18) [(.t 21)],guard:=some (17,true) },{ dst:=some 23,op:=.un .not (.t 22),guard:=some (17,true) },aO 24 (.pick (.t 17) (.t 23) (.v (.c (.b false))))]
def E0H:ACode:=.ops B5h
def E0J:ACode:=.cond (.t 24) .ret .skip
def E0L:ACode:=.seq [1,2,7,24] E0H E0J
def E0N:ACode:=.seq [1,2,4,5,6,7] E0F E0L
def E0f:ACode:=.seq [1,2,4,7] E0D E0N
def E0h:ACode:=.block 1 E0f
def B5i:List AOper:=[aO 25 (.bin .add (.t 7) (.v (.c (.i .i64 1)))),aO 7 (.mv (.t 25))]
def E0j:ACode:=.ops B5i
def E0l:ACode:=.seq [1,2,7] E0h E0j
def E0n:ACode:=.seq [1,2,7] E0B E0l
def E0p:ACode:=.seq [1,2,7,8] E0z E0n
def E0q:ACode:=.loop [1,2,7] E0p
def E0s:ACode:=.block 0 E0q
def E0u:ACode:=.seq [1,2,7] E0e E0s
def E0w:ACode:=.seq [1,2] E0c E0u
def A_bucket_each__Find_1:AFn:=⟨E0w,[]⟩
def Z4:B6:=B1 108 A2n (B1 73 A3u C1)
def E0d (n:Nat):SmV:=A2 Z4 B5c
def E0y (n:Nat):SmV:=A2 Z4 B5d
def E0A (n:Nat):SmV:=A2 Z4 B5e
def E0C (n:Nat):SmV:=B8 (.t 8) C0 (E3 0)
def E0E (n:Nat):SmV:=A2 Z4 B5f
def E0G (n:Nat):SmV:=A2 Z4 B5g
def E0I (n:Nat):SmV:=A2 Z4 B5h
def E0K (n:Nat):SmV:=B8 (.t 24) A8 C0
def E0M (n:Nat):SmV:=A1 [1,2,7,24] (E0I n) (E0K n)
def E0O (n:Nat):SmV:=A1 [1,2,4,5,6,7] (E0G n) (E0M n)
def E0g (n:Nat):SmV:=A1 [1,2,4,7] (E0E n) (E0O n)
def E0i (n:Nat):SmV:=C6 1 (E0g n)
def E0k (n:Nat):SmV:=A2 Z4 B5i
def E0m (n:Nat):SmV:=A1 [1,2,7] (E0i n) (E0k n)
def E0o (n:Nat):SmV:=A1 [1,2,7] (E0C n) (E0m n)
def B5a (n:Nat):SmV:=A1 [1,2,7,8] (E0A n) (E0o n)
def E0r (n:Nat):SmV:=E4 n [1,2,7] (B5a n)
def E0t (n:Nat):SmV:=C6 0 (E0r n)
def E0v (n:Nat):SmV:=A1 [1,2,7] (E0y n) (E0t n)
def E0x (n:Nat):SmV:=A1 [1,2] (E0d n) (E0v n)
def E0P (n:Nat):AExit → Env → A0 → A6:=fun x e h=>match x with | .exit i=>bif Nat.beq i 0 then A_bucket_each__Find_1.fin .normal e h else A_bucket_each__Find_1.fin (.exit i) e h | .normal=>A_bucket_each__Find_1.fin .normal e h | .ret=>A_bucket_each__Find_1.fin .ret e h
def A7J (n m:Nat) (x1 x2 x7:Val) (h:A0):A6:=E1 (B5a n) [1,2,7] (E0P n) m [(1,x1),(2,x2),(7,x7)] h
def B0s (n:Nat) (args:List Val) (h:A0):A6:=(E0x n) A_bucket_each__Find_1.fin (params 0 args) h
theorem D2f (n:Nat) (a0 a1:Val) (h:A0):B0s n [a0,a1] h=bnd (cells? a0) fun c1=>A7J n n a1 ((.c (.p h.length 0))) (.c (.i .i64 0)) ((h ++ [some (Row.mk (c1) true)])):=by kernel_rfl
theorem B5b (n m:Nat) (x1 x2 x7:Val) (h:A0):A7J n (m + 1) x1 x2 x7 h=bnd (A4 .lss x7 (.c (.i .i64 7))) fun v2=>cnd v2 (bnd (A5 h 256 x2) fun v3=>bnd (A2n [v3,x7] h) fun p4=>bnd (C2 p4.1 0) fun v5=>bnd (C2 p4.1 1) fun v6=>bnd (B7 ((p4.2 ++ [some (Row.mk ([.s [],.i .i64 0]) true)])) 2 ((.c (.p p4.2.length 0))) v5) fun h7=>bnd (gd v6 true (some (x1,h7)) (some (.no,h7))) fun p8=>bnd (gd v6 true (some (x7,p8.2)) (some (.no,p8.2))) fun p9=>bnd (gd v6 true (bnd (A5 p9.2 2 ((.c (.p p4.2.length 0)))) fun v10=>some (v10,p9.2)) (some (.no,p9.2))) fun p11=>bnd (gd v6 true (bnd (B0 ([.i .i64 0,.s [],.i .i64 0]) [(0,1,p9.1),(1,2,p11.1)]) fun c12=>some ((.a c12),p11.2)) (some (.no,p11.2))) fun p13=>bnd (gd v6 true (bnd (M7 Z4 p8.1 [p13.1] p13.2) fun p14=>some (p14.1,p14.2)) (some (.no,p13.2))) fun p15=>bnd (gd v6 true (bnd (aun .not p15.1) fun v16=>some (v16,p15.2)) (some (.no,p15.2))) fun p17=>bnd (C5 v6 p17.1 (.c (.b false))) fun v18=>cnd v18 (C7 [] p17.2) (bnd (A4 .add x7 (.c (.i .i64 1))) fun v19=>A7J n m x1 x2 v19 p17.2)) (C7 [] h):=by kernel_rfl
theorem K_bucket_each__Find_1:FnK Tryz.prog 72 A_bucket_each__Find_1 Z4 B0s:=.mk' (B3 B29 (B3 D3R C3)) Tryz.func72 (by kernel_rfl) (by intro n args h;kernel_rfl)
def A4g:Fun:=Lim A_bucket_each__Find_1 Z4
theorem D3Z:SOk Tryz.prog 72 A4g:=K_bucket_each__Find_1.ok
theorem D3Y {n:Nat} {args:List Val} {h:A0} {p:Val × A0} (he:B0s n args h=some p):A4g args h=some p:=K_bucket_each__Find_1.of he
def B4w:List AOper:=[aO 2 (.box (.t 0)),aO 3 (.box (.t 1)),aO 4 (.alloc ([.i .i64 0,.s [],.i .i64 0])),aO 5 (.mv (.v (.c (.b false))))]
def D7H:ACode:=.ops B4w
def B4x:List AOper:=[aO 6 (.alloc ([.i .i64 0,.s [],.i .i64 0]))]
def D7J:ACode:=.ops B4x
def B4y:List AOper:=[aO 7 (.alloc ([.b false])),{ dst:=none,op:=.store1 (.t 7) (.v (.c (.b false))) }]
def D7L:ACode:=.ops B4y
def B4z:List AOper:=[aO 8 (.loadN 256 (.t 2)),aO 9 (.mkf 73 [(.t 3),(.t 6),(.t 7)]),aO 10 (.call 72 [(.t 8),(.t 9)])]
def D7N:ACode:=.ops B4z
def B4A:List AOper:=[aO 11 (.loadN 3 (.t 6)),aO 12 (.load1 (.t 7))]
def B4B:List AOper:=[aO 5 (.mv (.t 12))]
def D7P:ACode:=.drawS 0 B4A { dst:=none,op:=.storeN 3 (.t 4) (.t 11) } [(12,.load1 (.t 7))] B4B
def D7R:ACode:=.seq [4,5] D7P .ret
def D7T:ACode:=.seq [4,6,7] D7N D7R
def D7V:ACode:=.seq [2,3,4,6,7] D7L D7T
def D7X:ACode:=.seq [2,3,4,6] D7J D7V
def D7Z:ACode:=.seq [2,3,4] D7H D7X
def A_bucket_Find:AFn:=⟨D7Z,[.cellN 4 3,.tmp 5]⟩
def A2c:B6:=B1 72 A4g C1
def D7I (n:Nat):SmV:=A2 A2c B4w
def D7K (n:Nat):SmV:=A2 A2c B4x
def D7M (n:Nat):SmV:=A2 A2c B4y
def D7O (n:Nat):SmV:=A2 A2c B4z
def D7Q (n:Nat):SmV:=A97 A2c 0 B4A { dst:=none,op:=.storeN 3 (.t 4) (.t 11) } [(12,.load1 (.t 7))] B4B
def D7S (n:Nat):SmV:=A1 [4,5] (D7Q n) A8
def D7U (n:Nat):SmV:=A1 [4,6,7] (D7O n) (D7S n)
def D7W (n:Nat):SmV:=A1 [2,3,4,6,7] (D7M n) (D7U n)
def D7Y (n:Nat):SmV:=A1 [2,3,4,6] (D7K n) (D7W n)
def D70 (n:Nat):SmV:=A1 [2,3,4] (D7I n) (D7Y n)
def A6b (n:Nat) (args:List Val) (h:A0):A6:=(D70 n) A_bucket_Find.fin (params 0 args) h
theorem D2c (n:Nat) (a0 a1:Val) (h:A0):A6b n [a0,a1] h=bnd (cells? a0) fun c1=>bnd (cells? a1) fun c2=>bnd (F2 ((((((h ++ [some (Row.mk (c1) true)]) ++ [some (Row.mk (c2) true)]) ++ [some (Row.mk ([.i .i64 0,.s [],.i .i64 0]) true)]) ++ [some (Row.mk ([.i .i64 0,.s [],.i .i64 0]) true)]) ++ [some (Row.mk ([.b false]) true)])) ((.c (.p (((((h ++ [some (Row.mk (c1) true)]) ++ [some (Row.mk (c2) true)]) ++ [some (Row.mk ([.i .i64 0,.s [],.i .i64 0]) true)]) ++ [some (Row.mk ([.i .i64 0,.s [],.i .i64 0]) true)])).length 0))) (.c (.b false))) fun h3=>bnd (A5 h3 256 ((.c (.p h.length 0)))) fun v4=>bnd (X8 73 [(.c (.p ((h ++ [some (Row.mk (c1) true)])).length 0)),(.c (.p ((((h ++ [some (Row.mk (c1) true)]) ++ [some (Row.mk (c2) true)]) ++ [some (Row.mk ([.i .i64 0,.s [],.i .i64 0]) true)])).length 0)),(.c (.p (((((h ++ [some (Row.mk (c1) true)]) ++ [some (Row.mk (c2) true)]) ++ [some (Row.mk ([.i .i64 0,.s [],.i .i64 0]) true)]) ++ [some (Row.mk ([.i .i64 0,.s [],.i .i64 0]) true)])).length 0))]) fun v5=>bnd (A4g [v4,v5] h3) fun p6=>bnd (A5 p6.2 3 ((.c (.p ((((h ++ [some (Row.mk (c1) true)]) ++ [some (Row.mk (c2) true)]) ++ [some (Row.mk ([.i .i64 0,.s [],.i .i64 0]) true)])).length 0)))) fun v7=>bnd (A9 p6.2 ((.c (.p (((((h ++ [some (Row.mk (c1) true)]) ++ [some (Row.mk (c2) true)]) ++ [some (Row.mk ([.i .i64 0,.s [],.i .i64 0]) true)]) ++ [some (Row.mk ([.i .i64 0,.s [],.i .i64 0]) true)])).length 0)))) fun v8=>bnd (B7 ((p6.2 ++ [])) 3 ((.c (.p (((h ++ [some (Row.mk (c1) true)]) ++ [some (Row.mk (c2) true)])).length 0))) v7) fun h9=>agn (A9 h9 ((.c (.p (((((h ++ [some (Row.mk (c1) true)]) ++ [some (Row.mk (c2) true)]) ++ [some (Row.mk ([.i .i64 0,.s [],.i .i64 0]) true)]) ++ [some (Row.mk ([.i .i64 0,.s [],.i .i64 0]) true)])).length 0)))) v8 <| C7 [A5 h9 3 ((.c (.p (((h ++ [some (Row.mk (c1) true)]) ++ [some (Row.mk (c2) true)])).length 0))),some v8] h9:=by kernel_rfl
theorem K_bucket_Find:FnK Tryz.prog 32 A_bucket_Find A2c A6b:=.mk' (B3 D3Z C3) Tryz.func32 (by kernel_rfl) (by intro n args h;kernel_rfl)
def A2l:Fun:=tidy (Lim A_bucket_Find A2c)
theorem B24:SOk Tryz.prog 32 A2l:=K_bucket_Find.sok
theorem D3S {n:Nat} {args:List Val} {h h2:A0} {v:Val} (he:A6b n args (ro h)=some (v,h2)) (hf:v.flat=true):A2l args h=some (v,h):=K_bucket_Find.flat he hf
def B4Q:List AOper:=[aO 2 (.alloc (List.replicate 256 (.i .u8 0))),aO 3 (.mv (.v (.c (.i .i64 0))))]
def D8u:ACode:=.ops B4Q
def B4R:List AOper:=[aO 11 (.mv (.t 0)),aO 12 (.len (.t 11)),aO 13 (.bin .gtr (.t 12) (.v (.c (.i .i64 7))))]
def D8w:ACode:=.ops B4R
def B42:List AOper:=[aO 14 (.build (List.replicate 256 (.i .u8 0)) []),{ dst:=none,op:=.storeN 256 (.t 2) (.t 14) },aO 3 (.mv (.v (.c (.i .i64 11))))]
def D8S:ACode:=.ops B42
def D9d:ACode:=.seq [2,3] D8S .ret
def D9z:ACode:=.cond (.t 13) D9d .skip
def D9S:ACode:=.seq [0,2,13] D8w D9z
def B43:List AOper:=[aO 15 (.call 99 []),aO 4 (.alloc (List.replicate 256 (.i .u8 0))),{ dst:=none,op:=.storeN 256 (.t 4) (.t 15) }]
def D92:ACode:=.ops B43
def B44:List AOper:=[aO 16 (.mv (.t 0)),aO 17 (.len (.t 16)),aO 18 (.mv (.v (.c (.i .i64 0))))]
def D94:ACode:=.ops B44
def B45:List AOper:=[aO 19 (.bin .lss (.t 18) (.t 17))]
def D96:ACode:=.ops B45
def D98:ACode:=.cond (.t 19) .skip (.exit 0)
def B46:List AOper:=[aO 20 (.mv (.t 18)),aO 21 (.iAddrL 2 (.t 16) (.t 18)),aO 22 (.loadN 2 (.t 21)),aO 6 (.alloc ([.s [],.i .i64 0])),aO 5 (.mv (.t 20)),{ dst:=none,op:=.storeN 2 (.t 6) (.t 22) }]
def D8x:ACode:=.ops B46
def B47:List AOper:=[aO 23 (.loadN 2 (.t 6)),aO 24 (.call 100 [(.t 23)]),aO 25 (.un .not (.t 24))]
def D8z:ACode:=.ops B47
def B48:List AOper:=[aO 26 (.build (List.replicate 256 (.i .u8 0)) []),{ dst:=none,op:=.storeN 256 (.t 2) (.t 26) },aO 3 (.mv (.v (.c (.i .i64 1))))]
def D8B:ACode:=.ops B48
def D8D:ACode:=.seq [2,3] D8B .ret
def D8F:ACode:=.cond (.t 25) D8D .skip
def D8H:ACode:=.seq [0,2,4,5,6,16,17,18,25] D8z D8F
def B49:List AOper:=[aO 27 (.loadN 256 (.t 4)),aO 28 (.mv (.t 5)),aO 29 (.call 101 [(.t 28)]),aO 30 (.loadN 2 (.t 6)),aO 31 (.call 102 [(.t 30)])]
def B4S:List AOper:=[aO 32 (.call 95 [(.t 27),(.t 29),(.t 31)]),{ dst:=none,op:=.storeN 256 (.t 4) (.t 32) }]
def D8J:ACode:=.draw 0 B49 B4S
def D8L:ACode:=.seq [0,2,4,5,6,16,17,18] D8H D8J
def D8N:ACode:=.seq [0,2,4,5,6,16,17,18] D8x D8L
def D8P:ACode:=.block 1 D8N
def B4T:List AOper:=[aO 33 (.bin .add (.t 18) (.v (.c (.i .i64 1)))),aO 18 (.mv (.t 33))]
def D8T:ACode:=.ops B4T
def D8V:ACode:=.seq [0,2,4,16,17,18] D8P D8T
def D8X:ACode:=.seq [0,2,4,16,17,18] D98 D8V
def D8Z:ACode:=.seq [0,2,4,16,17,18,19] D96 D8X
def D80:ACode:=.loop [0,2,4,16,17,18] D8Z
def D82:ACode:=.block 0 D80
def D84:ACode:=.seq [0,2,4,16,17,18] D94 D82
def B4U:List AOper:=[aO 34 (.mv (.t 0)),aO 35 (.len (.t 34)),aO 36 (.mv (.v (.c (.i .i64 0))))]
def D86:ACode:=.ops B4U
def B4V:List AOper:=[aO 37 (.bin .lss (.t 36) (.t 35))]
def D88:ACode:=.ops B4V
def D9a:ACode:=.cond (.t 37) .skip (.exit 2)
def B4W:List AOper:=[aO 38 (.mv (.t 36)),aO 39 (.iAddrL 2 (.t 34) (.t 36)),aO 40 (.loadN 2 (.t 39)),aO 8 (.alloc ([.s [],.i .i64 0])),aO 7 (.mv (.t 38)),{ dst:=none,op:=.storeN 2 (.t 8) (.t 40) }]
def D9e:ACode:=.ops B4W
def B4X:List AOper:=[aO 42 (.loadN 256 (.t 4)),aO 43 (.fAddr (.t 8) 0),aO 44 (.load1 (.t 43)),aO 45 (.call 32 [(.t 42),(.t 44)]),aO 41 (.mv (.t 45)),aO 46 (.ext (.t 41) 0),aO 47 (.ext (.t 41) 1),aO 9 (.alloc ([.i .i64 0,.s [],.i .i64 0])),{ dst:=none,op:=.storeN 3 (.t 9) (.t 46) },aO 10 (.mv (.t 47))]
def D9g:ACode:=.ops B4X
def B4Y:List AOper:=[aO 48 (.fAddr (.t 9) 0),aO 49 (.load1 (.t 48)),aO 50 (.mv (.t 7)),aO 51 (.bin .neq (.t 49) (.t 50))]
def D9i:ACode:=.ops B4Y
def B4Z:List AOper:=[aO 52 (.build (List.replicate 256 (.i .u8 0)) []),{ dst:=none,op:=.storeN 256 (.t 2) (.t 52) },aO 3 (.mv (.v (.c (.i .i64 5))))]
def D9k:ACode:=.ops B4Z
def D9m:ACode:=.seq [2,3] D9k .ret
def D9o:ACode:=.cond (.t 51) D9m .skip
def D9q:ACode:=.seq [2,4,34,35,36,51] D9i D9o
def D9s:ACode:=.seq [2,4,7,9,34,35,36] D9g D9q
def D9u:ACode:=.seq [2,4,7,8,34,35,36] D9e D9s
def D9w:ACode:=.block 3 D9u
def B40:List AOper:=[aO 53 (.bin .add (.t 36) (.v (.c (.i .i64 1)))),aO 36 (.mv (.t 53))]
def D9A:ACode:=.ops B40
def D9C:ACode:=.seq [2,4,34,35,36] D9w D9A
def D9E:ACode:=.seq [2,4,34,35,36] D9a D9C
def D9G:ACode:=.seq [2,4,34,35,36,37] D88 D9E
def D9H:ACode:=.loop [2,4,34,35,36] D9G
def D9J:ACode:=.block 2 D9H
def D9L:ACode:=.seq [2,4,34,35,36] D86 D9J
def B41:List AOper:=[aO 54 (.loadN 256 (.t 4)),{ dst:=none,op:=.storeN 256 (.t 2) (.t 54) },aO 3 (.mv (.v (.c (.i .i64 0))))]
def D9N:ACode:=.ops B41
def D9P:ACode:=.seq [2,3] D9N .ret
def D9Q:ACode:=.seq [2,4] D9L D9P
def D9T:ACode:=.seq [0,2,4] D84 D9Q
def D9V:ACode:=.seq [0,2,4] D92 D9T
def D9X:ACode:=.seq [0,2] D9S D9V
def D9Z:ACode:=.seq [0,2] D8u D9X
def A_bucket_New:AFn:=⟨D9Z,[.cellN 2 256,.tmp 3]⟩
def M1:B6:=B1 99 A4i (B1 100 A2m (B1 101 A04 (B1 102 A2o (B1 95 A09 (B1 32 A2l C1)))))
def D8v (n:Nat):SmV:=A2 M1 B4Q
def D8R (n:Nat):SmV:=A2 M1 B4R
def D9c (n:Nat):SmV:=A2 M1 B42
def D9y (n:Nat):SmV:=A1 [2,3] (D9c n) A8
def D9R (n:Nat):SmV:=B8 (.t 13) (D9y n) C0
def D91 (n:Nat):SmV:=A1 [0,2,13] (D8R n) (D9R n)
def D93 (n:Nat):SmV:=A2 M1 B43
def D95 (n:Nat):SmV:=A2 M1 B44
def D97 (n:Nat):SmV:=A2 M1 B45
def D99 (n:Nat):SmV:=B8 (.t 19) C0 (E3 0)
def D8y (n:Nat):SmV:=A2 M1 B46
def D8A (n:Nat):SmV:=A2 M1 B47
def D8C (n:Nat):SmV:=A2 M1 B48
def D8E (n:Nat):SmV:=A1 [2,3] (D8C n) A8
def D8G (n:Nat):SmV:=B8 (.t 25) (D8E n) C0
def D8I (n:Nat):SmV:=A1 [0,2,4,5,6,16,17,18,25] (D8A n) (D8G n)
def D8K (n:Nat):SmV:=N3 M1 0 B49 B4S
def D8M (n:Nat):SmV:=A1 [0,2,4,5,6,16,17,18] (D8I n) (D8K n)
def D8O (n:Nat):SmV:=A1 [0,2,4,5,6,16,17,18] (D8y n) (D8M n)
def D8Q (n:Nat):SmV:=C6 1 (D8O n)
def D8U (n:Nat):SmV:=A2 M1 B4T
def D8W (n:Nat):SmV:=A1 [0,2,4,16,17,18] (D8Q n) (D8U n)
def D8Y (n:Nat):SmV:=A1 [0,2,4,16,17,18] (D99 n) (D8W n)
def B4J (n:Nat):SmV:=A1 [0,2,4,16,17,18,19] (D97 n) (D8Y n)
def D81 (n:Nat):SmV:=E4 n [0,2,4,16,17,18] (B4J n)
def D83 (n:Nat):SmV:=C6 0 (D81 n)
def D85 (n:Nat):SmV:=A1 [0,2,4,16,17,18] (D95 n) (D83 n)
def D87 (n:Nat):SmV:=A2 M1 B4U
def D89 (n:Nat):SmV:=A2 M1 B4V
def D9b (n:Nat):SmV:=B8 (.t 37) C0 (E3 2)
def D9f (n:Nat):SmV:=A2 M1 B4W
def D9h (n:Nat):SmV:=A2 M1 B4X
def D9j (n:Nat):SmV:=A2 M1 B4Y
def D9l (n:Nat):SmV:=A2 M1 B4Z
def D9n (n:Nat):SmV:=A1 [2,3] (D9l n) A8
def D9p (n:Nat):SmV:=B8 (.t 51) (D9n n) C0
def D9r (n:Nat):SmV:=A1 [2,4,34,35,36,51] (D9j n) (D9p n)
def D9t (n:Nat):SmV:=A1 [2,4,7,9,34,35,36] (D9h n) (D9r n)
def D9v (n:Nat):SmV:=A1 [2,4,7,8,34,35,36] (D9f n) (D9t n)
def D9x (n:Nat):SmV:=C6 3 (D9v n)
def D9B (n:Nat):SmV:=A2 M1 B40
def D9D (n:Nat):SmV:=A1 [2,4,34,35,36] (D9x n) (D9B n)
def D9F (n:Nat):SmV:=A1 [2,4,34,35,36] (D9b n) (D9D n)
def B4K (n:Nat):SmV:=A1 [2,4,34,35,36,37] (D89 n) (D9F n)
def D9I (n:Nat):SmV:=E4 n [2,4,34,35,36] (B4K n)
def D9K (n:Nat):SmV:=C6 2 (D9I n)
def D9M (n:Nat):SmV:=A1 [2,4,34,35,36] (D87 n) (D9K n)
def D9O (n:Nat):SmV:=A2 M1 B41
def B4L (n:Nat):SmV:=A1 [2,3] (D9O n) A8
def B4M (n:Nat):SmV:=A1 [2,4] (D9M n) (B4L n)
def D9U (n:Nat):SmV:=A1 [0,2,4] (D85 n) (B4M n)
def D9W (n:Nat):SmV:=A1 [0,2,4] (D93 n) (D9U n)
def D9Y (n:Nat):SmV:=A1 [0,2] (D91 n) (D9W n)
def D90 (n:Nat):SmV:=A1 [0,2] (D8v n) (D9Y n)
def A7F (n:Nat):AExit → Env → A0 → A6:=fun x e h=>match x with | .normal=>hold ((B4M n) A_bucket_New.fin (e.keep [0,2,4]) h) | .exit id=>A_bucket_New.fin (.exit id) e h | .ret=>A_bucket_New.fin .ret e h
def E0a (n:Nat):AExit → Env → A0 → A6:=fun x e h=>match x with | .exit i=>bif Nat.beq i 0 then (A7F n) .normal e h else (A7F n) (.exit i) e h | .normal=>(A7F n) .normal e h | .ret=>(A7F n) .ret e h
def A7H (n m:Nat) (x0 x2 x4 x16 x17 x18:Val) (h:A0):A6:=E1 (B4J n) [0,2,4,16,17,18] (E0a n) m [(0,x0),(2,x2),(4,x4),(16,x16),(17,x17),(18,x18)] h
def A6c (n:Nat) (args:List Val) (h:A0):A6:=(D90 n) A_bucket_New.fin (params 0 args) h
def A7G (n:Nat):AExit → Env → A0 → A6:=fun x e h=>match x with | .normal=>hold ((B4L n) A_bucket_New.fin (e.keep [2,4]) h) | .exit id=>A_bucket_New.fin (.exit id) e h | .ret=>A_bucket_New.fin .ret e h
def E0b (n:Nat):AExit → Env → A0 → A6:=fun x e h=>match x with | .exit i=>bif Nat.beq i 2 then (A7G n) .normal e h else (A7G n) (.exit i) e h | .normal=>(A7G n) .normal e h | .ret=>(A7G n) .ret e h
def A7I (n m:Nat) (x2 x4 x34 x35 x36:Val) (h:A0):A6:=E1 (B4K n) [2,4,34,35,36] (E0b n) m [(2,x2),(4,x4),(34,x34),(35,x35),(36,x36)] h
theorem D2e (n:Nat) (a0:Val) (h:A0):A6c n [a0] h=bnd (F5 a0) fun v1=>bnd (A4 .gtr v1 (.c (.i .i64 7))) fun v2=>cnd v2 (bnd (B0 (List.replicate 256 (.i .u8 0)) []) fun c3=>bnd (B7 ((h ++ [some (Row.mk (List.replicate 256 (.i .u8 0)) true)])) 256 ((.c (.p h.length 0))) ((.a c3))) fun h4=>C7 [A5 h4 256 ((.c (.p h.length 0))),some (.c (.i .i64 11))] h4) (bnd (A4i [] ((h ++ [some (Row.mk (List.replicate 256 (.i .u8 0)) true)]))) fun p5=>bnd (B7 ((p5.2 ++ [some (Row.mk (List.replicate 256 (.i .u8 0)) true)])) 256 ((.c (.p p5.2.length 0))) p5.1) fun h6=>bnd (F5 a0) fun v7=>A7H n n a0 ((.c (.p h.length 0))) ((.c (.p p5.2.length 0))) a0 v7 (.c (.i .i64 0)) h6):=by kernel_rfl
theorem B4O (n m:Nat) (x0 x2 x4 x16 x17 x18:Val) (h:A0):A7H n (m + 1) x0 x2 x4 x16 x17 x18 h=bnd (A4 .lss x18 x17) fun v8=>cnd v8 (bnd (D0 2 x16 x18) fun v9=>bnd (A5 h 2 v9) fun v10=>bnd (B7 ((h ++ [some (Row.mk ([.s [],.i .i64 0]) true)])) 2 ((.c (.p h.length 0))) v10) fun h11=>bnd (A5 h11 2 ((.c (.p h.length 0)))) fun v12=>bnd (A2m [v12] h11) fun p13=>bnd (aun .not p13.1) fun v14=>cnd v14 (bnd (B0 (List.replicate 256 (.i .u8 0)) []) fun c15=>bnd (B7 p13.2 256 x2 ((.a c15))) fun h16=>C7 [A5 h16 256 x2,some (.c (.i .i64 1))] h16) (bnd (A5 p13.2 256 x4) fun v17=>bnd (quiet ((p13.2 ++ [])) (A04 [x18] ((p13.2 ++ [])))) fun p18=>bnd (A5 p13.2 2 ((.c (.p h.length 0)))) fun v19=>bnd (quiet p18.2 (A2o [v19] p18.2)) fun p20=>bnd (A09 [v17,p18.1,p20.1] p20.2) fun p21=>bnd (B7 p21.2 256 x4 p21.1) fun h22=>bnd (A4 .add x18 (.c (.i .i64 1))) fun v23=>A7H n m x0 x2 x4 x16 x17 v23 h22)) (bnd (F5 x0) fun v24=>A7I n n x2 x4 x0 v24 (.c (.i .i64 0)) h):=by kernel_rfl
theorem B4P (n m:Nat) (x2 x4 x34 x35 x36:Val) (h:A0):A7I n (m + 1) x2 x4 x34 x35 x36 h=bnd (A4 .lss x36 x35) fun v25=>cnd v25 (bnd (D0 2 x34 x36) fun v26=>bnd (A5 h 2 v26) fun v27=>bnd (B7 ((h ++ [some (Row.mk ([.s [],.i .i64 0]) true)])) 2 ((.c (.p h.length 0))) v27) fun h28=>bnd (A5 h28 256 x4) fun v29=>bnd (B9 ((.c (.p h.length 0))) 0) fun v30=>bnd (A9 h28 v30) fun v31=>bnd (A2l [v29,v31] h28) fun p32=>bnd (C2 p32.1 0) fun v33=>bnd (C2 p32.1 1) fun v34=>bnd (B7 ((p32.2 ++ [some (Row.mk ([.i .i64 0,.s [],.i .i64 0]) true)])) 3 ((.c (.p p32.2.length 0))) v33) fun h35=>bnd (B9 ((.c (.p p32.2.length 0))) 0) fun v36=>bnd (A9 h35 v36) fun v37=>bnd (A4 .neq v37 x36) fun v38=>cnd v38 (bnd (B0 (List.replicate 256 (.i .u8 0)) []) fun c39=>bnd (B7 h35 256 x2 ((.a c39))) fun h40=>C7 [A5 h40 256 x2,some (.c (.i .i64 5))] h40) (bnd (A4 .add x36 (.c (.i .i64 1))) fun v41=>A7I n m x2 x4 x34 x35 v41 h35)) (bnd (A5 h 256 x4) fun v42=>bnd (B7 h 256 x2 v42) fun h43=>C7 [A5 h43 256 x2,some (.c (.i .i64 0))] h43):=by kernel_rfl
theorem K_bucket_New:FnK Tryz.prog 58 A_bucket_New M1 A6c:=.mk' (B3 D34 (B3 B28 (B3 B27 (B3 B3a (B3 B06 (B3 B24 C3)))))) Tryz.func58 (by kernel_rfl) (by intro n args h;kernel_rfl)
def A3v:Fun:=tidy (Lim A_bucket_New M1)
theorem D3X:SOk Tryz.prog 58 A3v:=K_bucket_New.sok
theorem D3W {n:Nat} {args:List Val} {h h2:A0} {v:Val} (he:A6c n args (ro h)=some (v,h2)) (hf:v.flat=true):A3v args h=some (v,h):=K_bucket_New.flat he hf
def B4C:List AOper:=[aO 2 (.box (.t 0)),aO 3 (.mv (.v (.c (.b false))))]
def D71:ACode:=.ops B4C
def B4D:List AOper:=[aO 4 (.load1 (.t 1)),aO 5 (.loadN 3 (.t 2)),aO 6 (.buildSl 3 1 (([.i .i64 0,.s [],.i .i64 0])) [(0,3,(.t 5))]),aO 7 (.app 3 (.t 4) (.t 6)),{ dst:=none,op:=.store1 (.t 1) (.t 7) }]
def D73:ACode:=.ops B4D
def B4E:List AOper:=[aO 3 (.mv (.v (.c (.b true))))]
def D75:ACode:=.ops B4E
def D77:ACode:=.seq [3] D75 .ret
def D79:ACode:=.seq [] D73 D77
def D8b:ACode:=.seq [1,2] D71 D79
def A_bucket_List_1:AFn:=⟨D8b,[.tmp 3]⟩
def A39:B6:=C1
def D72 (n:Nat):SmV:=A2 A39 B4C
def D74 (n:Nat):SmV:=A2 A39 B4D
def D76 (n:Nat):SmV:=A2 A39 B4E
def D78 (n:Nat):SmV:=A1 [3] (D76 n) A8
def D8a (n:Nat):SmV:=A1 [] (D74 n) (D78 n)
def D8c (n:Nat):SmV:=A1 [1,2] (D72 n) (D8a n)
def B0r (n:Nat) (args:List Val) (h:A0):A6:=(D8c n) A_bucket_List_1.fin (params 0 args) h
theorem B2Z (n:Nat) (a0 a1:Val) (h:A0):B0r n [a0,a1] h=bnd (cells? a0) fun c1=>bnd (A9 ((h ++ [some (Row.mk (c1) true)])) a1) fun v2=>bnd (A5 ((h ++ [some (Row.mk (c1) true)])) 3 ((.c (.p h.length 0)))) fun v3=>bnd (B0 (([.i .i64 0,.s [],.i .i64 0])) [(0,3,v3)]) fun c4=>bnd (E5 (((h ++ [some (Row.mk (c1) true)]) ++ [some (Row.mk (c4) true)])) 3 v2 ((.c (.sl ((h ++ [some (Row.mk (c1) true)])).length 0 1 3)))) fun p5=>bnd (F2 p5.2 a1 p5.1) fun h6=>some ((.c (.b true)),h6):=by kernel_rfl
theorem K_bucket_List_1:FnK Tryz.prog 84 A_bucket_List_1 A39 B0r:=.mk' (C3) Tryz.func84 (by kernel_rfl) (by intro n args h;kernel_rfl)
def A4f:Fun:=Lim A_bucket_List_1 A39
theorem D3T:SOk Tryz.prog 84 A4f:=K_bucket_List_1.ok
theorem B25 {n:Nat} {args:List Val} {h:A0} {p:Val × A0} (he:B0r n args h=some p):A4f args h=some p:=K_bucket_List_1.of he
def B5l:List AOper:=[aO 2 (.box (.t 0))]
def E0Q:ACode:=.ops B5l
def B5m:List AOper:=[aO 7 (.mv (.v (.c (.i .i64 0))))]
def E0S:ACode:=.ops B5m
def B5n:List AOper:=[aO 8 (.bin .lss (.t 7) (.v (.c (.i .i64 7))))]
def E1d:ACode:=.ops B5n
def E1f:ACode:=.cond (.t 8) .skip (.exit 0)
def B5o:List AOper:=[aO 9 (.mv (.t 7)),aO 4 (.mv (.t 9))]
def E1h:ACode:=.ops B5o
def B5p:List AOper:=[aO 11 (.loadN 256 (.t 2)),aO 12 (.mv (.t 4)),aO 13 (.call 108 [(.t 11),(.t 12)]),aO 10 (.mv (.t 13)),aO 14 (.ext (.t 10) 0),aO 15 (.ext (.t 10) 1),aO 5 (.alloc ([.s [],.i .i64 0])),{ dst:=none,op:=.storeN 2 (.t 5) (.t 14) },aO 6 (.mv (.t 15))]
def E1j:ACode:=.ops B5p
def B5q:List AOper:=[aO 16 (.mv (.t 6)),aO 17 (.mv (.t 16)),{ dst:=some 18,op:=.mv (.t 1),guard:=some (17,true) },{ dst:=some 19,op:=.mv (.t 4),guard:=some (17,true) },{ dst:=some 20,op:=.loadN 2 (.t 5),guard:=some (17,true) },{ dst:=some 21,op:=.build ([.i .i64 0,.s [],.i .i64 0]) [(0,1,(.t 19)),(1,2,(.t 20))],guard:=some (17,true) },{ dst:=some 22,op:=.callV (.t 18) [(.t 21)],guard:=some (17,true) },{ dst:=some 23,op:=.un .not (.t 22),guard:=some (17,true) },aO 24 (.pick (.t 17) (.t 23) (.v (.c (.b false))))]
def E1l:ACode:=.ops B5q
def E1n:ACode:=.cond (.t 24) .ret .skip
def E1p:ACode:=.seq [1,2,7,24] E1l E1n
def E1r:ACode:=.seq [1,2,4,5,6,7] E1j E1p
def E0T:ACode:=.seq [1,2,4,7] E1h E1r
def E0V:ACode:=.block 1 E0T
def B5r:List AOper:=[aO 25 (.bin .add (.t 7) (.v (.c (.i .i64 1)))),aO 7 (.mv (.t 25))]
def E0X:ACode:=.ops B5r
def E0Z:ACode:=.seq [1,2,7] E0V E0X
def E01:ACode:=.seq [1,2,7] E1f E0Z
def E03:ACode:=.seq [1,2,7,8] E1d E01
def E04:ACode:=.loop [1,2,7] E03
def E06:ACode:=.block 0 E04
def E08:ACode:=.seq [1,2,7] E0S E06
def E1a:ACode:=.seq [1,2] E0Q E08
def A_bucket_each__List_1:AFn:=⟨E1a,[]⟩
def Z5:B6:=B1 108 A2n (B1 84 A4f C1)
def E0R (n:Nat):SmV:=A2 Z5 B5l
def E1c (n:Nat):SmV:=A2 Z5 B5m
def E1e (n:Nat):SmV:=A2 Z5 B5n
def E1g (n:Nat):SmV:=B8 (.t 8) C0 (E3 0)
def E1i (n:Nat):SmV:=A2 Z5 B5o
def E1k (n:Nat):SmV:=A2 Z5 B5p
def E1m (n:Nat):SmV:=A2 Z5 B5q
def E1o (n:Nat):SmV:=B8 (.t 24) A8 C0
def E1q (n:Nat):SmV:=A1 [1,2,7,24] (E1m n) (E1o n)
def E1s (n:Nat):SmV:=A1 [1,2,4,5,6,7] (E1k n) (E1q n)
def E0U (n:Nat):SmV:=A1 [1,2,4,7] (E1i n) (E1s n)
def E0W (n:Nat):SmV:=C6 1 (E0U n)
def E0Y (n:Nat):SmV:=A2 Z5 B5r
def E00 (n:Nat):SmV:=A1 [1,2,7] (E0W n) (E0Y n)
def E02 (n:Nat):SmV:=A1 [1,2,7] (E1g n) (E00 n)
def B5j (n:Nat):SmV:=A1 [1,2,7,8] (E1e n) (E02 n)
def E05 (n:Nat):SmV:=E4 n [1,2,7] (B5j n)
def E07 (n:Nat):SmV:=C6 0 (E05 n)
def E09 (n:Nat):SmV:=A1 [1,2,7] (E1c n) (E07 n)
def E1b (n:Nat):SmV:=A1 [1,2] (E0R n) (E09 n)
def E1t (n:Nat):AExit → Env → A0 → A6:=fun x e h=>match x with | .exit i=>bif Nat.beq i 0 then A_bucket_each__List_1.fin .normal e h else A_bucket_each__List_1.fin (.exit i) e h | .normal=>A_bucket_each__List_1.fin .normal e h | .ret=>A_bucket_each__List_1.fin .ret e h
def A7K (n m:Nat) (x1 x2 x7:Val) (h:A0):A6:=E1 (B5j n) [1,2,7] (E1t n) m [(1,x1),(2,x2),(7,x7)] h
def B0t (n:Nat) (args:List Val) (h:A0):A6:=(E1b n) A_bucket_each__List_1.fin (params 0 args) h
theorem D2g (n:Nat) (a0 a1:Val) (h:A0):B0t n [a0,a1] h=bnd (cells? a0) fun c1=>A7K n n a1 ((.c (.p h.length 0))) (.c (.i .i64 0)) ((h ++ [some (Row.mk (c1) true)])):=by kernel_rfl
theorem B5k (n m:Nat) (x1 x2 x7:Val) (h:A0):A7K n (m + 1) x1 x2 x7 h=bnd (A4 .lss x7 (.c (.i .i64 7))) fun v2=>cnd v2 (bnd (A5 h 256 x2) fun v3=>bnd (A2n [v3,x7] h) fun p4=>bnd (C2 p4.1 0) fun v5=>bnd (C2 p4.1 1) fun v6=>bnd (B7 ((p4.2 ++ [some (Row.mk ([.s [],.i .i64 0]) true)])) 2 ((.c (.p p4.2.length 0))) v5) fun h7=>bnd (gd v6 true (some (x1,h7)) (some (.no,h7))) fun p8=>bnd (gd v6 true (some (x7,p8.2)) (some (.no,p8.2))) fun p9=>bnd (gd v6 true (bnd (A5 p9.2 2 ((.c (.p p4.2.length 0)))) fun v10=>some (v10,p9.2)) (some (.no,p9.2))) fun p11=>bnd (gd v6 true (bnd (B0 ([.i .i64 0,.s [],.i .i64 0]) [(0,1,p9.1),(1,2,p11.1)]) fun c12=>some ((.a c12),p11.2)) (some (.no,p11.2))) fun p13=>bnd (gd v6 true (bnd (M7 Z5 p8.1 [p13.1] p13.2) fun p14=>some (p14.1,p14.2)) (some (.no,p13.2))) fun p15=>bnd (gd v6 true (bnd (aun .not p15.1) fun v16=>some (v16,p15.2)) (some (.no,p15.2))) fun p17=>bnd (C5 v6 p17.1 (.c (.b false))) fun v18=>cnd v18 (C7 [] p17.2) (bnd (A4 .add x7 (.c (.i .i64 1))) fun v19=>A7K n m x1 x2 v19 p17.2)) (C7 [] h):=by kernel_rfl
theorem K_bucket_each__List_1:FnK Tryz.prog 72 A_bucket_each__List_1 Z5 B0t:=.mk' (B3 B29 (B3 D3T C3)) Tryz.func72 (by kernel_rfl) (by intro n args h;kernel_rfl)
def A4h:Fun:=Lim A_bucket_each__List_1 Z5
theorem D31:SOk Tryz.prog 72 A4h:=K_bucket_each__List_1.ok
theorem D30 {n:Nat} {args:List Val} {h:A0} {p:Val × A0} (he:B0t n args h=some p):A4h args h=some p:=K_bucket_each__List_1.of he
def B4F:List AOper:=[aO 1 (.box (.t 0)),aO 2 (.nilrow 3)]
def D8e:ACode:=.ops B4F
def B4G:List AOper:=[aO 3 (.alloc ([.ns]))]
def D8g:ACode:=.ops B4G
def B4H:List AOper:=[aO 4 (.loadN 256 (.t 1)),aO 5 (.mkf 84 [(.t 3)]),aO 6 (.call 72 [(.t 4),(.t 5)])]
def D8i:ACode:=.ops B4H
def B4I:List AOper:=[aO 7 (.load1 (.t 3)),aO 2 (.mv (.t 7))]
def D8k:ACode:=.ops B4I
def D8m:ACode:=.seq [2] D8k .ret
def D8o:ACode:=.seq [3] D8i D8m
def D8q:ACode:=.seq [1,3] D8g D8o
def D8s:ACode:=.seq [1] D8e D8q
def A_bucket_List:AFn:=⟨D8s,[.tmp 2]⟩
def A3m:B6:=B1 72 A4h C1
def D8f (n:Nat):SmV:=A2 A3m B4F
def D8h (n:Nat):SmV:=A2 A3m B4G
def D8j (n:Nat):SmV:=A2 A3m B4H
def D8l (n:Nat):SmV:=A2 A3m B4I
def D8n (n:Nat):SmV:=A1 [2] (D8l n) A8
def D8p (n:Nat):SmV:=A1 [3] (D8j n) (D8n n)
def D8r (n:Nat):SmV:=A1 [1,3] (D8h n) (D8p n)
def D8t (n:Nat):SmV:=A1 [1] (D8f n) (D8r n)
def A4d (n:Nat) (args:List Val) (h:A0):A6:=(D8t n) A_bucket_List.fin (params 0 args) h
theorem D2d (n:Nat) (a0:Val) (h:A0):A4d n [a0] h=bnd (cells? a0) fun c1=>bnd (A5 ((((h ++ [some (Row.mk (c1) true)]) ++ [some (Row.mk ([]) true)]) ++ [some (Row.mk ([.ns]) true)])) 256 ((.c (.p h.length 0)))) fun v2=>bnd (X8 84 [(.c (.p (((h ++ [some (Row.mk (c1) true)]) ++ [some (Row.mk ([]) true)])).length 0))]) fun v3=>bnd (A4h [v2,v3] ((((h ++ [some (Row.mk (c1) true)]) ++ [some (Row.mk ([]) true)]) ++ [some (Row.mk ([.ns]) true)]))) fun p4=>bnd (A9 p4.2 ((.c (.p (((h ++ [some (Row.mk (c1) true)]) ++ [some (Row.mk ([]) true)])).length 0)))) fun v5=>some (v5,p4.2):=by kernel_rfl
theorem K_bucket_List:FnK Tryz.prog 47 A_bucket_List A3m A4d:=.mk' (B3 D31 C3) Tryz.func47 (by kernel_rfl) (by intro n args h;kernel_rfl)
def A03:Fun:=tidy (Lim A_bucket_List A3m)
theorem B26:SOk Tryz.prog 47 A03:=K_bucket_List.sok
theorem D3U {n:Nat} {args:List Val} {h h2:A0} {v:Val} (he:A4d n args (ro h)=some (v,h2)) (hf:v.low h.length=true):A03 args h=some (v,h):=K_bucket_List.low he hf
theorem D3V {n:Nat} {args:List Val} {h h2:A0} {v:Val} {sz k:Nat} {cs:List Cell} (he:A4d n args (ro h)=some (v,h2)) (ho:Out h.length h2 v sz k cs) (hf:D9 cs=true):A03 args h=some (.c (.sl h.length 0 k sz),h ++ [some ⟨cs,true⟩]):=K_bucket_List.out he ho hf
end Go.Proofs.YtdgggnlbdoiloaaGreat
end
section
namespace Go.Proofs.YtdgggnlbdoiloaaGreat
open Go Go.Esc
theorem A92 {g:A0} {l l':List (Option Row)} {v:Val} {cs:List Cell} (hl:l'=l ++ [some ⟨cs,true⟩]):quiet (g ++ l) (some (v,g ++ l'))=some (v,g ++ l'):=by
  subst hl
  have:=B2B ((Grows.rfl' (h:=g ++ l)).new cs) (v:=v)
  rw [List.append_assoc] at this
  exact this
theorem J3T {g:A0} {a:Option Row} {v:Val} {cs:List Cell}:quiet (g ++ [a]) (some (v,g ++ [a,some ⟨cs,true⟩]))=some (v,g ++ [a,some ⟨cs,true⟩]):=A92 rfl
theorem J3U {g:A0} {a b:Option Row} {v:Val} {cs:List Cell}:quiet (g ++ [a,b]) (some (v,g ++ [a,b,some ⟨cs,true⟩]))=some (v,g ++ [a,b,some ⟨cs,true⟩]):=A92 rfl
theorem C9I {g:A0} {a b c d:Option Row} {v:Val} {cs:List Cell}:quiet (g ++ [a,b,c,d]) (some (v,g ++ [a,b,c,d,some ⟨cs,true⟩]))=some (v,g ++ [a,b,c,d,some ⟨cs,true⟩]):=A92 rfl
theorem C9J {g:A0} {a b c d e:Option Row} {v:Val} {cs:List Cell}:quiet (g ++ [a,b,c,d,e]) (some (v,g ++ [a,b,c,d,e,some ⟨cs,true⟩]))=some (v,g ++ [a,b,c,d,e,some ⟨cs,true⟩]):=A92 rfl
def F4 (k:Nat):Nat:=32 + 32 * k
theorem B1q {k:Nat} {h:A0} (hk:k < 7):A04 [.c (.i .i64 (k:Int))] h=some (.c (.i .i64 (F4 k:Nat)),h):=by
  have key:∀ g,∃ g',A6d 0 [.c (.i .i64 (k:Int))] g=some (.c (.i .i64 (F4 k:Nat)),g'):=by
    intro g
    have w1:=E6 (show k + 1 < 9223372036854775808 by omega)
    have w2:IntKind.wrap .i64 (32 * ((k + 1:Nat):Int))=((F4 k:Nat):Int):=by unfold F4;rw [wrap_i64 (by omega) (by omega)];omega
    rw [D2h]
    exact ⟨_,by simp only [esc,w1,w2] <;> rfl⟩
  obtain ⟨g',e⟩:=key (ro h)
  exact D32 e rfl
def A2Y:List UInt8:=[98,107,116,33]
def hdB:List UInt8:=D4 256 A2Y
theorem B14:hdB.length=256:=J1 (by decide)
theorem E1K {h:A0}:A4i [] h=some (.a (A3 hdB),h):=by
  have key:∀ g,∃ g',A6e 0 [] g=some (.a (A3 hdB),g'):=by
    intro g
    have hz:(A3 (zeros 256)).length=256:=by rw [B4];exact zeros_length
    have hd:(A3 hdB).length=256:=by rw [B4];exact B14
    have ef:B0 [Cell.i .u8 0,.i .u8 0,.i .u8 0,.i .u8 0] [(0,1,.c (.i .u8 98)),(1,1,.c (.i .u8 107)),(2,1,.c (.i .u8 116)),(3,1,.c (.i .u8 33))]=some (A3 A2Y):=rfl
    have hO:=A9M (data:=A2Y) (v:=.c (.sl (g.length + 1) 0 4 1)) (nv:=4) (h:=g ++ [some (Row.mk (A3 (zeros 256)) true),some (Row.mk (A3 A2Y) true)]) (Has.row (rw:=true) (by simp) rfl (I3 _)) (by decide)
    rw [A9S (by decide),show D4 256 A2Y=hdB from rfl] at hO
    have hM:O3 (g ++ [some (Row.mk (A3 (zeros 256)) true),some (Row.mk (A3 A2Y) true)]) (.c (.sl (g.length + 1) 0 4 1))=some (.c (.sl (g.length + 1) 0 4 1)):=by simp [O3]
    rw [D2i,M0]
    generalize hdB=B at *
    generalize A3 A2Y=mg at *
    generalize zeros 256=z at *
    exact ⟨_,by simp only [esc,esh,Nat.reduceAdd,Nat.reduceMul,Nat.reduceLT,ef,hM,hO,hz,hd] <;> rfl⟩
  obtain ⟨g',e⟩:=key (ro h)
  exact D33 e (by simp)
def S9 (s:List UInt8) (n:Int):Bool:=N9 s && (decide (1 ≤ n) && decide (n ≤ 128))
theorem B5w {s:List UInt8} {n:Int} {h:A0} (hs:s.length < 9223372036854775807):A2m [.a [.s s,.i .i64 n]] h=some (.c (.b (S9 s n)),h):=by
  have key:∀ g,∃ g',A6f 0 [.a [.s s,.i .i64 n]] g=some (.c (.b (S9 s n)),g'):=by
    intro g
    have hC:=fun h=>B1x hs h
    rw [D2j]
    unfold S9
    cases hf:N9 s with
    | false =>
      rw [hf] at hC
      exact ⟨_,by simp only [esc,esh,Nat.reduceAdd,Nat.reduceMul,Nat.reduceLT,hC,Int.reduceEq] <;> rfl⟩
    | true =>
      rw [hf] at hC
      by_cases c1:1 ≤ n
      · by_cases c2:n ≤ 128
        · rw [decide_eq_true c1,decide_eq_true c2]
          exact ⟨_,by simp only [esc,esh,Nat.reduceAdd,Nat.reduceMul,Nat.reduceLT,hC,c1,c2] <;> rfl⟩
        · rw [decide_eq_true c1,decide_eq_false c2]
          exact ⟨_,by simp only [esc,esh,Nat.reduceAdd,Nat.reduceMul,Nat.reduceLT,hC,c1,c2] <;> rfl⟩
      · rw [decide_eq_false c1]
        exact ⟨_,by simp only [esc,esh,Nat.reduceAdd,Nat.reduceMul,Nat.reduceLT,hC,c1] <;> rfl⟩
  obtain ⟨g',e⟩:=key (ro h)
  exact D35 e rfl
def H4 (s:List UInt8) (n:Int):List UInt8:=B5 2 n ++ G1 s ++ [0,0,0,0,0]
theorem A1O {s:List UInt8} {n:Int}:(H4 s n).length=32:=by simp [H4,A3c]
theorem B5R {s:List UInt8} {n:Int} {h:A0} (hs:s.length < 9223372036854775807):A2o [.a [.s s,.i .i64 n]] h=some (.c (.sl h.length 0 32 1),h ++ [some ⟨A3 (H4 s n),true⟩]):=by
  have key:∀ g,∃ v g',A6h 0 [.a [.s s,.i .i64 n]] g=some (v,g') ∧ Out g.length g' v 1 32 (A3 (H4 s n)):=by
    intro g
    have e4:A4 .shr (.c (.i .i64 n)) (.c (.i .u64 8))=some (.c (.i .i64 (n / 256))):=B09 (by omega)
    have wm:∀ a:Int,IntKind.wrap .u8 a=a % 256:=fun a=>by
      simp only [IntKind.wrap,IntKind.bits,IntKind.signed,Bool.false_and]
      rfl
    have b0:IntKind.wrap .u8 n=((byI n 0).toNat:Int):=by rw [wm,A2Z];simp
    have b1:IntKind.wrap .u8 (n / 256)=((byI n 1).toNat:Int):=by rw [wm,A2Z];simp
    have ef:B0 [Cell.i .u8 0,.i .u8 0] [(0,1,.c (.i .u8 (byI n 0).toNat)),(1,1,.c (.i .u8 (byI n 1).toNat))]=some (A3 (B5 2 n)):=rfl
    have ef5:B0 [Cell.i .u8 0,.i .u8 0,.i .u8 0,.i .u8 0,.i .u8 0] [(0,1,.c (.i .u8 0)),(1,1,.c (.i .u8 0)),(2,1,.c (.i .u8 0)),(3,1,.c (.i .u8 0)),(4,1,.c (.i .u8 0))]=some (A3 [0,0,0,0,0]):=rfl
    have hP:=fun h=>C9h hs h
    have hpl:(A3 (G1 s)).length=25:=by rw [B4];exact A3c
    have hz:(A3 (zeros 25)).length=25:=by rw [B4];exact zeros_length
    have hA:=R9 (h:=g ++ [some (Row.mk [.s s,.i .i64 n] true),some (Row.mk [] true),some (Row.mk (A3 (B5 2 n)) true),some (Row.mk (A3 (G1 s)) true)]) (id:=g.length + 2) (jd:=g.length + 3) (n:=2) (m:=25) (sz:=1) (cs:=A3 (B5 2 n)) (ys:=A3 (G1 s)) (rw:=true) (by simp) (by simp [B4]) (by simp) (by rw [hpl]) rfl (by omega) (by omega)
    simp only [List.length_append,List.length_cons,List.length_nil,Nat.zero_add,List.append_assoc,List.cons_append,List.nil_append,A16,List.set_cons_succ,List.set_cons_zero,Nat.reduceAdd,← W3] at hA
    have hl27:(A3 (B5 2 n ++ G1 s)).length=27 * 1:=by rw [B4,List.length_append,A1g,A3c]
    have hA2:=R9 (h:=g ++ [some (Row.mk [.s s,.i .i64 n] true),some (Row.mk [] true),none,some (Row.mk (A3 (G1 s)) true),some (Row.mk (A3 (B5 2 n ++ G1 s)) true),some (Row.mk (A3 [0,0,0,0,0]) true)]) (id:=g.length + 4) (jd:=g.length + 5) (n:=27) (m:=5) (sz:=1) (cs:=A3 (B5 2 n ++ G1 s)) (ys:=A3 [0,0,0,0,0]) (rw:=true) (by simp) hl27 (by simp) rfl rfl (by omega) (by omega)
    simp only [List.length_append,List.length_cons,List.length_nil,Nat.zero_add,List.append_assoc,List.cons_append,List.nil_append,A16,List.set_cons_succ,List.set_cons_zero,Nat.reduceAdd,← W3] at hA2
    rw [← List.append_assoc (B5 2 n),show B5 2 n ++ G1 s ++ [0,0,0,0,0]=H4 s n from rfl] at hA2
    rw [D2l,M0]
    refine ⟨.c (.sl (g.length + 6) 0 32 1),g ++ [some (Row.mk [.s s,.i .i64 n] true),some (Row.mk [] true),none,some (Row.mk (A3 (G1 s)) true),none,some (Row.mk (A3 [0,0,0,0,0]) true),some (Row.mk (A3 (H4 s n)) true)],?_,by rw [B4,A1O],g.length + 6,rfl,by omega,?_⟩
    · generalize H4 s n=E at *
      generalize B5 2 n ++ G1 s=Q at *
      generalize A3 [0,0,0,0,0]=F at *
      generalize A3 (G1 s)=P at *
      generalize A3 (B5 2 n)=B2 at *
      generalize zeros 25=z at *
      simp only [esc,esh,Nat.reduceAdd,Nat.reduceMul,Nat.reduceLT,b0,e4,b1,ef,hP,hpl,hz,hA,ef5,hA2]
    · simp
  obtain ⟨v,g',e,ho⟩:=key (ro h)
  exact D37 e (by simpa [L6] using ho) (by simp)
end Go.Proofs.YtdgggnlbdoiloaaGreat
end
section
namespace Go.Proofs.YtdgggnlbdoiloaaGreat
open Go Go.Esc
def T1 (b:List UInt8) (k:Nat):List UInt8:=(b.drop (F4 k)).take 32
def nameB (b:List UInt8) (k:Nat):List UInt8:=(b.drop (F4 k + 2)).take 25
def H9 (b:List UInt8) (k:Nat):Int:=fieldN b (F4 k) 2
abbrev Ent:=List UInt8 × Int
def isE (b:List UInt8) (k:Nat) (s:List UInt8):Bool:=S9 s (H9 b k) && decide (H4 s (H9 b k)=T1 b k)
def H7 (b:List UInt8) (k:Nat):Option Ent:=(R4 (nameB b k)).bind fun s=>if isE b k s=true then some (s,H9 b k) else none
def E9:Option Ent → List Cell
  | none=>[.s [],.i .i64 0]
  | some e=>[.s e.1,.i .i64 e.2]
theorem D0t {b:List UInt8} {k:Nat} (hb:b.length=256) (hk:k < 7):(T1 b k).length=32:=by simp [T1,F4,hb];omega
theorem B2o {b:List UInt8} {k:Nat} (hb:b.length=256) (hk:k < 7):(nameB b k).length=25:=by simp [nameB,F4,hb];omega
theorem B2W {l s:List UInt8} (h:R4 l=some s):N9 s=true:=by
  unfold R4 at h
  split at h
  · split at h
    · rename_i hc
      cases h;exact hc.1
    · cases h
  · cases h
def cpN (l:List UInt8) (i:Nat):List UInt8:=l.take i ++ zeros (25 - i)
theorem E3t {l:List UInt8} {i:Nat} (hl:l.length=25) (hi:i ≤ 25):(cpN l i).length=25:=by simp [cpN,zeros,hl];omega
theorem E3u {l:List UInt8} {i:Nat} (hl:l.length=25) (hi:i < 25):(cpN l i).set i l[i]=cpN l (i + 1):=by
  unfold cpN
  have hlen:(List.take i l).length=i:=by simp;omega
  rw [List.set_append_right _ _ (by omega),hlen,Nat.sub_self,List.take_succ_eq_append_getElem (by omega),List.append_assoc]
  refine congrArg (List.take i l ++ ·) ?_
  have e:25 - i=(25 - (i + 1)) + 1:=by omega
  rw [e]
  unfold zeros
  rw [List.replicate_succ,List.set_cons_zero];rfl
theorem E3s {l:List UInt8} (hl:l.length=25):cpN l 25=l:=by simp [cpN,zeros,List.take_of_length_le,hl]
theorem B6h {b:List UInt8} {k:Nat}:F3 b (F4 k:Nat) 32=T1 b k:=by
  unfold F3 T1
  rw [if_pos (by omega)]
  simp
theorem B4h {b:List UInt8} {k:Nat} (hk:k < 7):((atN b (F4 k:Nat) 2:Nat):Int)=H9 b k:=by
  unfold atN H9 fieldN F4
  rw [if_pos ⟨by omega,T3.2 (by omega)⟩]
  simp only [Int.toNat_natCast]
  rfl
theorem B4n {b:List UInt8} {k q:Nat} {g:A0} (hb:b.length=256) (hk:k < 7):∀ e i m:Nat,i + e=25 → e < m →
    ∃ h',A7M q m (.c (.i .i64 (k:Int))) (.c (.p g.length 0)) (.c (.p (g.length + 1) 0)) (.c (.p (g.length + 2) 0)) (.c (.i .i64 (i:Int))) (g ++ [some (Row.mk (A3 b) true),some (Row.mk [.s [],.i .i64 0] true),some (Row.mk (A3 (cpN (nameB b k) i)) true)]) =
      some (.t [.a (E9 (H7 b k)),.c (.b (H7 b k).isSome)],h')
  | e,i,0,_,hm=>by omega
  | 0,i,m + 1,hi,hm=>by
    have e0:i=25:=by omega
    subst e0
    have hnl:=B2o hb hk
    rw [E3s hnl]
    have c0:¬ ((25:Nat):Int) < 25:=by omega
    have hbl:(A3 b).length=256:=by rw [B4,hb]
    have hnc:(A3 (nameB b k)).length=25:=by rw [B4,hnl]
    have hU:=fun h=>J96 hnl h
    have hF:=fun h=>B1q (h:=h) hk
    have hA:=fun h=>A10 (h:=h) hb (a:=(F4 k:Nat)) (w:=2)
    rw [B4h hk] at hA
    have ef:∀ (s:List UInt8) (n:Int),B0 [Cell.s [],.i .i64 0] [(0,1,.c (.s s)),(1,1,.c (.i .i64 n))]=some [.s s,.i .i64 n]:=fun _ _=>rfl
    have ef0:B0 [Cell.s [],.i .i64 0] []=some [.s [],.i .i64 0]:=rfl
    rw [B5C]
    unfold H7
    cases hu:R4 (nameB b k) with
    | none =>
      rw [hu] at hU
      simp only [Option.getD_none,Option.isSome_none,Bool.false_eq_true,if_false] at hU
      generalize H9 b k=n at *
      generalize A3 (nameB b k)=z at *
      generalize A3 b=y at *
      exact ⟨_,by simp only [esc,esh,Nat.reduceAdd,Nat.reduceMul,Nat.reduceLT,c0,hbl,hnc,hU,hF,hA,ef,ef0,Int.reduceEq,Option.bind_none,E9] <;> rfl⟩
    | some s =>
      rw [hu] at hU
      simp only [Option.getD_some,Option.isSome_some,if_true] at hU
      have hfs:=(A3N (B2W hu)).2
      have hM:=fun h=>B5w (s:=s) (n:=H9 b k) (h:=h) (by omega)
      rw [Option.bind_some]
      unfold isE
      cases hm:S9 s (H9 b k) with
      | false =>
        rw [hm] at hM
        rw [Bool.false_and,if_neg (by simp)]
        generalize H9 b k=n at *
        generalize A3 (nameB b k)=z at *
        generalize A3 b=y at *
        exact ⟨_,by simp only [esc,esh,Nat.reduceAdd,Nat.reduceMul,Nat.reduceLT,c0,hbl,hnc,hU,hF,hA,ef,ef0,hM,Int.reduceEq,E9] <;> rfl⟩
      | true =>
        rw [hm] at hM
        rw [Bool.true_and]
        have hW:=fun h=>B5R (s:=s) (n:=H9 b k) (h:=h) (by omega)
        have hsl:=D0t hb hk
        have hC:=fun h=>B2r (h:=h) hb (a:=(F4 k:Nat)) (n:=32)
        rw [B6h,hsl] at hC
        have s1:=fun (c0 c1 c2 c3:Option Row)=>Has.str (l:=H4 s (H9 b k)) (Has.row (h:=g ++ [c0,c1,c2,c3,some (Row.mk (A3 (H4 s (H9 b k))) true)]) (id:=g.length + 4) (sz:=1) (n:=32) (rw:=true) (by simp) (by rw [B4,A1O]) (I3 _))
        have s2:=fun (c0 c1 c2 c3 c4:Option Row)=>Has.str (l:=T1 b k) (Has.row (h:=g ++ [c0,c1,c2,c3,c4,some (Row.mk (A3 (T1 b k)) true)]) (id:=g.length + 5) (sz:=1) (n:=32) (rw:=true) (by simp) (by rw [B4,hsl]) (I3 _))
        by_cases ce:H4 s (H9 b k)=T1 b k
        · rw [if_pos (decide_eq_true ce)]
          generalize H4 s (H9 b k)=E at *
          generalize T1 b k=L at *
          generalize H9 b k=n at *
          subst ce
          generalize A3 (nameB b k)=z at *
          generalize A3 b=y at *
          exact ⟨_,by simp only [esc,esh,Nat.reduceAdd,Nat.reduceMul,Nat.reduceLT,c0,hbl,hnc,hU,hF,hA,ef,ef0,hM,hW,C9I,s1,hC,C9J,s2,eq_self,decide_true,Int.reduceEq,E9,Option.isSome_some] <;> rfl⟩
        · rw [if_neg (by rw [decide_eq_true_eq];exact ce)]
          generalize H4 s (H9 b k)=E at *
          generalize T1 b k=L at *
          generalize H9 b k=n at *
          generalize A3 (nameB b k)=z at *
          generalize A3 b=y at *
          exact ⟨_,by simp only [esc,esh,Nat.reduceAdd,Nat.reduceMul,Nat.reduceLT,c0,hbl,hnc,hU,hF,hA,ef,ef0,hM,hW,C9I,s1,hC,C9J,s2,ce,Int.reduceEq,E9,Option.isSome_none] <;> rfl⟩
  | e + 1,i,m + 1,hi,hm=>by
    obtain ⟨h',ih⟩:=B4n (q:=q) (g:=g) hb hk e (i + 1) m (by omega) (by omega)
    have hnl:=B2o hb hk
    have c0:(i:Int) < 25:=by omega
    have hF:=fun h=>B1q (h:=h) hk
    have hbl:(A3 b).length=256:=by rw [B4,hb]
    have hcl:(A3 (cpN (nameB b k) i)).length=25:=by rw [B4];exact E3t hnl (by omega)
    have hlt:i < (A3 (cpN (nameB b k) i)).length:=by omega
    have w1:IntKind.wrap .i64 (((F4 k:Nat):Int) + 2)=((F4 k + 2:Nat):Int):=by unfold F4;rw [wrap_i64 (by omega) (by omega)];omega
    have w2:IntKind.wrap .i64 (((F4 k + 2:Nat):Int) + (i:Int))=((F4 k + 2 + i:Nat):Int):=by unfold F4;rw [wrap_i64 (by omega) (by omega)];omega
    have hj:F4 k + 2 + i < 256:=by unfold F4;omega
    have a1:D7 256 1 (.c (.p g.length 0)) (.c (.i .i64 ((F4 k + 2 + i:Nat):Int)))=some (.c (.p g.length (F4 k + 2 + i))):=by rw [S5 hj];simp
    have a2:D7 25 1 (.c (.p (g.length + 2) 0)) (.c (.i .i64 (i:Int)))=some (.c (.p (g.length + 2) i)):=by rw [S5 (by omega)];simp
    have ei:(nameB b k)[i]'(by omega)=b[F4 k + 2 + i]'(by omega):=by simp [nameB]
    have l1:(A3 b)[F4 k + 2 + i]? = some (.i .u8 ((nameB b k)[i]'(by omega)).toNat):=by
      rw [ei];simp [A3,hb,hj]
    have hs:(A3 (cpN (nameB b k) i)).set i (.i .u8 ((nameB b k)[i]'(by omega)).toNat)=A3 (cpN (nameB b k) (i + 1)):=by rw [A0G,E3u hnl (by omega)]
    rw [B5C]
    refine ⟨h',?_⟩
    generalize A3 (cpN (nameB b k) (i + 1))=z1 at *
    generalize A3 (cpN (nameB b k) i)=z at *
    generalize A3 b=y at *
    simp only [esc,esh,Nat.reduceAdd,Nat.reduceMul,Nat.reduceLT,c0,hF,w1,w2,a1,l1,a2,hlt,hs,E6 (show i + 1 < 9223372036854775808 by omega)]
    exact ih
end Go.Proofs.YtdgggnlbdoiloaaGreat
end
section
namespace Go.Proofs.YtdgggnlbdoiloaaGreat
open Go Go.Esc
theorem B8l {o:Option Ent}:D9 (E9 o)=true:=by cases o <;> rfl
theorem B5B {b:List UInt8} {k:Nat} {h:A0} (hb:b.length=256) (hk:k < 7):A2n [.a (A3 b),.c (.i .i64 (k:Int))] h=some (.t [.a (E9 (H7 b k)),.c (.b (H7 b k).isSome)],h):=by
  have key:∀ N,25 < N → ∀ g,∃ g',A6g N [.a (A3 b),.c (.i .i64 (k:Int))] g=some (.t [.a (E9 (H7 b k)),.c (.b (H7 b k).isSome)],g'):=by
    intro N hN g
    obtain ⟨h',e⟩:=B4n (g:=g) (q:=N) hb hk 25 0 N (by omega) hN
    have e0:cpN (nameB b k) 0=zeros 25:=by simp [cpN]
    rw [e0] at e
    rw [D2k,M0]
    generalize zeros 25=z at *
    generalize A3 b=y at *
    exact ⟨h',by simp only [esc,esh,Nat.reduceAdd,Nat.reduceMul,Nat.reduceLT];exact e⟩
  obtain ⟨g',e⟩:=key (h.length + 26) (by omega) (ro h)
  exact D36 e (by simp [Val.flat,B8l,Cell.flat])
end Go.Proofs.YtdgggnlbdoiloaaGreat
end
section
namespace Go.Proofs.YtdgggnlbdoiloaaGreat
open Go Go.Esc
abbrev Slt:=Nat × Ent
def slC:Option Slt → List Cell
  | none=>[.i .i64 0,.s [],.i .i64 0]
  | some x=>[.i .i64 (x.1:Int),.s x.2.1,.i .i64 x.2.2]
theorem A17 {o:Option Slt}:(slC o).length=3:=by cases o <;> rfl
theorem D0r {o:Option Slt}:D9 (slC o)=true:=by cases o <;> rfl
def R0 (b nm:List UInt8):Nat → Nat → Option Slt
  | 0,_=>none
  | e + 1,k=>match H7 b k with
    | some x=>if x.1=nm then some (k,x) else R0 b nm e (k + 1)
    | none=>R0 b nm e (k + 1)
theorem B1W {b nm:List UInt8} {e k:Nat} (hx:H7 b k=none):R0 b nm (e + 1) k=R0 b nm e (k + 1):=by rw [R0,hx]
theorem B1T {b nm:List UInt8} {e k:Nat} {n:Int} (hx:H7 b k=some (nm,n)):R0 b nm (e + 1) k=some (k,(nm,n)):=by rw [R0,hx];simp
theorem B1V {b nm s:List UInt8} {e k:Nat} {n:Int} (hx:H7 b k=some (s,n)) (hne:s ≠ nm):R0 b nm (e + 1) k=R0 b nm e (k + 1):=by rw [R0,hx];simp [hne]
def J3 (b nm:List UInt8):Option Slt:=R0 b nm 7 0
theorem G7R {k n:Int} {s nm:List UInt8} {r1 r2 r3:Nat} {h:A0} (h1:rd h r1=some ⟨[.s nm],true⟩) (h3:rd h r3=some ⟨[.b false],true⟩) (hne:s ≠ nm) :
    A3u [.a [.i .i64 k,.s s,.i .i64 n],.c (.p r1 0),.c (.p r2 0),.c (.p r3 0)] h=some (.c (.b true),h ++ [some ⟨[.i .i64 k,.s s,.i .i64 n],true⟩]):=by
  refine B23 (n:=0) ?_
  have l1:A9 (h ++ [some (Row.mk [.i .i64 k,.s s,.i .i64 n] true)]) (.c (.p r1 0))=some (.c (.s nm)):=K6 (cs:=[.s nm]) (C8 h1) rfl rfl
  have l3:A9 (h ++ [some (Row.mk [.i .i64 k,.s s,.i .i64 n] true)]) (.c (.p r3 0))=some (.c (.b false)):=K6 (cs:=[.b false]) (C8 h3) rfl rfl
  rw [B2Y]
  simp only [esc,esh,Nat.reduceAdd,Nat.reduceMul,Nat.reduceLT,l1,hne,B4q,l3] <;> rfl
theorem G7S {k n:Int} {nm:List UInt8} {c2:List Cell} {r1 r2 r3:Nat} {h:A0} (h1:rd h r1=some ⟨[.s nm],true⟩) (h2:rd h r2=some ⟨c2,true⟩) (hl:c2.length=3) (h3:rd h r3=some ⟨[.b false],true⟩) (h23:r2 ≠ r3) :
    A3u [.a [.i .i64 k,.s nm,.i .i64 n],.c (.p r1 0),.c (.p r2 0),.c (.p r3 0)] h=some (.c (.b false),((h ++ [some (Row.mk [.i .i64 k,.s nm,.i .i64 n] true)]).set r2 (some (Row.mk [.i .i64 k,.s nm,.i .i64 n] true))).set r3 (some (Row.mk [.b true] true))):=by
  refine B23 (n:=0) ?_
  have l1:A9 (h ++ [some (Row.mk [.i .i64 k,.s nm,.i .i64 n] true)]) (.c (.p r1 0))=some (.c (.s nm)):=K6 (cs:=[.s nm]) (C8 h1) rfl rfl
  have s2:=storeAll (h:=h ++ [some (Row.mk [.i .i64 k,.s nm,.i .i64 n] true)]) (id:=r2) (n:=3) (xs:=[.i .i64 k,.s nm,.i .i64 n]) (C8 h2) hl rfl
  have h3':rd ((h ++ [some (Row.mk [.i .i64 k,.s nm,.i .i64 n] true)]).set r2 (some (Row.mk [.i .i64 k,.s nm,.i .i64 n] true))) r3=some ⟨[.b false],true⟩:=by rw [G3 h23];exact C8 h3
  have s3:=Z1 (x:=.b true) (off:=0) h3' (by simp)
  have l4:A9 (((h ++ [some (Row.mk [.i .i64 k,.s nm,.i .i64 n] true)]).set r2 (some (Row.mk [.i .i64 k,.s nm,.i .i64 n] true))).set r3 (some (Row.mk [.b true] true))) (.c (.p r3 0))=some (.c (.b true)):=K6 (cs:=[.b true]) (I5 (by simpa using D5 h3')) rfl rfl
  rw [B2Y]
  have s3:F2 ((h ++ [some (Row.mk [.i .i64 k,.s nm,.i .i64 n] true)]).set r2 (some (Row.mk [.i .i64 k,.s nm,.i .i64 n] true))) (.c (.p r3 0)) (.c (.b true))=some (((h ++ [some (Row.mk [.i .i64 k,.s nm,.i .i64 n] true)]).set r2 (some (Row.mk [.i .i64 k,.s nm,.i .i64 n] true))).set r3 (some (Row.mk [.b true] true))):=s3
  simp only [esc,esh,Nat.reduceAdd,Nat.reduceMul,Nat.reduceLT,l1,s2,s3,B4q,l4] <;> rfl
theorem B1M {b nm:List UInt8} {r0 r1 r2 r3 q:Nat} {B:A0} (hb:b.length=256) (hB1:rd B r1=some ⟨[.s nm],true⟩) (hr2:B.length ≤ r2) (hr3:B.length ≤ r3) (h23:r2 ≠ r3) (h02:r0 ≠ r2) (h03:r0 ≠ r3):∀ (e k m:Nat) (h:A0),k + e=7 → e < m → Low B.length B h →
    rd h r2=some ⟨slC none,true⟩ → rd h r3=some ⟨[.b false],true⟩ → rd h r0=some ⟨A3 b,true⟩ →
    ∃ h',A7J q m (.c (.f 73 [(r1,0),(r2,0),(r3,0)])) (.c (.p r0 0)) (.c (.i .i64 (k:Int))) h=some (.t [],h') ∧ Low B.length B h' ∧ rd h' r2=some ⟨slC (R0 b nm e k),true⟩ ∧ rd h' r3=some ⟨[.b (R0 b nm e k).isSome],true⟩
  | e,k,0,h,_,hm,_,_,_,_=>by omega
  | 0,k,m + 1,h,hk,hm,hlow,h2,h3,h0=>by
    have e0:k=7:=by omega
    subst e0
    have c0:¬ ((7:Nat):Int) < 7:=by omega
    refine ⟨h,?_,hlow,h2,h3⟩
    rw [B5b]
    simp only [esc,c0] <;> rfl
  | e + 1,k,m + 1,h,hk,hm,hlow,h2,h3,h0=>by
    have c0:(k:Int) < 7:=by omega
    have hbl:(A3 b).length=256:=by rw [B4,hb]
    have s1:=G9 (h:=h) (id:=r0) h0 hbl
    have hR:=B5B (h:=h) (k:=k) hb (by omega)
    have w1:=E6 (show k + 1 < 9223372036854775808 by omega)
    have hcv:∀ (x:Val) (h:A0),M7 Z4 (.c (.f 73 [(r1,0),(r2,0),(r3,0)])) [x] h=A3u [x,.c (.p r1 0),.c (.p r2 0),.c (.p r3 0)] h:=fun _ _=>Eq.trans rfl rfl
    rw [B5b]
    cases hx:H7 b k with
    | none =>
      rw [hx] at hR
      rw [B1W hx]
      obtain ⟨h',f1,f2⟩:=B1M (q:=q) hb hB1 hr2 hr3 h23 h02 h03 e (k + 1) m (h ++ [some ⟨[.s [],.i .i64 0],true⟩]) (by omega) (by omega) (hlow.new _) (C8 h2) (C8 h3) (C8 h0)
      refine ⟨h',?_,f2⟩
      generalize A3 b=y at *
      simp only [esc,esh,Nat.reduceAdd,Nat.reduceMul,Nat.reduceLT,c0,s1,hR,E9,Option.isSome_none,w1]
      exact f1
    | some x =>
      obtain ⟨s,n⟩:=x
      rw [hx] at hR
      have ef:B0 [Cell.i .i64 0,.s [],.i .i64 0] [(0,1,.c (.i .i64 (k:Int))),(1,2,.a [.s s,.i .i64 n])]=some [.i .i64 (k:Int),.s s,.i .i64 n]:=rfl
      have h1':rd (h ++ [some (Row.mk [.s s,.i .i64 n] true)]) r1=some ⟨[.s nm],true⟩:=C8 (hlow.rd hB1)
      by_cases ce:s=nm
      · subst ce
        have hF:=G7S (k:=(k:Int)) (n:=n) h1' (C8 h2) A17 (C8 h3) h23
        simp only [List.append_assoc,List.cons_append,List.nil_append] at hF
        rw [B1T hx]
        refine ⟨((h ++ [some (Row.mk [.s s,.i .i64 n] true),some (Row.mk [.i .i64 (k:Int),.s s,.i .i64 n] true)]).set r2 (some (Row.mk [.i .i64 (k:Int),.s s,.i .i64 n] true))).set r3 (some (Row.mk [.b true] true)),?_,((hlow.new [some (Row.mk [.s s,.i .i64 n] true),some (Row.mk [.i .i64 (k:Int),.s s,.i .i64 n] true)]).set hr2 _).set hr3 _,?_,?_⟩
        · generalize A3 b=y at *
          simp only [esc,esh,Nat.reduceAdd,Nat.reduceMul,Nat.reduceLT,c0,s1,hR,E9,Option.isSome_some,ef,hcv,hF] <;> rfl
        · rw [G3 (Ne.symm h23)]
          exact I5 (D5 (C8 h2))
        · exact I5 (by rw [List.length_set];exact D5 (C8 h3))
      · have hF:=G7R (k:=(k:Int)) (n:=n) (r2:=r2) h1' (C8 h3) ce
        simp only [List.append_assoc,List.cons_append,List.nil_append] at hF
        rw [B1V hx ce]
        obtain ⟨h',f1,f2⟩:=B1M (q:=q) hb hB1 hr2 hr3 h23 h02 h03 e (k + 1) m (h ++ [some (Row.mk [.s s,.i .i64 n] true),some (Row.mk [.i .i64 (k:Int),.s s,.i .i64 n] true)]) (by omega) (by omega) (hlow.new _) (C8 h2) (C8 h3) (C8 h0)
        refine ⟨h',?_,f2⟩
        generalize A3 b=y at *
        simp only [esc,esh,Nat.reduceAdd,Nat.reduceMul,Nat.reduceLT,c0,s1,hR,E9,Option.isSome_some,ef,hcv,hF,w1]
        exact f1
theorem B4v {b nm:List UInt8} {h:A0} (hb:b.length=256):A2l [.a (A3 b),.c (.s nm)] h=some (.t [.a (slC (J3 b nm)),.c (.b (J3 b nm).isSome)],h):=by
  have key:∀ g,∃ g',A6b 0 [.a (A3 b),.c (.s nm)] g=some (.t [.a (slC (J3 b nm)),.c (.b (J3 b nm).isSome)],g'):=by
    intro g
    have hbl:(A3 b).length=256:=by rw [B4,hb]
    have emk:X8 73 [.c (.p (g.length + 1) 0),.c (.p (g.length + 3) 0),.c (.p (g.length + 4) 0)]=some (.c (.f 73 [(g.length + 1,0),(g.length + 3,0),(g.length + 4,0)])):=rfl
    obtain ⟨h',f1,f2,f3,f4⟩:=B1M (b:=b) (nm:=nm) (r0:=g.length + 5) (r1:=g.length + 1) (r2:=g.length + 3) (r3:=g.length + 4) (q:=8) (B:=g ++ [some (Row.mk (A3 b) true),some (Row.mk [.s nm] true),some (Row.mk (slC none) true)]) hb (by simp) (by simp) (by simp) (by omega) (by omega) (by omega) 7 0 8 (g ++ [some (Row.mk (A3 b) true),some (Row.mk [.s nm] true),some (Row.mk (slC none) true),some (Row.mk (slC none) true),some (Row.mk [.b false] true),some (Row.mk (A3 b) true)]) (by omega) (by omega)
      (by have:=(Low.refl (h:=g ++ [some (Row.mk (A3 b) true),some (Row.mk [.s nm] true),some (Row.mk (slC none) true)]) (Nat.le_refl _)).new [some (Row.mk (slC none) true),some (Row.mk [.b false] true),some (Row.mk (A3 b) true)]
          simpa using this) (by simp) (by simp) (by simp)
    have hS:A4g [.a (A3 b),.c (.f 73 [(g.length + 1,0),(g.length + 3,0),(g.length + 4,0)])] (g ++ [some (Row.mk (A3 b) true),some (Row.mk [.s nm] true),some (Row.mk (slC none) true),some (Row.mk (slC none) true),some (Row.mk [.b false] true)])=some (.t [],h'):=by
      refine D3Y (n:=8) ?_
      rw [D2f]
      simp only [esc,esh,Nat.reduceAdd,Nat.reduceMul,Nat.reduceLT]
      exact f1
    have hr:rd h' (g.length + 2)=some ⟨slC none,true⟩:=by rw [f2.2.2 _ (by simp)];simp
    change rd h' (g.length + 3)=some ⟨slC (J3 b nm),true⟩ at f3
    change rd h' (g.length + 4)=some ⟨[.b (J3 b nm).isSome],true⟩ at f4
    have t1:=G9 (n:=3) f3 A17
    have t2:A9 h' (.c (.p (g.length + 4) 0))=some (.c (.b (J3 b nm).isSome)):=K6 (cs:=[.b (J3 b nm).isSome]) f4 rfl rfl
    have t3:=storeAll (n:=3) (xs:=slC (J3 b nm)) hr A17 A17
    have f4':rd (h'.set (g.length + 2) (some ⟨slC (J3 b nm),true⟩)) (g.length + 4)=some ⟨[.b (J3 b nm).isSome],true⟩:=by rw [G3 (by omega)];exact f4
    have t4:A9 (h'.set (g.length + 2) (some ⟨slC (J3 b nm),true⟩)) (.c (.p (g.length + 4) 0))=some (.c (.b (J3 b nm).isSome)):=K6 (cs:=[.b (J3 b nm).isSome]) f4' rfl rfl
    have t5:=G9 (n:=3) (I5 (x:=some ⟨slC (J3 b nm),true⟩) (D5 hr)) A17
    have z0:[Cell.i .i64 0,.s [],.i .i64 0]=slC none:=rfl
    rw [D2c,z0]
    generalize slC (J3 b nm)=Y at *
    generalize slC none=Z at *
    generalize (J3 b nm).isSome=S at *
    generalize A3 b=y at *
    exact ⟨_,by simp only [esc,esh,Nat.reduceAdd,Nat.reduceMul,Nat.reduceLT,hbl,emk,hS,t1,t2,t3,t4,t5] <;> rfl⟩
  obtain ⟨g',e⟩:=key (ro h)
  exact D3S e (by simp [Val.flat,D0r,Cell.flat])
end Go.Proofs.YtdgggnlbdoiloaaGreat
end
