/- What the proof of this claim leans on, part 3. -/
import Derived.Test.YtbipebfdappanaaGreatFClaimKeepsp2
set_option linter.all false
set_option maxRecDepth 100000
open Go Go.Esc
noncomputable section
open List renaming length->l_,all_cons->E8e,all_eq_true->E7D,append_assoc->E7i,append_nil->E7q,cons_append->E8a,drop_eq_getElem_cons->E7g,drop_of_length_le->E7j,drop_zero->E7n,filter_append->E8k,filter_cons_of_neg->E73,filter_cons_of_pos->E7Z,flatten_cons->E8g,foldl_cons->E8f,getD_eq_getElem?_getD->E67,getElem?_cons_succ->E7u,getElem?_cons_zero->E7W,getElem?_eq_getElem->E64,getElem?_eq_none->E7z,getElem?_eq_some_iff->E7b,getElem?_take_of_lt->E7M,getElem_mem->E7y,length_append->E7c,length_cons->E7k,length_filter_le->E74,length_map->E8s,length_nil->E7Q,length_replicate->E7F,length_set->E7R,length_take->E7L,map_append->E72,map_cons->E7X,mem_append->E7J,mem_append_left->E7I,mem_append_right->E7C,mem_cons->E7m,mem_cons_of_mem->E7d,mem_cons_self->E7e,mem_filter->E7N,mem_iff_getElem?->E7O,mem_range'_1->E8o,nil_append->E7A,range->E7H,range'->E7G,replicate->E68,replicate_succ->E7P,set_append_right->E70,set_cons_zero->E8p,take_of_length_le->E7r,take_succ_eq_append_getElem->E7E,take_zero->E75
open Bool renaming and_eq_true->E66,false_and->E7v,not_eq_true'->E7Y,or_eq_true->E8r,true_and->E7w,true_or->E71,false->A6,true->A5
open Int renaming cast_ofNat_Int->E8q,toNat_natCast->E7s
open IntKind renaming wrap->E7f
open Nat renaming add_zero->E8m,le_refl->E69,le_trans->E7V,mul_one->E8i,sub_self->E8l,zero_add->E7o
open Option renaming bind_some->E7l,isSome_none->E8b,isSome_some->E7S,map_some->E7U,none->A7,some->A4
open Option.some renaming inj->E8n,injEq->E7a
open Go.Proofs.Tryz renaming prog->A8
namespace Go.Proofs.YtbipebfdappanaaGreat
variable {h g B:A9}{t L:List Int}{d n p l m no x:Int}{b s:List UInt8}{k i q r sz nv e c r0:Nat}{D:Dev}{f:Cell}{v:Val}{rs:List Nat}{cs ys z c0:List Cell}{es:W3}
section
variable (n m m2:Nat) (a0 a1 x1 x3 x5 x14 x15:Val) (h:A9)
def B46:FD A8:=⟨px 0X113027e4601343022e3b6c13b5e6e33f1c5611623ef22a261b0448839710004883c5d51d191192016d3026a4602e3b371100722401b1c19063581a0584b75870581e04a581f0110323a2a0196d4231329f128f2362a41b11c2801a282c1ff1b00103048818104881d71c01a1b19611d2016d302284602e3b37106224102202977032b4203112e21b250182,[],[],[.cellN 2 4,.tmp 3],[D9 A6z B2K]⟩
def C9v:=B46.R
def A3E:=mR C9v B46 (tT []) n [a0] h
def B49:=B46.K Tryz.func7
def vF:=B46.Q
def A3L:OfT C9v vF:=B49.of
def mQ:FD A8:=⟨px 0X12af40301c190181391a0391e00391f038391f383970130619104291a2829701038043651f00062340422e253182,[],[.eqN A5 A5 (.t 6)],[.tmp 4],[]⟩
def xK:=mQ.R
def B3f:=mR xK mQ (tT []) n [a0,a1] h
def A6g:=mQ.K Tryz.func101
def yC:=mQ.S
def B0J:G3 xK yC:=A6g.flat
def A58:FD A8:=⟨px 0X12184886048818044881d7164500221c31b17301c2,[],[],[.cellN 3 256],[]⟩
def B3d:=A58.R
def C5J:=mR B3d A58 (tT []) n [a0,a1] h
def C2Z:=A58.K Tryz.func27
def A6D:=A58.S
def C1N:G3 B3d A6D:=C2Z.flat
def W7:FD A8:=⟨px 0X122a48860145f2e10432855020121a488601c3b21000322403f042031a1641842942031c41b422e219531c2,[],[],[.cellN 4 256],[D9 yC A6g,D9 A6D C2Z]⟩
def iH:=W7.R
def uS:L7:=W7.E
def A81:TT:=⟨uS,[]⟩
def A4H:=mR iH W7 A81 n [a0,a1] h
def F0:=W7.K Tryz.func52
def E2:=W7.S
def A2M:G3 iH E2:=F0.flat
def mP:FD A8:=⟨px 0X126a1b65a1b3d1c21123cf13bf21b63b181b11e2801c3b2c3af2d0042234e1042134c15842e1c1b3842012481b603b3b211101322403f2e2a024f4241329f128f11ff5021e2811c2801a1f2c1ef1a004203381031802a1b2b1b1f1d1b01d23b41b422e219531c2,[],[],[.cellN 4 11],[D9 A3H A90,D9 E2 F0,D9 A6B B2M]⟩
def mV:=mP.R
def A1Y:=mR mV mP (tT []) n [a0,a1] h
def J6:=mP.K Tryz.func15
def F7:=mP.S
def yB:G3 mV F7:=J6.flat
def bG:FD A8:=⟨px 0X139f205c390250000027238f1f052a02218024886181a4881d042134a14e4183e13e2a071829f40412384215030702441340121494200605110292c1d033f3d41c20131cf30004881c6b04005028192b5720192014882481500622410320103031801852b42942034884a03a2342,[],[],[.tmp 2],[D9 gE lA,D9 E2 F0]⟩
def xJ:=bG.R
def A5L:AtH:=bG.lj 0 n [m] [x1,x3,x14,x15]
def A6F:=tT [⟨2,4,A5L⟩]
def B3e:=mR xJ bG A6F n [a0] h
def A0A:=mL bG A6F 0 n [m] [x1,x3,x14,x15] h
def A6f:=bG.K Tryz.func28
def yA:=bG.S
def B2n:A4u xJ yA:=A6f.out
def T9:FD A8:=⟨px 0X12cf204a2c026000002722bf5053c02b4921802af3001813901011113e50022e12e161824103200790620350021a11e4181c63b427f4041244215011a07024313188901211d420060515011b418201314a174214a03a2342,[],[],[.tmp 2],[D9 F7 J6]⟩
def tZ:=T9.R
def A3i:AtH:=T9.lj 0 n [m] [x1,x3,x5]
def B55:AtH:=T9.lj 1 n [m] [x1,x3,x5]
def uK:=tT [⟨2,3,A3i⟩,⟨2,3,B55⟩]
def B2d:=mR tZ T9 uK n [a0] h
def zM:=mL T9 uK 0 n [m] [x1,x3,x5] h
def zL:=mJ T9 uK 1 n [m] [x1,x3,x5] h
def A4m:=T9.K Tryz.func85
def jT:=T9.S
def B0I:A4u tZ jT:=A4m.out
end
def IsView(h:A9)(f:Cell)(D:Dev):Prop:=∃ r q rw rw',f=.f 27 [(r,0)]/\rd h r=A4 ⟨[.sl q 0 (l_ D) 256],rw⟩/\rd h q=A4 ⟨E7 D,rw'⟩
def IsView.ro(hv:IsView h f D):IsView (ro h) f D:=by
 obtain ⟨r,q,rw,rw',e,h1,h2⟩:=hv;exact ⟨r,q,A6,A6,e,tV h1 rfl,tV h2 (gP D)⟩
def IsView.more(hv:IsView h f D)(l:A9):IsView (h++l) f D:=by
 obtain ⟨r,q,rw,rw',e,h1,h2⟩:=hv;exact ⟨r,q,rw,rw',e,B6 h1,B6 h2⟩
def IsView.since(hv:IsView g f D)(h1:Low (l_ g) g h):IsView h f D:=by
 obtain ⟨r,q,rw,rw',e,h2,h3⟩:=hv;exact ⟨r,q,rw,rw',e,h1.rd h2,h1.rd h3⟩
def IsView.get(hv:IsView h f D):∃ id cs,f=.f id cs:=by
 obtain ⟨r,q,rw,rw',e,_⟩:=hv;exact ⟨_,_,e⟩
def vwC(b n m:Int)(f:Cell):List Cell:=[cI b,cI n,.i .u64 m,f]
section
variable {D:Dev} {n m:Int} {f:Cell}
def C3Z{b:Int}:ldN (rT (vwC b n m f)) 0 3=A4 (.a (M4 b n m)):=rfl
def B65{b:Int}:ldN (rT (vwC b n m f)) 0 4=A4 (.a (vwC b n m f)):=rfl
end
def D2m{rw rw':Bool}{no:Nat}(hD:okD D)(X5:no<l_ D)(h1:rd h r=A4 ⟨[.sl q 0 (l_ D) 256],rw⟩)(h2:rd h q=A4 ⟨E7 D,rw'⟩) :
  A6D [iV (no:Int),pV r 0] h=A4 (.a (B4 D[no]),h):=by
 have key:∀ g rw rw',rd g r=A4 ⟨[.sl q 0 (l_ D) 256],rw⟩->rd g q=A4 ⟨E7 D,rw'⟩->∃ g',B3d 0 [iV (no:Int),pV r 0] g=A4 (.a (B4 D[no]),g'):=by
  intro g rw rw' h1 h2;have hz:(E68 256 (Cell.i .u8 0)).length=256:=E7F;have hB:(B4 D[no]).length=256:=by rw [B5,hD.at X5]
  have l1:B8 (g++[rT (E68 256 (.i .u8 0))]) (pV r 0)=A4 (sV q 0 (l_ D) 256):=C1 (cs:=[.sl q 0 (l_ D) 256]) (B6 h1) rfl (by cases rw<;>rfl);have a1:F5 256 (sV q 0 (l_ D) 256) (iV (no:Int))=A4 (pV q (0+no*256)):=E4 X5;have l2:D3 (g++[rT (E68 256 (.i .u8 0))]) 256 (pV q (0+no*256))=A4 (.a (B4 D[no])):=by
   rw [U2 (cs:=E7 D) (rw:=rw') (B6 h2) (by rw [J0 hD];omega) (by
    rw [E7o,qL hD X5,W1];simp),E7o,qL hD X5]
  rw [E7o] at a1 l2;rw [C5J];generalize E68 256 (Cell.i .u8 0)=z at *;generalize B4 D[no]=y at *;exact ⟨_,by simp only [esc,esh,l1,a1,l2,hz,hB]<;>rfl⟩
 obtain ⟨g',e⟩:=key (ro h) A6 A6 (tV h1 rfl) (tV h2 (gP D));exact C1N e (by simp [Val.flat])
def C9k{b:Int}{f:Nat}{cs:List (Nat × Nat)}:yC [.a (vwC b n m (.f f cs)),iV no] h=A4 (bV (decide (0<=no)&&decide (no<b)),h):=by
 have key:∀ g,∃ g',xK 0 [.a (vwC b n m (.f f cs)),iV no] g=A4 (bV (decide (0<=no)&&decide (no<b)),g'):=by
  intro g;rw [B3f];unfold vwC;by_cases c1:0<=no
  ·exact ⟨_,by simp only [esc,esh,c1]<;>rfl⟩
  ·exact ⟨_,by simp only [esc,esh,c1,E7v]<;>rfl⟩
 obtain ⟨g',e⟩:=key (ro h);exact B0J e rfl
def N2(hD:okD D)(hv:IsView h f D):E2 [.a (vwC (l_ D) n m f),iV no] h=A4 (.a (B4 (blk D no)),h):=by
 have key:∀ g,IsView g f D->∃ g',iH 0 [.a (vwC (l_ D) n m f),iV no] g=A4 (.a (B4 (blk D no)),g'):=by
  intro g hv;have hz:(B4 (zeros 256)).length=256:=by rw [B5];exact zeros_length
  have hB:(B4 (blk D no)).length=256:=by rw [B5,J8 hD]
  obtain ⟨r,q,rw',rw'',rfl,h1,h2⟩:=hv;have hT:=λh=>C9k (b:=l_ D) (n:=n) (m:=m) (no:=no) (f:=27) (cs:=[(r,0)]) (h:=h)
  have hcv:∀ (x:Val) (h:A9),aV uS (.c (.f 27 [(r,0)])) [x] h=A6D [x,pV r 0] h:=λ_ _=>Eq.trans rfl rfl
  rw [A4H,J4];by_cases c1:0<=no/\no<(l_ D)
  ·have c2:=c1.1;have c3:=c1.2;obtain ⟨k,rfl⟩:∃ k:Nat,no=k:=⟨no.toNat,by omega⟩;have e1:=A48 (D:=D) (i:=k) (by omega);have hO:=D2m (h:=g++[rT (vwC (l_ D) n m (.f 27 [(r,0)])),rT (B4 (zeros 256))]) hD (show k<(l_ D) by omega) (B6 h1) (B6 h2);rw [<-e1] at hO;simp only [c2,c3,decide_true,Bool.and_self] at hT;generalize B4 (zeros 256)=z at *;generalize B4 (blk D k)=y at *;unfold vwC at *;exact ⟨_,by simp only [esc,esh,Nat.reduceAdd,hT,hcv,hO,hz,hB]<;>rfl⟩
  ·have e1:=D9O (D:=D) (i:=no) (by omega);have ht:(decide (0<=no)&&decide (no<(l_ D:Int)))=A6:=by
    rw [Bool.and_eq_false_iff,decide_eq_false_iff_not,decide_eq_false_iff_not];omega
   simp only [ht] at hT;rw [e1] at hB ⊢;have ef:F9 (B4 (zeros 256)) []=A4 (B4 (zeros 256)):=rfl;generalize B4 (zeros 256)=z at *;unfold vwC at *;exact ⟨_,by simp only [esc,esh,Nat.reduceAdd,hT,ef,hz]<;>rfl⟩
 obtain ⟨g',e⟩:=key (ro h) hv.ro;exact A2M e (by simp [Val.flat])
def D1n{id m:Nat}{y:Val}(hr:rd h id=rT [])(hy:Has h y sz m ys)(hsz:0<sz)(hn:m<=1073741824) :
  uL h sz (sV id 0 0 sz) y=A4 (sV (l_ h) 0 m sz,h.set id A7++[rT ys]):=by
 have h1:=hy.add;have h2:l_ ys/sz=m:=by rw [hy.length];exact Nat.mul_div_cancel m hsz
 simp only [uL,h1,hr,E7l,h2,E7A,E7o];rw [C4 ⟨trivial,trivial,by simp,trivial,hn⟩]
def B51(D:Dev):Bool:=okS (D.headD [])&&decide (fieldN (D.headD []) 8 2=l_ D)
def A9j(D:Dev):Int:=fieldN (D.headD []) 10 2
def C4J(D:Dev):Int:=fieldN (D.headD []) 12 8
def D4Y(hv:Has h v 256 0 []):∃ t,vF [v] h=A4 (.t [.a (vwC 0 0 0 .nf),.c (cI 13)],h++t):=by
 have ef:F9 [o0,o0,.i .u64 0,.nf] []=A4 [o0,o0,.i .u64 0,.nf]:=rfl;have hl:=hv.len;rw [show ((0:Nat):Int)=0 from rfl] at hl;exact ⟨_,A3L (n:=0) (by rw [A3E];simp only [esc,esh,Nat.reduceAdd,hl,ef,vwC]<;>rfl)⟩
def E2H(h:okS b=A6):D1K b=M4 0 0 0:=by unfold D1K;rw [h];rfl
def D7b(h:okS b=A5):D1K b=M4 (fieldN b 8 2) (fieldN b 10 2) (fieldN b 12 8):=by unfold D1K;rw [h];rfl
def D6F(hv:Has h v 256 (l_ D) (E7 D))(hD:okD D)(h0:0<l_ D)(hn:B51 D=A6):∃ t,vF [v] h=A4 (.t [.a (vwC 0 0 0 .nf),.c (cI 13)],h++t):=by
 have ef:F9 [o0,o0,.i .u64 0,.nf] []=A4 [o0,o0,.i .u64 0,.nf]:=rfl;have hl:=hv.len;have hv2:=hv.more [rT [o0,o0,.i .u64 0,.nf]];obtain ⟨b,E,rfl⟩:∃ b E,D=b::E:=by cases D with | nil=>simp at h0 | cons b E=>exact ⟨b,E,rfl⟩
 obtain ⟨id,off,rfl,hid,_,hB⟩:=hv2.sl h0;have hBl:(B4 b).length=256:=by rw [B5,hD.cons.1]
 have l2:=hB 0 256 (by rw [J0 hD];omega);have ec:((E7 (b::E)).drop 0).take 256=B4 b:=by
  have:=qL (i:=0) hD h0
  rwa [Nat.zero_mul] at this
 rw [ec,E8m] at l2;have a1:F5 256 (sV id off (b::E).length 256) (iV 0)=A4 (pV id off):=by
  have:=E4 (k:=.i64) (id:=id) (off:=off) (sz:=256) (j:=0) (len:=(b::E).length) h0
  rwa [Nat.zero_mul,E8m] at this
 have hG:=λh=>B1s (h:=h) hD.cons.1
 have c0:¬ (((b::E).length:Nat):Int)=0:=by omega
 have n13:¬ (13:Int)=0:=by decide
 unfold B51 at hn;simp only [List.headD_cons] at hn;cases ho:okS b with
 | false =>
  simp only [ho,E2H ho,bZ] at hG;refine ⟨[rT [o0,o0,.i .u64 0,.nf],rT [o0,o0,.i .u64 0]],A3L (n:=0) ?_⟩;rw [A3E];generalize (b::E).length=N at *;generalize B4 b=y at *;unfold M4 at *;simp only [esc,esh,Nat.reduceAdd,ef,vwC,l2,a1,hG,n13,eq_self,c0]<;>rfl
 | true =>
  rw [ho,E7w] at hn
  replace hn:=of_decide_eq_false hn
  simp only [ho,D7b ho,R8] at hG;refine ⟨[rT [o0,o0,.i .u64 0,.nf],rT [cI (fieldN b 8 2),cI (fieldN b 10 2),.i .u64 (fieldN b 12 8)]],A3L (n:=0) ?_⟩;rw [A3E];generalize (b::E).length=N at *;generalize B4 b=y at *;generalize fieldN b 8 2=n1 at *;unfold M4 at *;simp only [esc,esh,Nat.reduceAdd,ef,vwC,l2,a1,hG,eq_self,c0,hn]<;>rfl
def D4X(hv:Has h v 256 (l_ D) (E7 D))(hD:okD D)(hn:B51 D=A6):∃ t,vF [v] h=A4 (.t [.a (vwC 0 0 0 .nf),.c (cI 13)],h++t):=by
 by_cases h0:D=[]
 ·subst h0;exact D4Y hv
 ·exact D6F hv hD (List.length_pos_iff.2 h0) hn
def B1t(hv:Has h v 256 (l_ D) (E7 D))(hD:okD D)(hn:B51 D=A5)(h60:l_ D<=1073741824) :
  ∃ f t,vF [v] h=A4 (.t [.a (vwC (l_ D) (A9j D) (C4J D) f),.c o0],h++t)/\IsView (h++t) f D:=by
 obtain ⟨b,E,rfl⟩:∃ b E,D=b::E:=by
  cases D with
  | nil=>simp only [B51,List.headD_nil,E7Q,E66] at hn;exact absurd hn.1 (by decide)
  | cons b E=>exact ⟨b,E,rfl⟩
 have h0:0<(b::E).length:=by simp
 have hv2:=hv.more [rT [o0,o0,.i .u64 0,.nf]];unfold B51 at hn;simp only [List.headD_cons,E66] at hn;have ho:=hn.1;have hn2:=of_decide_eq_true hn.2;have hv3:=hv.more [rT [o0,o0,.i .u64 0,.nf],rT (M4 (b::E).length (fieldN b 10 2) (fieldN b 12 8)),rT []];obtain ⟨id,off,rfl,hid,_,hB⟩:=hv2.sl h0;have hBl:(B4 b).length=256:=by rw [B5,hD.cons.1]
 have l2:=hB 0 256 (by rw [J0 hD];omega);have ec:((E7 (b::E)).drop 0).take 256=B4 b:=by
  have:=qL (i:=0) hD h0
  rwa [Nat.zero_mul] at this
 rw [ec,E8m] at l2;have a1:F5 256 (sV id off (b::E).length 256) (iV 0)=A4 (pV id off):=by
  have:=E4 (k:=.i64) (id:=id) (off:=off) (sz:=256) (j:=0) (len:=(b::E).length) h0
  rwa [Nat.zero_mul,E8m] at this
 have hG:=λh=>B1s (h:=h) hD.cons.1
 have c0:¬ (((b::E).length:Nat):Int)=0:=by omega
 have n13:¬ (13:Int)=0:=by decide
 simp only [ho,D7b ho,R8,hn2] at hG;have eN:A9j (b::E)=fieldN b 10 2:=rfl;have eM:C4J (b::E)=fieldN b 12 8:=rfl;have hA:=D1n (id:=l_ h+2) (by simp) hv3 (by omega) h60;have ef1:F9 ([]:List Cell) []=A4 []:=rfl;have X4:id<(l_ h):=by
  rcases hv with ⟨e,_⟩ | ⟨i,o,r,e,hr,_⟩
  ·cases e
  ·cases e;exact E5 hr
 rw [eN,eM];unfold IsView;generalize E7 (b::E)=C at *;have emk:A3N 27 [pV (l_ h+4) 0]=A4 (.c (.f 27 [(l_ h+4,0)])):=rfl;refine ⟨.f 27 [(l_ h+4,0)],[rT (vwC (b::E).length (fieldN b 10 2) (fieldN b 12 8) (.f 27 [(l_ h+4,0)])),rT (M4 (b::E).length (fieldN b 10 2) (fieldN b 12 8)),A7,rT C,rT [.sl (l_ h+3) 0 (b::E).length 256]],A3L (n:=0) ?_,l_ h+4,l_ h+3,A5,A5,rfl,rM,rM⟩;rw [A3E];generalize (b::E).length=N at *;generalize B4 b=y at *;generalize fieldN b 10 2=n1 at *;generalize fieldN b 12 8=n2 at *;have ef2:∀ x,F9 [o0,o0,.i .u64 0,.nf] [(0,3,.a [cI (N:Int),cI n1,.i .u64 n2]),(3,1,.c x)]=A4 [cI (N:Int),cI n1,.i .u64 n2,x]:=λ_=>rfl
 unfold M4 vwC at *;simp only [esc,esh,Nat.reduceAdd] at hA;simp only [esc,esh,Nat.reduceAdd,Nat.reduceLT,l2,a1,hG,eq_self,c0,hA,ef1,ef2,emk]<;>rfl
section
variable (n m m2:Nat) (a0 a1:Val) (h:A9)
def wP:FD A8:=⟨px 0X118f20306191889011b1a71b701104261700523201042,[],[],[.tmp 2],[]⟩
def A4F:=wP.R
def B8M:=mR A4F wP (tT []) n [a0] h
def B2I:=wP.K Tryz.func138
def A4W:=wP.S
def B5W:G3 A4F A4W:=B2I.flat
def A3y:FD A8:=⟨px 0X11bf401906313019622811c488181c50201140160000722403f010318131f4203140422e253182,[],[],[.tmp 4],[D9 A4W B2I,D9 A15 A8w]⟩
def B0n:=A3y.R
def C4l:=mR B0n A3y (tT []) n [a0,a1] h
def A3D:=A3y.K Tryz.func96
def qI:=A3y.S
def C4B:SOk A8 96 qI:=A3D.sok
def B9e:G3 B0n qI:=A3D.flat
end
def ptP(b:List UInt8)(i:Nat):Int:=fieldN b (2*i) 2
def C4P(hk:k<128):A4W [iV k] h=A4 (bV A5,h):=by
 have key:∀ g,∃ g',A4F 0 [iV k] g=A4 (bV A5,g'):=by
  intro g;have c1:(0:Int)<=k:=by omega
  have c2:(k:Int)<128:=by omega
  rw [B8M];exact ⟨_,by simp only [esc,c1,c2]<;>rfl⟩
 obtain ⟨g',e⟩:=key (ro h);exact B5W e rfl
def E44(hb:l_ b=256)(hi:i<128):((atN b ((2*i:Nat):Int) 2:Nat):Int)=ptP b i:=by
 unfold atN ptP fieldN;rw [C4 ⟨by omega,Z0.2 (by omega)⟩];simp only [E7s];rfl
def E1S(hi:i<128):E7f .i64 (2*(i:Int))=((2*i:Nat):Int):=by rw [wrap_i64 (by omega) (by omega)];omega
def A8k(hb:l_ b=256)(hk:k<128):qI [.a (B4 b),iV k] h=A4 (iV (ptP b k),h):=by
 have key:∀ g,∃ g',B0n 0 [.a (B4 b),iV k] g=A4 (iV (ptP b k),g'):=by
  intro g;have hB:(B4 b).length=256:=by rw [B5,hb]
  have hT:=λh=>C4P (h:=h) hk
  have hA:=λh=>qQ (h:=h) hb (a:=((2*k:Nat):Int)) (w:=2)
  rw [E44 hb hk] at hA;rw [C4l];exact ⟨_,by simp only [esc,esh,hB,hT,E1S hk,hA]<;>rfl⟩
 obtain ⟨g',e⟩:=key (ro h);exact B9e e rfl
def zI(n:Nat):List Int:=E68 n 0
def N7{n:Nat}:(zI n).length=n:=by simp [zI]
abbrev C9(k l s p:Int)(d:List Int):List Cell:=cI k::cI l::cI s::cI p::encI d
def W2(n:Int):Bool:=decide (0<=n)&&decide (n<=65535)
def A69:W2 n=A5↔0<=n/\n<=65535:=by unfold W2;simp
def aZ:A7U [iV n] h=A4 (bV (W2 n),h):=by
 refine B7y (n:=0) (h2:=ro h) ?_ rfl;rw [C09];unfold W2;by_cases c:0<=n
 ·simp only [esc,c,E7w]
 ·simp only [esc,c,E7v]
def B1W:xY [iV n] h=A4 (iV (if n<1 then 0 else if 34304<n then 134 else (n+255)/256),h):=by
 refine B5V (n:=0) (h2:=ro h) ?_ rfl;rw [B8K];by_cases c1:n<1
 ·rw [C4 c1];simp only [esc,c1]
 ·rw [C5 c1];by_cases c2:34304<n
  ·rw [C4 c2];simp only [esc,c1,c2]
  ·rw [C5 c2];have e1:E7f .i64 (n+256)=n+256:=wrap_i64 (by omega) (by omega);have e2:E7f .i64 (n+256-1)=n+255:=by rw [wrap_i64 (by omega) (by omega)];omega
   simp only [esc,c1,c2,e1,e2,B1j (a:=n+255) (b:=256) (by omega) (by omega) (by omega)]
def C0o{g:A9}{k l s p:Int}{d:List Int}{q:Nat}(hd:l_ d=7)(hz:z.length=7):∀ e i m:Nat,i+e=6->e<m ->
  A9y q m (pV (l_ g) 0) (pV (l_ g+1) 0) (pV (l_ g+2) 0) (.a (encI (d.take 6))) (iV i) (g++[rT (C9 k l s p d),rT z,rT (encI (d.take i++zI (7-i)))]) =
   A4 (.a (encI d),g++[rT (C9 k l s p d),rT (encI d),rT (encI d)])
 | e,i,0,_,hm=>by omega
 | 0,i,m+1,hi,hm=>by
  have e0:i=6:=by omega
  subst e0;have h1':¬ ((6:Nat):Int)<6:=by omega
  have l1:(C9 k l s p d)[10]?=A4 (cI d[6]):=by
   have:(encI d)[6]?=A4 (cI d[6]):=by rw [G7,E64 (by omega)];rfl
   exact this
  have a1:L6 7 1 (pV (l_ g+2) 0) (iV 6)=A4 (pV (l_ g+2) 6):=rfl;have ho:6<(encI (d.take 6++zI (7-6))).length:=by rw [B9,E7c,N7,E7L];omega
  have es:(encI (d.take 6++zI (7-6))).set 6 (cI d[6])=encI d:=by
   rw [A2d]
   congr 1
   have h6:(d.take 6).length=6:=by simp;omega
   rw [E70 _ _ (by omega),h6];have:d=d.take 6++[d[6]]:=by
    rw [<-E7E (by omega),E7r (by omega)]
   conv=>rhs;rw [this]
   rfl
  have hl:(encI d).length=7:=by rw [B9,hd]
  rw [A3d];simp only [esc,esh,h1',l1,a1,ho,es,hl,hz]
 | e+1,i,m+1,hi,hm=>by
  have ih:=C0o (g:=g) (k:=k) (l:=l) (s:=s) (p:=p) (q:=q) hd hz e (i+1) m (by omega) (by omega);have h1':(i:Int)<6:=by omega
  have hx:A44 6 (.a (encI (d.take 6))) (iV (i:Int))=A4 (iV d[i]):=by
   rw [B4m (by omega),G7,E7M (by omega),E64 (by omega)];rfl
  have a1:L6 7 1 (pV (l_ g+2) 0) (iV (i:Int))=A4 (pV (l_ g+2) i):=by rw [Q7 (by omega)];simp
  have ho:i<(encI (d.take i++zI (7-i))).length:=by rw [B9,E7c,N7,E7L];omega
  have es:(encI (d.take i++zI (7-i))).set i (cI d[i])=encI (d.take (i+1)++zI (7-(i+1))):=by
   rw [A2d];refine congrArg encI ?_;have h6:(d.take i).length=i:=by simp;omega
   rw [E70 _ _ (by omega),h6,E8l,E7E (by omega),E7i];refine congrArg (d.take i ++ ·) ?_;rw [show 7-i=7-(i+1)+1 by omega];unfold zI;rw [E7P,E8p];rfl
  rw [A3d];simp only [esc,esh,h1',hx,a1,ho,es,E3 (a:=i) (by omega)];exact ih
def E2E{k s:Int}{d:List Int}(hd:l_ d=7):ldN (rT (C9 k l s p d)) 4 6=A4 (.a (encI (d.take 6))):=by
 have h1:(C9 k l s p d).length=11:=by simp [B9,hd]
 simp only [ldN,E7l];rw [C4 ⟨by omega,by simp⟩];simp only [List.drop_succ_cons,E7n];unfold encI;rw [List.map_take]
def A06{k s:Int}{d:List Int}(hd:l_ d=7):tU [.a (C9 k l s p d)] h=A4 (.a (encI d),h):=by
 have key:∀ N,7<N->∀ g,∃ g',A2K N [.a (C9 k l s p d)] g=A4 (.a (encI d),g'):=by
  intro N hN g;have:=C0o (g:=g) (k:=k) (l:=l) (s:=s) (p:=p) (z:=encI (zI 7)) (q:=N) hd (by rw [B9,N7]) 6 0 N (by omega) (by omega);have e0:encI (d.take 0++zI (7-0))=[o0,o0,o0,o0,o0,o0,o0]:=rfl;have e1:encI (zI 7)=[o0,o0,o0,o0,o0,o0,o0]:=rfl;rw [e0,e1] at this;rw [B7e];exact ⟨_,by simp only [esc,esh,Nat.reduceAdd,E2E hd];exact this⟩
 obtain ⟨g',e⟩:=key (l_ h+8) (by omega) (ro h);exact B3x e (by simp)
def D04(l s p:Int)(d:List Int):Bool:=decide (l=0/\s=0/\p=0/\d=zI 7)
def C0x(k l s p:Int)(d:List Int):Bool:=decide (0<=k/\k<=2)&&(W2 l&&(W2 p&&(decide (0<=s/\s<=34304)&&d.all W2)))
def A5A(k l s p:Int)(d:List Int):Bool:=if k=0 then D04 l s p d else C0x k l s p d
def C3o{h:A9}{d:List Int}{q:Nat}(hd:l_ d=7):∀ e i m:Nat,i+e=7->e<m ->
  B4u q m (.a (encI d)) (iV i) h=A4 (iV (bif (d.drop i).all W2 then 0 else 1),h)
 | e,i,0,_,hm=>by omega
 | 0,i,m+1,hi,hm=>by
  have c0:¬ (i:Int)<7:=by omega
  rw [A65,E7j (by omega)];simp only [esc,c0]
 | e+1,i,m+1,hi,hm=>by
  have ih:=C3o (h:=h) (q:=q) hd e (i+1) m (by omega) (by omega);have c0:(i:Int)<7:=by omega
  have hx:A44 7 (.a (encI d)) (iV (i:Int))=A4 (iV d[i]):=by
   rw [B4m (by omega),G7,E64 (by omega)];rfl
  rw [A65,E7g (by omega),E8e];cases c1:W2 d[i] with
  | true =>
   simp only [esc,c0,hx,aZ,c1,E7w,E3 (a:=i) (by omega)];exact ih
  | false=>simp only [esc,c0,hx,aZ,c1,E7v]
def E11{k s k' l' s' p':Int}{d d':List Int}{neg:Bool}(hd:l_ d=7)(hd':d'.length=7) :
  aeq neg [Sh.i .i64,.i .i64,.i .i64,.i .i64,.i .i64,.i .i64,.i .i64,.i .i64,.i .i64,.i .i64,.i .i64] (.a (C9 k l s p d)) (.a (C9 k' l' s' p' d'))=A4 (bV (bif neg then !decide (k::l::s::p::d=k'::l'::s'::p'::d') else decide (k::l::s::p::d=k'::l'::s'::p'::d'))):=by
 have h1:=D9w (l:=k::l::s::p::d) (m:=k'::l'::s'::p'::d') (n:=11) (by simp [hd]) (by simp [hd']);have h2:=D9v (l:=k::l::s::p::d) (m:=k'::l'::s'::p'::d') (n:=11) (by simp [hd]) (by simp [hd']);cases neg
 ·exact h2
 ·exact h1
def E1U{s:Int}{d:List Int}:decide ((0:Int)::l::s::p::d=0::0::0::0::zI 7)=D04 l s p d:=by
 unfold D04;simp
def C1P:F9 [o0,o0,o0,o0,o0,o0,o0,o0,o0,o0,o0] []=A4 (C9 0 0 0 0 (zI 7)):=rfl
def B4t{k s:Int}{d:List Int}(hd:l_ d=7):A7S [.a (C9 k l s p d)] h=A4 (iV (bif A5A k l s p d then 0 else 1),h):=by
 have hlen:(C9 k l s p d).length=11:=by simp [B9,hd]
 have key:∀ N,8<N->∀ g,∃ g',A7B N [.a (C9 k l s p d)] g=A4 (iV (bif A5A k l s p d then 0 else 1),g'):=by
  intro N hN g;have lp:=λg=>C3o (h:=g) (q:=N) hd 7 0 N (by omega) (by omega)
  simp only [E7n,E8q] at lp;rw [C07];unfold A5A;by_cases k0:k=0
  ·subst k0;rw [C4 rfl];have c1:¬ (0:Int)<0:=by omega
   have c2:¬ (2:Int)<0:=by omega
   have hq:=E11 (k:=0) (l:=l) (s:=s) (p:=p) (k':=0) (l':=0) (s':=0) (p':=0) (neg:=A5) hd (N7 (n:=7));simp only [R8,E1U] at hq;cases hz:D04 l s p d with
   | false =>
    rw [hz] at hq;exact ⟨_,by simp only [esc,esh,c1,c2,hlen,C1P,hq]<;>rfl⟩
   | true =>
    rw [hz] at hq;have hz':=of_decide_eq_true hz;obtain ⟨rfl,rfl,rfl,rfl⟩:=hz';have sm:W2 0=A5:=by decide
    have al:(zI 7).all W2=A5:=by decide
    have c3:¬ (34304:Int)<0:=by omega
    rw [al] at lp;exact ⟨_,by simp only [esc,esh,c1,c2,c3,hlen,C1P,hq,aZ,sm,A06 hd,lp]<;>rfl⟩
  ·rw [C5 k0];unfold C0x;by_cases c1:k<0
   ·rw [aC (show ¬ (0<=k/\k<=2) by omega)];exact ⟨_,by simp only [esc,esh,c1,E7v]<;>rfl⟩
   ·by_cases c2:2<k
    ·rw [aC (show ¬ (0<=k/\k<=2) by omega)];exact ⟨_,by simp only [esc,esh,c1,c2,E7v]<;>rfl⟩
    ·rw [R9 (show 0<=k/\k<=2 by omega),E7w];cases sl:W2 l with
     | false=>exact ⟨_,by simp only [esc,esh,c1,c2,k0,aZ,sl,E7v]<;>rfl⟩
     | true =>
      cases sp:W2 p with
      | false=>exact ⟨_,by simp only [esc,esh,c1,c2,k0,aZ,sl,sp,E7w,E7v]<;>rfl⟩
      | true =>
       by_cases c3:s<0
       ·rw [aC (show ¬ (0<=s/\s<=34304) by omega)];exact ⟨_,by simp only [esc,esh,c1,c2,k0,aZ,sl,sp,c3,E7w,E7v]<;>rfl⟩
       ·by_cases c4:34304<s
        ·rw [aC (show ¬ (0<=s/\s<=34304) by omega)];exact ⟨_,by simp only [esc,esh,c1,c2,k0,aZ,sl,sp,c3,c4,E7w,E7v]<;>rfl⟩
        ·rw [R9 (show 0<=s/\s<=34304 by omega)];exact ⟨_,by simp only [esc,esh,c1,c2,k0,aZ,sl,sp,c3,c4,E7w,hlen,A06 hd,lp]<;>rfl⟩
 obtain ⟨g',e⟩:=key (l_ h+9) (by omega) (ro h);exact B7w e rfl
def A5Y(k l s p:Int):List UInt8:=D6 1 k++zeros 1++D6 2 l++D6 4 s++D6 2 p
def sZ(d:List Int):List UInt8:=(d.map (D6 2)).flatten
def cY(k l s p:Int)(d:List Int):List UInt8:=A5Y k l s p++sZ d++zeros 8
def pC{k s:Int}:(A5Y k l s p).length=10:=by simp [A5Y]
def vM{d:List Int}:(sZ d).length=2*(l_ d):=by
 unfold sZ
 induction d with
 | nil=>rfl
 | cons x d ih=>simp only [E7X,E8g,E7c,R7,E7k,ih];omega
def A2q{k s:Int}{d:List Int}(hd:l_ d=7):(cY k l s p d).length=32:=by
 unfold cY;rw [E7c,E7c,pC,vM,zeros_length,hd]
def D8j{d:List Int}:sZ (d++[x])=sZ d++D6 2 x:=by simp [sZ]
def D8k{k s:Int}:kP (kP (kP (kP (zeros 256) 0 1 k) 2 2 l) 4 4 s) 8 2 p=R5 256 (A5Y k l s p):=by
 rw [<-E1b];have h1:=lM (l:=[]) (a:=0) (w:=1) (v:=k) (by simp) (by omega) (by omega) (by omega);have h2:=lM (l:=[]++zeros (0-0)++D6 1 k) (a:=2) (w:=2) (v:=l) (by simp) (by omega) (by omega) (by omega);have h3:=lM (l:=[]++zeros (0-0)++D6 1 k++zeros 1++D6 2 l) (a:=4) (w:=4) (v:=s) (by simp) (by omega) (by omega) (by omega);have h4:=lM (l:=[]++zeros (0-0)++D6 1 k++zeros 1++D6 2 l++zeros 0++D6 4 s) (a:=8) (w:=2) (v:=p) (by simp) (by omega) (by omega) (by omega);simp only [E7c,E7Q,zeros_length,R7,E8l,Nat.reduceAdd,Nat.reduceSub] at h1 h2 h3 h4;simp only [E8q] at h1 h2 h3 h4;rw [h1,h2,h3,h4]
 congr 1
def D4l{g:A9}{c0:List Cell}{B:List UInt8}{q:Nat}(hB:l_ B=256)(hz:z.length=32):∀ e i m:Nat,i+e=32->e<m ->
  B92 q m (pV (l_ g+1) 0) (pV (l_ g+2) 0) (pV (l_ g+3) 0) (iV i) (g++[rT c0,rT z,rT (B4 (B.take i++zeros (32-i))),rT (B4 B)]) =
   A4 (.t [.a (B4 (B.take 32)),.c o0],g++[rT c0,rT (B4 (B.take 32)),rT (B4 (B.take 32)),rT (B4 B)])
 | e,i,0,_,hm=>by omega
 | 0,i,m+1,hi,hm=>by
  have e0:i=32:=by omega
  subst e0;have h1':¬ ((32:Nat):Int)<32:=by omega
  have hl:(B4 (B.take 32)).length=32:=by rw [B5,E7L];omega
  have e1:B4 (B.take 32++zeros (32-32))=B4 (B.take 32):=by simp [zeros]
  rw [B1Z,e1];simp only [esc,esh,h1',hl,hz]
 | e+1,i,m+1,hi,hm=>by
  have ih:=D4l (g:=g) (c0:=c0) (q:=q) hB hz e (i+1) m (by omega) (by omega);have h1':(i:Int)<32:=by omega
  have a1:L6 256 1 (pV (l_ g+3) 0) (iV (i:Int))=A4 (pV (l_ g+3) i):=by rw [Q7 (by omega)];simp
  have a2:L6 32 1 (pV (l_ g+2) 0) (iV (i:Int))=A4 (pV (l_ g+2) i):=by rw [Q7 (by omega)];simp
  have l1:(B4 B)[i]?=A4 (.i .u8 B[i].toNat):=by rw [yX,E64 (by omega)];rfl
  have ho:i<(B4 (B.take i++zeros (32-i))).length:=by rw [B5,E7c,zeros_length,E7L];omega
  have es:(B4 (B.take i++zeros (32-i))).set i (.i .u8 B[i].toNat)=B4 (B.take (i+1)++zeros (32-(i+1))):=by
   rw [oW];refine congrArg B4 ?_;have h6:(B.take i).length=i:=by simp;omega
   rw [E70 _ _ (by omega),h6,E8l,E7E (by omega),E7i];refine congrArg (B.take i ++ ·) ?_;rw [show 32-i=32-(i+1)+1 by omega];unfold zeros;rw [E7P,E8p];rfl
  rw [B1Z];simp only [esc,esh,h1',a1,a2,l1,ho,es,E3 (a:=i) (by omega)];exact ih
def D4m{g:A9}{k l s p:Int}{d:List Int}{c0 z:List Cell}{q:Nat}(hd:l_ d=7)(hz:z.length=32)(hq:33<q):∀ e i m:Nat,i+e=7->e<m ->
  B91 q m (pV (l_ g+1) 0) (pV (l_ g+2) 0) (pV (l_ g+3) 0) (.a (encI d)) (iV i) (g++[rT c0,rT z,rT (B4 (zeros 32)),rT (B4 (R5 256 (A5Y k l s p++sZ (d.take i))))]) =
   A4 (.t [.a (B4 (cY k l s p d)),.c o0],g++[rT c0,rT (B4 (cY k l s p d)),rT (B4 (cY k l s p d)),rT (B4 (R5 256 (A5Y k l s p++sZ d)))])
 | e,i,0,_,hm=>by omega
 | 0,i,m+1,hi,hm=>by
  have e0:i=7:=by omega
  subst e0;have h1':¬ ((7:Nat):Int)<7:=by omega
  rw [E7r (by omega)];have hlen:(A5Y k l s p++sZ d).length=24:=by rw [E7c,pC,vM,hd]
  have:=D4l (g:=g) (c0:=c0) (z:=z) (q:=q) (B:=R5 256 (A5Y k l s p++sZ d)) (I5 (by omega)) hz 32 0 q (by omega) (by omega);have e1:(R5 256 (A5Y k l s p++sZ d)).take 32=cY k l s p d:=by
   unfold R5 cY;rw [List.take_append,E7r (by omega),hlen];refine congrArg (A5Y k l s p++sZ d ++ ·) ?_;unfold zeros;rw [List.take_replicate];rfl
  rw [e1] at this;simp only [E75,E7A,Nat.sub_zero] at this;rw [B1Y];simp only [esc,h1'];exact this
 | e+1,i,m+1,hi,hm=>by
  have ih:=D4m (g:=g) (k:=k) (l:=l) (s:=s) (p:=p) (c0:=c0) hd hz hq e (i+1) m (by omega) (by omega);have h1':(i:Int)<7:=by omega
  have hx:A44 7 (.a (encI d)) (iV (i:Int))=A4 (iV d[i]):=by
   rw [B4m (by omega),G7,E64 (by omega)];rfl
  have hlen:(A5Y k l s p++sZ (d.take i)).length=10+2*i:=by rw [E7c,pC,vM,E7L];omega
  have hL:(B4 (R5 256 (A5Y k l s p++sZ (d.take i)))).length=256:=by rw [B5,I5 (by omega)]
  have e2:E7f .i64 (2*(i:Int))=((2*i:Nat):Int):=by rw [wrap_i64 (by omega) (by omega)];omega
  have e3:E7f .i64 (10+((2*i:Nat):Int))=((10+2*i:Nat):Int):=by rw [wrap_i64 (by omega) (by omega)];omega
  have hw:=bC (l:=R5 256 (A5Y k l s p++sZ (d.take i))) (h:=g++[rT c0,rT z,rT (B4 (zeros 32)),rT (B4 (R5 256 (A5Y k l s p++sZ (d.take i))))]) (I5 (by omega)) (a:=((10+2*i:Nat):Int)) (w:=2) (v:=d[i]);have e4:=lM (l:=A5Y k l s p++sZ (d.take i)) (a:=10+2*i) (w:=2) (v:=d[i]) (by omega) (by omega) (by omega) (by omega);rw [show ((2:Nat):Int)=2 from rfl,hlen,E8l,show zeros 0=[] from rfl,E7q,E7i,<-D8j,<-E7E (by omega)] at e4;rw [e4] at hw;have hL':(B4 (R5 256 (A5Y k l s p++sZ (d.take (i+1))))).length=256:=by
   rw [B5,I5 (by rw [E7c,pC,vM,E7L];omega)]
  rw [B1Y];simp only [esc,esh,h1',hx,hL,e2,e3,hw,hL',E3 (a:=i) (by omega)];exact ih
def B90{k s:Int}{d:List Int}(hd:l_ d=7) :
  A6v [.a (C9 k l s p d)] h=A4 (.t [.a (B4 (bif A5A k l s p d then cY k l s p d else zeros 32)),.c (cI (bif A5A k l s p d then 0 else 1))],h):=by
 have hlen:(C9 k l s p d).length=11:=by simp [B9,hd]
 have key:∀ N,33<N->∀ g,∃ g',B21 N [.a (C9 k l s p d)] g=A4 (.t [.a (B4 (bif A5A k l s p d then cY k l s p d else zeros 32)),.c (cI (bif A5A k l s p d then 0 else 1))],g'):=by
  intro N hN g;have hz:(B4 (zeros 32)).length=32:=by rw [B5];exact zeros_length
  have hz2:(B4 (zeros 256)).length=256:=by rw [B5];exact zeros_length
  rw [C5w,J4,J4];cases c:A5A k l s p d with
  | false =>
   generalize zeros 32=z at *;generalize zeros 256=y at *;exact ⟨_,by simp only [esc,esh,Nat.reduceAdd,hlen,B4t hd,c,hz,Int.reduceEq]<;>rfl⟩
  | true =>
   have:=D4m (g:=g) (k:=k) (l:=l) (s:=s) (p:=p) (c0:=C9 k l s p d) (z:=B4 (zeros 32)) (q:=N) hd hz hN 7 0 N (by omega) (by omega);simp only [E75,show sZ []=[] from rfl,E7q] at this;have w1:=λh=>bC (h:=h) (l:=zeros 256) zeros_length (a:=0) (w:=1) (v:=k)
   have w2:=λh=>bC (h:=h) (l:=kP (zeros 256) 0 1 k) (W4 zeros_length) (a:=2) (w:=2) (v:=l)
   have w3:=λh=>bC (h:=h) (l:=kP (kP (zeros 256) 0 1 k) 2 2 l) (W4 (W4 zeros_length)) (a:=4) (w:=4) (v:=s)
   have w4:=λh=>bC (h:=h) (l:=kP (kP (kP (zeros 256) 0 1 k) 2 2 l) 4 4 s) (W4 (W4 (W4 zeros_length))) (a:=8) (w:=2) (v:=p)
   have l1:(B4 (kP (zeros 256) 0 1 k)).length=256:=by rw [B5,W4 zeros_length]
   have l2:(B4 (kP (kP (zeros 256) 0 1 k) 2 2 l)).length=256:=by rw [B5,W4 (W4 zeros_length)]
   have l3:(B4 (kP (kP (kP (zeros 256) 0 1 k) 2 2 l) 4 4 s)).length=256:=by rw [B5,W4 (W4 (W4 zeros_length))]
   have l4:(B4 (R5 256 (A5Y k l s p))).length=256:=by rw [B5,I5 (by rw [pC];omega)]
   simp only [D8k] at w4;generalize zeros 32=z at *;generalize zeros 256=y at *;exact ⟨_,by simp only [esc,esh,Nat.reduceAdd,hlen,B4t hd,c,hz,hz2,w1,w2,w3,w4,l1,l2,l3,l4,A06 hd];exact this⟩
 obtain ⟨g',e⟩:=key (l_ h+34) (by omega) (ro h);exact C1x e (by simp)
def B2t(b:List UInt8):Int:=fieldN b 0 1
def B4h(b:List UInt8):Int:=fieldN b 2 2
def B4j(b:List UInt8):Int:=fieldN b 4 4
def B4i(b:List UInt8):Int:=fieldN b 8 2
def bW(b:List UInt8):List Int:=(E7H 7).map λj=>fieldN b (10+2*j) 2
def N0:(bW b).length=7:=by simp [bW]
def C2e(hi:i<7):(bW b)[i]?=A4 (fieldN b (10+2*i) 2):=by simp [bW,hi]
def C7g{k s:Int}{d:List Int}:(C9 k l s p d).set (4+i) (cI x)=C9 k l s p (d.set i x):=by
 rw [show 4+i=i+1+1+1+1 by omega];simp only [C9,List.set_cons_succ,A2d]
def C0G{D:List Int}(hD:l_ D=7)(hi:i<7):(D.take i++zI (7-i)).set i D[i]=D.take (i+1)++zI (7-(i+1)):=by
 have h6:(D.take i).length=i:=by simp;omega
 rw [E70 _ _ (by omega),h6,E8l,E7E (by omega),E7i];refine congrArg (D.take i ++ ·) ?_;rw [show 7-i=7-(i+1)+1 by omega];unfold zI;rw [E7P,E8p];rfl
def D0i{g:A9}{b:List UInt8}{k l s p:Int}{c0:List Cell}{q:Nat}(hb:l_ b=32)(hz:z.length=11):∀ e i m:Nat,i+e=6->e<m ->
  B9Z q m (pV (l_ g+1) 0) (pV (l_ g+2) 0) (pV (l_ g+3) 0) (iV i) (g++[rT c0,rT z,rT (B4 (R5 256 b)),rT (C9 k l s p ((bW b).take i++zI (7-i)))]) =
   A4 (.a (C9 k l s p (bW b)),g++[rT c0,rT (C9 k l s p (bW b)),rT (B4 (R5 256 b)),rT (C9 k l s p (bW b))])
 | e,i,0,_,hm=>by omega
 | 0,i,m+1,hi,hm=>by
  have e0:i=6:=by omega
  subst e0;have h1':¬ ((6:Nat):Int)<6:=by omega
  have hX:(B4 (R5 256 b)).length=256:=by rw [B5,I5 (by omega)]
  have ha:=λh=>qQ (h:=h) (l:=R5 256 b) (I5 (by omega)) (a:=22) (w:=2)
  have e1:=D5c (b:=b) (a:=22) (w:=2) (by omega) (by omega) (by omega) (by omega);simp only [E8q] at e1;simp only [e1] at ha;have ho:(encI ((bW b).take 6++zI (7-6))).length=7:=by simp [B9,N0,N7]
  have hg6:(bW b)[6]'(by rw [N0];omega)=fieldN b 22 2:=by
   have:=C2e (b:=b) (i:=6) (by omega);rw [E64 (by rw [N0];omega)] at this;exact E8n this
  have es:(C9 k l s p ((bW b).take 6++zI (7-6))).set 10 (cI (fieldN b 22 2))=C9 k l s p (bW b):=by
   have h1:=C7g (k:=k) (l:=l) (s:=s) (p:=p) (x:=fieldN b 22 2) (d:=(bW b).take 6++zI (7-6)) (i:=6);rw [show 4+6=10 from rfl] at h1;rw [h1,<-hg6,C0G N0 (by omega)];have:(bW b).take (6+1)++zI (7-(6+1))=bW b:=by rw [E7r (by rw [N0];omega)];simp [zI]
   rw [this]
  have hl1:(C9 k l s p (bW b)).length=11:=by simp [B9,N0]
  rw [B1X];simp only [esc,esh,Nat.reduceAdd,Nat.reduceLT,h1',hX,ha,ho,es,hl1,hz]
 | e+1,i,m+1,hi,hm=>by
  have ih:=D0i (g:=g) (k:=k) (l:=l) (s:=s) (p:=p) (c0:=c0) (q:=q) hb hz e (i+1) m (by omega) (by omega);have h1':(i:Int)<6:=by omega
  have hX:(B4 (R5 256 b)).length=256:=by rw [B5,I5 (by omega)]
  have e2:E7f .i64 (2*(i:Int))=((2*i:Nat):Int):=by rw [wrap_i64 (by omega) (by omega)];omega
  have e3:E7f .i64 (10+((2*i:Nat):Int))=((10+2*i:Nat):Int):=by rw [wrap_i64 (by omega) (by omega)];omega
  have ha:=λh=>qQ (h:=h) (l:=R5 256 b) (I5 (by omega)) (a:=((10+2*i:Nat):Int)) (w:=2)
  have e1:=D5c (b:=b) (a:=10+2*i) (w:=2) (by omega) (by omega) (by omega) (by omega);rw [show ((2:Nat):Int)=2 from rfl] at e1;simp only [e1] at ha;have a1:L6 6 1 (pV (l_ g+3) 4) (iV (i:Int))=A4 (pV (l_ g+3) (4+i)):=by rw [Q7 (by omega)];simp
  have ho:(encI ((bW b).take i++zI (7-i))).length=7:=by simp [B9,N0,N7];omega
  have ho2:4+i<11:=by omega
  have hgi:(bW b)[i]'(by rw [N0];omega)=fieldN b (10+2*i) 2:=by
   have:=C2e (b:=b) (i:=i) (by omega);rw [E64 (by rw [N0];omega)] at this;exact E8n this
  have es:(C9 k l s p ((bW b).take i++zI (7-i))).set (4+i) (cI (fieldN b (10+2*i) 2))=C9 k l s p ((bW b).take (i+1)++zI (7-(i+1))):=by
   rw [C7g,<-hgi,C0G N0 (by omega)]
  rw [B1X];simp only [esc,esh,Nat.reduceAdd,h1',hX,e2,e3,ha,a1,ho,ho2,es,E3 (a:=i) (by omega)];exact ih
def B09(hb:l_ b=32):B3w [.a (B4 b)] h=A4 (.a (C9 (B2t b) (B4h b) (B4j b) (B4i b) (bW b)),h):=by
 have key:∀ N,7<N->∀ g,∃ g',B20 N [.a (B4 b)] g=A4 (.a (C9 (B2t b) (B4h b) (B4j b) (B4i b) (bW b)),g'):=by
  intro N hN g;have hl:(B4 b).length=32:=by rw [B5,hb]
  have hX:(B4 (R5 256 b)).length=256:=by rw [B5,I5 (by omega)]
  have hz:(E68 256 (Cell.i .u8 0)).length=256:=E7F;have z11:[o0,o0,o0,o0,o0,o0,o0,o0,o0,o0,o0]=C9 0 0 0 0 (zI 7):=rfl;have l11:(C9 0 0 0 0 (zI 7)).length=11:=rfl;have ho:=B5w (h:=g++[rT (B4 b),rT (C9 0 0 0 0 (zI 7))]) (v:=sV (l_ g) 0 32 1) (nv:=32) (data:=b) (Has.tr (by simp) (by omega) (W1 _)) (by omega);rw [D14 (by omega)] at ho;have at_:∀ (a w:Nat),a+w<=32->1<=w->w<=4->∀ h,A15 [.a (B4 (R5 256 b)),iV a,iV w] h=A4 (iV (fieldN b a w),h):=λa w h1 h2 h3 h=>by
   rw [qQ (I5 (by omega)),D5c (by omega) (by omega) h2 h3]
  have a1:=at_ 0 1 (by omega) (by omega) (by omega);have a2:=at_ 2 2 (by omega) (by omega) (by omega);have a3:=at_ 4 4 (by omega) (by omega) (by omega);have a4:=at_ 8 2 (by omega) (by omega) (by omega);simp only [E8q] at a1 a2 a3 a4;have ef:F9 (C9 0 0 0 0 (zI 7)) [(0,1,iV (fieldN b 0 1)),(1,1,iV (fieldN b 2 2)),(2,1,iV (fieldN b 4 4)),(3,1,iV (fieldN b 8 2))]=A4 (C9 (B2t b) (B4h b) (B4j b) (B4i b) (zI 7)):=rfl;have lf:(C9 (B2t b) (B4h b) (B4j b) (B4i b) (zI 7)).length=11:=rfl;have:=D0i (g:=g) (b:=b) (k:=B2t b) (l:=B4h b) (s:=B4j b) (p:=B4i b) (c0:=B4 b) (z:=C9 0 0 0 0 (zI 7)) (q:=N) hb l11 6 0 N (by omega) (by omega);simp only [E75,E7A,Nat.sub_zero] at this;rw [C5v,z11];generalize E68 256 (Cell.i .u8 0)=z at *;generalize C9 0 0 0 0 (zI 7)=y at *;exact ⟨_,by simp only [esc,esh,Nat.reduceAdd,hl,ho,hz,hX,a1,a2,a3,a4,ef,l11,lf];exact this⟩
 obtain ⟨g',e⟩:=key (l_ h+8) (by omega) (ro h);exact C1w e (by simp)
def aW(b:List UInt8):Bool:=A5A (B2t b) (B4h b) (B4j b) (B4i b) (bW b)&&decide (cY (B2t b) (B4h b) (B4j b) (B4i b) (bW b)=b)
def oT(b:List UInt8):List Cell:=bif aW b then C9 (B2t b) (B4h b) (B4j b) (B4i b) (bW b) else C9 0 0 0 0 (zI 7)
def A8a:(oT b).length=11:=by
 unfold oT;cases aW b<;>simp [B9,N0,N7]
def B9K:O5 (oT b)=A5:=by
 unfold oT;cases aW b<;>simp
def C7h(hb:l_ b=32):A7T [.a (B4 b)] h=A4 (.t [.a (oT b),.c (.b (aW b))],h):=by
 have key:∀ g,∃ g',A7C 0 [.a (B4 b)] g=A4 (.t [.a (oT b),.c (.b (aW b))],g'):=by
  intro g;have hl:(B4 b).length=32:=by rw [B5,hb]
  have hI:(C9 (B2t b) (B4h b) (B4j b) (B4i b) (bW b)).length=11:=by simp [B9,N0]
  have z11:[o0,o0,o0,o0,o0,o0,o0,o0,o0,o0,o0]=C9 0 0 0 0 (zI 7):=rfl;have l11:(C9 0 0 0 0 (zI 7)).length=11:=rfl;have af:=C1P;rw [z11] at af;have hz:(E68 32 (Cell.i .u8 0)).length=32:=E7F;have hp:=λh=>B90 (h:=h) (k:=B2t b) (l:=B4h b) (s:=B4j b) (p:=B4i b) (d:=bW b) N0
  have hB:(B4 (cY (B2t b) (B4h b) (B4j b) (B4i b) (bW b))).length=32:=by rw [B5,A2q N0]
  have hZ:(B4 (zeros 32)).length=32:=by rw [B5];exact zeros_length
  have hq:=C9C (l:=cY (B2t b) (B4h b) (B4j b) (B4i b) (bW b)) (m:=b) (n:=32) (A2q N0) hb;rw [C08,z11];unfold oT aW;generalize E68 32 (Cell.i .u8 0)=z at *;generalize C9 0 0 0 0 (zI 7)=y at *;cases c:A5A (B2t b) (B4h b) (B4j b) (B4i b) (bW b) with
  | false =>
   simp only [c,bZ] at hp;exact ⟨_,by simp only [esc,esh,Nat.reduceAdd,hl,B09 hb,hI,l11,hp,hz,hZ,Int.reduceEq,af,E7v]<;>rfl⟩
  | true =>
   simp only [c,R8] at hp;cases c2:decide (cY (B2t b) (B4h b) (B4j b) (B4i b) (bW b)=b) with
   | false =>
    rw [c2] at hq;exact ⟨_,by simp only [esc,esh,Nat.reduceAdd,hl,B09 hb,hI,l11,hp,hz,hB,hq,af,Bool.and_false]<;>rfl⟩
   | true =>
    rw [c2] at hq;exact ⟨_,by simp only [esc,esh,Nat.reduceAdd,hl,B09 hb,hI,l11,hp,hz,hB,hq]<;>rfl⟩
 obtain ⟨g',e⟩:=key (ro h);exact B7x e (by simp [B9K])
section
variable (n m m2:Nat) (a0 a1 a2 x1 x2 x3 x4 x5 x6 x7 x8 x9 x10 x11 x12 x15 x16 x17 x20 x21:Val) (h:A9)
def A1u:FD A8:=⟨px 0X16f2013803804045500521103a2342,[],[.min (.t 4) (.v (.c (cI 5))),.max (.v (.c o0)) (.t 5)],[.tmp 2],[]⟩
def A7y:=A1u.R
def C04:=mR A7y A1u (tT []) n [a0] h
def gC:=A1u.K Tryz.func127
def cM:=A1u.S
def B7t:G3 A7y cM:=gC.flat
def A3w:FD A8:=⟨px 0X118f20306197ffffd0191b1a71b701104261700523201042,[],[],[.tmp 2],[]⟩
def B8J:=A3w.R
def C4h:=mR B8J A3w (tT []) n [a0] h
def A91:=A3w.K Tryz.func128
def A3I:=A3w.S
def B89:G3 B8J A3I:=A91.flat
def uV:FD A8:=⟨px 0X113022f48864f4884c1c3024bf2d053c0221827c488601941a4236e1028902019626a16a4883d1c7180153026c488601c3b371111113722403f01334e39036f420338f12ff50618487a414484a18215030702441328901215d4200605110481814c2b2b35b591820132af2488611c145a052964230403e501130785b134b123b112b104194101d18d721919411930153022c488601c3b371062240632101032849180401c72b40192f4303111c4c03a353182,[.c (.i .u8 105),.c (.i .u8 100),.c (.i .u8 120),.c (.i .u8 33)],[],[.cellN 2 256,.tmp 3],[D9 cM gC,D9 A8S B2G,D9 uD A4l,D9 A3I A91]⟩
def B2Y:=uV.R
def B9Y:AtH:=uV.lj 0 n [m] [x2,x4,x20,x21]
def C28:=tT [⟨2,4,B9Y⟩]
def C5u:=mR B2Y uV C28 n [a0] h
def B1V:=mL uV C28 0 n [m] [x2,x4,x20,x21] h
def B2C:=uV.K Tryz.func81
def A6u:=uV.S
def C5R:SOk A8 81 A6u:=B2C.sok
def C1v:G3 B2Y A6u:=B2C.flat
def A3x:FD A8:=⟨px 0X16f20051b2058010344918500521103a2342,[],[],[.tmp 2],[D9 cM gC]⟩
def B0l:=A3x.R
def C4i:=mR B0l A3x (tT []) n [a0] h
def jP:=A3x.K Tryz.func122
def fG:=A3x.S
def B9a:G3 B0l fG:=jP.flat
def jB:FD A8:=⟨px 0X113022f4964f49691c3025af180500218a59031801793022f49601f3b3711107224103204401482d14f518e5b051bf4235313270242890127e4f021a94203016254ef18001234f494d1c329421915301793022f49601f3b3711622401b181907e4e1f4887e3c6c4887e3c0110325c3d0718f422200333cf13bf248861c61b11828063b2c3af38001135a49391c181a1c331a22ff1c052e02218422a1e01482d14a519018303028902019623813e488182c1f019181ef50412284215030702441328901213b420060511c013942031bf24961f41b01011f3b529030328488191c51942111f4c03a353182,[],[.eqA A5 (E68 256 (.i .u8)) (.t 32) (.t 33)],[.cellN 2 33,.tmp 3],[D9 A15 A8w,D9 A6u B2C,D9 fG jP]⟩
def B2X:=jB.R
def B9V:AtH:=jB.lj 0 n [m] [x1,x2,x4,x12]
def B9W:AtH:=jB.lj 1 n [m] [x2,x4,x8]
def B3E:=tT [⟨2,4,B9V⟩,⟨2,3,B9W⟩]
def C5t:=mR B2X jB B3E n [a0] h
def B1R:=mL jB B3E 0 n [m] [x1,x2,x4,x12] h
def B1S:=mL jB B3E 1 n [m] [x2,x4,x8] h
def B2B:=jB.K Tryz.func77
def A6t:=jB.S
def C5Q:SOk A8 77 A6t:=B2B.sok
def C1t:G3 B2X A6t:=B2B.flat
def kW:FD A8:=⟨px 0X11b401022bf7053802b492180134013c000002722401a22104401482d13a53a104401482d12a51a1a0180194d25319f5041264215030702441340121294200605111a6021f1d462820023340422e253182,[],[],[.tmp 4],[]⟩
def A7z:=kW.R
def B4r:AtH:=kW.lj 0 n [m] [x1,x2,x6,x7]
def B6v:=tT [⟨2,4,B4r⟩]
def C05:=mR A7z kW B6v n [a0,a1] h
def A61:=mL kW B6v 0 n [m] [x1,x2,x6,x7] h
def A7k:=kW.K Tryz.func129
def A1H:=kW.S
def B7u:G3 A7z A1H:=A7k.flat
def iE:FD A8:=⟨px 0X14ff607e4f02600001724af19004026c15e4804184ef1800613901011113e6e16e4b05181541307024061201036c49184e3c047f4203006053bf190041824e16839042b271c200003314a1294238f70051b20581380380113484918482a0181f6301d201164812e00001722401b1a19064381a010382f2e49383c383870110122a1a0184b42031648632e27531c2,[],[.min (.t 18) (.t 20),.max (.v (.c o0)) (.t 21)],[.tmp 6],[D9 fG jP,D9 cM gC]⟩
def A4E:=iE.R
def B1U:AtH:=iE.lj 0 n [m] [x3,x7,x8,x9]
def B3F:=tT [⟨2,4,B1U⟩]
def B8I:=mR A4E iE B3F n [a0,a1,a2] h
def B70:=mL iE B3F 0 n [m] [x3,x7,x8,x9] h
def A4j:=iE.K Tryz.func149
def xX:=iE.S
def B7q:A4u A4E xX:=A4j.out
def kX:FD A8:=⟨px 0X11b601022df1b052c02d492180136013c0000003722404324a104401482d13a51e1f06592521ef1800441811d3184215030702451340121394200605110292819032f2d2b652c2000033360632e27531c2,[],[],[.tmp 6],[]⟩
def A7A:=kX.R
def B4s:AtH:=kX.lj 0 n [m] [x2,x3,x9,x10,x11]
def B6w:=tT [⟨2,5,B4s⟩]
def C06:=mR A7A kX B6w n [a0,a1,a2] h
def A62:=mL kX B6w 0 n [m] [x2,x3,x9,x10,x11] h
def B6d:=kX.K Tryz.func170
def A7R:=kX.S
def B7v:G3 A7A A7R:=B6d.flat
def pT:FD A8:=⟨px 0X14ff4001132f494e1c3024df28055a04d49218014cf407e127e00000037224302e1901a2a33692f20691e40148696a17a691f7a69704632692f5e6976c6976849693c5e49693c01103204401482d14c54c2b01f01918f432af504123842150307024413401214b420060511011338491e1c3493f61c240530114012a0000722401b1a19064281a010282f2849283c282870110121a60183b4203140422e253182,[],[],[.tmp 4],[D9 fG jP,D9 cM gC,D9 xX A4j,D9 A7R B6d]⟩
def B0k:=pT.R
def B6R:AtH:=pT.lj 0 n [m] [x1,x2,x15,x16]
def B9m:=tT [⟨2,4,B6R⟩]
def C4g:=mR B0k pT B9m n [a0,a1] h
def A9x:=mL pT B9m 0 n [m] [x1,x2,x15,x16] h
def B8x:=pT.K Tryz.func150
def B0G:=pT.S
def B88:G3 B0k B0G:=B8x.flat
def cK:FD A8:=⟨px 0X12df40482d021a0000003722cf19052e02c4921802bf5050023a13182404223e104401482d12e51c1c064b3521bf60412184215011a07024513401212d42006051101031a4971c32b296328200231111b42140422e253182,[],[],[.tmp 4],[D9 fG jP]⟩
def A7x:=cK.R
def B4p:AtH:=cK.lj 0 n [m] [x1,x2,x5,x8,x9]
def C7e:AtH:=cK.lj 1 n [m] [x1,x2,x5,x8,x9]
def A74:=tT [⟨2,5,B4p⟩,⟨2,5,C7e⟩]
def C03:=mR A7x cK A74 n [a0,a1] h
def A60:=mL cK A74 0 n [m] [x1,x2,x5,x8,x9] h
def A6Z:=mJ cK A74 1 n [m] [x1,x2,x5,x8,x9] h
def B6c:=cK.K Tryz.func151
def A7Q:=cK.S
def B7s:G3 A7x A7Q:=B6c.flat
def jA:FD A8:=⟨px 0X122f4963f496c1c211111104326bf290518c022180422a601482d13f55f14f15182401b3819018218c1a2042618c2f5f18c71f4918c3c018c4b0181a3518c2f042418c2f4f18c71f4918c3c4f18c71f4918c3c01042337817c49181e0191bd7530172401b181906c4d0126c2f5c6c70110224e38077d42032ff5004401482d1585482c051b422bf404123c4215011a07024513401214d42006051101133c491f1c34b4941c20131ef24961f31b01011f3b0402e55731820122a49601f3b21022240632101031e49180401a62b40192d43031f4c03a253182,[],[],[.cellN 2 33],[D9 cM gC,D9 fG jP,D9 A3I A91,D9 A1H A7k,D9 B0G B8x,D9 xX A4j,D9 A7Q B6c]⟩
def B2W:=jA.R
def A3U:AtH:=jA.lj 0 n [m] [x1,x2,x3,x16,x17]
def D1E:AtH:=jA.lj 1 n [m] [x1,x2,x3,x16,x17]
def B3D:=tT [⟨2,5,A3U⟩,⟨2,5,D1E⟩]
def C5s:=mR B2W jA B3D n [a0] h
def B1Q:=mL jA B3D 0 n [m] [x1,x2,x3,x16,x17] h
def kN:=mJ jA B3D 1 n [m] [x1,x2,x3,x16,x17] h
def B2A:=jA.K Tryz.func123
def A6s:=jA.S
def C5P:SOk A8 123 A6s:=B2A.sok
def C1s:G3 B2W A6s:=B2A.flat
def Y6:FD A8:=⟨px 0X13cf206a3c0250000003723bf7055803b4921803af3001c13901011113e04401482d15a54a14a118182430181904213f2f3a3f73e493f3c01103204401482d12c51c1a01a4f4219f40412184215011a0702441340121294200605110103184951c31f1d41c201314a174214a03a2342,[],[],[.tmp 2],[D9 fG jP,D9 A1H A7k]⟩
def A2J:=Y6.R
def A05:AtH:=Y6.lj 0 n [m] [x1,x3,x6,x7]
def C2h:AtH:=Y6.lj 1 n [m] [x1,x3,x6,x7]
def A2N:=tT [⟨2,4,A05⟩,⟨2,4,C2h⟩]
def B7d:=mR A2J Y6 A2N n [a0] h
def A3c:=mL Y6 A2N 0 n [m] [x1,x3,x6,x7] h
def sC:=mJ Y6 A2N 1 n [m] [x1,x3,x6,x7] h
def tO:=Y6.K Tryz.func82
def kF:=Y6.S
def uC:SOk A8 82 kF:=tO.sok
def B5U:A4u A2J kF:=tO.out
def A1s:FD A8:=⟨px 0X118f40062130103184918181500062140422e253182,[],[],[.tmp 4],[D9 cM gC,D9 C1y C9r]⟩
def A7v:=A1s.R
def C01:=mR A7v A1s (tT []) n [a0,a1] h
def A7j:=A1s.K Tryz.func103
def A1F:=A1s.S
def C1u:SOk A8 103 A1F:=A7j.sok
def B7p:G3 A7v A1F:=A7j.flat
def A1t:FD A8:=⟨px 0X128f20301a1902f4e33a492f3c0102f2f2e492f3c013018192d0191d1a01d1e01c1d1f011042040451c01900533103a2342,[],[.eqA A6 ([.i .i64]++E68 32 (.i .i64)) (.t 13) (.t 14)],[.tmp 2],[D9 A6s B2A]⟩
def A7w:=A1t.R
def C02:=mR A7w A1t (tT []) n [a0] h
def B6b:=A1t.K Tryz.func135
def A1G:=A1t.S
def B7r:G3 A7w A1G:=B6b.flat
end
section
variable (n m m2:Nat) (a0 a1 a2 a3 x0 x1 x2 x3 x4 x5 x7 x8 x19 x20 x21:Val) (h:A9)
def A33:FD A8:=⟨px 0X15cf607f5c02020116011d00622403f042037f1031803f4f2b51af42100013304ef7006223390722f106213041a7a57a4481c1818243ff3a006203041a6a503180683b2b66d45239f700440162d44e5582e0518242df2b0390124c2c034f651c20510201a1111f46502920116013800001722401b61918b9043e1a3c3e70101b6191012e1a2c2e701503204018182b1b4d420316063a632e319751c2,[],[],[.tmp 6],[D9 X3 aH,D9 E2 F0,D9 qI A3D]⟩
def C0X:=A33.R
def C60:AtH:=A33.lj 0 n [] [x3,x7]
def C9x:=tT [⟨1,2,C60⟩]
def D07:=mR C0X A33 C9x n [a0,a1,a2] h
def C82:=mJ A33 C9x 0 n [] [x3,x7] h
def C0N:=A33.K Tryz.func108
def A8N:=A33.S
def D1e:SOk A8 108 A8N:=C0N.sok
def C5M:G3 C0X A8N:=C0N.flat
def A3s:FD A8:=⟨px 0X148f50478496102268168493e1c5411623df13cf24961f61b1282801e3c2c3bf2d001230182130410162d45855842e1c1c1f1d11920135024849601f3b33c1000722401b281902e4d018202e2f02e1e10162e6a42e2e1f032e3c02c2e1f01190320401a182b1c4f4203311f4c43a422e419751c2,[],[],[.cellN 4 33,.tmp 5],[D9 X3 aH,D9 E2 F0,D9 A6t B2B]⟩
def B0e:=A3s.R
def C4b:=mR B0e A3s (tT []) n [a0,a1] h
def wV:=A3s.K Tryz.func102
def jS:=A3s.S
def B83:G3 B0e jS:=wV.flat
def aP:FD A8:=⟨px 0X14af406e4a024a000000047249f2d053804949218048f700613901011113e5a15c151824042234c1031805e392b4794238f1900441811d33a4215011a07024513401215d42006051102901133a492a1c45b594f52820023174811f1b401d201144813a0000722403f2c28024b422131ff11ef24961f51b11a280181e2c1df1a0042032a1b182a41b1c191d1b119214a43a422e375182,[],[],[.tmp 4],[D9 jS wV,D9 kF tO,D9 X3 aH]⟩
def A4C:=aP.R
def B1O:AtH:=aP.lj 0 n [m] [x2,x7,x19,x20,x21]
def C4L:AtH:=aP.lj 1 n [m] [x2,x7,x19,x20,x21]
def A4Z:=tT [⟨2,5,B1O⟩,⟨2,5,C4L⟩]
def B8G:=mR A4C aP A4Z n [a0,a1] h
def A5p:=mL aP A4Z 0 n [m] [x2,x7,x19,x20,x21] h
def A5o:=mJ aP A4Z 1 n [m] [x2,x7,x19,x20,x21] h
def wU:=aP.K Tryz.func159
def oB:=aP.S
def B7n:A4u A4C oB:=wU.out
def kU:FD A8:=⟨px 0X1b72a118024e2a01813901011113e041a4c53e461824301c1906202f2f02f1e1a3a2f1f032f3c02c2f1f013018195021d1a01d1e01c1d1f0103f74591e4b731c20401a,[],[],[],[D9 X3 aH]⟩
def B6o:=kU.R
def A5q:AtH:=kU.lj 0 n [] [x0]
def B6t:=tT [⟨1,1,A5q⟩]
def pX:=mR B6o kU B6t n [a0,a1,a2,a3] h
def A6U:=mJ kU B6t 0 n [] [x0] h
def A7i:=kU.K Tryz.func162
def lD:=kU.Q
def qG:OfT B6o lD:=A7i.of
def T0:FD A8:=⟨px 0X22c2a0613901011113e2c11e45180005f1c4218243904276021f5182731801a,[],[],[],[gG lD A7i]⟩
def A0j:=T0.R
def zZ:L7:=T0.E
def B03:AtH:=T0.lj 0 n [] [x1,x3]
def A0n:TT:=⟨zZ,[⟨1,2,B03⟩]⟩
def sJ:=mR A0j T0 A0n n [a0,a1,a2,a3] h
def rE:=mJ T0 A0n 0 n [] [x1,x3] h
def A0e:=T0.K Tryz.func164
def dT:=T0.Q
def sM:OfT A0j dT:=A0e.of
def P5:FD A8:=⟨px 0X2df18053a02218004265f3813813e1418241032281f0249421ef700463031e1281b182841b1c51f421af6041264215011a0702441318b901212b420060511801294263a632e219751c2,[],[],[],[D9 A8N C0N,gG dT A0e]⟩
def A25:=P5.R
def rN:L7:=P5.E
def A2i:AtH:=P5.lj 0 n [m] [x2,x3,x4,x8]
def B4b:AtH:=P5.lj 1 n [m] [x2,x3,x4,x8]
def rX:TT:=⟨rN,[⟨2,4,A2i⟩,⟨2,4,B4b⟩]⟩
def B0f:=mR A25 P5 rX n [a0,a1,a2] h
def A9s:=mL P5 rX 0 n [m] [x2,x3,x4,x8] h
def A9r:=mJ P5 rX 1 n [m] [x2,x3,x4,x8] h
def A2Z:=P5.K Tryz.func163
def rS:=P5.Q
def B0E:OfT A25 rS:=A2Z.of
def V0:FD A8:=⟨px 0X14ef405f4219052005f6e421120463237a6a22cc5e7c1b187c4481c400223ff22a6191b6c7a785e42ca3f18932b352322a4181b2291b240292013ef400181392042136a1b186a4185a440195a000017302582a01a13901011113e0410162d44c53e471824382b014f3522af129f24961f61b11a28018292c28f1d004203381b183841e1c191a423101a24190220401e1a2b339420324c11b4214a43a422e375182,[],[],[.tmp 4],[D9 jS wV,D9 oB wU,gG rS A2Z,gG lD A7i]⟩
def V1:=V0.R
def A2X:L7:=V0.E
def A2h:AtH:=V0.lj 0 n [] [x2,x3,x5]
def A28:TT:=⟨A2X,[⟨1,3,A2h⟩]⟩
def xI:=mR V1 V0 A28 n [a0,a1] h
def A9q:=mJ V0 A28 0 n [] [x2,x3,x5] h
def rQ:=V0.K Tryz.func139
def Y5:=V0.S
def A8O:E1W V1 Y5:=rQ.low
def A8P:A4u V1 Y5:=rQ.out
end
def C2B(D:Dev)(n:Int)(d:List Int)(j:Nat):Int :=
 if j<6 then d.getD j 0 else bif F6 (l_ D) n (d.getD 6 0) then ptP (blk D (d.getD 6 0)) (j-6) else 0
def fM(D:Dev)(n:Int)(d:List Int)(j:Nat):Int:=bif F6 (l_ D) n (C2B D n d j) then C2B D n d j else 0
def atF(D:Dev)(n k:Int)(d:List Int)(j:Int):Int:=if k=1/\0<=j/\j<134 then fM D n d j.toNat else 0
def C83{r:Option Row}:C60 q (pV (l_ g) 0) (iV no) (g++[rT (vwC (l_ D) n m f),r])=A4 (iV (bif F6 (l_ D) n no then no else 0),g++[rT (vwC (l_ D) n m f),r]):=by
 have l3:=C3Z (b:=l_ D) (n:=n) (m:=m) (f:=f);have hI:=λh=>Y3 (b:=l_ D) (n:=n) (m:=m) (i:=no) (h:=h)
 rw [C82];generalize vwC (l_ D) n m f=V at *;cases c:F6 (l_ D) n no with
 | false =>
  simp only [c] at hI;simp only [esc,esh,Nat.reduceAdd,Nat.reduceMul,Nat.reduceLT,l3,hI]
 | true =>
  simp only [c] at hI;simp only [esc,esh,Nat.reduceAdd,Nat.reduceMul,Nat.reduceLT,l3,hI]
def C6Z{k s j:Int}{d:List Int}(hD:okD D)(hd:l_ d=7)(hv:IsView h f D) :
  A8N [.a (vwC (l_ D) n m f),.a (C9 k l s p d),iV j] h=A4 (iV (atF D n k d j),h):=by
 have key:∀ g,IsView g f D->∃ g',C0X 0 [.a (vwC (l_ D) n m f),.a (C9 k l s p d),iV j] g=A4 (iV (atF D n k d j),g'):=by
  intro g hv;have l3:=C3Z (b:=l_ D) (n:=n) (m:=m) (f:=f);have l4:=B65 (b:=l_ D) (n:=n) (m:=m) (f:=f);have i0:(C9 k l s p d)[0]?=A4 (cI k):=rfl;have i10:(C9 k l s p d)[10]?=A4 (cI (d.getD 6 0)):=by
   have:(C9 k l s p d)[10]?=(encI d)[6]? := rfl;rw [this,G7,E64 (by omega),E67,E64 (by omega)];rfl
  have hJ:=λno=>C83 (D:=D) (n:=n) (m:=m) (no:=no) (f:=f) (q:=0) (g:=g) (r:=rT (C9 k l s p d))
  rw [D07];by_cases c1:k=1
  ·by_cases c2:j<0
   ·have e:atF D n k d j=0:=by unfold atF;rw [C5 (by omega)]
    rw [e];generalize vwC (l_ D) n m f=V at *;generalize C9 k l s p d=I at *;exact ⟨_,by simp only [esc,esh,Nat.reduceAdd,Nat.reduceMul,Nat.reduceLT,eq_self,i0,c1,c2]<;>rfl⟩
   ·by_cases c3:134<=j
    ·have e:atF D n k d j=0:=by unfold atF;rw [C5 (by omega)]
     rw [e];generalize vwC (l_ D) n m f=V at *;generalize C9 k l s p d=I at *;exact ⟨_,by simp only [esc,esh,Nat.reduceAdd,Nat.reduceMul,Nat.reduceLT,eq_self,i0,c1,c2,c3]<;>rfl⟩
    ·obtain ⟨i,rfl⟩:∃ i:Nat,j=i:=⟨j.toNat,by omega⟩;have e:atF D n k d i=fM D n d i:=by unfold atF;rw [C4 (by omega),E7s]
     rw [e];unfold fM;by_cases c4:(i:Int)<6
     ·have er:C2B D n d i=d.getD i 0:=by unfold C2B;rw [C4 (by omega)]
      have ia:(C9 k l s p d)[4+i]?=A4 (cI (d.getD i 0)):=by
       have:(C9 k l s p d)[4+i]?=(encI d)[i]? := by
        rw [Nat.add_comm];rfl
       rw [this,G7,E64 (by omega),E67,E64 (by omega)];rfl
      have ad:=Q7 (k:=.i64) (id:=l_ g+1) (off:=4) (sz:=1) (j:=i) (n:=6) (by omega);rw [E8i] at ad;rw [er];generalize vwC (l_ D) n m f=V at *;generalize C9 k l s p d=I at *;exact ⟨_,by simp only [esc,esh,Nat.reduceAdd,Nat.reduceMul,Nat.reduceLT,eq_self,i0,c1,c2,c3,c4,ad,ia,hJ]<;>rfl⟩
     ·have er:C2B D n d i=bif F6 (l_ D) n (d.getD 6 0) then ptP (blk D (d.getD 6 0)) (i-6) else 0:=by unfold C2B;rw [C5 (by omega)]
      have hI:=λh=>Y3 (b:=l_ D) (n:=n) (m:=m) (i:=d.getD 6 0) (h:=h)
      rw [er];cases c5:F6 (l_ D) n (d.getD 6 0) with
      | false =>
       simp only [c5] at hI;generalize vwC (l_ D) n m f=V at *;generalize C9 k l s p d=I at *;exact ⟨_,by simp only [esc,esh,Nat.reduceAdd,Nat.reduceMul,Nat.reduceLT,eq_self,i0,i10,c1,c2,c3,c4,l3,hI,hJ]<;>rfl⟩
      | true =>
       simp only [c5] at hI;have hB:=N2 (n:=n) (m:=m) (no:=d.getD 6 0) (h:=g++[rT (vwC (l_ D) n m f),rT (C9 k l s p d)]) hD (hv.more _);have w:E7f .i64 ((i:Int)-6)=((i-6:Nat):Int):=by rw [wrap_i64 (by omega) (by omega)];omega
       have hP:=λh=>A8k (b:=blk D (d.getD 6 0)) (k:=i-6) (h:=h) (J8 hD) (by omega)
       generalize vwC (l_ D) n m f=V at *;generalize C9 k l s p d=I at *;exact ⟨_,by simp only [esc,esh,Nat.reduceAdd,Nat.reduceMul,Nat.reduceLT,eq_self,i0,i10,c1,c2,c3,c4,l3,l4,hI,hB,w,hP,hJ]<;>rfl⟩
  ·have e:atF D n k d j=0:=by unfold atF;rw [C5 (by omega)]
   rw [e];generalize vwC (l_ D) n m f=V at *;generalize C9 k l s p d=I at *;exact ⟨_,by simp only [esc,esh,Nat.reduceAdd,Nat.reduceMul,Nat.reduceLT,eq_self,i0,c1]<;>rfl⟩
 obtain ⟨g',e⟩:=key (ro h) hv.ro;exact C5M e rfl
def B8b{id n:Nat}(hr:rd h id=rT cs)(hl:l_ cs=n*sz)(hy:l_ ys=sz)(hsz:0<sz)(hn:n+1<=1073741824) :
  ∃ h',uL (h++[rT ys]) sz (sV id 0 n sz) (sV (l_ h) 0 1 sz)=A4 (sV (l_ h+1) 0 (n+1) sz,h')/\rd h' (l_ h+1)=rT (cs++ys)/\(∀ i r,i≠id->rd h i=A4 r->rd h' i=A4 r)/\(∀ b,b<=id->b<=l_ h->Low b h h'):=by
 refine ⟨(h++[rT ys]).set id A7++[rT (cs++ys)],?_,?_,λi r hi hir=>?_,λb hb hb2=>(((Low.refl hb2).new _).set hb A7).new _⟩
 ·rw [A76 (h:=h++[rT ys]) (m:=1) (B6 hr) hl O2 (by omega) rfl hsz hn];simp
 ·have:=O2 (h:=(h++[rT ys]).set id A7) (r:=Row.mk (cs++ys) A5);rw [E7R] at this;simpa using this
 ·refine B6 ?_;rw [B7 (Ne.symm hi)];exact B6 hir
def C9p(h:A9)(x:Cell)(l:List Int)(b:Nat)(rs:List Nat):Prop:=(l=[]/\x=.ns)\/∃ id,x=.sl id 0 (l_ l) 1/\rd h id=rT (encI l)/\b<=id/\id ∉ rs
def VarI(h:A9)(r:Nat)(l:List Int)(b:Nat)(rs:List Nat):Prop:=∃ x,rd h r=rT [x]/\C9p h x l b rs
def VarI.nil{b:Nat}{rs:List Nat}(hr:rd h r=rT [.ns]):VarI h r [] b rs:=⟨.ns,hr,.inl ⟨rfl,rfl⟩⟩
def VarI.keep{h':A9}{b:Nat}{l:List Int}(hv:VarI h r l b rs)(h1:rd h' r=rd h r)(h2:∀ id,id ∉ rs->∀ x,rd h id=A4 x->rd h' id=A4 x):VarI h' r l b rs:=by
 obtain ⟨x,hx,hd⟩:=hv;refine ⟨x,by rw [h1];exact hx,?_⟩;rcases hd with hd | ⟨id,e,hr,hb,hn⟩
 ·exact .inl hd
 ·exact .inr ⟨id,e,h2 id hn _ hr,hb,hn⟩
def C4Y{jd m:Nat}(hy:rd h jd=rT ys)(hyl:l_ ys=m*sz)(hsz:0<sz)(hn:m<=1073741824) :
  uL h sz (.c .ns) (sV jd 0 m sz)=A4 (sV (l_ h) 0 m sz,h++[rT ys]):=by
 have h2:V7 h sz (sV jd 0 m sz)=A4 ys:=by
  simp only [V7,if_true,qW,hy,E7l,E7n,E7o];rw [<-hyl,List.take_length,C4 ⟨E69 _,rfl⟩]
 have e1:l_ ys/sz=m:=by rw [hyl];exact Nat.mul_div_cancel _ hsz
 simp only [uL,h2,E7l];rw [e1,C4 hn]
def VarI.push{b:Nat}{l:List Int}(hv:VarI h r l b rs)(hr:r∈rs)(hbr:b<=r)(hbh:b<=l_ h)(X4:∀ j∈rs,j<l_ h)(hl:l_ l<=100000)(n:Int) :
  ∃ x v h2 h3,B8 h (pV r 0)=A4 (.c x)/\uL (h++[rT [cI n]]) 1 (.c x) (sV (l_ h) 0 1 1)=A4 (.c v,h2)/\I7 h2 (pV r 0) (.c v)=A4 h3 /\
   VarI h3 r (l++[n]) b rs/\Low b h h3/\(∀ j∈rs,j≠r->rd h3 j=rd h j)/\(l_ h)<=h3.length:=by
 obtain ⟨x,hx,hd⟩:=hv;have hrl:=E5 hx;have l1:B8 h (pV r 0)=A4 (.c x):=C1 hx rfl (by simp);rcases hd with ⟨rfl,rfl⟩ | ⟨id,rfl,hi,hb,hn⟩
 ·have hA:=C4Y (h:=h++[rT [cI n]]) (jd:=l_ h) (m:=1) (sz:=1) (ys:=[cI n]) (by simp) rfl (by omega) (by omega);have e1:(h++[rT [cI n]]).length=l_ h+1:=by simp
  rw [e1] at hA;have hr2:rd (h++[rT [cI n]]++[rT [cI n]]) r=rT [.ns]:=B6 (B6 hx);have s1:=I8 (x:=.sl (l_ h+1) 0 1 1) (off:=0) hr2 (by simp);refine ⟨.ns,_,_,_,l1,hA,s1,⟨.sl (l_ h+1) 0 1 1,E1 (E5 hr2),.inr ⟨l_ h+1,rfl,?_,by omega,λh1=>by have:=X4 _ h1;omega⟩⟩,(((Low.refl hbh).new _).new _).set hbr _,λj hj hjr=>?_,by simp⟩
  ·rw [B7 (by omega)];have:=O2 (h:=h++[rT [cI n]]) (r:=⟨[cI n],A5⟩);rw [e1] at this;exact this
  ·rw [B7 (Ne.symm hjr)];have:=X4 j hj;rw [D5 (by simp;omega),D5 this]
 ·have K6:=E5 hi;have Z2:id≠r:=λe=>hn (e ▸ hr)
  have hA:=A76 (h:=h++[rT [cI n]]) (id:=id) (jd:=l_ h) (n:=l_ l) (m:=1) (sz:=1) (cs:=encI l) (ys:=[cI n]) (rw:=A5) (B6 hi) (by rw [B9,E8i]) (by simp) rfl rfl (by omega) (by omega);have e1:(h++[rT [cI n]]).length=l_ h+1:=by simp
  rw [e1] at hA;have ee:encI l++[cI n]=encI (l++[n]):=by rw [jI];rfl
  rw [ee] at hA;have hr2:rd ((h++[rT [cI n]]).set id A7++[rT (encI (l++[n]))]) r=rT [.sl id 0 (l_ l) 1]:=by
   refine B6 ?_;rw [B7 Z2];exact B6 hx
  have s1:=I8 (x:=.sl (l_ h+1) 0 (l_ l+1) 1) (off:=0) hr2 (by simp);refine ⟨_,_,_,_,l1,hA,s1,⟨.sl (l_ h+1) 0 (l_ l+1) 1,E1 (E5 hr2),.inr ⟨l_ h+1,by simp,?_,by omega,λh1=>by have:=X4 _ h1;omega⟩⟩,((((Low.refl hbh).new _).set hb _).new _).set hbr _,λj hj hjr=>?_,by simp;omega⟩
  ·rw [B7 (by omega)];have:=O2 (h:=(h++[rT [cI n]]).set id A7) (r:=⟨encI (l++[n]),A5⟩);rw [E7R,e1] at this;exact this
  ·have hji:j≠id:=λe=>hn (e ▸ hj)
   have:=X4 j hj;rw [B7 (Ne.symm hjr),D5 (by simp;omega),B7 (Ne.symm hji),D5 this]
def fN(d:Int):Nat:=(max 0 (min d 5)).toNat
def B0Y(d:Int):fN d<=5:=by unfold fN;omega
def D6U(h0:0<=d)(h5:d<=5):((fN d:Nat):Int)=d:=by unfold fN;omega
def D9Z(d:Int):(max 0 (min d 5))=((fN d:Nat):Int):=by unfold fN;omega
def C6(d:Int):Nat:=2 ^ fN d
def C7V{n:Nat}(h:n<=5):2 ^ n<=32:=by
 have:=Nat.pow_le_pow_right (n:=2) (by omega) h;simpa using this
def U3(d:Int):C6 d<=32:=C7V (B0Y d)
def B43:[o0]++E68 32 o0=encI (0::zI 32):=by
 simp [encI,zI]
def toX(t:List Int)(i:Nat):Int:=t.getD i 0
def C5e(h:i<l_ t):t[i]?=A4 (toX t i):=by
 unfold toX;rw [E67,E64 h];rfl
def B7X(n:Int):Bool:=decide (0<=n)&&decide (n<=65535)
def B6S:A3I [iV n] h=A4 (bV (B7X n),h):=by
 refine B89 (n:=0) (h2:=ro h) ?_ rfl;rw [C4h];unfold B7X;by_cases c:0<=n
 ·simp only [esc,c,E7w]
 ·simp only [esc,c,E7v]
def G5(ht:l_ t=32):(encI (d::t)).length=33:=by rw [B9];simp [ht]
def E0f(ht:l_ t=32)(hi:i<32):(encI (d::t))[1+i]?=A4 (cI (toX t i)):=by
 rw [G7,Nat.add_comm 1 i,E7u,C5e (by omega)];rfl
def D3h{v:Int}:(encI (d::t)).set (1+i) (cI v)=encI (d::t.set i v):=by
 rw [A2d,Nat.add_comm 1 i,List.set_cons_succ]
def ldX{id:Nat}{rw:Bool}(hr:rd h id=A4 ⟨encI (d::t),rw⟩)(ht:l_ t=32)(hi:i<32):B8 h (pV id (1+i))=A4 (iV (toX t i)) :=
 C1 hr (E0f ht hi) (by simp [Cell.isX])
def adX{id:Nat}(hi:i<32):L6 32 1 (pV id (0+1)) (iV (i:Int))=A4 (pV id (1+i)):=by rw [Q7 hi];simp
def dN:cM [.a (encI (d::t))] h=A4 (iV (fN d:Nat),h):=by
 have key:∀ g,∃ g',A7y 0 [.a (encI (d::t))] g=A4 (iV (fN d:Nat),g'):=by
  intro g;have e1:B5Y (iV d) (iV 5)=A4 (iV (min d 5)):=by
   simp only [B5Y];by_cases h:(5:Int)<d
   ·rw [C4 h,Int.min_eq_right (by omega)]
   ·rw [C5 h,Int.min_eq_left (by omega)]
  have e2:C4E (iV 0) (iV (min d 5))=A4 (iV (fN d:Nat)):=by
   rw [<-D9Z];simp only [C4E];by_cases h:(min d 5:Int) > 0
   ·rw [C4 h,Int.max_eq_right (by omega)]
   ·rw [C5 h,Int.max_eq_left (by omega)]
  have e3:B8 (g++[rT (encI (d::t))]) (pV (l_ g) 0)=A4 (iV d):=C1 (O2) rfl rfl;rw [C04];generalize hz:encI (d::t)=z at *;exact ⟨_,by simp only [esc,e3,e1,e2]<;>rfl⟩
 obtain ⟨g',e⟩:=key (ro h);exact B7t e rfl
def D7y(hk:k<=5):O0 .shl (iV 1) (.c (.i .u64 (k:Int)))=A4 (iV ((2 ^ k:Nat):Int)):=by
 rw [B9p (by omega)];have h1:Nat.min (k:Int).toNat (IntKind.i64).bits=k:=by
  have:(IntKind.i64).bits=64:=rfl;rw [this,E7s];exact Nat.min_eq_left (by omega)
 have h2:=C7V hk;rw [h1,Int.one_mul];have e:(2:Int) ^ k=((2 ^ k:Nat):Int):=by simp
 rw [e];generalize 2 ^ k=y at h2 ⊢;rw [wrap_i64 (by omega) (by omega)]
def C2P(hk:k<=64):E7f .u64 (k:Int)=(k:Int):=wrap_u64 (by omega) (by omega)
def gO(ht:l_ t=32):fG [.a (encI (d::t))] h=A4 (iV (C6 d:Nat),h):=by
 have key:∀ g,∃ g',B0l 0 [.a (encI (d::t))] g=A4 (iV (C6 d:Nat),g'):=by
  intro g;have hl:=G5 (d:=d) ht;have hd:=λh=>dN (d:=d) (t:=t) (h:=h)
  have e1:=D7y (B0Y d);have e2:=C2P (k:=fN d) (by have:=B0Y d;omega);rw [C4i];unfold C6;generalize encI (d::t)=z at *;exact ⟨_,by simp only [esc,esh,hl,hd,e1,e2]<;>rfl⟩
 obtain ⟨g',e⟩:=key (ro h);exact B9a e rfl
def A02(t:List Int)(i:Nat):Bool:=(E7H i).all λk=>!decide (toX t k=toX t i)
def C6T{d:Int}{g:A9}{i q:Nat}(ht:l_ t=32)(hi:i<32):∀ e k m:Nat,k+e=i->e<m ->
  B4r q m (iV (i:Int)) (pV (l_ g) 0) (iV (i:Int)) (iV (k:Int)) (g++[rT (encI (d::t))]) =
   A4 (bV ((E7G k e).all λk=>!decide (toX t k=toX t i)),g++[rT (encI (d::t))])
 | e,k,0,_,hm=>by omega
 | 0,k,m+1,hk,hm=>by
  have c0:¬ (k:Int)<i:=by omega
  rw [A61];simp only [esc,c0,List.range'_zero]
 | e+1,k,m+1,hk,hm=>by
  have ih:=C6T (d:=d) (g:=g) (q:=q) ht hi e (k+1) m (by omega) (by omega);have c0:(k:Int)<i:=by omega
  have a1:=adX (id:=l_ g) (i:=k) (by omega);have a2:=adX (id:=l_ g) (i:=i) (by omega);have l1:=ldX (h:=g++[rT (encI (d::t))]) (id:=l_ g) O2 ht (i:=k) (by omega);have l2:=ldX (h:=g++[rT (encI (d::t))]) (id:=l_ g) O2 ht (i:=i) (by omega);rw [A61,List.range'_succ,E8e];by_cases c:toX t k=toX t i
  ·rw [R9 c,Bool.not_true,E7v];rw [c] at l1;simp only [esc,c0,a1,a2,l1,l2]
  ·rw [aC c,Bool.not_false,E7w];simp only [esc,c0,a1,a2,l1,l2,c,E3 (a:=k) (by omega)];exact ih
def B4q(ht:l_ t=32)(hi:i<32):A1H [.a (encI (d::t)),iV (i:Int)] h=A4 (bV (A02 t i),h):=by
 have key:∀ N,i<N->∀ g,∃ g',A7z N [.a (encI (d::t)),iV (i:Int)] g=A4 (bV (A02 t i),g'):=by
  intro N hN g;have e:=C6T (d:=d) (g:=g) (q:=N) ht hi i 0 N (by omega) hN;rw [C05];unfold A02;rw [List.range_eq_range'];exact ⟨_,by simp only [esc];exact e⟩
 obtain ⟨g',e⟩:=key (i+1) (by omega) (ro h);exact B7u e rfl
def Z5(n p b:Nat):List Nat:=(E7H n).filter λk=>k%2 ^ b==p%2 ^ b
def A3Q(l:List Nat):List Int:=l.map λ(n:Nat)=>(n:Int)
def B34(l:List Nat):(A3Q l).length=(l_ l):=by simp [A3Q]
def bX(d b:Int):Nat:=(max 0 (min b (fN d:Nat))).toNat
def E45(d b:Int):bX d b<=fN d:=by unfold bX;omega
def plX(d p b:Int):List Nat:=if 0<=p/\p<(C6 d:Nat) then Z5 (C6 d) p.toNat (bX d b) else []
def B5Z(n s r i:Nat):List Nat:=(E7H n).filter λk=>decide (k<i)&&(k%s==r)
def D7O{n s:Nat}(hs:0<s)(hi:i<n)(hr:i%s=r):B5Z n s r (i+s)=B5Z n s r i++[i]:=by
 unfold B5Z;have e:E7H n=E7H i++(i::E7G (i+1) (n-i-1)):=by
  have e1:E7H n=E7G 0 (i+(n-i-1+1)):=by
   rw [List.range_eq_range'];congr 1;omega
  rw [e1,<-List.range'_append_1,List.range_eq_range',E7o,List.range'_succ]
 rw [e,E8k,E8k,List.filter_cons,List.filter_cons];have h1:(E7H i).filter (λk=>decide (k<i+s)&&(k%s==r))=(E7H i).filter (λk=>decide (k<i)&&(k%s==r)):=by
  refine List.filter_congr λk hk=>?_
  have:=List.mem_range.1 hk;rw [R9 (show k<i+s by omega),R9 this]
 have h2:(E7G (i+1) (n-i-1)).filter (λk=>decide (k<i+s)&&(k%s==r))=[]:=by
  rw [List.filter_eq_nil_iff];intro k hk;have hk:=E8o.1 hk;by_cases c:k<i+s
  ·have:k%s≠r:=by
    intro e;have e1:=Nat.div_add_mod k s;have e2:=Nat.div_add_mod i s;rw [e] at e1;rw [hr] at e2;have e4:s*(i/s)<s*(k/s):=by omega
    have e5:i/s<k/s:=Nat.lt_of_mul_lt_mul_left e4;have e6:s*(i/s+1)<=s*(k/s):=Nat.mul_le_mul_left _ e5;rw [Nat.mul_add] at e6;omega
   simp [this]
  ·simp [c]
 have h3:(E7G (i+1) (n-i-1)).filter (λk=>decide (k<i)&&(k%s==r))=[]:=by
  rw [List.filter_eq_nil_iff];intro k hk;have hk:=E8o.1 hk;rw [aC (by omega)];simp
 rw [h1,h2,h3,hr];simp [hs]
def D9M{n s:Nat}(hi:n<=i):B5Z n s r i=(E7H n).filter λk=>k%s==r:=by
 unfold B5Z;refine List.filter_congr λk hk=>?_
 have:=List.mem_range.1 hk;rw [R9 (show k<i by omega),E7w]
def C6e{n s:Nat}:B5Z n s r r=[]:=by
 unfold B5Z;rw [List.filter_eq_nil_iff];intro k hk;by_cases c:k<r
 ·have:k%s<=k:=Nat.mod_le _ _;have:¬ k%s=r:=by omega
  simp [this]
 ·simp [c]
def D2N(n s r i:Nat):(B5Z n s r i).length<=n:=by
 unfold B5Z;exact E7V (E74 _ _) (by simp)
def C3O{d:Int}{s q:Nat}(ht:l_ t=32)(hs:0<s)(hs2:s<=32):∀ (e i m:Nat) (h:A9) (id:Nat),C6 d<=i+e->i<=64->e<m->i%s=r->Low (g++[rT (encI (d::t))]).length (g++[rT (encI (d::t))]) h->(g++[rT (encI (d::t))]).length<=id->rd h id=rT (encI (A3Q (B5Z (C6 d) s r i))) ->
  ∃ v h',B1U q m (pV (l_ g) 0) (iV (s:Int)) (sV id 0 (B5Z (C6 d) s r i).length 1) (iV (i:Int)) h=A4 (v,h') /\
   Out (l_ g) h' v 1 ((E7H (C6 d)).filter λk=>k%s==r).length (encI (A3Q ((E7H (C6 d)).filter λk=>k%s==r)))
 | e,i,0,h,id,_,_,hm,_,_,_,_=>by omega
 | e,i,m+1,h,id,hi,hi2,hm,hr,hlow,hid,hrd=>by
  have hB:=G5 (d:=d) ht;have s1:=C8 (h:=h) (id:=l_ g) (cs:=encI (d::t)) (hlow.rd (by simp)) hB;have hM:=λh=>gO (d:=d) (h:=h) ht
  have D8f:=U3 d;have hbl:=D2N (C6 d) s r i;rw [E7c] at hid;rw [B70];by_cases c:i<C6 d
  ·obtain ⟨e,rfl⟩:=Z3 e (by omega);have c0:(i:Int)<(C6 d:Nat):=by omega
   have en:=D7O hs c hr;obtain ⟨h1,a1,a2,a3,a4,a5⟩:=push (ys:=[cI (i:Int)]) (sz:=1) (n:=(B5Z (C6 d) s r i).length) hlow hrd (by rw [B9,B34];omega) (by rw [E7c];exact hid) rfl (by omega) (by omega);have he:encI (A3Q (B5Z (C6 d) s r i))++[cI (i:Int)]=encI (A3Q (B5Z (C6 d) s r (i+s))):=by rw [en];simp [encI,A3Q]
   rw [he] at a2;obtain ⟨v,h',f1,f2⟩:=C3O (q:=q) ht hs hs2 e (i+s) m h1 (l_ h+1) (by omega) (by omega) (by omega) (by rw [Nat.add_mod_right];exact hr) a3 a4 a2;have hl1:(B5Z (C6 d) s r (i+s)).length=(B5Z (C6 d) s r i).length+1:=by rw [en];simp
   rw [hl1] at f1;have ef:F9 [o0] [(0,1,iV (i:Int))]=A4 [cI (i:Int)]:=rfl;refine ⟨v,h',?_,f2⟩;simp only [esc,s1,hM,c0,ef,a1,A5Q (show i+s<9223372036854775808 by omega)];exact f1
  ·have c0:¬ (i:Int)<(C6 d:Nat):=by omega
   rw [D9M (by omega)] at hrd ⊢;refine ⟨_,_,by simp only [esc,s1,hM,c0]<;>rfl,by rw [B9,B34];omega,_,rfl,by omega,hrd⟩
def amm{b:Int}{d:Nat}:∃ w,B5Y (iV b) (iV (d:Int))=A4 (iV w)/\C4E (iV 0) (iV w)=A4 (iV ((max 0 (min b d)).toNat:Nat)):=by
 refine ⟨min b d,?_,?_⟩
 ·simp only [B5Y];by_cases h:(d:Int)<b
  ·rw [C4 h,Int.min_eq_right (by omega)]
  ·rw [C5 h,Int.min_eq_left (by omega)]
 ·simp only [C4E];by_cases h:(min b d:Int) > 0
  ·rw [C4 h,Int.max_eq_right (by omega),Int.toNat_of_nonneg (by omega)]
  ·rw [C5 h,Int.max_eq_left (by omega)];rfl
def B1T{b:Int}(ht:l_ t=32) :
  xX [.a (encI (d::t)),iV p,iV b] h=A4 (sV (l_ h) 0 (plX d p b).length 1,h++[rT (encI (A3Q (plX d p b)))]):=by
 have key:∀ N,64<N->∀ g,∃ v g',A4E N [.a (encI (d::t)),iV p,iV b] g=A4 (v,g')/\Out (l_ g) g' v 1 (plX d p b).length (encI (A3Q (plX d p b))):=by
  intro N hN g;have hB:=G5 (d:=d) ht;have hM:=λh=>gO (d:=d) (h:=h) ht
  have hD:=λh=>dN (d:=d) (t:=t) (h:=h)
  have D8f:=U3 d;rw [B8I];unfold plX;by_cases c1:p<0
  ·rw [C5 (by omega)];refine ⟨sV (l_ g+2) 0 0 1,g++[rT (encI (d::t)),rT [],rT []],?_,rfl,l_ g+2,rfl,by omega,by simp [encI,A3Q]⟩;generalize encI (d::t)=z at *;simp only [esc,c1]
  ·by_cases c2:((C6 d:Nat):Int)<=p
   ·rw [C5 (by omega)];refine ⟨sV (l_ g+2) 0 0 1,g++[rT (encI (d::t)),rT [],rT []],?_,rfl,l_ g+2,rfl,by omega,by simp [encI,A3Q]⟩;generalize encI (d::t)=z at *;simp only [esc,esh,Nat.reduceAdd,hB,hM,c1,c2]
   ·rw [C4 (by omega)];obtain ⟨p,rfl⟩:∃ n:Nat,p=n:=⟨p.toNat,by omega⟩;rw [E7s];obtain ⟨w,m1,m2⟩:=amm (b:=b) (d:=fN d);have hbx:=E45 d b;have hdl:=B0Y d;change C4E _ _=A4 (iV ((bX d b:Nat):Int)) at m2;have e1:=D7y (k:=bX d b) (by omega);have e2:=C2P (k:=bX d b) (by omega);have hp0:0<2 ^ bX d b:=Nat.pow_pos (by omega);have hp1:=C7V (show bX d b<=5 by omega);have e3:O0 .rem (iV (p:Int)) (iV ((2 ^ bX d b:Nat):Int))=A4 (iV ((p%2 ^ bX d b:Nat):Int)):=by
     rw [D4r (by omega) (by omega)];simp
    have hpm:p%2 ^ bX d b<2 ^ bX d b:=Nat.mod_lt _ hp0;unfold Z5;generalize 2 ^ bX d b=s at *;obtain ⟨v,g',f1,f2⟩:=C3O (g:=g) (d:=d) (t:=t) (q:=N) (s:=s) (r:=p%s) ht hp0 hp1 (C6 d) (p%s) N (g++[rT (encI (d::t)),rT [],rT []]) (l_ g+2) (by omega) (by omega) (by omega) (Nat.mod_mod _ _)
     (by have:=(Low.refl (h:=g++[rT (encI (d::t))]) (E69 _)).new [rT [],rT []];simpa using this) (by simp) (by rw [C6e];simp [encI,A3Q])
    rw [C6e] at f1;refine ⟨v,g',?_,f2⟩;generalize encI (d::t)=z at *;simp only [esc,esh,Nat.reduceAdd,hB,hM,hD,c1,c2,m1,m2,e1,e2,e3] at f1 ⊢;exact f1
 obtain ⟨v,g',e,ho⟩:=key (l_ h+65) (by omega) (ro h);exact B7q e (by simpa [H8] using ho) (by simp)
def C8Z{l:List Nat}(hi:i<l_ l):(encI (A3Q l))[i]?=A4 (cI ((l[i]:Nat):Int)):=by
 rw [G7];unfold A3Q;rw [List.getElem?_map,E64 hi];rfl
def B1u(t:List Int)(l:List Nat)(no:Int):Bool:=l.all λk=>decide (toX t k=no)
def C8y{d no:Int}{l:List Nat}{q:Nat}(ht:l_ t=32)(hl:∀ k∈l,k<32)(hv:Has g v 1 (l_ l) (encI (A3Q l)))(hll:l_ l<9223372036854775807):∀ e i m:Nat,i+e=l_ l->e<m ->
  B4s q m (iV no) (pV (l_ g) 0) v (iV (l_ l:Nat)) (iV (i:Int)) (g++[rT (encI (d::t))])=A4 (bV (B1u t (l.drop i) no),g++[rT (encI (d::t))])
 | e,i,0,_,hm=>by omega
 | 0,i,m+1,hi,hm=>by
  have c0:¬ (i:Int)<(l_ l:Nat):=by omega
  rw [A62,E7j (by omega)];simp only [esc,c0,B1u]
 | e+1,i,m+1,hi,hm=>by
  have ih:=C8y (d:=d) (no:=no) (q:=q) ht hl hv hll e (i+1) m (by omega) (by omega);have c0:(i:Int)<(l_ l:Nat):=by omega
  obtain ⟨id,off,ev,hid,k1,k2⟩:=(hv.more [rT (encI (d::t))]).sl (by omega);have hx:=k1 i _ (C8Z (by omega));have eb:F5 1 v (iV (i:Int))=A4 (pV id (off+i)):=by rw [ev,E4 (by omega)];simp
  have hk:=hl l[i] (E7y (by omega));have a1:=adX (id:=l_ g) (i:=l[i]) hk;have l1:=ldX (h:=g++[rT (encI (d::t))]) (id:=l_ g) O2 ht (i:=l[i]) hk;rw [A62,E7g (by omega:i<l_ l),B1u,E8e];rw [B1u] at ih;by_cases c:toX t l[i]=no
  ·rw [R9 c,E7w];rw [c] at l1;simp only [esc,c0,eb,hx,a1,l1,E3 (a:=i) (by omega)];exact ih
  ·rw [aC c,E7v];simp only [esc,c0,eb,hx,a1,l1,c]
def C7f{l:List Nat}(ht:l_ t=32)(hl:∀ k∈l,k<32)(hv:Has h v 1 (l_ l) (encI (A3Q l)))(hll:l_ l<9223372036854775807) :
  A7R [.a (encI (d::t)),v,iV no] h=A4 (bV (B1u t l no),h):=by
 have key:∀ N,l_ l<N->∀ g,Has g v 1 (l_ l) (encI (A3Q l))->∃ g',A7A N [.a (encI (d::t)),v,iV no] g=A4 (bV (B1u t l no),g'):=by
  intro N hN g hv;have e:=C8y (d:=d) (no:=no) (q:=N) ht hl hv hll (l_ l) 0 N (by omega) hN;rw [E7n] at e;rw [C06];exact ⟨_,by simp only [esc,hv.len];exact e⟩
 obtain ⟨g',e⟩:=key (l_ l+1) (by omega) (ro h) hv.ro;exact B7v e rfl
def D56{n p b:Nat}(hn:n<=32):∀ k∈Z5 n p b,k<32:=by
 intro k hk;have:=List.mem_range.1 (E7N.1 hk).1;omega
def C7T(n p b:Nat):(Z5 n p b).length<=n:=E7V (E74 _ _) (by simp)
def E1f{p b:Nat}(hp:p<C6 d)(hb:b<=fN d):plX d p b=Z5 (C6 d) p b:=by
 unfold plX;have:bX d b=b:=by unfold bX;omega
 rw [C4 ⟨by omega,by omega⟩,this,E7s]
def A83(n:Nat)(t:List Int)(p b:Nat):Bool:=!decide (toX t p=0)&&B1u t (Z5 n p b) (toX t p)
def aU(n:Nat)(t:List Int)(p:Nat):Nat->Nat->Nat
 | b,0=>b
 | b,e+1=>bif A83 n t p b then b else aU n t p (b+1) e
def Y8(d:Int)(t:List Int)(p:Nat):Nat:=aU (C6 d) t p 0 (fN d)
def C1R{d:Int}{t:List Int}{p q:Nat}(ht:l_ t=32)(hp:p<C6 d):∀ (e b m:Nat) (h:A9),b+e=fN d->e<m->Low (g++[rT (encI (d::t))]).length (g++[rT (encI (d::t))]) h ->
  ∃ h',B6R q m (iV (p:Int)) (pV (l_ g) 0) (iV (fN d:Nat)) (iV (b:Int)) h=A4 (iV (aU (C6 d) t p b e:Nat),h')
 | e,b,0,h,_,hm,_=>by omega
 | 0,b,m+1,h,hb,hm,hlow=>by
  have e0:b=fN d:=by omega
  subst e0;have c0:¬ ((fN d:Nat):Int)<(fN d:Nat):=by omega
  have hB:=G5 (d:=d) ht;have s1:=C8 (h:=h) (id:=l_ g) (cs:=encI (d::t)) (hlow.rd (by simp)) hB;have hD:=λh=>dN (d:=d) (t:=t) (h:=h)
  rw [A9x];generalize encI (d::t)=z at *;exact ⟨_,by simp only [esc,c0,s1,hD,aU]<;>rfl⟩
 | e+1,b,m+1,h,hb,hm,hlow=>by
  have D8f:=U3 d;have hdl:=B0Y d;have c0:(b:Int)<(fN d:Nat):=by omega
  have hB:=G5 (d:=d) ht;have hrd:rd h (l_ g)=rT (encI (d::t)):=hlow.rd (by simp);have s1:=C8 (h:=h) (id:=l_ g) (cs:=encI (d::t)) hrd hB;have a1:=adX (id:=l_ g) (i:=p) (by omega);have l1:=ldX (h:=h) (id:=l_ g) hrd ht (i:=p) (by omega);have hP:=B1T (d:=d) (p:=p) (b:=b) (h:=h) ht;rw [E1f hp (by omega)] at hP;have hq:=V6 ((Grows.rfl' (h:=h)).new (encI (A3Q (Z5 (C6 d) p b)))) (v:=sV (l_ h) 0 (Z5 (C6 d) p b).length 1);have hW:=C7f (d:=d) (no:=toX t p) (h:=h++[rT (encI (A3Q (Z5 (C6 d) p b)))]) (v:=sV (l_ h) 0 (Z5 (C6 d) p b).length 1) ht (D56 (p:=p) (b:=b) D8f) (Has.row (rw:=A5) O2 (by rw [B9,B34];omega) (A5B _)) (by have:=C7T (C6 d) p b;omega);have l2:=ldX (h:=h++[rT (encI (A3Q (Z5 (C6 d) p b)))]) (id:=l_ g) (B6 hrd) ht (i:=p) (by omega);rw [A9x,aU];unfold A83;by_cases cz:toX t p=0
  ·obtain ⟨h',ih⟩:=C1R (q:=q) ht hp e (b+1) m h (by omega) (by omega) hlow;rw [R9 cz,Bool.not_true,E7v,bZ];rw [cz] at l1;refine ⟨h',?_⟩;generalize encI (d::t)=z at *;simp only [esc,c0,a1,l1,E3 (a:=b) (by omega)];exact ih
  ·rw [aC cz,Bool.not_false,E7w];cases cw:B1u t (Z5 (C6 d) p b) (toX t p) with
   | true =>
    rw [cw] at hW;rw [R8];generalize encI (d::t)=z at *;exact ⟨_,by simp only [esc,c0,a1,l1,cz,s1,hP,hq,hW]<;>rfl⟩
   | false =>
    rw [cw] at hW;obtain ⟨h',ih⟩:=C1R (q:=q) ht hp e (b+1) m (h++[rT (encI (A3Q (Z5 (C6 d) p b)))]) (by omega) (by omega) (hlow.new _);rw [bZ];refine ⟨h',?_⟩;generalize encI (d::t)=z at *;simp only [esc,c0,a1,l1,cz,s1,hP,hq,hW,E3 (a:=b) (by omega)];exact ih
def D9N(d:Int)(t:List Int)(p:Int):Nat:=if 0<=p/\p<(C6 d:Nat) then Y8 d t p.toNat else 0
def C87(ht:l_ t=32):B0G [.a (encI (d::t)),iV p] h=A4 (iV (D9N d t p:Nat),h):=by
 have key:∀ N,5<N->∀ g,∃ g',B0k N [.a (encI (d::t)),iV p] g=A4 (iV (D9N d t p:Nat),g'):=by
  intro N hN g;have hB:=G5 (d:=d) ht;have hM:=λh=>gO (d:=d) (h:=h) ht
  have hD:=λh=>dN (d:=d) (t:=t) (h:=h)
  have hdl:=B0Y d;rw [C4g];unfold D9N;by_cases c1:p<0
  ·rw [C5 (by omega)];generalize encI (d::t)=z at *;exact ⟨_,by simp only [esc,c1]<;>rfl⟩
  ·by_cases c2:((C6 d:Nat):Int)<=p
   ·rw [C5 (by omega)];generalize encI (d::t)=z at *;exact ⟨_,by simp only [esc,esh,hB,hM,c1,c2]<;>rfl⟩
   ·rw [C4 (by omega)];obtain ⟨p,rfl⟩:∃ n:Nat,p=n:=⟨p.toNat,by omega⟩;rw [E7s];obtain ⟨h',e⟩:=C1R (g:=g) (q:=N) ht (show p<C6 d by omega) (fN d) 0 N (g++[rT (encI (d::t))]) (by omega) (by omega) (Low.refl (E69 _));unfold Y8;refine ⟨h',?_⟩;generalize encI (d::t)=z at *;simp only [esc,esh,hB,hM,hD,c1,c2];exact e
 obtain ⟨g',e⟩:=key (l_ h+6) (by omega) (ro h);exact B88 e rfl
def E2f{p:Nat}(hp:p<C6 d):D9N d t p=Y8 d t p:=by
 unfold D9N;rw [C4 ⟨by omega,by omega⟩,E7s]
def yU(n:Nat)(t:List Int)(no:Int):Nat:=((E7H n).filter λk=>decide (toX t k=no)).length
def D23{n:Nat}:yU (n+1) t no=yU n t no+(if toX t n=no then 1 else 0):=by
 unfold yU;rw [List.range_succ,E8k,E7c,List.filter_cons];by_cases c:toX t n=no<;>simp [c]
def D7V{n:Nat}:yU n t no<=n:=E7V (E74 _ _) (by simp)
def C6A{d no:Int}{t:List Int}{g:A9}{n q:Nat}(ht:l_ t=32)(hn:n<=32):∀ e i m:Nat,i+e=n->e<m ->
  B4p q m (iV no) (pV (l_ g) 0) (iV (yU i t no:Nat)) (iV (n:Int)) (iV (i:Int)) (g++[rT (encI (d::t))])=A4 (iV (yU n t no:Nat),g++[rT (encI (d::t))])
 | e,i,0,_,hm=>by omega
 | 0,i,m+1,hi,hm=>by
  have e0:i=n:=by omega
  subst e0;have c0:¬ (i:Int)<i:=by omega
  rw [A60];simp only [esc,c0]
 | e+1,i,m+1,hi,hm=>by
  have ih:=C6A (d:=d) (no:=no) (g:=g) (q:=q) ht hn e (i+1) m (by omega) (by omega);have c0:(i:Int)<n:=by omega
  have a1:=adX (id:=l_ g) (i:=i) (by omega);have l1:=ldX (h:=g++[rT (encI (d::t))]) (id:=l_ g) O2 ht (i:=i) (by omega);have hc:=D7V (n:=i) (t:=t) (no:=no);rw [D23] at ih;rw [A60];generalize yU i t no=C at *;by_cases c:toX t i=no
  ·rw [C4 c] at ih;rw [c] at l1;simp only [esc,c0,a1,l1,A6Z,E3 (a:=C) (by omega),E3 (a:=i) (by omega)];exact ih
  ·rw [C5 c,E8m] at ih;simp only [esc,c0,a1,l1,c,A6Z,E3 (a:=i) (by omega)];exact ih
def C7d(ht:l_ t=32):A7Q [.a (encI (d::t)),iV no] h=A4 (iV (yU (C6 d) t no:Nat),h):=by
 have key:∀ N,32<N->∀ g,∃ g',A7x N [.a (encI (d::t)),iV no] g=A4 (iV (yU (C6 d) t no:Nat),g'):=by
  intro N hN g;have hB:=G5 (d:=d) ht;have hM:=λh=>gO (d:=d) (h:=h) ht
  have hm:=U3 d;have e:=C6A (d:=d) (no:=no) (g:=g) (q:=N) ht hm (C6 d) 0 N (by omega) (by omega);rw [show yU 0 t no=0 from rfl] at e;rw [C03];generalize encI (d::t)=z at *;exact ⟨_,by simp only [esc,esh,hB,hM];exact e⟩
 obtain ⟨g',e⟩:=key (l_ h+33) (by omega) (ro h);exact B7s e rfl
def B66(d:Int)(t:List Int)(i:Nat):Bool:=decide ((Z5 (C6 d) i (Y8 d t i)).length=yU (C6 d) t (toX t i))
def zD(d:Int)(t:List Int)(i:Nat):Bool:=!decide (toX t i=0)&&(B7X (toX t i)&&(A02 t i||B66 d t i))
def zU(d:Int)(t:List Int)(i:Nat):Int:=bif zD d t i then toX t i else 0
def nH(d:Int)(t:List Int)(k:Nat):List Int:=(E7H k).map (zU d t)++zI (32-k)
def oY(hk:k<=32):(nH d t k).length=32:=by simp [nH,zI];omega
def D8b:nH d t 0=zI 32:=rfl
def D8a(hk:k<32):nH d t (k+1)=(nH d t k).set k (zU d t k):=by
 unfold nH;have e:zI (32-k)=0::zI (32-(k+1)):=by
  unfold zI;rw [show 32-k=(32-(k+1))+1 by omega,E7P]
 rw [e,E70 _ _ (by simp),List.range_succ,E72,E7i];simp
def D79(hk:k<32)(hf:zU d t k=0):nH d t (k+1)=nH d t k:=by
 unfold nH;have e:zI (32-k)=0::zI (32-(k+1)):=by
  unfold zI;rw [show 32-k=(32-(k+1))+1 by omega,E7P]
 rw [e,List.range_succ,E72,E7i];simp [hf]
def C6U{d:Int}{t:List Int}{q:Nat}(ht:l_ t=32):∀ (e i m:Nat) (h:A9),i+e=C6 d->e<m->Low (g++[rT (encI (d::t)),rT (encI (0::zI 32))]).length (g++[rT (encI (d::t)),rT (encI (0::zI 32))]) h->rd h (l_ g+2)=rT (encI (d::nH d t i)) ->
  ∃ h',A3U q m (pV (l_ g) 0) (pV (l_ g+1) 0) (pV (l_ g+2) 0) (iV (C6 d:Nat)) (iV (i:Int)) h=A4 (.a (encI (d::nH d t (C6 d))),h')
 | e,i,0,h,_,hm,_,_=>by omega
 | 0,i,m+1,h,hi,hm,hlow,hr=>by
  have e0:i=C6 d:=by omega
  subst e0;have c0:¬ ((C6 d:Nat):Int)<(C6 d:Nat):=by omega
  have hF:=G5 (d:=d) (oY (d:=d) (t:=t) (U3 d));have hz:(encI (0::zI 32)).length=33:=G5 (d:=0) N7;have hr1:rd h (l_ g+1)=rT (encI (0::zI 32)):=hlow.rd (by simp);have s1:=C8 (h:=h) (id:=l_ g+2) hr hF;have s2:=storeAll (h:=h) (id:=l_ g+1) (xs:=encI (d::nH d t (C6 d))) hr1 hz hF;have s3:=C8 (h:=h.set (l_ g+1) (rT (encI (d::nH d t (C6 d))))) (id:=l_ g+1) (E1 (E5 hr1)) hF;rw [B1Q];generalize encI (d::nH d t (C6 d))=z at *;exact ⟨_,by simp only [esc,c0,s1,s2,s3]<;>rfl⟩
 | e+1,i,m+1,h,hi,hm,hlow,hr=>by
  have D8f:=U3 d;have c0:(i:Int)<(C6 d:Nat):=by omega
  have hB:=G5 (d:=d) ht;have hrd:rd h (l_ g)=rT (encI (d::t)):=hlow.rd (by simp);have s1:=C8 (h:=h) (id:=l_ g) (cs:=encI (d::t)) hrd hB;have a1:=adX (id:=l_ g) (i:=i) (by omega);have l1:=ldX (h:=h) (id:=l_ g) hrd ht (i:=i) (by omega);have hFi:=λh=>B6S (n:=toX t i) (h:=h)
  have hFs:=λh=>B4q (d:=d) (t:=t) (i:=i) (h:=h) ht (by omega)
  have w1:=E3 (a:=i) (by omega);have hk:i<32:=by omega
  have skip:zU d t i=0->∀ h2,Low (g++[rT (encI (d::t)),rT (encI (0::zI 32))]).length (g++[rT (encI (d::t)),rT (encI (0::zI 32))]) h2->rd h2 (l_ g+2)=rT (encI (d::nH d t i)) ->
    ∃ h',A3U q m (pV (l_ g) 0) (pV (l_ g+1) 0) (pV (l_ g+2) 0) (iV (C6 d:Nat)) (iV ((i+1:Nat):Int)) h2=A4 (.a (encI (d::nH d t (C6 d))),h'):=by
   intro hf h2 hlow2 hr2;exact C6U (q:=q) ht e (i+1) m h2 (by omega) (by omega) hlow2 (by rw [D79 hk hf];exact hr2)
  have a3:=adX (id:=l_ g+2) (i:=i) hk;have put:zU d t i=toX t i->∀ h2,Low (g++[rT (encI (d::t)),rT (encI (0::zI 32))]).length (g++[rT (encI (d::t)),rT (encI (0::zI 32))]) h2->rd h2 (l_ g+2)=rT (encI (d::nH d t i)) ->
    ∃ h3,I7 h2 (pV (l_ g+2) (1+i)) (iV (toX t i))=A4 h3/\∃ h',A3U q m (pV (l_ g) 0) (pV (l_ g+1) 0) (pV (l_ g+2) 0) (iV (C6 d:Nat)) (iV ((i+1:Nat):Int)) h3=A4 (.a (encI (d::nH d t (C6 d))),h'):=by
   intro hf h2 hlow2 hr2;have hF:=G5 (d:=d) (oY (d:=d) (t:=t) (k:=i) (by omega));have t1:=I8 (x:=cI (toX t i)) (off:=1+i) hr2 (by rw [hF];omega);rw [D3h,<-hf,<-D8a hk,hf] at t1;refine ⟨_,t1,C6U (q:=q) ht e (i+1) m _ (by omega) (by omega) (hlow2.set (by simp) _) (E1 (E5 hr2))⟩
  rw [B1Q];by_cases cz:toX t i=0
  ·have hf:zU d t i=0:=by unfold zU zD;rw [R9 cz];rfl
   obtain ⟨h',ih⟩:=skip hf h hlow hr;rw [cz] at l1;refine ⟨h',?_⟩;generalize encI (d::t)=z at *;simp only [esc,c0,a1,l1,kN,w1];exact ih
  ·cases cf:B7X (toX t i) with
   | false =>
    rw [cf] at hFi;have hf:zU d t i=0:=by unfold zU zD;rw [cf,E7v,Bool.and_false,bZ]
    obtain ⟨h',ih⟩:=skip hf h hlow hr;refine ⟨h',?_⟩;generalize encI (d::t)=z at *;simp only [esc,c0,a1,l1,cz,hFi,kN,w1];exact ih
   | true =>
    rw [cf] at hFi;cases cs:A02 t i with
    | true =>
     rw [cs] at hFs;have hf:zU d t i=toX t i:=by unfold zU zD;rw [cf,cs,aC cz];rfl
     obtain ⟨h3,st,h',ih⟩:=put hf h hlow hr;refine ⟨h',?_⟩;generalize encI (d::t)=z at *;simp only [esc,c0,a1,l1,cz,hFi,s1,hFs,a3,st,kN,w1];exact ih
    | false =>
     rw [cs] at hFs;have hBi:=λh=>C87 (d:=d) (t:=t) (p:=(i:Int)) (h:=h) ht
     rw [E2f (by omega)] at hBi;have hbl:Y8 d t i<=fN d:=by
      have:∀ e b,aU (C6 d) t i b e<=b+e:=by
       intro e
       induction e with
       | zero=>intro b;exact E69 _
       | succ e ih =>
        intro b;unfold aU;cases A83 (C6 d) t i b
        ·rw [bZ];have:=ih (b+1);omega
        ·rw [R8];omega
      have:=this (fN d) 0;unfold Y8;omega
     have hP:=B1T (d:=d) (p:=(i:Int)) (b:=(Y8 d t i:Nat)) (h:=h) ht;rw [E1f (by omega) hbl] at hP;have hq:=V6 ((Grows.rfl' (h:=h)).new (encI (A3Q (Z5 (C6 d) i (Y8 d t i))))) (v:=sV (l_ h) 0 (Z5 (C6 d) i (Y8 d t i)).length 1);have hC:=λh=>C7d (d:=d) (no:=toX t i) (h:=h) ht
     have ew:decide (((Z5 (C6 d) i (Y8 d t i)).length:Int)=((yU (C6 d) t (toX t i):Nat):Int))=B66 d t i:=by
      unfold B66;by_cases c:(Z5 (C6 d) i (Y8 d t i)).length=yU (C6 d) t (toX t i)
      ·rw [R9 c,R9 (by omega)]
      ·rw [aC c,aC (by omega)]
     have hlow2:=hlow.new [rT (encI (A3Q (Z5 (C6 d) i (Y8 d t i))))];have hr2:rd (h++[rT (encI (A3Q (Z5 (C6 d) i (Y8 d t i))))]) (l_ g+2)=rT (encI (d::nH d t i)):=B6 hr;cases cw:B66 d t i with
     | true =>
      rw [cw] at ew;have hf:zU d t i=toX t i:=by unfold zU zD;rw [cf,cs,cw,aC cz];rfl
      obtain ⟨h3,st,h',ih⟩:=put hf _ hlow2 hr2;refine ⟨h',?_⟩;generalize encI (d::t)=z at *;simp only [esc,c0,a1,l1,cz,hFi,s1,hFs,hBi,hP,hq,hC,ew,a3,st,kN,w1];exact ih
     | false =>
      rw [cw] at ew;have hf:zU d t i=0:=by unfold zU zD;rw [cf,cs,cw,aC cz];rfl
      obtain ⟨h',ih⟩:=skip hf _ hlow2 hr2;refine ⟨h',?_⟩;generalize encI (d::t)=z at *;simp only [esc,c0,a1,l1,cz,hFi,s1,hFs,hBi,hP,hq,hC,ew,kN,w1];exact ih
def A9o(d:Int)(t:List Int):List Int:=if 0<=d/\d<=5 then d::nH d t (C6 d) else 0::zI 32
def B9T(ht:l_ t=32):A6s [.a (encI (d::t))] h=A4 (.a (encI (A9o d t)),h):=by
 have key:∀ N,32<N->∀ g,∃ g',B2W N [.a (encI (d::t))] g=A4 (.a (encI (A9o d t)),g'):=by
  intro N hN g;have hB:=G5 (d:=d) ht;have hz:(encI (0::zI 32)).length=33:=G5 (d:=0) N7;have hM:=λh=>gO (d:=d) (h:=h) ht
  have hD:=λh=>dN (d:=d) (t:=t) (h:=h)
  have l0:(encI (d::t))[0]?=A4 (cI d):=rfl;have haf:F9 (encI (0::zI 32)) []=A4 (encI (0::zI 32)):=rfl;rw [C5s,B43];unfold A9o;by_cases c:0<=d/\d<=5
  ·rw [C4 c];have hd:=D6U c.1 c.2;rw [hd] at hD;have ef:F9 (encI (0::zI 32)) [(0,1,iV d)]=A4 (encI (d::zI 32)):=by
    have e1:(0+1<=(encI (0::zI 32)).length):=by rw [hz];omega
    simp only [F9,cells?];rw [C4 ⟨rfl,e1⟩];rfl
   have hz2:(encI (d::zI 32)).length=33:=G5 (d:=d) N7;obtain ⟨h',e⟩:=C6U (g:=g) (d:=d) (t:=t) (q:=N) ht (C6 d) 0 N (g++[rT (encI (d::t)),rT (encI (0::zI 32)),rT (encI (d::zI 32))]) (by omega) (by have:=U3 d;omega)
    (by have:=(Low.refl (h:=g++[rT (encI (d::t)),rT (encI (0::zI 32))]) (E69 _)).new [rT (encI (d::zI 32))];simpa using this) (by rw [D8b];simp)
   refine ⟨h',?_⟩;generalize encI (d::zI 32)=z2 at *;generalize encI (0::zI 32)=z at *;generalize encI (d::t)=y at *;simp only [esc,esh,Nat.reduceAdd,hB,hz,l0,hM,hD,ef,hz2];exact e
  ·rw [C5 c];have cd:¬ d=((fN d:Nat):Int):=by unfold fN;omega
   generalize encI (0::zI 32)=z at *;generalize encI (d::t)=y at *;exact ⟨_,by simp only [esc,esh,Nat.reduceAdd,hB,hz,l0,hD,cd,haf]<;>rfl⟩
 obtain ⟨g',e⟩:=key (l_ h+33) (by omega) (ro h);exact C1s e (by simp)
def E6I:([Sh.i .i64]++E68 32 (Sh.i .i64))=E68 33 (.i .i64):=rfl
def A1b(d:Int)(t:List Int):Bool:=decide (0<=d)&&(decide (d<=5)&&decide (A9o d t=d::t))
def C3D:(A9o d t).length=33:=by
 unfold A9o;split
 ·rw [E7k,oY (U3 d)]
 ·rw [E7k,N7]
def C7c(ht:l_ t=32):A1G [.a (encI (d::t))] h=A4 (bV (A1b d t),h):=by
 have key:∀ g,∃ g',A7w 0 [.a (encI (d::t))] g=A4 (bV (A1b d t),g'):=by
  intro g;have hB:=G5 (d:=d) ht;have hF:=λh=>B9T (d:=d) (t:=t) (h:=h) ht
  have hE:=D9v (l:=A9o d t) (m:=d::t) (n:=33) C3D (by simp [ht]);have l0:(encI (d::t))[0]?=A4 (cI d):=rfl;rw [C02,E6I];unfold A1b;generalize A9o d t=F at *;by_cases c1:0<=d
  ·by_cases c2:d<=5
   ·generalize decide (F=d::t)=B at *;generalize encI (d::t)=y at *;exact ⟨_,by simp only [esc,esh,hB,l0,c1,c2,hF,hE,E7w]<;>rfl⟩
   ·generalize encI (d::t)=y at *;exact ⟨_,by simp only [esc,esh,hB,l0,c1,c2,E7w,E7v]<;>rfl⟩
  ·generalize encI (d::t)=y at *;exact ⟨_,by simp only [esc,esh,hB,l0,c1,E7v]<;>rfl⟩
 obtain ⟨g',e⟩:=key (ro h);exact B7r e rfl
def pH(d:List Int):List UInt8:=(d.map (D6 2)).flatten
def A2w{d:List Int}:(pH d).length=2*(l_ d):=by
 induction d with
 | nil=>rfl
 | cons x d ih=>simp only [pH,E7X,E8g,E7c,R7,E7k] at ih ⊢;omega
def D8F{d:List Int}:pH (d++[x])=pH d++D6 2 x:=by simp [pH]
def magX:List UInt8:=[105,100,120,33]
def A5v(d:Int):List UInt8:=magX++D6 1 d++zeros 27
def A2p:(A5v d).length=32:=by simp [A5v,magX]
def nJ(d:Int)(t:List Int):List UInt8:=R5 256 (A5v d++pH t)
def A6X(ht:l_ t=32):(nJ d t).length=256:=I5 (by rw [E7c,A2p,A2w];omega)
def D54{n:Nat}{l:List UInt8}(h:l_ l+k<=n):R5 n (l++zeros k)=R5 n l:=by
 unfold R5 zeros;rw [E7i,List.replicate_append_replicate,E7c,E7F]
 congr 2;omega
def okX(d:Int)(t:List Int):Bool:=decide (0<=d)&&(decide (d<=5)&&t.all B7X)
def D0m{d:Int}{g:A9}{y:List Cell}{q:Nat}(ht:l_ t=32)(hyl:y.length=33):∀ e i m:Nat,i+e=32->e<m ->
  ∃ h',B9Y q m (pV (l_ g+1) 0) (pV (l_ g+3) 0) (.a (encI t)) (iV (i:Int)) (g++[rT y,rT (B4 (zeros 256)),rT (B4 magX),rT (B4 (R5 256 (A5v d++pH (t.take i))))]) =
   A4 (.t [.a (B4 (bif (t.drop i).all B7X then nJ d t else zeros 256)),.c (cI (bif (t.drop i).all B7X then 0 else 1))],h')
 | e,i,0,_,hm=>by omega
 | 0,i,m+1,hi,hm=>by
  have e0:i=32:=by omega
  subst e0;have c0:¬ ((32:Nat):Int)<32:=by omega
  have hz:(B4 (zeros 256)).length=256:=by rw [B5];exact zeros_length
  have hB:(B4 (nJ d t)).length=256:=by rw [B5];exact A6X ht
  have eB:R5 256 (A5v d++pH t)=nJ d t:=rfl;rw [B1V,E7r (by omega),E7j (by omega),List.all_nil,R8,R8,eB];generalize nJ d t=B at *;generalize B4 magX=mg at *;generalize zeros 256=z at *;exact ⟨_,by simp only [esc,esh,c0,hz,hB]<;>rfl⟩
 | e+1,i,m+1,hi,hm=>by
  obtain ⟨h',ih⟩:=D0m (d:=d) (g:=g) (q:=q) ht hyl e (i+1) m (by omega) (by omega);have c0:(i:Int)<32:=by omega
  have hz:(B4 (zeros 256)).length=256:=by rw [B5];exact zeros_length
  have haf:F9 (E68 256 (Cell.i .u8 0)) []=A4 (E68 256 (Cell.i .u8 0)):=rfl;rw [J4] at haf;have hx:A44 32 (.a (encI t)) (iV (i:Int))=A4 (iV t[i]):=by
   rw [B4m (by omega),G7,E64 (by omega)];rfl
  have hF:=λh=>B6S (n:=t[i]) (h:=h)
  have hnl:(A5v d++pH (t.take i)).length=32+2*i:=by rw [E7c,A2p,A2w,E7L];omega
  have hP0:(R5 256 (A5v d++pH (t.take i))).length=256:=I5 (by omega);have hp:(B4 (R5 256 (A5v d++pH (t.take i)))).length=256:=by rw [B5,hP0]
  have hW:=λh=>bC (h:=h) (l:=R5 256 (A5v d++pH (t.take i))) hP0 (a:=((32+2*i:Nat):Int)) (w:=2) (v:=t[i])
  have ew:=lM (l:=A5v d++pH (t.take i)) (a:=32+2*i) (w:=2) (v:=t[i]) (by omega) (by omega) (by omega) (by omega);rw [hnl,E8l,show zeros 0=[] from rfl,E7q,E7i,<-D8F,<-E7E (by omega)] at ew;rw [show ((2:Nat):Int)=2 from rfl] at ew;rw [ew] at hW;have hp2:(B4 (R5 256 (A5v d++pH (t.take (i+1))))).length=256:=by rw [B5,I5 (by rw [E7c,A2p,A2w,E7L];omega)]
  have w1:E7f .i64 (2*(i:Int))=((2*i:Nat):Int):=by rw [wrap_i64 (by omega) (by omega)];omega
  have w2:E7f .i64 (32+((2*i:Nat):Int))=((32+2*i:Nat):Int):=by rw [wrap_i64 (by omega) (by omega)];omega
  rw [B1V,J4,E7g (by omega:i<l_ t),E8e];generalize R5 256 (A5v d++pH (t.take (i+1)))=P1 at *;generalize R5 256 (A5v d++pH (t.take i))=P0 at *;generalize nJ d t=B at *;generalize B4 magX=mg at *;generalize zeros 256=z at *;cases c:B7X t[i] with
  | false =>
   rw [c] at hF;rw [E7v,bZ,bZ];exact ⟨_,by simp only [esc,esh,c0,hx,hF,haf,hz]<;>rfl⟩
  | true =>
   rw [c] at hF;rw [E7w];refine ⟨h',?_⟩;simp only [esc,esh,c0,hx,hF,hp,w1,w2,hW,hp2,E3 (a:=i) (by omega)];exact ih
def B9X(ht:l_ t=32):A6u [.a (encI (d::t))] h=A4 (.t [.a (B4 (bif okX d t then nJ d t else zeros 256)),.c (cI (bif okX d t then 0 else 1))],h):=by
 have key:∀ N,32<N->∀ g,∃ g',B2Y N [.a (encI (d::t))] g=A4 (.t [.a (B4 (bif okX d t then nJ d t else zeros 256)),.c (cI (bif okX d t then 0 else 1))],g'):=by
  intro N hN g;have hB:=G5 (d:=d) ht;have hz:(B4 (zeros 256)).length=256:=by rw [B5];exact zeros_length
  have hD:=λh=>dN (d:=d) (t:=t) (h:=h)
  have l0:(encI (d::t))[0]?=A4 (cI d):=rfl;have haf:F9 (E68 256 (Cell.i .u8 0)) []=A4 (E68 256 (Cell.i .u8 0)):=rfl;rw [J4] at haf;rw [C5u,J4];unfold okX;by_cases c:0<=d/\d<=5
  ·rw [R9 c.1,R9 c.2,E7w,E7w];have hd:=D6U c.1 c.2;rw [hd] at hD;have ef:F9 [Cell.i .u8 0,.i .u8 0,.i .u8 0,.i .u8 0] [(0,1,.c (.i .u8 105)),(1,1,.c (.i .u8 100)),(2,1,.c (.i .u8 120)),(3,1,.c (.i .u8 33))]=A4 (B4 magX):=rfl;have hO:=B5w (data:=magX) (v:=sV (l_ g+2) 0 4 1) (nv:=4) (h:=g++[rT (encI (d::t)),rT (B4 (zeros 256)),rT (B4 magX),A7]) (Has.row (rw:=A5) (by simp) rfl (W1 _)) (by decide);rw [D14 (by decide)] at hO;have hM:B1I (g++[rT (encI (d::t)),rT (B4 (zeros 256)),rT (B4 magX),A7]) (sV (l_ g+2) 0 4 1)=A4 (sV (l_ g+2) 0 4 1):=by simp [B1I]
   have hW:=λh=>bC (h:=h) (l:=R5 256 magX) (I5 (by decide)) (a:=4) (w:=1) (v:=d)
   have ew:=lM (l:=magX) (a:=4) (w:=1) (v:=d) (by decide) (by omega) (by omega) (by omega);have e5:magX++zeros (4-magX.length)++D6 1 d=magX++D6 1 d:=rfl;have e6:R5 256 (magX++D6 1 d)=R5 256 (A5v d++pH (t.take 0)):=by
    rw [E75,show pH []=[] from rfl,E7q];exact (D54 (by simp [magX])).symm
   rw [e5,e6] at ew;rw [show ((4:Nat):Int)=4 from rfl,show ((1:Nat):Int)=1 from rfl] at ew;rw [ew] at hW;have hp2:(B4 (R5 256 (A5v d++pH (t.take 0)))).length=256:=by rw [B5,I5 (by rw [E7c,A2p,A2w,E7L];omega)]
   have e7:D3 (g++[rT (encI (d::t)),rT (B4 (zeros 256)),rT (B4 magX),rT (B4 (R5 256 (A5v d++pH (t.take 0))))]) 32 (pV (l_ g) 1)=A4 (.a (encI t)):=by
    rw [G9];simp only [E7W,Option.join_some,ldN,E7l];rw [C4 ⟨by rw [hB];omega,rfl⟩];have:(encI (d::t)).drop 1=encI t:=rfl;rw [this,E7r (by rw [B9];omega)]
   obtain ⟨h',e⟩:=D0m (d:=d) (t:=t) (g:=g) (q:=N) ht hB 32 0 N (by omega) hN;rw [E7n] at e;generalize R5 256 (A5v d++pH (t.take 0))=P1 at *;generalize R5 256 magX=P2 at *;generalize nJ d t=B at *;generalize B4 magX=mg at *;generalize zeros 256=z at *;generalize encI (d::t)=y at *;refine ⟨h',?_⟩;simp only [esc,esh,Nat.reduceAdd,hB,hz,l0,hD,ef,hM,hO,hW,hp2,e7,show (l_ g)+2+1=l_ g+3 from rfl];exact e
  ·have cd:¬ d=((fN d:Nat):Int):=by unfold fN;omega
   have ec:(decide (0<=d)&&(decide (d<=5)&&t.all B7X))=A6:=by
    by_cases c1:0<=d
    ·rw [aC (show ¬ d<=5 by omega)];simp
    ·rw [aC c1];rfl
   rw [ec,bZ,bZ];generalize zeros 256=z at *;generalize encI (d::t)=y at *;exact ⟨_,by simp only [esc,esh,Nat.reduceAdd,hB,hz,l0,hD,cd,haf]<;>rfl⟩
 obtain ⟨g',e⟩:=key (l_ h+33) (by omega) (ro h);refine C1v e ?_;cases okX d t<;>simp
def getD(b:List UInt8):Int:=fieldN b 4 1
def E35(b:List UInt8)(i:Nat):Int:=fieldN b (32+2*i) 2
def O8(b:List UInt8)(n:Nat):List Int:=(E7H n).map (E35 b)++zI (32-n)
def A2k{n:Nat}(hn:n<=32):(O8 b n).length=32:=by simp [O8,zI];omega
def D8e(hk:k<32):O8 b (k+1)=(O8 b k).set k (E35 b k):=by
 unfold O8;have e:zI (32-k)=0::zI (32-(k+1)):=by
  unfold zI;rw [show 32-k=(32-(k+1))+1 by omega,E7P]
 rw [e,E70 _ _ (by simp),List.range_succ,E72,E7i];simp
def D9J{a w:Nat}(h:a+w<=256)(hw:1<=w)(hw4:w<=4):((atN b (a:Int) w:Nat):Int)=fieldN b a w:=by
 unfold atN fieldN;rw [C4 ⟨by omega,Z0.2 (by omega)⟩];simp only [E7s]
def C0y(t:List Int)(n e:Nat):Bool:=(E7G n e).all λi=>decide (toX t i=0)
def Q4(b:List UInt8):Bool:=okX (getD b) (O8 b 32)&&(decide (nJ (getD b) (O8 b 32)=b)&&C0y (O8 b 32) (C6 (getD b)) (32-C6 (getD b)))
def E0u{b:List UInt8}{d:Int}{ix iz q:Nat}{h:A9}(ht:l_ t=32)(hx:rd h ix=rT (encI (d::t)))(hz:rd h iz=rT (encI (0::zI 32))):∀ e i m:Nat,i+e=32->e<m ->
  ∃ h',B9W q m (pV iz 0) (pV ix 0) (iV (i:Int)) h=A4 (.t [.a (encI (bif C0y t i e then d::t else 0::zI 32)),.c (cI (bif C0y t i e then 0 else 14))],h')
 | e,i,0,_,hm=>by omega
 | 0,i,m+1,hi,hm=>by
  have e0:i=32:=by omega
  subst e0;have c0:¬ ((32:Nat):Int)<32:=by omega
  have hX:=G5 (d:=d) ht;have hZ:(encI (0::zI 32)).length=33:=G5 (d:=0) N7;have s1:=C8 (h:=h) (id:=ix) hx hX;have s2:=storeAll (h:=h) (id:=iz) (xs:=encI (d::t)) hz hZ hX;have s3:=C8 (h:=h.set iz (rT (encI (d::t)))) (id:=iz) (E1 (E5 hz)) hX;have er:C0y t 32 0=A5:=rfl;rw [B1S,er,R8,R8];generalize encI (d::t)=y at *;exact ⟨_,by simp only [esc,c0,s1,s2,s3]<;>rfl⟩
 | e+1,i,m+1,hi,hm=>by
  obtain ⟨h',ih⟩:=E0u (b:=b) (q:=q) ht hx hz e (i+1) m (by omega) (by omega);have c0:(i:Int)<32:=by omega
  have hZ:(encI (0::zI 32)).length=33:=G5 (d:=0) N7;have a1:=adX (id:=ix) (i:=i) (by omega);have l1:=ldX (h:=h) (id:=ix) hx ht (i:=i) (by omega);have haf:F9 (encI (0::zI 32)) []=A4 (encI (0::zI 32)):=rfl;have s2:=storeAll (h:=h) (id:=iz) (xs:=encI (0::zI 32)) hz hZ hZ;have s3:=C8 (h:=h.set iz (rT (encI (0::zI 32)))) (id:=iz) (E1 (E5 hz)) hZ;have er:C0y t i (e+1)=(decide (toX t i=0)&&C0y t (i+1) e):=by unfold C0y;rw [List.range'_succ,E8e]
  rw [B1S,er,B43];by_cases c:toX t i=0
  ·rw [R9 c,E7w];rw [c] at l1;generalize encI (0::zI 32)=z at *;exact ⟨h',by simp only [esc,c0,a1,l1,E3 (a:=i) (by omega)];exact ih⟩
  ·rw [aC c,E7v,bZ,bZ];generalize encI (0::zI 32)=z at *;exact ⟨_,by simp only [esc,c0,a1,l1,c,haf,s2,s3]<;>rfl⟩
def E0t{b:List UInt8}{g:A9}{q:Nat}(hb:l_ b=256)(hq:32<q):∀ e i m:Nat,i+e=32->e<m ->
  ∃ h',B9V q m (pV (l_ g) 0) (pV (l_ g+1) 0) (pV (l_ g+2) 0) (iV (i:Int)) (g++[rT (B4 b),rT (encI (0::zI 32)),rT (encI (getD b::O8 b i))]) =
   A4 (.t [.a (encI (bif Q4 b then getD b::O8 b 32 else 0::zI 32)),.c (cI (bif Q4 b then 0 else 14))],h')
 | e,i,0,_,hm=>by omega
 | 0,i,m+1,hi,hm=>by
  have e0:i=32:=by omega
  subst e0;have c0:¬ ((32:Nat):Int)<32:=by omega
  have hB:(B4 b).length=256:=by rw [B5,hb]
  have ht:=A2k (b:=b) (n:=32) (E69 _);have hX:=G5 (d:=getD b) ht;have hZ:(encI (0::zI 32)).length=33:=G5 (d:=0) N7;have hz0:(E68 256 (Cell.i .u8 0)).length=256:=E7F;have hP:=λh=>B9X (d:=getD b) (t:=O8 b 32) (h:=h) ht
  have hM:=λh=>gO (d:=getD b) (h:=h) ht
  have D8f:=U3 (getD b);have haf:F9 (encI (0::zI 32)) []=A4 (encI (0::zI 32)):=rfl;unfold Q4;rw [B1R,B43];cases co:okX (getD b) (O8 b 32) with
  | false =>
   rw [co] at hP;simp only [bZ] at hP;have hzz:(B4 (zeros 256)).length=256:=by rw [B5];exact zeros_length
   rw [E7v,bZ,bZ];generalize encI (0::zI 32)=z at *;generalize encI (getD b::O8 b 32)=y at *;generalize E68 256 (Cell.i .u8 0)=zz at *;generalize zeros 256=zzz at *;exact ⟨_,by simp only [esc,esh,Nat.reduceAdd,c0,hX,hP,hz0,hzz,haf,hZ,show decide ((1:Int)=0)=A6 from rfl]<;>rfl⟩
  | true =>
   rw [co] at hP;simp only [R8] at hP;rw [E7w];have K6:=A6X (d:=getD b) ht;have hI:(B4 (nJ (getD b) (O8 b 32))).length=256:=by rw [B5,K6]
   have hE:=C9C (n:=256) K6 hb;by_cases ce:nJ (getD b) (O8 b 32)=b
   ·rw [R9 ce,E7w];rw [R9 ce] at hE;obtain ⟨h',e⟩:=E0u (b:=b) (d:=getD b) (t:=O8 b 32) (ix:=l_ g+2) (iz:=l_ g+1) (q:=q) (h:=g++[rT (B4 b),rT (encI (0::zI 32)),rT (encI (getD b::O8 b 32)),rT (B4 (nJ (getD b) (O8 b 32)))]) ht (by simp) (by simp) (32-C6 (getD b)) (C6 (getD b)) q (by omega) (by omega);refine ⟨h',?_⟩;generalize C0y (O8 b 32) (C6 (getD b)) (32-C6 (getD b))=R at *;generalize nJ (getD b) (O8 b 32)=I at *;generalize getD b::O8 b 32=Y at *;generalize encI (0::zI 32)=z at *;generalize E68 256 (Cell.i .u8 0)=zz at *;simp only [esc,esh,Nat.reduceAdd,c0,hX,hP,hz0,hI,hB,hE,hM];exact e
   ·rw [aC ce,E7v,bZ,bZ];rw [aC ce] at hE;generalize nJ (getD b) (O8 b 32)=I at *;generalize encI (0::zI 32)=z at *;generalize encI (getD b::O8 b 32)=y at *;generalize E68 256 (Cell.i .u8 0)=zz at *;exact ⟨_,by simp only [esc,esh,Nat.reduceAdd,c0,hX,hP,hz0,hI,hB,hE,haf,hZ]<;>rfl⟩
 | e+1,i,m+1,hi,hm=>by
  obtain ⟨h',ih⟩:=E0t (g:=g) (q:=q) hb hq e (i+1) m (by omega) (by omega);have c0:(i:Int)<32:=by omega
  have hB:(B4 b).length=256:=by rw [B5,hb]
  have ht:=A2k (b:=b) (n:=i) (by omega);have hX:=G5 (d:=getD b) ht;have hA:=λh=>qQ (h:=h) hb (a:=((32+2*i:Nat):Int)) (w:=2)
  have ea:=D9J (b:=b) (a:=32+2*i) (w:=2) (by omega) (by omega) (by omega);rw [show ((2:Nat):Int)=2 from rfl] at ea;rw [ea] at hA;have w1:E7f .i64 (2*(i:Int))=((2*i:Nat):Int):=by rw [wrap_i64 (by omega) (by omega)];omega
  have w2:E7f .i64 (32+((2*i:Nat):Int))=((32+2*i:Nat):Int):=by rw [wrap_i64 (by omega) (by omega)];omega
  have a1:=adX (id:=l_ g+2) (i:=i) (by omega);have hs:(encI (getD b::O8 b i)).set (1+i) (cI (fieldN b (32+2*i) 2))=encI (getD b::O8 b (i+1)):=by rw [D3h,D8e (by omega)];rfl
  have X4:1+i<(encI (getD b::O8 b i)).length:=by rw [hX];omega
  rw [B1R];generalize Q4 b=G at *;generalize getD b::O8 b 32=Y at *;generalize encI (getD b::O8 b (i+1))=y1 at *;generalize encI (getD b::O8 b i)=y at *;generalize encI (0::zI 32)=z at *;refine ⟨h',?_⟩;simp only [esc,esh,c0,hB,w1,w2,hA,a1,X4,hs,E3 (a:=i) (by omega)];exact ih
def B9U(hb:l_ b=256):A6t [.a (B4 b)] h=A4 (.t [.a (encI (bif Q4 b then getD b::O8 b 32 else 0::zI 32)),.c (cI (bif Q4 b then 0 else 14))],h):=by
 have key:∀ N,32<N->∀ g,∃ g',B2X N [.a (B4 b)] g=A4 (.t [.a (encI (bif Q4 b then getD b::O8 b 32 else 0::zI 32)),.c (cI (bif Q4 b then 0 else 14))],g'):=by
  intro N hN g;have hB:(B4 b).length=256:=by rw [B5,hb]
  have hZ:(encI (0::zI 32)).length=33:=G5 (d:=0) N7;have hA:=λh=>qQ (h:=h) hb (a:=4) (w:=1)
  have ea:=D9J (b:=b) (a:=4) (w:=1) (by omega) (by omega) (by omega);rw [show ((4:Nat):Int)=4 from rfl,show ((1:Nat):Int)=1 from rfl] at ea;rw [ea] at hA;have ef:F9 (encI (0::zI 32)) [(0,1,iV (fieldN b 4 1))]=A4 (encI (getD b::O8 b 0)):=by
   have e1:(0+1<=(encI (0::zI 32)).length):=by rw [hZ];omega
   simp only [F9,cells?];rw [C4 ⟨rfl,e1⟩];rfl
  have hX:=G5 (d:=getD b) (A2k (b:=b) (n:=0) (by omega));obtain ⟨h',e⟩:=E0t (g:=g) (q:=N) hb hN 32 0 N (by omega) hN;rw [C5t,B43];generalize Q4 b=G at *;generalize getD b::O8 b 32=Y at *;generalize encI (getD b::O8 b 0)=y at *;generalize encI (0::zI 32)=z at *;exact ⟨h',by simp only [esc,esh,Nat.reduceAdd,hB,hZ,hA,ef,hX];exact e⟩
 obtain ⟨g',e⟩:=key (l_ h+33) (by omega) (ro h);refine C1t e ?_;cases Q4 b<;>simp
def yN(t:List Int)(i:Nat):Bool:=!decide (toX t i=0)&&A02 t i
def J5(t:List Int)(k:Nat):List Int:=((E7H k).filter (yN t)).map (toX t)
def B5f:J5 t (k+1)=J5 t k++(if yN t k=A5 then [toX t k] else []):=by
 unfold J5;rw [List.range_succ,E8k,E72,List.filter_cons];by_cases c:yN t k=A5<;>simp [c]
def jG(t:List Int)(k:Nat):(J5 t k).length<=k:=by
 unfold J5;rw [E8s];exact E7V (E74 _ _) (by simp)
def B0S{d:Int}{t:List Int}{n q:Nat}(ht:l_ t=32)(hn:n<=32):∀ (e i m:Nat) (h:A9) (id:Nat),i+e=n->e<m->Low (g++[rT (encI (d::t))]).length (g++[rT (encI (d::t))]) h->(g++[rT (encI (d::t))]).length<=id->rd h id=rT (encI (J5 t i)) ->
  ∃ v h',A05 q m (pV (l_ g) 0) (sV id 0 (J5 t i).length 1) (iV (n:Int)) (iV (i:Int)) h=A4 (v,h')/\Out (l_ g) h' v 1 (J5 t n).length (encI (J5 t n))
 | e,i,0,h,id,_,hm,_,_,_=>by omega
 | 0,i,m+1,h,id,hi,hm,hlow,hid,hr=>by
  have e0:i=n:=by omega
  subst e0;have c0:¬ (i:Int)<i:=by omega
  rw [E7c] at hid;rw [A3c];exact ⟨_,_,by simp only [esc,c0]<;>rfl,by rw [B9];omega,_,rfl,by omega,hr⟩
 | e+1,i,m+1,h,id,hi,hm,hlow,hid,hr=>by
  have c0:(i:Int)<n:=by omega
  have hB:=G5 (d:=d) ht;have hrd:rd h (l_ g)=rT (encI (d::t)):=hlow.rd (by simp);have s1:=C8 (h:=h) (id:=l_ g) (cs:=encI (d::t)) hrd hB;have a1:=adX (id:=l_ g) (i:=i) (by omega);have l1:=ldX (h:=h) (id:=l_ g) hrd ht (i:=i) (by omega);have hFs:=λh=>B4q (d:=d) (t:=t) (i:=i) (h:=h) ht (by omega)
  have w1:=E3 (a:=i) (by omega);have hul:=jG t i;rw [A3c];have skip:yN t i=A6->∃ v h',A05 q m (pV (l_ g) 0) (sV id 0 (J5 t i).length 1) (iV (n:Int)) (iV ((i+1:Nat):Int)) h=A4 (v,h')/\Out (l_ g) h' v 1 (J5 t n).length (encI (J5 t n)):=by
   intro c;have hu:J5 t (i+1)=J5 t i:=by rw [B5f,c];simp
   have:=B0S (q:=q) ht hn e (i+1) m h id (by omega) (by omega) hlow hid (by rw [hu];exact hr);rw [hu] at this;exact this
  by_cases cz:toX t i=0
  ·obtain ⟨v,h',f1,f2⟩:=skip (by unfold yN;rw [R9 cz];rfl);rw [cz] at l1;refine ⟨v,h',?_,f2⟩;generalize encI (d::t)=z at *;simp only [esc,c0,a1,l1,sC,w1];exact f1
  ·cases cs:A02 t i with
   | false =>
    obtain ⟨v,h',f1,f2⟩:=skip (by unfold yN;rw [cs,Bool.and_false]);rw [cs] at hFs;refine ⟨v,h',?_,f2⟩;generalize encI (d::t)=z at *;simp only [esc,c0,a1,l1,cz,s1,hFs,sC,w1];exact f1
   | true =>
    rw [cs] at hFs;have cb:yN t i=A5:=by unfold yN;rw [cs,aC cz];rfl
    have hu:J5 t (i+1)=J5 t i++[toX t i]:=by rw [B5f,C4 cb]
    obtain ⟨h1,b1,b2,b3,b4,b5⟩:=push (ys:=[cI (toX t i)]) (sz:=1) (n:=(J5 t i).length) hlow hr (by rw [B9];omega) hid rfl (by omega) (by omega);have he:encI (J5 t i)++[cI (toX t i)]=encI (J5 t (i+1)):=by rw [hu];simp [encI]
    rw [he] at b2;obtain ⟨v,h',f1,f2⟩:=B0S (q:=q) ht hn e (i+1) m h1 (l_ h+1) (by omega) (by omega) b3 b4 b2;have hl1:(J5 t (i+1)).length=(J5 t i).length+1:=by rw [hu];simp
    rw [hl1] at f1;have ef:F9 [o0] [(0,1,iV (toX t i))]=A4 [cI (toX t i)]:=rfl;refine ⟨v,h',?_,f2⟩;generalize encI (d::t)=z at *;simp only [esc,c0,a1,l1,cz,s1,hFs,ef,b1,sC,w1];exact f1
def iR(ht:l_ t=32):kF [.a (encI (d::t))] h=A4 (sV (l_ h) 0 (J5 t (C6 d)).length 1,h++[rT (encI (J5 t (C6 d)))]):=by
 have key:∀ N,32<N->∀ g,∃ v g',A2J N [.a (encI (d::t))] g=A4 (v,g')/\Out (l_ g) g' v 1 (J5 t (C6 d)).length (encI (J5 t (C6 d))):=by
  intro N hN g;have hB:=G5 (d:=d) ht;have hM:=λh=>gO (d:=d) (h:=h) ht
  have hm:=U3 d;obtain ⟨v,g',f1,f2⟩:=B0S (g:=g) (d:=d) (q:=N) ht hm (C6 d) 0 N (g++[rT (encI (d::t)),rT [],rT []]) (l_ g+2) (by omega) (by omega)
   (by have:=(Low.refl (h:=g++[rT (encI (d::t))]) (E69 _)).new [rT [],rT []];simpa using this) (by simp) (by simp [J5,encI])
  rw [show J5 t 0=[] from rfl] at f1;rw [B7d];refine ⟨v,g',?_,f2⟩;generalize encI (d::t)=z at *;simp only [esc,esh,Nat.reduceAdd,hB,hM] at f1 ⊢;exact f1
 obtain ⟨v,g',e,ho⟩:=key (l_ h+33) (by omega) (ro h);exact B5U e (by simpa [H8] using ho) (by simp)
def E0T(h:Nat)(b:Int):Nat:=if b<1 then 0 else if 32<=b then h else h%2 ^ b.toNat
def D5W{x:Nat}{b:Int}(hx:x<4294967296):C1y [.c (.i .u32 (x:Int)),iV b] h=A4 (iV (E0T x b:Nat),h):=by
 have key:∀ g,∃ g',C1a 0 [.c (.i .u32 (x:Int)),iV b] g=A4 (iV (E0T x b:Nat),g'):=by
  intro g;rw [D09];unfold E0T;by_cases c1:b<1
  ·rw [C4 c1];exact ⟨_,by simp only [esc,c1]<;>rfl⟩
  ·rw [C5 c1];have w1:E7f .i64 (x:Int)=(x:Int):=wrap_i64 (by omega) (by omega);by_cases c2:32<=b
   ·rw [C4 c2];exact ⟨_,by simp only [esc,c1,c2,w1]<;>rfl⟩
   ·rw [C5 c2];obtain ⟨k,rfl⟩:∃ k:Nat,b=k:=⟨b.toNat,by omega⟩;rw [E7s];have w2:=C2P (k:=k) (by omega);have hp:2 ^ k<=2 ^ 31:=Nat.pow_le_pow_right (by omega) (by omega);have hp0:0<2 ^ k:=Nat.pow_pos (by omega);have e1:O0 .shl (.c (.i .u32 1)) (.c (.i .u64 (k:Int)))=A4 (.c (.i .u32 ((2 ^ k:Nat):Int))):=by
     rw [B9p (by omega)];have h1:Nat.min (k:Int).toNat (IntKind.u32).bits=k:=by
      have:(IntKind.u32).bits=32:=rfl;rw [this,E7s];exact Nat.min_eq_left (by omega)
     rw [h1,Int.one_mul];have e:(2:Int) ^ k=((2 ^ k:Nat):Int):=by simp
     rw [e];generalize 2 ^ k=y at hp hp0 ⊢;rw [wrap_u32 (by omega) (by omega)]
    have w3:E7f .u32 (((2 ^ k:Nat):Int)-1)=((2 ^ k-1:Nat):Int):=by rw [wrap_u32 (by omega) (by omega)];omega
    have e2:=E17 (a:=x) (b:=2 ^ k-1) hx (by omega);rw [Nat.and_two_pow_sub_one_eq_mod] at e2;have hm:x%2 ^ k<2 ^ k:=Nat.mod_lt _ hp0;have w4:E7f .i64 ((x%2 ^ k:Nat):Int)=((x%2 ^ k:Nat):Int):=wrap_i64 (by omega) (by omega);generalize 2 ^ k-1=y at *;generalize x%2 ^ k=z at *;exact ⟨_,by simp only [esc,c1,c2,w2,e1,w3,e2,w4]<;>rfl⟩
 obtain ⟨g',e⟩:=key (ro h);exact C5S e rfl
def B4o{x:Nat}(ht:l_ t=32)(hx:x<4294967296):A1F [.a (encI (d::t)),.c (.i .u32 (x:Int))] h=A4 (iV (x%C6 d:Nat),h):=by
 have key:∀ g,∃ g',A7v 0 [.a (encI (d::t)),.c (.i .u32 (x:Int))] g=A4 (iV (x%C6 d:Nat),g'):=by
  intro g;have hB:=G5 (d:=d) ht;have hD:=λh=>dN (d:=d) (t:=t) (h:=h)
  have hL:=λh=>D5W (x:=x) (b:=(fN d:Nat)) (h:=h) hx
  have e:E0T x (fN d:Nat)=x%C6 d:=by
   unfold E0T C6;have:=B0Y d;rw [E7s];by_cases c:((fN d:Nat):Int)<1
   ·have:fN d=0:=by omega
    rw [C4 c,this];simp [Nat.mod_one]
   ·rw [C5 c,C5 (by omega)]
  rw [e] at hL;rw [C01];generalize encI (d::t)=y at *;exact ⟨_,by simp only [esc,esh,hB,hD,hL]<;>rfl⟩
 obtain ⟨g',e⟩:=key (ro h);exact B7p e rfl
def X0(D:Dev)(n k:Int)(d:List Int):Bool:=decide (k=2)&&F6 (l_ D) n (d.getD 0 0)&&Q4 (blk D (d.getD 0 0))
def sA(D:Dev)(n k:Int)(d:List Int):List Int:=bif X0 D n k d then getD (blk D (d.getD 0 0))::O8 (blk D (d.getD 0 0)) 32 else 0::zI 32
def sW(b:List UInt8):(O8 b 32).length=32:=by simp [O8,zI]
def D0h(D:Dev)(n k:Int)(d:List Int):∃ x t,sA D n k d=x::t/\(l_ t)=32:=by
 unfold sA;cases X0 D n k d with
 | false=>exact ⟨_,_,rfl,N7⟩
 | true=>exact ⟨_,_,rfl,sW _⟩
def A6Y(D:Dev)(n k:Int)(d:List Int):(encI (sA D n k d)).length=33:=by
 obtain ⟨x,t,e,h⟩:=D0h D n k d;rw [e,B9];simp [h]
def A1I{k s:Int}{d:List Int}(hD:okD D)(hd:l_ d=7)(hv:IsView h f D) :
  jS [.a (vwC (l_ D) n m f),.a (C9 k l s p d)] h=A4 (.t [.a (encI (sA D n k d)),.c (.b (X0 D n k d))],h):=by
 have key:∀ g,IsView g f D->∃ g',B0e 0 [.a (vwC (l_ D) n m f),.a (C9 k l s p d)] g=A4 (.t [.a (encI (sA D n k d)),.c (.b (X0 D n k d))],g'):=by
  intro g hv;have l3:=C3Z (b:=l_ D) (n:=n) (m:=m) (f:=f);have l4:=B65 (b:=l_ D) (n:=n) (m:=m) (f:=f);have i0:(C9 k l s p d)[0]?=A4 (cI k):=rfl;have i4:(C9 k l s p d)[4]?=A4 (cI (d.getD 0 0)):=by
   have:(C9 k l s p d)[4]?=(encI d)[0]? := rfl;rw [this,G7,E64 (by omega),E67,E64 (by omega)];rfl
  have ad:∀ q,L6 6 1 (pV q 4) (iV 0)=A4 (pV q 4):=λq=>rfl
  have hz:(encI (0::zI 32)).length=33:=G5 (d:=0) N7;have ef:F9 (encI (0::zI 32)) []=A4 (encI (0::zI 32)):=rfl;have n12:¬ (14:Int)=0:=by decide
  rw [C4b,B43];unfold sA X0;by_cases c1:k=2
  ·have hI:=λh=>Y3 (b:=l_ D) (n:=n) (m:=m) (i:=d.getD 0 0) (h:=h)
   cases c2:F6 (l_ D) n (d.getD 0 0) with
   | false =>
    simp only [c2] at hI;simp only [Bool.and_false,E7v,bZ];generalize vwC (l_ D) n m f=V at *;generalize C9 k l s p d=I at *;generalize encI (0::zI 32)=z at *;exact ⟨_,by simp only [esc,esh,Nat.reduceAdd,eq_self,i0,c1,l3,ad,i4,hI,hz,ef]<;>rfl⟩
   | true =>
    simp only [c2] at hI;have hB:=N2 (n:=n) (m:=m) (no:=d.getD 0 0) (h:=g++[rT (vwC (l_ D) n m f),rT (C9 k l s p d),rT (encI (0::zI 32))]) hD (hv.more _);have hG:=λh=>B9U (h:=h) (J8 hD (i:=d.getD 0 0))
    have hX:(encI (getD (blk D (d.getD 0 0))::O8 (blk D (d.getD 0 0)) 32)).length=33:=G5 (sW _);rw [R9 c1,E7w,E7w];cases c3:Q4 (blk D (d.getD 0 0)) with
    | false =>
     simp only [c3,bZ] at hG;rw [bZ];generalize encI (getD (blk D (d.getD 0 0))::O8 (blk D (d.getD 0 0)) 32)=x at *;generalize B4 (blk D (d.getD 0 0))=y at *;generalize vwC (l_ D) n m f=V at *;generalize C9 k l s p d=I at *;generalize encI (0::zI 32)=z at *;exact ⟨_,by simp only [esc,esh,Nat.reduceAdd,eq_self,i0,c1,l3,l4,ad,i4,hI,hB,hG,hz,ef,n12]<;>rfl⟩
    | true =>
     simp only [c3,R8] at hG;rw [R8];generalize encI (getD (blk D (d.getD 0 0))::O8 (blk D (d.getD 0 0)) 32)=x at *;generalize B4 (blk D (d.getD 0 0))=y at *;generalize vwC (l_ D) n m f=V at *;generalize C9 k l s p d=I at *;generalize encI (0::zI 32)=z at *;exact ⟨_,by simp only [esc,esh,Nat.reduceAdd,eq_self,i0,c1,l3,l4,ad,i4,hI,hB,hG,hz,hX,ef]<;>rfl⟩
  ·rw [aC c1,E7v,E7v,bZ];generalize vwC (l_ D) n m f=V at *;generalize C9 k l s p d=I at *;generalize encI (0::zI 32)=z at *;exact ⟨_,by simp only [esc,esh,Nat.reduceAdd,eq_self,i0,c1,hz,ef]<;>rfl⟩
 obtain ⟨g',e⟩:=key (ro h) hv.ro;exact B83 e (by simp [Val.flat,Cell.flat])
def T5(D:Dev)(n k:Int)(d:List Int):List Int:=bif X0 D n k d then (J5 (O8 (blk D (d.getD 0 0)) 32) (C6 (getD (blk D (d.getD 0 0))))).filter (F6 (l_ D) n) else []
def B7O{n m:Int}{p q sid:Nat}(h1:rd g p=rT (vwC (l_ D) n m f))(hL:l_ L<=32):∀ (e i M id:Nat) (h:A9) (l:List Int),i+e=l_ L->e<M->l_ l<=i->Low (l_ g) g h->l_ g<=id->id≠sid->rd h sid=rT (encI L)->rd h id=rT (encI l) ->
  ∃ v' h',B1O q M (pV p 0) (sV id 0 (l_ l) 1) (sV sid 0 (l_ L) 1) (iV (l_ L:Int)) (iV (i:Int)) h=A4 (v',h')/\Out (l_ g) h' v' 1 (l++(L.drop i).filter (F6 (l_ D) n)).length (encI (l++(L.drop i).filter (F6 (l_ D) n)))
 | e,i,0,id,h,l,_,hm,_,_,_,_,_,_=>by omega
 | 0,i,M+1,id,h,l,hi,hm,hl,hlow,hid,Z2,hs,hr=>by
  have e0:i=(l_ L):=by omega
  subst e0;have c0:¬ ((l_ L:Nat):Int)<(l_ L:Nat):=by omega
  rw [A5p,E7j (E69 _),List.filter_nil,E7q];exact ⟨_,_,by simp only [esc,c0]<;>rfl,by rw [B9,E8i],id,rfl,hid,hr⟩
 | e+1,i,M+1,id,h,l,hi,hm,hl,hlow,hid,Z2,hs,hr=>by
  have K6:i<(l_ L):=by omega
  have c0:(i:Int)<(l_ L:Nat):=by omega
  have ad:F5 1 (sV sid 0 (l_ L) 1) (iV (i:Int))=A4 (pV sid i):=by rw [E4 K6];simp
  have l1:B8 h (pV sid i)=A4 (iV L[i]):=C1 hs (by rw [G7,E64 K6];rfl) rfl;have fa:U8 (pV p 0) 0=A4 (pV p 0):=rfl;have l3:D3 h 3 (pV p 0)=A4 (.a (M4 (l_ D) n m)):=by rw [U2 (hlow.rd h1) (by simp [vwC]) rfl];rfl
  have hI:=Y3 (b:=l_ D) (n:=n) (m:=m) (i:=L[i]) (h:=h);have w1:=E3 (a:=i) (by omega);rw [A5p,E7g K6];cases c:F6 (l_ D) n L[i] with
  | false =>
   rw [c] at hI;obtain ⟨v',h',f1,f2⟩:=B7O (q:=q) h1 hL e (i+1) M id h l (by omega) (by omega) (by omega) hlow hid Z2 hs hr;rw [E73 (by rw [c];simp)];refine ⟨v',h',?_,f2⟩;simp only [C7,G4,c0,decide_true,Y1,ad,l1,fa,l3,hI,Y0,A5o,M7,w1];exact f1
  | true =>
   rw [c] at hI;have ef:F9 [o0] [(0,1,iV L[i])]=A4 (encI [L[i]]):=rfl;obtain ⟨h2,a1,a2,a3,a4⟩:=B8b (n:=l_ l) (sz:=1) (ys:=encI [L[i]]) hr (by rw [B9,E8i]) rfl (by omega) (by omega);rw [<-jI] at a2;have el:(l++[L[i]]).length=l_ l+1:=by simp
   have X4:=E5 hs;obtain ⟨v',h',f1,f2⟩:=B7O (q:=q) h1 hL e (i+1) M (l_ h+1) h2 (l++[L[i]]) (by omega) (by omega) (by rw [el];omega) (hlow.trans (a4 _ hid (by have:=hlow.2.1;omega))) (by have:=hlow.2.1;omega) (by omega) (a3 _ _ (Ne.symm Z2) hs) a2;rw [E7Z (by rw [c])];rw [E7i,List.singleton_append] at f2;rw [el] at f1;refine ⟨v',h',?_,f2⟩;simp only [C7,G4,c0,decide_true,Y1,ad,l1,fa,l3,hI,ef,a1,A5o,M7,w1];exact f1
def A2R{k s:Int}{d:List Int}(hD:okD D)(hd:l_ d=7)(hv:IsView h f D) :
  oB [.a (vwC (l_ D) n m f),.a (C9 k l s p d)] h=A4 (sV (l_ h) 0 (T5 D n k d).length 1,h++[rT (encI (T5 D n k d))]):=by
 have key:∀ g,IsView g f D->∃ v g',A4C 33 [.a (vwC (l_ D) n m f),.a (C9 k l s p d)] g=A4 (v,g')/\Out (l_ g) g' v 1 (T5 D n k d).length (encI (T5 D n k d)):=by
  intro g hv;have hIl:(C9 k l s p d).length=11:=by simp [C9,B9,hd]
  have l11:ldN (rT (C9 k l s p d)) 0 11=A4 (.a (C9 k l s p d)):=L9 hIl;have l4:=B65 (b:=l_ D) (n:=n) (m:=m) (f:=f);have hz:(encI (0::zI 32)).length=33:=G5 (d:=0) N7;have hX:=A6Y D n k d;have hI:=A1I (n:=n) (m:=m) (k:=k) (l:=l) (s:=s) (p:=p) (h:=g++[rT (vwC (l_ D) n m f),rT (C9 k l s p d),rT []]) hD hd (hv.more _);rw [B8G,B43];cases c:X0 D n k d with
  | false =>
   rw [c] at hI;have eb:T5 D n k d=[]:=by unfold T5;rw [c];rfl
   rw [eb];generalize encI (sA D n k d)=x at *;generalize encI (0::zI 32)=z at *;refine ⟨sV (l_ g+4) 0 0 1,g++[rT (vwC (l_ D) n m f),rT (C9 k l s p d),rT [],rT x,rT []],?_,rfl,l_ g+4,rfl,by omega,by simp [encI]⟩;generalize vwC (l_ D) n m f=V at *;generalize C9 k l s p d=I at *;simp only [esc,esh,Nat.reduceAdd,l4,l11,hI,hz,hX]
  | true =>
   rw [c] at hI;have eb:T5 D n k d=(J5 (O8 (blk D (d.getD 0 0)) 32) (C6 (getD (blk D (d.getD 0 0))))).filter (F6 (l_ D) n):=by unfold T5;rw [c];rfl
   have ex:sA D n k d=getD (blk D (d.getD 0 0))::O8 (blk D (d.getD 0 0)) 32:=by unfold sA;rw [c];rfl
   rw [ex] at hI hX;have hB:=λh=>iR (d:=getD (blk D (d.getD 0 0))) (h:=h) (sW (blk D (d.getD 0 0)))
   have hBl:=jG (O8 (blk D (d.getD 0 0)) 32) (C6 (getD (blk D (d.getD 0 0))));have hml:=U3 (getD (blk D (d.getD 0 0)));rw [eb];generalize J5 (O8 (blk D (d.getD 0 0)) 32) (C6 (getD (blk D (d.getD 0 0))))=L at *;generalize encI (getD (blk D (d.getD 0 0))::O8 (blk D (d.getD 0 0)) 32)=x at *;generalize encI (0::zI 32)=z at *;obtain ⟨v',h',f1,f2⟩:=B7O (D:=D) (n:=n) (m:=m) (f:=f) (g:=g++[rT (vwC (l_ D) n m f),rT (C9 k l s p d),rT [],rT x]) (p:=l_ g) (q:=33) (sid:=l_ g+5) (L:=L) (by simp) (by omega) (l_ L) 0 33 (l_ g+4) (g++[rT (vwC (l_ D) n m f),rT (C9 k l s p d),rT [],rT x,rT [],rT (encI L)]) [] (by omega) (by omega) (by simp)
    (by
     have:=(Low.refl (h:=g++[rT (vwC (l_ D) n m f),rT (C9 k l s p d),rT [],rT x]) (E69 _)).new [rT [],rT (encI L)];simpa using this) (by simp) (by omega) (by simp) (by simp [encI])
   rw [E7A,E7n] at f2;rw [E7Q] at f1;refine ⟨v',h',?_,f2.1,?_⟩
   ·generalize vwC (l_ D) n m f=V at *;generalize C9 k l s p d=I at *;simp only [esc,esh,Nat.reduceAdd,l4,l11,hI,hz,hX,hB];exact f1
   ·obtain ⟨id,e,hb,hr⟩:=f2.2;exact ⟨id,e,by simp at hb;omega,hr⟩
 obtain ⟨v,g',e,ho⟩:=key (ro h) hv.ro;exact B7n e (by simpa [H8] using ho) (by simp)
section
variable (n m m2:Nat) (a0 a1 x0 x1 x2 x3 x4 x6 x7 x8 x9 x10 x18 x19 x21 x22:Val) (h:A9)
def pU:FD A8:=⟨px 0X11201024bf2e053a04b49218011d201500001722401b1a195b027a1a17a4e787a777a7014b0220385e173901a18d15238f30412742150307024313401215f42006051105b72c035d5b41c2013011d201500622401b6193b02481a74870101b6192b02381a73870101b18191c9051e1a01e18a71e701501205b740284f42031201042,[.c (.s [46]),.c (.s [46,46]),.c (.i .u8 0),.c (.i .u8 47)],[.idxS (.t 25) (.t 26),.idxS (.t 30) (.t 31)],[.tmp 2],[]⟩
def B8L:=pU.R
def B6U:AtH:=pU.lj 0 n [m] [x0,x21,x22]
def B9n:=tT [⟨2,3,B6U⟩]
def C4j:=mR B8L pU B9n n [a0] h
def A9F:=mL pU B9n 0 n [m] [x0,x21,x22] h
def A92:=pU.K Tryz.func172
def A3J:=pU.S
def C4y:SOk A8 172 A3J:=A92.sok
def B9b:G3 B8L A3J:=A92.flat
def uX:FD A8:=⟨px 0X113026e3966a393d1c37111102723cf2b052a02218022a185e1392d0384e1710502482e07182df604123c42150307024513401215942006051105b7134f4d11c2013022a1381392d06905b71d051961192011cf3002c3961e11e39184711101722410321819022d4218f50010377031b42031e4c11942111e21b250182,[],[.idxS (.t 24) (.t 25)],[.cellN 2 25,.tmp 3],[D9 A3J A92]⟩
def B22:=uX.R
def C0g:AtH:=uX.lj 0 n [m] [x0,x2,x4,x18,x19]
def C3a:=tT [⟨2,5,C0g⟩]
def C5z:=mR B22 uX C3a n [a0] h
def B11:=mL uX C3a 0 n [m] [x0,x2,x4,x18,x19] h
def B2E:=uX.K Tryz.func173
def A6w:=uX.S
def C5T:SOk A8 173 A6w:=B2E.sok
def C1A:G3 B22 A6w:=B2E.flat
def A1x:FD A8:=⟨px 0X1113df20683d0302011d12b20275001a22401b18192684e6a39683c4e39683c0110323e2e07791100722df12cf23961e61b11828062c2c2bf29001033a2a0181f1d31c201328f5013803805022a1d051b4001a2011d12b2027500001b2241c90521e1b023942031af400680411e1391818c41942112b103a3342,[.c (.s [])],[.slA 25 1 (.t 1) (A4 (.v (.c (cI 1)))) (A4 (.t 14)),.b2s (.t 15),.eqA A5 (E68 25 (.i .u8)) (.t 25) (.t 26)],[.tmp 2,.tmp 3],[D9 A6w B2E]⟩
def A7D:=A1x.R
def C1b:=mR A7D A1x (tT []) n [a0] h
def B6h:=A1x.K Tryz.func165
def A7V:=A1x.S
def C1B:SOk A8 165 A7V:=B6h.sok
def B7A:G3 A7D A7V:=B6h.flat
def A52:FD A8:=⟨px 0X17f4004121a171400062340130182,[],[],[.tmp 4],[]⟩
def C23:=A52.R
def C5y:=mR C23 A52 (tT []) n [a0,a1] h
def C2V:=A52.K Tryz.func171
def B3z:=A52.S
def C1z:G3 C23 B3z:=C2V.flat
def pW:FD A8:=⟨px 0X159f113df40301e1904218d1a1f18d7018d1e04118d4f7c18d7718d7010612029716815e3d01e0194600000031b33cf70583c02183bf6050024c131824042035e1040411d3a172c066b422bf18001a021901a204722c128128171a452150702404121a11a1b033b42030406053131af1160029719041f1d18231140230182,[],[],[.tmp 4,.tmp 5],[D9 B3z C2V]⟩
def B0m:=pW.R
def A8j:AtH:=pW.lj 0 n [m] [x0,x1,x6,x7]
def B9o:=tT [⟨2,4,A8j⟩]
def C4k:=mR B0m pW B9o n [a0,a1] h
def A9G:=mL pW B9o 0 n [m] [x0,x1,x6,x7] h
def B8z:=pW.K Tryz.func153
def A3K:=pW.S
def B9c:G3 B0m A3K:=B8z.flat
def jD:FD A8:=⟨px 0X14df203f4d0250000003724cf1a056c02218022a4611d7a16e17a151823811385e16a103850024e15a3807019032ff30041392b1013113e4c14612017243a2c0159423132bf12af6011a280182a2c29f1e0042032e1381f0181f1d1821df500441811d31c4215011a07024413401212f420060511029718032d2b291c201314a174212481042,[.c (.s [])],[.slL 1 (.t 24) (A4 (.t 26)) A7,.slL 1 (.t 28) (A4 (.t 29)) A7,.copy 1 (.t 27) (.t 30)],[.tmp 2],[D9 A3K B8z]⟩
def B23:=jD.R
def C0i:AtH:=jD.lj 0 n [m] [x3,x8,x9,x10]
def D1Y:AtH:=jD.lj 1 n [m] [x3,x8,x9,x10]
def B3H:=tT [⟨2,4,C0i⟩,⟨2,4,D1Y⟩]
def C5A:=mR B23 jD B3H n [a0] h
def B13:=mL jD B3H 0 n [m] [x3,x8,x9,x10] h
def B12:=mJ jD B3H 1 n [m] [x3,x8,x9,x10] h
def B2F:=jD.K Tryz.func126
def A6x:=jD.S
def C5U:SOk A8 126 A6x:=B2F.sok
def C4z:A4u B23 A6x:=B2F.out
end
def A2g(c:UInt8):Bool:=!(decide ((c.toNat:Int)=0)||decide ((c.toNat:Int)=47))
def aY(s:List UInt8):Bool:=!(decide ((l_ s:Int)<1)||decide (24<(l_ s:Int))||decide (s=[46])||decide (s=[46,46]))&&s.all A2g
def bP(h:aY s=A5):1<=l_ s/\(l_ s)<=24:=by
 unfold aY at h;simp at h;omega
def C6l(s:List UInt8)(hs:l_ s<9223372036854775807)(n:Nat)(h:A9):∀ d i m:Nat,i+d=l_ s->d<m ->
  B6U n m (.c (.s s)) (iV (l_ s)) (iV i) h=A4 (iV (bif (s.drop i).all A2g then 0 else 3),h)
 | d,i,0,_,hm=>by omega
 | 0,i,m+1,hi,hm=>by
  have c0:¬ ((i:Int)<l_ s):=by omega
  rw [A9F,show s.drop i=[] from E7j (by omega)];simp only [esc,c0]
 | d+1,i,m+1,hi,hm=>by
  have h1:(i:Int)<(l_ s):=by omega
  have h2:i<(l_ s):=by omega
  have ih:=C6l s hs n h d (i+1) m (by omega) (by omega);rw [A9F,E7g h2,E8e];by_cases c1:(s[i].toNat:Int)=0
  ·have f:A2g s[i]=A6:=by unfold A2g;rw [R9 c1];rfl
   simp only [esc,h1,B9R h2,c1,f,E7v]
  ·by_cases c2:(s[i].toNat:Int)=47
   ·have f:A2g s[i]=A6:=by unfold A2g;rw [R9 c2];simp
    simp only [esc,h1,B9R h2,c2,f,E7v,Int.reduceEq]
   ·have f:A2g s[i]=A5:=by unfold A2g;rw [aC c1,aC c2];rfl
    simp only [esc,h1,B9R h2,c1,c2,f,E7w,E3 (a:=i) (by omega)];exact ih
def C6k(hs:l_ s<9223372036854775807)(h:A9):A3J [.c (.s s)] h=A4 (iV (bif aY s then 0 else 3),h):=by
 refine B9b (n:=l_ s+1) (h2:=ro h) ?_ rfl;rw [C4j];have hl:=C6l s hs (l_ s+1) (ro h) (l_ s) 0 (l_ s+1) (by omega) (by omega);rw [E7n] at hl;unfold aY;by_cases c1:(l_ s:Int)<1
 ·simp only [esc,c1,E71,E7v]
 ·by_cases c2:(24:Int)<(l_ s)
  ·simp only [esc,c1,c2,E71,E7v,Bool.or_true]
  ·by_cases c3:s=[46]
   ·subst c3;simp only [esc];rfl
   ·by_cases c4:s=[46,46]
    ·subst c4;simp only [esc];rfl
    ·simp only [esc,c1,c2,c3,c4,Bool.or_self,E7w];exact hl
def A5D(s:List UInt8)(i:Nat):List UInt8:=UInt8.ofNat (l_ s)::(s.take i++zeros (24-i))
def iU(s:List UInt8):List UInt8:=bif aY s then A5D s (l_ s) else zeros 25
def B1g(hi:i<=l_ s)(hs:l_ s<=24):(A5D s i).length=25:=by
 unfold A5D;rw [E7k,E7c,zeros_length,E7L];omega
def qR:(iU s).length=25:=by
 unfold iU;cases hf:aY s with
 | false=>exact zeros_length
 | true=>exact B1g (E69 _) (bP hf).2
def D8N(hi:i<l_ s)(hs:l_ s<=24):(A5D s i).set (1+i) s[i]=A5D s (i+1):=by
 unfold A5D;rw [Nat.add_comm 1 i,List.set_cons_succ];refine congrArg (UInt8.ofNat (l_ s) :: ·) ?_;have hlen:(List.take i s).length=i:=by simp;omega
 rw [E70 _ _ (by omega),hlen,E8l,E7E hi,E7i];refine congrArg (List.take i s ++ ·) ?_;have e:24-i=(24-(i+1))+1:=by omega
 rw [e];unfold zeros;rw [E7P,E8p];rfl
def D0A(s:List UInt8)(hs:l_ s<=24)(h:A9)(c2:List Cell)(l2:c2.length=25)(n:Nat):∀ d i m:Nat,i+d=l_ s->d<m ->
  C0g n m (.c (.s s)) (pV (l_ h) 0) (pV (l_ h+1) 0) (iV (l_ s)) (iV i) (h++[rT c2,rT (B4 (A5D s i))]) =
   A4 (.t [.a (B4 (A5D s (l_ s))),.c o0],h++[rT (B4 (A5D s (l_ s))),rT (B4 (A5D s (l_ s)))])
 | d,i,0,_,hm=>by omega
 | 0,i,m+1,hi,hm=>by
  have h1:¬ ((i:Int)<l_ s):=by omega
  have e:i=(l_ s):=by omega
  subst e;have hl:(B4 (A5D s (l_ s))).length=25:=by rw [B5];exact B1g (E69 _) hs
  rw [B11];simp only [esc,esh,h1,hl,l2]
 | d+1,i,m+1,hi,hm=>by
  have h1:(i:Int)<(l_ s):=by omega
  have h3:i<(l_ s):=by omega
  have hl:(B4 (A5D s i)).length=25:=by rw [B5];exact B1g (by omega) hs
  have ih:=D0A s hs h c2 l2 n d (i+1) m (by omega) (by omega);have e1:E7f .i64 (1+(i:Int))=((1+i:Nat):Int):=by rw [wrap_i64 (by omega) (by omega)];omega
  have ea:L6 25 1 (pV (l_ h+1) 0) (iV ((1+i:Nat):Int))=A4 (pV (l_ h+1) (1+i)):=by rw [Q7 (by omega)];simp
  have ho:1+i<(B4 (A5D s i)).length:=by omega
  rw [B11];simp only [esc,esh,h1,e1,B9R h3,ea,ho,oW,D8N h3 hs,E3 (a:=i) (by omega)];exact ih
def D7n(hs:l_ s<9223372036854775807)(h:A9) :
  A6w [.c (.s s)] h=A4 (.t [.a (B4 (iU s)),.c (cI (bif aY s then 0 else 3))],h):=by
 have key:∀ g,∃ g',B22 (l_ s+1) [.c (.s s)] g=A4 (.t [.a (B4 (iU s)),.c (cI (bif aY s then 0 else 3))],g'):=by
  intro g;have hz:=J4 25;have hl:(B4 (zeros 25)).length=25:=by rw [B5];exact zeros_length
  rw [C5z,hz];unfold iU;cases hf:aY s with
  | false =>
   generalize zeros 25=Z at *;exact ⟨_,by simp only [esc,esh,C6k hs,hf,hl,Int.reduceEq]<;>rfl⟩
  | true =>
   have E6w:=(bP hf).2;have e0:(B4 (zeros 25)).set 0 (.i .u8 (E7f .u8 (l_ s)))=B4 (A5D s 0):=by
    rw [wrap_u8 (by omega) (by omega)];have:((l_ s:Nat):Int)=((UInt8.ofNat (l_ s)).toNat:Int):=by rw [UInt8.toNat_ofNat'];omega
    rw [this,oW];rfl
   have:=D0A s E6w g (B4 (zeros 25)) hl (l_ s+1) (l_ s) 0 (l_ s+1) (by omega) (by omega);rw [<-e0] at this;generalize zeros 25=Z at *;have a0:L6 25 1 (pV (l_ g+1) 0) (iV 0)=A4 (pV (l_ g+1) 0):=rfl;have ho:0<(B4 Z).length:=by omega
   exact ⟨_,by simp only [esc,esh,C6k hs,hf,a0,ho];exact this⟩
 obtain ⟨g',e⟩:=key (ro h);exact C1A e (by simp)
def gZ(l:List UInt8):Option (List UInt8) :=
 if (l.headD 0).toNat<=24 then
  if aY ((l.drop 1).take (l.headD 0).toNat)=A5/\iU ((l.drop 1).take (l.headD 0).toNat)=l then A4 ((l.drop 1).take (l.headD 0).toNat) else A7
 else A7
def D9h{l:List UInt8}(hl:l_ l=25)(h:A9) :
  A7V [.a (B4 l)] h=A4 (.t [.c (.s ((gZ l).getD [])),.c (cI (if (gZ l).isSome then 0 else 3))],h):=by
 have key:∀ g,∃ g',A7D 0 [.a (B4 l)] g=A4 (.t [.c (.s ((gZ l).getD [])),.c (cI (if (gZ l).isSome then 0 else 3))],g'):=by
  intro g;obtain ⟨x,r,rfl⟩:∃ x r,l=x::r:=by
   cases l with
   | nil=>simp at hl
   | cons x r=>exact ⟨x,r,rfl⟩
  have hx:=x.toNat_lt;rw [C1b];have a0:L6 25 1 (pV (l_ g) 0) (iV 0)=A4 (pV (l_ g) 0):=rfl;have l0:(B4 (x::r))[0]?=A4 (.i .u8 x.toNat):=rfl;have e1:E7f .i64 (x.toNat:Int)=x.toNat:=wrap_i64 (by omega) (by omega);have mE:(B4 (x::r)).length=25:=by rw [B5,hl]
  unfold gZ;simp only [List.headD_cons,List.drop_succ_cons,E7n];by_cases c1:x.toNat<=24
  ·rw [C4 c1];have c1':¬ (24:Int)<x.toNat:=by omega
   have e2:E7f .i64 (1+(x.toNat:Int))=((1+x.toNat:Nat):Int):=by rw [wrap_i64 (by omega) (by omega)];omega
   have e3:=E4S (h:=g) (l:=[rT (B4 (x::r))]) (k:=0) (n:=25) (a:=1) (b:=1+x.toNat) (cs:=B4 (x::r)) rfl mE (by omega) (by omega);rw [E8m,show 1+x.toNat-1=x.toNat by omega,show ((1:Nat):Int)=1 from rfl] at e3;have hh:Has (g++[rT (B4 (x::r))]) (sV (l_ g) 1 x.toNat 1) 1 x.toNat (B4 (r.take x.toNat)):=Has.part O2 (by omega) (by
    rw [D7Y,D7Z];simp) (W1 _)
   have hs:(r.take x.toNat).length<9223372036854775807:=by simp;omega
   have hp:=D7n hs (g++[rT (B4 (x::r))]);have hpl:(B4 (iU (r.take x.toNat))).length=25:=by rw [B5,qR]
   have hz:(E68 25 (Cell.i .u8 0)).length=25:=E7F;have hq:=C9C (l:=iU (r.take x.toNat)) (m:=x::r) qR hl;generalize E68 25 (Cell.i .u8 0)=z at *;cases hf:aY (r.take x.toNat) with
   | false =>
    rw [hf] at hp;rw [C5 (by simp)];exact ⟨_,by simp only [esc,esh,a0,l0,e1,c1',e2,e3,hh.str,hp,hpl,hz,Int.reduceEq,Option.getD_none,E8b,Bool.false_eq_true]<;>rfl⟩
   | true =>
    rw [hf] at hp;by_cases c2:iU (r.take x.toNat)=x::r
    ·rw [C4 ⟨rfl,c2⟩];exact ⟨_,by simp only [esc,esh,a0,l0,e1,c1',e2,e3,hh.str,hp,hpl,hz,mE,hq,R9 c2,Option.getD_some,E7S]<;>rfl⟩
    ·rw [C5 (λh=>c2 h.2)];exact ⟨_,by simp only [esc,esh,a0,l0,e1,c1',e2,e3,hh.str,hp,hpl,hz,mE,hq,aC c2,Option.getD_none,E8b,Bool.false_eq_true]<;>rfl⟩
  ·rw [C5 c1];have c1':(24:Int)<x.toNat:=by omega
   exact ⟨_,by simp only [esc,esh,a0,l0,e1,c1',Option.getD_none,E8b,Bool.false_eq_true]<;>rfl⟩
 obtain ⟨g',e⟩:=key (ro h);exact B7A e (by simp)
section
variable (n m m2:Nat) (a0 a1 a2 a3 x0 x1 x2 x3 x4 x6 x7 x11 x16 x17 x18 x34 x35 x36:Val) (h:A9)
def wJ:FD A8:=⟨px 0X15f20028962500261400521201042,[],[],[.tmp 2],[]⟩
def A4y:=wJ.R
def B8D:=mR A4y wJ (tT []) n [a0] h
def nP:=wJ.K Tryz.func156
def iI:=wJ.S
def B5O:G3 A4y iI:=nP.flat
def A3p:FD A8:=⟨px 0X128f203018191889019391a0391e138391f013018195041f1a01f1e11e1f1f0110220103040451f00523103a2342,[],[],[.tmp 2],[cal C4y]⟩
def A97:=A3p.R
def C34:=mR A97 A3p (tT []) n [a0] h
def A3B:=A3p.K Tryz.func155
def xP:=A3p.S
def B8W:G3 A97 xP:=A3B.flat
def pM:FD A8:=⟨px 0X139f20041393b143b133b123b113b1051a513e582f0420522ef30041390384a2c041122bf12af23961e41b11a280182a2c29f1e001030403c1f2b19190521df300111a10218213e0692b01c20412850690411a62b1974214a03a2342,[.c (.i .u64 8),.c (.i .u8 0)],[.slA 25 1 (.t 4) A7 A7],[.tmp 2],[cal C5T]⟩
def A0L:=pM.R
def B5I:=mR A0L pM (tT []) n [a0] h
def iG:=pM.K Tryz.func157
def cV:=pM.S
def B3l:A4u A0L cV:=iG.out
def kR:FD A8:=⟨px 0X11b5024f261b826e1c3020135024f260293b31b11622401b2c1901c31ac1a211ac4e28906351ac2f0101ac2f1f1ac72f4881ac3c01ac4e0141ac2f18a21ac3c0101b1819019a4d01319a2f78219a3c0110326c4b0280191d9431000334af22612901a5a0111a102293b190632301037c178488185a3d071192d3533cf13bf18011828063b2c3af38001134e39391c74633301b22ff1b053802218022a28481392d0404c14882d04022e11900201033c11e1e01a181df704121a421503070245131cd012139420060511b012f42031e4c11d42312941b422e319531c2,[],[.b2sN A7 (.t 44),.b2sN A7 (.t 49)],[.cellN 4 2,.tmp 5],[D9 iI nP,cal C1B,D9 A15 A8w,D9 xP A3B,D9 cV iG,D9 A8R B48]⟩
def A7q:=kR.R
def B3O:AtH:=kR.lj 0 n [m] [x1,x2,x4,x6,x11]
def B6s:=tT [⟨2,5,B3O⟩]
def C0S:=mR A7q kR B6s n [a0,a1] h
def A6M:=mL kR B6s 0 n [m] [x1,x2,x4,x6,x11] h
def A1C:=kR.K Tryz.func143
def sK:=kR.S
def B7i:G3 A7q sK:=A1C.flat
def tJ:FD A8:=⟨px 0X11b30174221c2a0633903012c133e6318645002231422e253182,[],[],[.tmp 3],[]⟩
def B1C:=tJ.R
def A4w:=mR B1C tJ (tT []) n [a0,a1] h
def B1x:=tJ.K Tryz.func152
def tQ:=tJ.Q
def A4P:OfT B1C tQ:=B1x.of
def S9:FD A8:=⟨px 0X39f7054c022180124301e1904b4d01184b6e02141022c4b6d3e24b3c3e4b74a4b7012c28019692220721ff11ef2262951b11a280181e2c1df1a0042032812a4881b1c191d1b18219f4041218421503070243133d012129420060517011f42422e153182,[],[],[],[D9 sK A1C,gG tQ B1x]⟩
def A0h:=S9.R
def zY:L7:=S9.E
def yQ:AtH:=S9.lj 0 n [m] [x1,x2,x7]
def A0m:TT:=⟨zY,[⟨2,3,yQ⟩]⟩
def A7n:=mR A0h S9 A0m n [a0,a1] h
def rD:=mL S9 A0m 0 n [m] [x1,x2,x7] h
def A0c:=S9.K Tryz.func105
def lU:=S9.Q
def A7K:OfT A0h lU:=A0c.of
def A1l:FD A8:=⟨px 0X17f201842505204203412b85e648818301224c174234a03a2342,[],[],[.tmp 2],[gG lU A0c]⟩
def A1D:=A1l.R
def C0P:=mR A1D A1l (tT []) n [a0] h
def sH:=A1l.K Tryz.func124
def gD:=A1l.S
def A8H:SOk A8 124 gD:=sH.sok
def B8R:E1W A1D gD:=sH.low
def B8S:A4u A1D gD:=sH.out
def eW:FD A8:=⟨px 0X11df5003f2a431c000017201b282a22a361e3183182404222840400514552d261c21000301a31742e219753282,[],[],[.tmp 5],[]⟩
def B1B:=eW.R
def C1V:AtH:=eW.lj 0 n [] [x3]
def B1G:=tT [⟨1,1,C1V⟩]
def A4v:=mR B1B eW B1G n [a0,a1,a2,a3] h
def A3a:=mJ eW B1G 0 n [] [x3] h
def B1w:=eW.K Tryz.func106
def kE:=eW.Q
def A4O:OfT B1B kE:=B1w.of
def S8:FD A8:=⟨px 0X39f7054c022180124301e1904b4d01184b6e02141022c4b6d3e24b3c3e4b74a4b7012c28019692220721ff11ef2262951b11a280181e2c1df1a0042032812a4881b1c191d1b18219f4041218421503070243133d012129420060517011f42422e153182,[],[],[],[D9 sK A1C,gG kE B1w]⟩
def A0g:=S8.R
def zX:L7:=S8.E
def yP:AtH:=S8.lj 0 n [m] [x1,x2,x7]
def A0l:TT:=⟨zX,[⟨2,3,yP⟩]⟩
def A7m:=mR A0g S8 A0l n [a0,a1] h
def rA:=mL S8 A0l 0 n [m] [x1,x2,x7] h
def A0b:=S8.K Tryz.func105
def lQ:=S8.Q
def A7J:OfT A0g lQ:=A0b.of
def A1k:FD A8:=⟨px 0X11cf5011a11c1028361a41a318201b1a116304203461c31da5e1c4881830022322a44c21f422c4c11d42312c4c43a422e419751c2,[],[],[.cellN 4 3,.tmp 5],[gG lQ A0b]⟩
def A7l:=A1k.R
def C0O:=mR A7l A1k (tT []) n [a0,a1] h
def sG:=A1k.K Tryz.func55
def lC:=A1k.S
def C1l:SOk A8 55 lC:=sG.sok
def B7g:G3 A7l lC:=sG.flat
def A1m:FD A8:=⟨px 0X126488601030785b134b123b112b10419413e4021c01b1042,[.c (.i .u8 98),.c (.i .u8 107),.c (.i .u8 116),.c (.i .u8 33)],[],[.cellN 0 256],[D9 A8S B2G]⟩
def A7o:=A1m.R
def C0Q:=mR A7o A1m (tT []) n [] h
def A7g:=A1m.K Tryz.func154
def A1E:=A1m.S
def B7h:G3 A7o A1E:=A7g.flat
def fB:FD A8:=⟨px 0X113022f48864f4886e1c3026df4c054a06d49218012d3022f488601c3b37111112722404327f104019e682b41cf22625ff15ef2362c191b11c2801a5e2c5df5900625304018e54f4885a1c1a2b35258f18f264ef7029181b021861a21d4167a7c1823503270245134012119b42016251102974a0319918f18d1c23c15349f2a053e022182784886061a343201336821801235e15e4883b1c501901530268488601c3b37111111105722403f01134a22f1c36b42032ef6f262cf502961b021861a21d4163a3c182150307024613401214f420060511029728034d4b491c2031ff248861c41b001f5c31961192015d30238488601c3b371062243d05202971b033b4203111c21b250182,[],[],[.cellN 2 256,.tmp 3],[D9 A1E A7g,D9 xP A3B,D9 iI nP,D9 cV iG,D9 A37 A8x,D9 lC sG]⟩
def A95:=fB.R
def B6B:AtH:=fB.lj 0 n [m] [x0,x2,x4,x16,x17,x18]
def B6C:AtH:=fB.lj 1 n [m] [x2,x4,x34,x35,x36]
def B0P:=tT [⟨2,6,B6B⟩,⟨2,5,B6C⟩]
def C32:=mR A95 fB B0P n [a0] h
def A86:=mL fB B0P 0 n [m] [x0,x2,x4,x16,x17,x18] h
def A87:=mL fB B0P 1 n [m] [x2,x4,x34,x35,x36] h
def B8r:=fB.K Tryz.func130
def B0u:=fB.S
def C4p:SOk A8 130 B0u:=B8r.sok
def B8T:G3 A95 B0u:=B8r.flat
def A1n:FD A8:=⟨px 0X117023c2601141022d3b4a10402481010371f018020119702282602d3b31c10001722401b6193d042c1a72c70110127163b4203112d61b21d530282,[],[],[.cellN 6 2,.tmp 7],[D9 iI nP]⟩
def A7p:=A1n.R
def C0R:=mR A7p A1n (tT []) n [a0,a1,a2] h
def B57:=A1n.K Tryz.func158
def A7L:=A1n.S
def B8V:E1W A7p A7L:=B57.low
def A3o:FD A8:=⟨px 0X12ff5004e261428002801632301134821872a018020155023a2602d3b32e100072243018190394d010392f2c2393c01306193d01291a7297011042711b494203112d4c432e319701c2,[],[],[.cellN 4 2,.tmp 5],[D9 xP A3B,D9 cV iG,D9 A7L B57]⟩
def A96:=A3o.R
def C33:=mR A96 A3o (tT []) n [a0,a1] h
def B8s:=A3o.K Tryz.func131
def B0v:=A3o.S
def C4q:SOk A8 131 B0v:=B8s.sok
def B8U:C9B A96 B0v:=B8s.tidy
def iD:FD A8:=⟨px 0X11b4015a000072025e48860181e33320123021814e5011304048548488187019240383a3182c31f1c34b2521ef11df2362c51b11e2801c1d2c1cf700182030400511c51e488181c1b1b241c20000301a31632e27531c2,[],[.eqA A6 ([.i .i64,.s,.i .i64]) (.t 15) (.t 16)],[.tmp 4],[D9 lC sG,D9 iI nP,D9 cV iG,D9 A37 A8x]⟩
def B2N:=iD.R
def C4H:AtH:=iD.lj 0 n [] []
def B3C:=tT [⟨1,0,C4H⟩]
def A6k:=mR B2N iD B3C n [a0,a1,a2] h
def A49:=mJ iD B3C 0 n [] [] h
def B2v:=iD.K Tryz.func174
def xN:=iD.Q
def A6r:OfT B2N xN:=B2v.of
def T8:FD A8:=⟨px 0X39f7054c022180124301e1904b4d01184b6e02141022c4b6d3e24b3c3e4b74a4b7012c28019692220721ff11ef2262951b11a280181e2c1df1a0042032812a4881b1c191d1b18219f4041218421503070243133d012129420060517011f42422e153182,[],[],[],[D9 sK A1C,gG xN B2v]⟩
def A1T:=T8.R
def A1K:L7:=T8.E
def A0o:AtH:=T8.lj 0 n [m] [x1,x2,x7]
def A16:TT:=⟨A1K,[⟨2,3,A0o⟩]⟩
def A8z:=mR A1T T8 A16 n [a0,a1] h
def sS:=mL T8 A16 0 n [m] [x1,x2,x7] h
def A1L:=T8.K Tryz.func105
def nW:=T8.Q
def A8I:OfT A1T nW:=A1L.of
def A3n:FD A8:=⟨px 0X121c48861a4881821120421361a22de5e1848851c30124f248861c31b0045c37421c4c03a253182,[],[],[.cellN 2 256],[D9 A1E A7g,gG nW A1L]⟩
def A94:=A3n.R
def C31:=mR A94 A3n (tT []) n [a0] h
def B8q:=A3n.K Tryz.func161
def B0t:=A3n.S
def B8Q:G3 A94 B0t:=B8q.flat
def wH:FD A8:=⟨px 0X16f20038218488180103448818301900533103a2342,[],[.eqA A6 (E68 256 (.i .u8)) (.t 4) (.t 5)],[.tmp 2],[D9 B0t B8q]⟩
def A4x:=wH.R
def B8C:=mR A4x wH (tT []) n [a0] h
def B2w:=wH.K Tryz.func137
def xO:=wH.S
def B5N:G3 A4x xO:=B2w.flat
end
def E1j{l l':List (Option Row)}(hl:l'=l++[rT cs]):quiet (g++l) (A4 (v,g++l'))=A4 (v,g++l'):=by
 subst hl;have:=V6 ((Grows.rfl' (h:=g++l)).new cs) (v:=v);rw [E7i] at this;exact this
def E4N{a:Option Row}:quiet (g++[a]) (A4 (v,g++[a,rT cs]))=A4 (v,g++[a,rT cs]):=E1j rfl
def E4O{a b:Option Row}:quiet (g++[a,b]) (A4 (v,g++[a,b,rT cs]))=A4 (v,g++[a,b,rT cs]):=E1j rfl
def H9(k:Nat):Nat:=32+32*k
def kJ(hk:k<7):iI [iV (k:Int)] h=A4 (iV (H9 k:Nat),h):=by
 have key:∀ g,∃ g',A4y 0 [iV (k:Int)] g=A4 (iV (H9 k:Nat),g'):=by
  intro g;have w1:=E3 (a:=k) (by omega);have w2:E7f .i64 (32*((k+1:Nat):Int))=((H9 k:Nat):Int):=by unfold H9;rw [wrap_i64 (by omega) (by omega)];omega
  rw [B8D];exact ⟨_,by simp only [esc,w1,w2]<;>rfl⟩
 obtain ⟨g',e⟩:=key (ro h);exact B5O e rfl
def D5f:List UInt8:=[98,107,116,33]
def hdB:List UInt8:=R5 256 D5f
def pA:hdB.length=256:=I5 (by decide)
def B3N:A1E [] h=A4 (.a (B4 hdB),h):=by
 have key:∀ g,∃ g',A7o 0 [] g=A4 (.a (B4 hdB),g'):=by
  intro g;have hz:(B4 (zeros 256)).length=256:=by rw [B5];exact zeros_length
  have hd:(B4 hdB).length=256:=by rw [B5];exact pA
  have ef:F9 [Cell.i .u8 0,.i .u8 0,.i .u8 0,.i .u8 0] [(0,1,.c (.i .u8 98)),(1,1,.c (.i .u8 107)),(2,1,.c (.i .u8 116)),(3,1,.c (.i .u8 33))]=A4 (B4 D5f):=rfl;have hO:=B5w (data:=D5f) (v:=sV (l_ g+1) 0 4 1) (nv:=4) (h:=g++[rT (B4 (zeros 256)),rT (B4 D5f)]) (Has.row (rw:=A5) (by simp) rfl (W1 _)) (by decide);rw [D14 (by decide),show R5 256 D5f=hdB from rfl] at hO;have hM:B1I (g++[rT (B4 (zeros 256)),rT (B4 D5f)]) (sV (l_ g+1) 0 4 1)=A4 (sV (l_ g+1) 0 4 1):=by simp [B1I]
  rw [C0Q,J4];generalize hdB=B at *;generalize B4 D5f=mg at *;generalize zeros 256=z at *;exact ⟨_,by simp only [esc,esh,ef,hM,hO,hz,hd]<;>rfl⟩
 obtain ⟨g',e⟩:=key (ro h);exact B7h e (by simp)
def B52(s:List UInt8)(n:Int):Bool:=aY s&&(decide (1<=n)&&decide (n<=128))
def A78(hs:l_ s<9223372036854775807):xP [.a [.s s,cI n]] h=A4 (bV (B52 s n),h):=by
 have key:∀ g,∃ g',A97 0 [.a [.s s,cI n]] g=A4 (bV (B52 s n),g'):=by
  intro g;have hC:=λh=>C6k hs h
  rw [C34];unfold B52;cases hf:aY s with
  | false =>
   rw [hf] at hC;exact ⟨_,by simp only [esc,esh,hC,Int.reduceEq]<;>rfl⟩
  | true =>
   rw [hf] at hC;by_cases c1:1<=n
   ·by_cases c2:n<=128
    ·rw [R9 c1,R9 c2];exact ⟨_,by simp only [esc,esh,hC,c1,c2]<;>rfl⟩
    ·rw [R9 c1,aC c2];exact ⟨_,by simp only [esc,esh,hC,c1,c2]<;>rfl⟩
   ·rw [aC c1];exact ⟨_,by simp only [esc,esh,hC,c1]<;>rfl⟩
 obtain ⟨g',e⟩:=key (ro h);exact B8W e rfl
def U6(s:List UInt8)(n:Int):List UInt8:=D6 2 n++iU s++[0,0,0,0,0]
def V4:(U6 s n).length=32:=by simp [U6,qR]
def nB(hs:l_ s<9223372036854775807):cV [.a [.s s,cI n]] h=A4 (sV (l_ h) 0 32 1,h++[rT (B4 (U6 s n))]):=by
 have key:∀ g,∃ v g',A0L 0 [.a [.s s,cI n]] g=A4 (v,g')/\Out (l_ g) g' v 1 32 (B4 (U6 s n)):=by
  intro g;have e4:O0 .shr (iV n) (.c (.i .u64 8))=A4 (iV (n/256)):=C55 (by omega);have wm:∀ a:Int,E7f .u8 a=a%256:=λa=>by
   simp only [E7f,IntKind.bits,IntKind.signed,E7v];rfl
  have b0:E7f .u8 n=((byI n 0).toNat:Int):=by rw [wm,C4Z];simp
  have b1:E7f .u8 (n/256)=((byI n 1).toNat:Int):=by rw [wm,C4Z];simp
  have ef:F9 [Cell.i .u8 0,.i .u8 0] [(0,1,.c (.i .u8 (byI n 0).toNat)),(1,1,.c (.i .u8 (byI n 1).toNat))]=A4 (B4 (D6 2 n)):=rfl;have ef5:F9 [Cell.i .u8 0,.i .u8 0,.i .u8 0,.i .u8 0,.i .u8 0] [(0,1,.c (.i .u8 0)),(1,1,.c (.i .u8 0)),(2,1,.c (.i .u8 0)),(3,1,.c (.i .u8 0)),(4,1,.c (.i .u8 0))]=A4 (B4 [0,0,0,0,0]):=rfl;have hP:=λh=>D7n hs h
  have hpl:(B4 (iU s)).length=25:=by rw [B5];exact qR
  have hz:(B4 (zeros 25)).length=25:=by rw [B5];exact zeros_length
  have hA:=A76 (h:=g++[rT [.s s,cI n],rT [],rT (B4 (D6 2 n)),rT (B4 (iU s))]) (id:=l_ g+2) (jd:=l_ g+3) (n:=2) (m:=25) (sz:=1) (cs:=B4 (D6 2 n)) (ys:=B4 (iU s)) (rw:=A5) (by simp) (by simp [B5]) (by simp) (by rw [hpl]) rfl (by omega) (by omega);simp only [E7c,E7k,E7Q,E7o,E7i,E8a,E7A,B8e,List.set_cons_succ,E8p,Nat.reduceAdd,<-A6S] at hA;have E6j:(B4 (D6 2 n++iU s)).length=27*1:=by rw [B5,E7c,R7,qR]
  have hA2:=A76 (h:=g++[rT [.s s,cI n],rT [],A7,rT (B4 (iU s)),rT (B4 (D6 2 n++iU s)),rT (B4 [0,0,0,0,0])]) (id:=l_ g+4) (jd:=l_ g+5) (n:=27) (m:=5) (sz:=1) (cs:=B4 (D6 2 n++iU s)) (ys:=B4 [0,0,0,0,0]) (rw:=A5) (by simp) E6j (by simp) rfl rfl (by omega) (by omega);simp only [E7c,E7k,E7Q,E7o,E7i,E8a,E7A,B8e,List.set_cons_succ,E8p,Nat.reduceAdd,<-A6S] at hA2;rw [<-E7i (D6 2 n),show D6 2 n++iU s++[0,0,0,0,0]=U6 s n from rfl] at hA2;rw [B5I,J4];refine ⟨sV (l_ g+6) 0 32 1,g++[rT [.s s,cI n],rT [],A7,rT (B4 (iU s)),A7,rT (B4 [0,0,0,0,0]),rT (B4 (U6 s n))],?_,by rw [B5,V4],l_ g+6,rfl,by omega,?_⟩
  ·generalize U6 s n=E at *;generalize D6 2 n++iU s=Q at *;generalize B4 [0,0,0,0,0]=F at *;generalize B4 (iU s)=P at *;generalize B4 (D6 2 n)=B2 at *;generalize zeros 25=z at *;simp only [esc,esh,Nat.reduceAdd,b0,e4,b1,ef,hP,hpl,hz,hA,ef5,hA2]
  ·simp
 obtain ⟨v,g',e,ho⟩:=key (ro h);exact B3l e (by simpa [H8] using ho) (by simp)
def iX(b:List UInt8)(k:Nat):List UInt8:=(b.drop (H9 k)).take 32
def nameB(b:List UInt8)(k:Nat):List UInt8:=(b.drop (H9 k+2)).take 25
def yM(b:List UInt8)(k:Nat):Int:=fieldN b (H9 k) 2
abbrev Ent:=List UInt8 × Int
def isE(b:List UInt8)(k:Nat)(s:List UInt8):Bool:=B52 s (yM b k)&&decide (U6 s (yM b k)=iX b k)
def O7(b:List UInt8)(k:Nat):Option Ent:=(gZ (nameB b k)).bind λs=>if isE b k s=A5 then A4 (s,yM b k) else A7
def W5:Option Ent->List Cell
 | none=>[.s [],o0]
 | some e=>[.s e.1,cI e.2]
def D2f(hb:l_ b=256)(hk:k<7):(iX b k).length=32:=by simp [iX,H9,hb];omega
def C0f(hb:l_ b=256)(hk:k<7):(nameB b k).length=25:=by simp [nameB,H9,hb];omega
def A30{l:List UInt8}(h:gZ l=A4 s):aY s=A5:=by
 unfold gZ at h;split at h
 ·split at h
  ·rename_i hc;cases h;exact hc.1
  ·cases h
 ·cases h
def cpN(l:List UInt8)(i:Nat):List UInt8:=l.take i++zeros (25-i)
def D5s{l:List UInt8}(hl:l_ l=25)(hi:i<=25):(cpN l i).length=25:=by simp [cpN,zeros,hl];omega
def E2m{l:List UInt8}(hl:l_ l=25)(hi:i<25):(cpN l i).set i l[i]=cpN l (i+1):=by
 unfold cpN;have hlen:(List.take i l).length=i:=by simp;omega
 rw [E70 _ _ (by omega),hlen,E8l,E7E (by omega),E7i];refine congrArg (List.take i l ++ ·) ?_;have e:25-i=(25-(i+1))+1:=by omega
 rw [e];unfold zeros;rw [E7P,E8p];rfl
def E2l{l:List UInt8}(hl:l_ l=25):cpN l 25=l:=by simp [cpN,zeros,E7r,hl]
def D9Y:B2r b (H9 k:Nat) 32=iX b k:=by
 unfold B2r iX;rw [C4 (by omega)];simp
def E2d(hk:k<7):((atN b (H9 k:Nat) 2:Nat):Int)=yM b k:=by
 unfold atN yM fieldN H9;rw [C4 ⟨by omega,Z0.2 (by omega)⟩];simp only [E7s];rfl
def C6f{q:Nat}{g:A9}(hb:l_ b=256)(hk:k<7):∀ e i m:Nat,i+e=25->e<m ->
  ∃ h',B3O q m (iV (k:Int)) (pV (l_ g) 0) (pV (l_ g+1) 0) (pV (l_ g+2) 0) (iV (i:Int)) (g++[rT (B4 b),rT [.s [],o0],rT (B4 (cpN (nameB b k) i))]) =
   A4 (.t [.a (W5 (O7 b k)),.c (.b (O7 b k).isSome)],h')
 | e,i,0,_,hm=>by omega
 | 0,i,m+1,hi,hm=>by
  have e0:i=25:=by omega
  subst e0;have hnl:=C0f hb hk;rw [E2l hnl];have c0:¬ ((25:Nat):Int)<25:=by omega
  have hbl:(B4 b).length=256:=by rw [B5,hb]
  have hnc:(B4 (nameB b k)).length=25:=by rw [B5,hnl]
  have hU:=λh=>D9h hnl h
  have hF:=λh=>kJ (h:=h) hk
  have hA:=λh=>qQ (h:=h) hb (a:=(H9 k:Nat)) (w:=2)
  rw [E2d hk] at hA;have ef:∀ (s:List UInt8) (n:Int),F9 [Cell.s [],o0] [(0,1,.c (.s s)),(1,1,iV n)]=A4 [.s s,cI n]:=λ_ _=>rfl
  have ef0:F9 [Cell.s [],o0] []=A4 [.s [],o0]:=rfl;rw [A6M];unfold O7;cases hu:gZ (nameB b k) with
  | none =>
   rw [hu] at hU;simp only [Option.getD_none,E8b,Bool.false_eq_true,if_false] at hU;generalize yM b k=n at *;generalize B4 (nameB b k)=z at *;generalize B4 b=y at *;exact ⟨_,by simp only [esc,esh,Nat.reduceAdd,c0,hbl,hnc,hU,hF,hA,ef,ef0,Int.reduceEq,Option.bind_none,W5]<;>rfl⟩
  | some s =>
   rw [hu] at hU;simp only [Option.getD_some,E7S,if_true] at hU;have hfs:=(bP (A30 hu)).2;have hM:=λh=>A78 (s:=s) (n:=yM b k) (h:=h) (by omega)
   rw [E7l];unfold isE;cases hm:B52 s (yM b k) with
   | false =>
    rw [hm] at hM;rw [E7v,C5 (by simp)];generalize yM b k=n at *;generalize B4 (nameB b k)=z at *;generalize B4 b=y at *;exact ⟨_,by simp only [esc,esh,Nat.reduceAdd,c0,hbl,hnc,hU,hF,hA,ef,ef0,hM,W5]<;>rfl⟩
   | true =>
    rw [hm] at hM;rw [E7w];have hW:=λh=>nB (s:=s) (n:=yM b k) (h:=h) (by omega)
    have hsl:=D2f hb hk;have hC:=λh=>B1e (h:=h) hb (a:=(H9 k:Nat)) (n:=32)
    rw [D9Y,hsl] at hC;have s1:=λ(c0 c1 c2 c3:Option Row)=>Has.str (l:=U6 s (yM b k)) (Has.row (h:=g++[c0,c1,c2,c3,rT (B4 (U6 s (yM b k)))]) (id:=l_ g+4) (sz:=1) (n:=32) (rw:=A5) (by simp) (by rw [B5,V4]) (W1 _))
    have s2:=λ(c0 c1 c2 c3 c4:Option Row)=>Has.str (l:=iX b k) (Has.row (h:=g++[c0,c1,c2,c3,c4,rT (B4 (iX b k))]) (id:=l_ g+5) (sz:=1) (n:=32) (rw:=A5) (by simp) (by rw [B5,hsl]) (W1 _))
    by_cases ce:U6 s (yM b k)=iX b k
    ·rw [C4 (R9 ce)];generalize U6 s (yM b k)=E at *;generalize iX b k=L at *;generalize yM b k=n at *;subst ce;generalize B4 (nameB b k)=z at *;generalize B4 b=y at *;exact ⟨_,by simp only [esc,esh,Nat.reduceAdd,c0,hbl,hnc,hU,hF,hA,ef,ef0,hM,hW,s1,hC,s2,eq_self,W5,E7S]<;>rfl⟩
    ·rw [C5 (by rw [decide_eq_true_eq];exact ce)];generalize U6 s (yM b k)=E at *;generalize iX b k=L at *;generalize yM b k=n at *;generalize B4 (nameB b k)=z at *;generalize B4 b=y at *;exact ⟨_,by simp only [esc,esh,Nat.reduceAdd,c0,hbl,hnc,hU,hF,hA,ef,ef0,hM,hW,s1,hC,s2,ce,W5,E8b]<;>rfl⟩
 | e+1,i,m+1,hi,hm=>by
  obtain ⟨h',ih⟩:=C6f (q:=q) (g:=g) hb hk e (i+1) m (by omega) (by omega);have hnl:=C0f hb hk;have c0:(i:Int)<25:=by omega
  have hF:=λh=>kJ (h:=h) hk
  have hbl:(B4 b).length=256:=by rw [B5,hb]
  have nF:(B4 (cpN (nameB b k) i)).length=25:=by rw [B5];exact D5s hnl (by omega)
  have X4:i<(B4 (cpN (nameB b k) i)).length:=by omega
  have w1:E7f .i64 (((H9 k:Nat):Int)+2)=((H9 k+2:Nat):Int):=by unfold H9;rw [wrap_i64 (by omega) (by omega)];omega
  have w2:E7f .i64 (((H9 k+2:Nat):Int)+(i:Int))=((H9 k+2+i:Nat):Int):=by unfold H9;rw [wrap_i64 (by omega) (by omega)];omega
  have hj:H9 k+2+i<256:=by unfold H9;omega
  have a1:L6 256 1 (pV (l_ g) 0) (iV ((H9 k+2+i:Nat):Int))=A4 (pV (l_ g) (H9 k+2+i)):=by rw [Q7 hj];simp
  have a2:L6 25 1 (pV (l_ g+2) 0) (iV (i:Int))=A4 (pV (l_ g+2) i):=by rw [Q7 (by omega)];simp
  have ei:(nameB b k)[i]'(by omega)=b[H9 k+2+i]'(by omega):=by simp [nameB]
  have l1:(B4 b)[H9 k+2+i]?=A4 (.i .u8 ((nameB b k)[i]'(by omega)).toNat):=by
   rw [ei];simp [B4,hb,hj]
  have hs:(B4 (cpN (nameB b k) i)).set i (.i .u8 ((nameB b k)[i]'(by omega)).toNat)=B4 (cpN (nameB b k) (i+1)):=by rw [oW,E2m hnl (by omega)]
  rw [A6M];refine ⟨h',?_⟩;generalize B4 (cpN (nameB b k) (i+1))=z1 at *;generalize B4 (cpN (nameB b k) i)=z at *;generalize B4 b=y at *;simp only [esc,esh,c0,hF,w1,w2,a1,l1,a2,X4,hs,E3 (a:=i) (by omega)];exact ih
def D71{o:Option Ent}:O5 (W5 o)=A5:=by cases o<;>rfl
def A5a(hb:l_ b=256)(hk:k<7):sK [.a (B4 b),iV (k:Int)] h=A4 (.t [.a (W5 (O7 b k)),.c (.b (O7 b k).isSome)],h):=by
 have key:∀ N,25<N->∀ g,∃ g',A7q N [.a (B4 b),iV (k:Int)] g=A4 (.t [.a (W5 (O7 b k)),.c (.b (O7 b k).isSome)],g'):=by
  intro N hN g;obtain ⟨h',e⟩:=C6f (g:=g) (q:=N) hb hk 25 0 N (by omega) hN;have e0:cpN (nameB b k) 0=zeros 25:=by simp [cpN]
  rw [e0] at e;rw [C0S,J4];generalize zeros 25=z at *;generalize B4 b=y at *;exact ⟨h',by simp only [esc,esh,Nat.reduceAdd];exact e⟩
 obtain ⟨g',e⟩:=key (l_ h+26) (by omega) (ro h);exact B7i e (by simp [Val.flat,D71,Cell.flat])
abbrev Slt:=Nat × Ent
def slC:Option Slt->List Cell
 | none=>[o0,.s [],o0]
 | some x=>[cI (x.1:Int),.s x.2.1,cI x.2.2]
def kD{o:Option Slt}:(slC o).length=3:=by cases o<;>rfl
def D4M{o:Option Slt}:O5 (slC o)=A5:=by cases o<;>rfl
def Y2(b nm:List UInt8):Nat->Nat->Option Slt
 | 0,_=>A7
 | e+1,k=>match O7 b k with
  | some x=>if x.1=nm then A4 (k,x) else Y2 b nm e (k+1)
  | none=>Y2 b nm e (k+1)
def lF{nm:List UInt8}(hx:O7 b k=A7):Y2 b nm (e+1) k=Y2 b nm e (k+1):=by rw [Y2,hx]
def yY{nm:List UInt8}(hx:O7 b k=A4 (nm,n)):Y2 b nm (e+1) k=A4 (k,(nm,n)):=by rw [Y2,hx];simp
def lE{nm:List UInt8}(hx:O7 b k=A4 (s,n))(Z2:s≠nm):Y2 b nm (e+1) k=Y2 b nm e (k+1):=by rw [Y2,hx];simp [Z2]
def U9(b nm:List UInt8):Option Slt:=Y2 b nm 7 0
def E0m{k:Int}{nm:List UInt8}{r1 r2 r3:Nat}(h1:rd h r1=rT [.s nm])(h3:rd h r3=rT [.b A6])(Z2:s≠nm) :
  kE [.a [cI k,.s s,cI n],pV r1 0,pV r2 0,pV r3 0] h=A4 (bV A5,h++[rT [cI k,.s s,cI n]]):=by
 refine A4O (n:=0) ?_;have l1:B8 (h++[rT [cI k,.s s,cI n]]) (pV r1 0)=A4 (.c (.s nm)):=C1 (cs:=[.s nm]) (B6 h1) rfl rfl;have l3:B8 (h++[rT [cI k,.s s,cI n]]) (pV r3 0)=A4 (bV A6):=C1 (cs:=[.b A6]) (B6 h3) rfl rfl;rw [A4v];simp only [esc,esh,Nat.reduceAdd,l1,Z2,A3a,l3]<;>rfl
def D78{k:Int}{nm:List UInt8}{c2:List Cell}{r1 r2 r3:Nat}(h1:rd h r1=rT [.s nm])(h2:rd h r2=rT c2)(hl:c2.length=3)(h3:rd h r3=rT [.b A6])(h23:r2≠r3) :
  kE [.a [cI k,.s nm,cI n],pV r1 0,pV r2 0,pV r3 0] h=A4 (bV A6,((h++[rT [cI k,.s nm,cI n]]).set r2 (rT [cI k,.s nm,cI n])).set r3 (rT [.b A5])):=by
 refine A4O (n:=0) ?_;have l1:B8 (h++[rT [cI k,.s nm,cI n]]) (pV r1 0)=A4 (.c (.s nm)):=C1 (cs:=[.s nm]) (B6 h1) rfl rfl;have s2:=storeAll (h:=h++[rT [cI k,.s nm,cI n]]) (id:=r2) (n:=3) (xs:=[cI k,.s nm,cI n]) (B6 h2) hl rfl;have h3':rd ((h++[rT [cI k,.s nm,cI n]]).set r2 (rT [cI k,.s nm,cI n])) r3=rT [.b A6]:=by rw [B7 h23];exact B6 h3
 have s3:=I8 (x:=.b A5) (off:=0) h3' (by simp);have l4:B8 (((h++[rT [cI k,.s nm,cI n]]).set r2 (rT [cI k,.s nm,cI n])).set r3 (rT [.b A5])) (pV r3 0)=A4 (bV A5):=C1 (cs:=[.b A5]) (E1 (by simpa using E5 h3')) rfl rfl;rw [A4v];have s3:I7 ((h++[rT [cI k,.s nm,cI n]]).set r2 (rT [cI k,.s nm,cI n])) (pV r3 0) (bV A5)=A4 (((h++[rT [cI k,.s nm,cI n]]).set r2 (rT [cI k,.s nm,cI n])).set r3 (rT [.b A5])):=s3;simp only [esc,esh,Nat.reduceAdd,l1,s2,s3,A3a,l4]<;>rfl
def C15{nm:List UInt8}{r1 r2 r3 q:Nat}(hb:l_ b=256)(hB1:rd B r1=rT [.s nm])(hr2:l_ B<=r2)(hr3:l_ B<=r3)(h23:r2≠r3)(h02:r0≠r2)(h03:r0≠r3):∀ (e k m:Nat) (h:A9),k+e=7->e<m->Low (l_ B) B h ->
  rd h r2=rT (slC A7)->rd h r3=rT [.b A6]->rd h r0=rT (B4 b) ->
  ∃ h',yP q m (.c (.f 106 [(r1,0),(r2,0),(r3,0)])) (pV r0 0) (iV (k:Int)) h=A4 (.t [],h')/\Low (l_ B) B h'/\rd h' r2=rT (slC (Y2 b nm e k))/\rd h' r3=rT [.b (Y2 b nm e k).isSome]
 | e,k,0,h,_,hm,_,_,_,_=>by omega
 | 0,k,m+1,h,hk,hm,hlow,h2,h3,h0=>by
  have e0:k=7:=by omega
  subst e0;have c0:¬ ((7:Nat):Int)<7:=by omega
  refine ⟨h,?_,hlow,h2,h3⟩;rw [rA];simp only [esc,c0]<;>rfl
 | e+1,k,m+1,h,hk,hm,hlow,h2,h3,h0=>by
  have c0:(k:Int)<7:=by omega
  have hbl:(B4 b).length=256:=by rw [B5,hb]
  have s1:=C8 (h:=h) (id:=r0) h0 hbl;have hR:=A5a (h:=h) (k:=k) hb (by omega);have w1:=E3 (a:=k) (by omega);have hcv:∀ (x:Val) (h:A9),aV zX (.c (.f 106 [(r1,0),(r2,0),(r3,0)])) [x] h=kE [x,pV r1 0,pV r2 0,pV r3 0] h:=λ_ _=>Eq.trans rfl rfl
  rw [rA];cases hx:O7 b k with
  | none =>
   rw [hx] at hR;rw [lF hx];obtain ⟨h',f1,f2⟩:=C15 (q:=q) hb hB1 hr2 hr3 h23 h02 h03 e (k+1) m (h++[rT ([.s [],o0])]) (by omega) (by omega) (hlow.new _) (B6 h2) (B6 h3) (B6 h0);refine ⟨h',?_,f2⟩;generalize B4 b=y at *;simp only [esc,esh,Nat.reduceAdd,c0,s1,hR,W5,E8b,w1];exact f1
  | some x =>
   obtain ⟨s,n⟩:=x;rw [hx] at hR;have ef:F9 [o0,.s [],o0] [(0,1,iV (k:Int)),(1,2,.a [.s s,cI n])]=A4 [cI (k:Int),.s s,cI n]:=rfl;have h1':rd (h++[rT [.s s,cI n]]) r1=rT [.s nm]:=B6 (hlow.rd hB1);by_cases ce:s=nm
   ·subst ce;have hF:=D78 (k:=(k:Int)) (n:=n) h1' (B6 h2) kD (B6 h3) h23;simp only [E7i,E8a,E7A] at hF;rw [yY hx];refine ⟨((h++[rT [.s s,cI n],rT [cI (k:Int),.s s,cI n]]).set r2 (rT [cI (k:Int),.s s,cI n])).set r3 (rT [.b A5]),?_,((hlow.new [rT [.s s,cI n],rT [cI (k:Int),.s s,cI n]]).set hr2 _).set hr3 _,?_,?_⟩
    ·generalize B4 b=y at *;simp only [esc,esh,Nat.reduceAdd,c0,s1,hR,W5,E7S,ef,hcv,hF]<;>rfl
    ·rw [B7 (Ne.symm h23)];exact E1 (E5 (B6 h2))
    ·exact E1 (by rw [E7R];exact E5 (B6 h3))
   ·have hF:=E0m (k:=(k:Int)) (n:=n) (r2:=r2) h1' (B6 h3) ce;simp only [E7i,E8a,E7A] at hF;rw [lE hx ce];obtain ⟨h',f1,f2⟩:=C15 (q:=q) hb hB1 hr2 hr3 h23 h02 h03 e (k+1) m (h++[rT [.s s,cI n],rT [cI (k:Int),.s s,cI n]]) (by omega) (by omega) (hlow.new _) (B6 h2) (B6 h3) (B6 h0);refine ⟨h',?_,f2⟩;generalize B4 b=y at *;simp only [esc,esh,Nat.reduceAdd,c0,s1,hR,W5,E7S,ef,hcv,hF,w1];exact f1
def yO{nm:List UInt8}(hb:l_ b=256):lC [.a (B4 b),.c (.s nm)] h=A4 (.t [.a (slC (U9 b nm)),.c (.b (U9 b nm).isSome)],h):=by
 have key:∀ g,∃ g',A7l 0 [.a (B4 b),.c (.s nm)] g=A4 (.t [.a (slC (U9 b nm)),.c (.b (U9 b nm).isSome)],g'):=by
  intro g;have hbl:(B4 b).length=256:=by rw [B5,hb]
  have emk:A3N 106 [pV (l_ g+1) 0,pV (l_ g+3) 0,pV (l_ g+4) 0]=A4 (.c (.f 106 [(l_ g+1,0),(l_ g+3,0),(l_ g+4,0)])):=rfl;obtain ⟨h',f1,f2,f3,f4⟩:=C15 (b:=b) (nm:=nm) (r0:=l_ g+5) (r1:=l_ g+1) (r2:=l_ g+3) (r3:=l_ g+4) (q:=8) (B:=g++[rT (B4 b),rT [.s nm],rT (slC A7)]) hb (by simp) (by simp) (by simp) (by omega) (by omega) (by omega) 7 0 8 (g++[rT (B4 b),rT [.s nm],rT (slC A7),rT (slC A7),rT [.b A6],rT (B4 b)]) (by omega) (by omega)
   (by have:=(Low.refl (h:=g++[rT (B4 b),rT [.s nm],rT (slC A7)]) (E69 _)).new [rT (slC A7),rT [.b A6],rT (B4 b)];simpa using this) (by simp) (by simp) (by simp)
  have hS:lQ [.a (B4 b),.c (.f 106 [(l_ g+1,0),(l_ g+3,0),(l_ g+4,0)])] (g++[rT (B4 b),rT [.s nm],rT (slC A7),rT (slC A7),rT [.b A6]])=A4 (.t [],h'):=by
   refine A7J (n:=8) ?_;rw [A7m];simp only [esc,esh,Nat.reduceAdd];exact f1
  have hr:rd h' (l_ g+2)=rT (slC A7):=by rw [f2.2.2 _ (by simp)];simp
  change rd h' (l_ g+3)=rT (slC (U9 b nm)) at f3;change rd h' (l_ g+4)=rT [.b (U9 b nm).isSome] at f4;have t1:=C8 (n:=3) f3 kD;have t2:B8 h' (pV (l_ g+4) 0)=A4 (bV (U9 b nm).isSome):=C1 (cs:=[.b (U9 b nm).isSome]) f4 rfl rfl;have t3:=storeAll (n:=3) (xs:=slC (U9 b nm)) hr kD kD;have f4':rd (h'.set (l_ g+2) (rT (slC (U9 b nm)))) (l_ g+4)=rT [.b (U9 b nm).isSome]:=by rw [B7 (by omega)];exact f4
  have t4:B8 (h'.set (l_ g+2) (rT (slC (U9 b nm)))) (pV (l_ g+4) 0)=A4 (bV (U9 b nm).isSome):=C1 (cs:=[.b (U9 b nm).isSome]) f4' rfl rfl;have t5:=C8 (n:=3) (E1 (x:=rT (slC (U9 b nm))) (E5 hr)) kD;have z0:[o0,.s [],o0]=slC A7:=rfl;rw [C0O,z0];generalize slC (U9 b nm)=Y at *;generalize slC A7=Z at *;generalize (U9 b nm).isSome=S at *;generalize B4 b=y at *;exact ⟨_,by simp only [esc,esh,Nat.reduceAdd,Nat.reduceLT,hbl,emk,hS,t1,t2,t3,t4,t5]<;>rfl⟩
 obtain ⟨g',e⟩:=key (ro h);exact B7g e (by simp [Val.flat,D4M,Cell.flat])
section
variable (n m m2:Nat) (a0 a1 a2 a3 a4 a5 x2 x3 x6 x7 x12 x13 x14 x16 x17 x18 x21 x22 x23:Val) (h:A9)
def A1p:FD A8:=⟨px 0X11b13cf1238f6004401482d14a53c13a38060196181a001e32ff1b006223201134e12e492c1c30192f2b00001b301311116032e383a00001f22403f282a024f4221329f128f24961f191b11a28018282c1ff1c0042032c1b182c41d1c192d2b111a2311116063a632e519751c2,[],[],[.tmp 6,.tmp 7,.tmp 8],[D9 jS wV,D9 B3y B8y,D9 A1F A7j]⟩
def A7r:=A1p.R
def C0U:=mR A7r A1p (tT []) n [a0,a1,a2] h
def B59:=A1p.K Tryz.func53
def A7N:=A1p.S
def B7l:G3 A7r A7N:=B59.flat
def wM:FD A8:=⟨px 0X11b7026f3601218111c1032b3b04105118c5040188518a5a019020137026f3602b3b31f1110722403f6e4f021a9423134ef14df2362c1b1b11e2801c4d2c4cf3f0042332f1042236817a4481c1b392f2b11d2013702683602b3b35c11001722401b1c1905e4d04215e2f4a5e7035e3c05a5e1f0103f2e2d0197b424132cf12bf12af18021e2811c2801a2a2c29f1d00463033c12e1b182e41e1c1b2d2b2192312b61b63a632e41d1975282,[],[],[.cellN 6 3,.tmp 7],[D9 A7N B59,D9 X3 aH,D9 E2 F0,D9 lC sG]⟩
def A4A:=wM.R
def B8E:=mR A4A wM (tT []) n [a0,a1,a2] h
def wS:=wM.K Tryz.func16
def iJ:=wM.S
def B5S:G3 A4A iJ:=wS.flat
def wL:FD A8:=⟨px 0X16f0425e56e15c451825c2a0613901013113e5e14e4531222430181904d4e3c34d3c2e34d3c012829065d446228f11ff2362b181b11c2801a1f2c1ef1a00463033812a1b182a41b1c1a2b29111a2762e11d1b19753382,[],[.eqA A6 ([.i .i64,.i .i64,.i .i64]) (.t 19) (.t 20),.mput A7 (.t 27) (.t 28) (.t 30)],[],[D9 iJ wS]⟩
def B2S:=wL.R
def xE:=mR B2S wL (tT []) n [a0,a1,a2,a3,a4,a5] h
def B2x:=wL.K Tryz.func134
def xU:=wL.Q
def xV:OfT B2S xU:=B2x.of
def N8:FD A8:=⟨px 0X58f1e056c058492184ff2f05480221801822e5f0400516c501218111c1032b3b0410515c50405855a16a3b01c183af2362c191b031841831d43e42350327024191340121694201625110290123042133813e42a1c65f5d5b1c229f700441811d32842150307024513401213f420060511029042031e1b181e41a1c53d3b3921d263a632e219751c2,[],[],[],[D9 oB wU,D9 E2 F0,D9 gD sH,gG xU B2x]⟩
def A1W:=N8.R
def nO:L7:=N8.E
def A0t:AtH:=N8.lj 0 n [m] [x2,x3,x12,x13,x14]
def A0u:AtH:=N8.lj 1 n [m,m2] [x2,x3,x7,x12,x13,x14,x21,x22,x23]
def oF:TT:=⟨nO,[⟨2,5,A0t⟩,⟨3,9,A0u⟩]⟩
def A8D:=mR A1W N8 oF n [a0,a1,a2] h
def A8c:=mL N8 oF 0 n [m] [x2,x3,x12,x13,x14] h
def A8d:=mL N8 oF 1 n [m,m2] [x2,x3,x7,x12,x13,x14,x21,x22,x23] h
def A1O:=N8.K Tryz.func133
def oA:=N8.Q
def A8M:OfT A1W oA:=A1O.of
def pR:FD A8:=⟨px 0X13ff40683f023c0000003723ef2a053803e492183df7001e239020129123e01118102293b1384814c43c13e2e019182df1900441811d32c42150307024513401214f42006051102901132c1f5944d4b4922820023274811e420463031e282c2e428e5e2a1b182a41b1c400221af22a561b01a7d31d4224c11b4224a43a422e375182,[],[.mkMap,.look A7 (.c o0) A6 (.t 24) (.t 25)],[.tmp 4],[gG oA A1O,D9 A6x B2F]⟩
def B0c:=pR.R
def B6J:AtH:=pR.lj 0 n [m] [x6,x7,x16,x17,x18]
def B9l:=tT [⟨2,5,B6J⟩]
def C38:=mR B0c pR B9l n [a0,a1] h
def A9k:=mL pR B9l 0 n [m] [x6,x7,x16,x17,x18] h
def A9W:=pR.K Tryz.func91
def xT:=pR.S
def C1m:A4u B0c xT:=A9W.out
def tM:FD A8:=⟨px 0X25c2a0633903012b133e4e3184e45182401b181904c4e3e34c3c3834c3c0103f2828075d22621ff11ef2362b71b11c2801a1e2c1df1900463032e1281b182841a1c1a291f00001b2752e11b197532c2,[],[.eqA A5 ([.i .i64,.i .i64,.i .i64]) (.t 19) (.t 20)],[],[D9 iJ wS]⟩
def B1E:=tM.R
def A4B:=mR B1E tM (tT []) n [a0,a1,a2,a3,a4] h
def B1A:=tM.K Tryz.func160
def tS:=tM.Q
def A4T:OfT B1E tS:=B1A.of
def M8:FD A8:=⟨px 0X58f1e056c058492184ff2f05480221801822e5f0400516c501218111c1032b3b0410515c50405855a16a3b01c183af2362c191b031841831d43e42350327024191340121694201625110290123042133813e42a1c65f5d5b1c229f700441811d32842150307024513401213f420060511029042031e1b181e41a1c53d3b3921d263a632e219751c2,[],[],[],[D9 oB wU,D9 E2 F0,D9 gD sH,gG tS B1A]⟩
def A0i:=M8.R
def lO:L7:=M8.E
def yV:AtH:=M8.lj 0 n [m] [x2,x3,x12,x13,x14]
def yW:AtH:=M8.lj 1 n [m,m2] [x2,x3,x7,x12,x13,x14,x21,x22,x23]
def lZ:TT:=⟨lO,[⟨2,5,yV⟩,⟨3,9,yW⟩]⟩
def A7s:=mR A0i M8 lZ n [a0,a1,a2] h
def A5W:=mL M8 lZ 0 n [m] [x2,x3,x12,x13,x14] h
def A5X:=mL M8 lZ 1 n [m,m2] [x2,x3,x7,x12,x13,x14,x21,x22,x23] h
def A0d:=M8.K Tryz.func133
def lW:=M8.Q
def A7O:OfT A0i lW:=A0d.of
def A1q:FD A8:=⟨px 0X11af401a421a05204630361a1c32c85e181b18184184002224c11b4234a43a422e375182,[],[],[.tmp 4],[gG lW A0d]⟩
def sI:=A1q.R
def C0V:=mR sI A1q (tT []) n [a0,a1] h
def A7h:=A1q.K Tryz.func136
def sL:=A1q.S
def B80:E1W sI sL:=A7h.low
def B81:A4u sI sL:=A7h.out
end
def A2m(X:List Int)(nm:List UInt8):Nat:=B53 nm%C6 (X.headD 0)
def R3(X:List Int)(nm:List UInt8):Int:=X.tail.getD (A2m X nm) 0
def D3B(X:List Int)(nm:List UInt8):A2m X nm<32:=by
 have h1:=U3 (X.headD 0);have h2:0<C6 (X.headD 0):=by unfold C6;exact Nat.two_pow_pos _
 have:=Nat.mod_lt (B53 nm) h2;unfold A2m;omega
def D4v(D:Dev)(n k:Int)(d:List Int)(nm:List UInt8):List Part :=
 bif X0 D n k d then [.c (cI (A2m (sA D n k d) nm:Nat)),.c (cI (R3 (sA D n k d) nm)),.c (.b A5)] else [.c o0,.c o0,.c (.b A6)]
def C6H{k s:Int}{d:List Int}{nm:List UInt8}(hD:okD D)(hd:l_ d=7)(hv:IsView h f D)(hs:nm.length<9223372036854775807) :
  A7N [.a (vwC (l_ D) n m f),.a (C9 k l s p d),.c (.s nm)] h=A4 (.t (D4v D n k d nm),h):=by
 have key:∀ g,IsView g f D->∃ g',A7r 0 [.a (vwC (l_ D) n m f),.a (C9 k l s p d),.c (.s nm)] g=A4 (.t (D4v D n k d nm),g'):=by
  intro g hv;have hIl:(C9 k l s p d).length=11:=by simp [C9,B9,hd]
  have l11:ldN (rT (C9 k l s p d)) 0 11=A4 (.a (C9 k l s p d)):=L9 hIl;have l4:=B65 (b:=l_ D) (n:=n) (m:=m) (f:=f);have hz:(encI (0::zI 32)).length=33:=G5 (d:=0) N7;have hX:=A6Y D n k d;have hI:=A1I (n:=n) (m:=m) (k:=k) (l:=l) (s:=s) (p:=p) (h:=g++[rT (vwC (l_ D) n m f),rT (C9 k l s p d)]) hD hd (hv.more _);rw [C0U,B43];unfold D4v;cases c:X0 D n k d with
  | false =>
   rw [c] at hI;generalize encI (sA D n k d)=x at *;generalize encI (0::zI 32)=z at *;generalize vwC (l_ D) n m f=V at *;generalize C9 k l s p d=I at *;exact ⟨_,by simp only [esc,esh,Nat.reduceAdd,l4,l11,hI,hz,hX]<;>rfl⟩
  | true =>
   rw [c] at hI;have hM:=λh=>C2p (s:=nm) hs (h:=h)
   obtain ⟨x,t,e,ht⟩:=D0h D n k d;rw [e] at hI hX ⊢;have hP:=λh=>B4o (d:=x) (h:=h) ht (D1U (s:=nm))
   have X4:=D3B (x::t) nm;have eP:B53 nm%C6 x=A2m (x::t) nm:=rfl;rw [eP] at hP;have ad:∀ q,L6 32 1 (pV q 1) (iV (A2m (x::t) nm:Nat))=A4 (pV q (1+A2m (x::t) nm)):=λq=>by
    rw [D9u (by omega) (by omega)];simp
   have l1:ld1 (rT (encI (x::t))) (1+A2m (x::t) nm)=A4 (iV (R3 (x::t) nm)):=by
    rw [zF];have:(encI (x::t))[1+A2m (x::t) nm]?=A4 (cI (R3 (x::t) nm)):=by
     rw [G7,Nat.add_comm,E7u,E64 (by omega)];unfold R3;rw [List.tail_cons,E67,E64 (by omega)];rfl
    rw [this];rfl
   generalize R3 (x::t) nm=B at *;generalize A2m (x::t) nm=P at *;generalize encI (x::t)=X at *;generalize encI (0::zI 32)=z at *;generalize vwC (l_ D) n m f=V at *;generalize C9 k l s p d=I at *;exact ⟨_,by simp only [esc,P8,G9,aA,I6,T1,H6,L9,fZ,Nat.reduceAdd,l4,l11,hI,hz,hX,hM,hP,ad,l1]<;>rfl⟩
 obtain ⟨g',e⟩:=key (ro h) hv.ro;exact B7l e (by unfold D4v;cases X0 D n k d<;>rfl)
abbrev Plc:=Int × Nat × Int
def nK:Option Plc->List Cell
 | none=>[o0,o0,o0]
 | some p=>[cI p.1,cI (p.2.1:Int),cI p.2.2]
def A2v(D:Dev)(n k:Int)(d:List Int)(nm:List UInt8):Option Plc :=
 if X0 D n k d=A5/\F6 (l_ D) n (R3 (sA D n k d) nm)=A5 then (U9 (blk D (R3 (sA D n k d) nm)) nm).map λs=>(R3 (sA D n k d) nm,s.1,s.2.2) else A7
def A2Q{k s:Int}{d:List Int}{nm:List UInt8}(hD:okD D)(hd:l_ d=7)(hv:IsView h f D)(hs:nm.length<9223372036854775807) :
  iJ [.a (vwC (l_ D) n m f),.a (C9 k l s p d),.c (.s nm)] h=A4 (.t [.a (nK (A2v D n k d nm)),.c (.b (A2v D n k d nm).isSome)],h):=by
 have key:∀ g,IsView g f D->∃ g',A4A 0 [.a (vwC (l_ D) n m f),.a (C9 k l s p d),.c (.s nm)] g=A4 (.t [.a (nK (A2v D n k d nm)),.c (.b (A2v D n k d nm).isSome)],g'):=by
  intro g hv;have hIl:(C9 k l s p d).length=11:=by simp [C9,B9,hd]
  have l11:ldN (rT (C9 k l s p d)) 0 11=A4 (.a (C9 k l s p d)):=L9 hIl;have l4:=B65 (b:=l_ D) (n:=n) (m:=m) (f:=f);have l3:=C3Z (b:=l_ D) (n:=n) (m:=m) (f:=f);have ef:F9 [o0,o0,o0] []=A4 [o0,o0,o0]:=rfl;have l3z:ldN (rT [o0,o0,o0]) 0 3=A4 (.a [o0,o0,o0]):=rfl;have s3z:∀ x,stN (rT [o0,o0,o0]) 0 3 [cI x,o0,o0]=rT [cI x,o0,o0]:=λ_=>rfl
  have hR:=C6H (n:=n) (m:=m) (k:=k) (l:=l) (s:=s) (p:=p) (nm:=nm) (h:=g++[rT (vwC (l_ D) n m f),rT (C9 k l s p d),rT [o0,o0,o0]]) hD hd (hv.more _) hs;rw [B8E];unfold A2v;unfold D4v at hR;cases c:X0 D n k d with
  | false =>
   rw [c,bZ] at hR;rw [C5 (by simp)];generalize vwC (l_ D) n m f=V at *;generalize C9 k l s p d=I at *;exact ⟨_,by simp only [esc,esh,Nat.reduceAdd,l4,l11,hR,ef,l3z,s3z,nK,E8b]<;>rfl⟩
  | true =>
   rw [c,R8] at hR;generalize A2m (sA D n k d) nm=P at *;generalize R3 (sA D n k d) nm=B at *;have hG:=λh=>Y3 (b:=l_ D) (n:=n) (m:=m) (i:=B) (h:=h)
   cases c2:F6 (l_ D) n B with
   | false =>
    simp only [c2] at hG;rw [C5 (by simp)];generalize vwC (l_ D) n m f=V at *;generalize C9 k l s p d=I at *;exact ⟨_,by simp only [esc,esh,Nat.reduceAdd,l4,l11,l3,hR,hG,ef,l3z,s3z,nK,E8b]<;>rfl⟩
   | true =>
    simp only [c2] at hG;rw [C4 ⟨rfl,rfl⟩];have hB:=N2 (n:=n) (m:=m) (no:=B) (h:=g++[rT (vwC (l_ D) n m f),rT (C9 k l s p d),rT [o0,o0,o0]]) hD (hv.more _);have hF:=λh=>yO (b:=blk D B) (nm:=nm) (h:=h) (J8 hD)
    cases c3:U9 (blk D B) nm with
    | none =>
     simp only [c3] at hF;generalize B4 (blk D B)=y at *;generalize vwC (l_ D) n m f=V at *;generalize C9 k l s p d=I at *;have s3:stN (rT [o0,.s [],o0]) 0 3 (slC A7)=rT (slC A7):=rfl;exact ⟨_,by simp only [esc,esh,Nat.reduceAdd,l4,l11,l3,hR,hG,hB,hF,ef,l3z,s3z,s3,nK,E8b,Option.map_none]<;>rfl⟩
    | some sl =>
     obtain ⟨kk,s',i'⟩:=sl;simp only [c3] at hF;generalize B4 (blk D B)=y at *;generalize vwC (l_ D) n m f=V at *;generalize C9 k l s p d=I at *;have s3:stN (rT [o0,.s [],o0]) 0 3 (slC (A4 (kk,s',i')))=rT (slC (A4 (kk,s',i'))):=rfl;have g0:ld1 (rT (slC (A4 (kk,s',i')))) 0=A4 (iV (kk:Int)):=rfl;have g2:ld1 (rT (slC (A4 (kk,s',i')))) 2=A4 (iV i'):=rfl;have ef3:F9 [o0,o0,o0] [(0,1,iV B),(1,1,iV (kk:Int)),(2,1,iV i')]=A4 [cI B,cI (kk:Int),cI i']:=rfl;have s33:stN (rT [o0,o0,o0]) 0 3 [cI B,cI (kk:Int),cI i']=rT [cI B,cI (kk:Int),cI i']:=rfl;have l33:ldN (rT [cI B,cI (kk:Int),cI i']) 0 3=A4 (.a [cI B,cI (kk:Int),cI i']):=rfl;exact ⟨_,by simp only [esc,P8,G9,aA,I6,T1,H6,L9,fZ,Nat.reduceAdd,l4,l11,l3,hR,hG,hB,hF,ef,s3,g0,g2,ef3,s33,l33,nK,E7S]<;>rfl⟩
 obtain ⟨g',e⟩:=key (ro h) hv.ro;exact B5S e (by cases A2v D n k d nm<;>rfl)
def qV(l:List Slt):List Cell:=(l.map λx=>slC (A4 x)).flatten
def vT{l:List Slt}:(qV l).length=l_ l*3:=by
 induction l with
 | nil=>rfl
 | cons x l ih=>simp only [qV,E7X,E8g,E7c,kD,E7k] at ih ⊢;omega
def D86{l:List Slt}{x:Slt}:qV (l++[x])=qV l++slC (A4 x):=by simp [qV]
def D85{l:List Slt}:O5 (qV l)=A5:=by
 induction l with
 | nil=>rfl
 | cons x l ih =>
  have:qV (x::l)=slC (A4 x)++qV l:=rfl;rw [this,qN,D4M,ih];rfl
def E03{l:List Slt}:noX (qV l)=A5:=by
 induction l with
 | nil=>rfl
 | cons x l ih =>
  have:qV (x::l)=[cI (x.1:Int),.s x.2.1,cI x.2.2]++qV l:=rfl;rw [this];simp [noX,Cell.isX] at ih ⊢;exact ih
def Q5(b:List UInt8):Nat->Nat->List Slt
 | 0,_=>[]
 | e+1,k=>match O7 b k with
  | some x=>(k,x)::Q5 b e (k+1)
  | none=>Q5 b e (k+1)
def J3(b:List UInt8):List Slt:=Q5 b 7 0
def aI(hx:O7 b k=A7):Q5 b (e+1) k=Q5 b e (k+1):=by rw [Q5,hx]
def aJ{x:Ent}(hx:O7 b k=A4 x):Q5 b (e+1) k=(k,x)::Q5 b e (k+1):=by rw [Q5,hx]
def E3V{jd m:Nat}(hy:rd h jd=rT ys)(hyl:l_ ys=m*sz)(hsz:0<sz)(hn:m<=1073741824) :
  uL h sz (.c .ns) (sV jd 0 m sz)=A4 (sV (l_ h) 0 m sz,h++[rT ys]):=by
 have h2:V7 h sz (sV jd 0 m sz)=A4 ys:=by
  simp only [V7,if_true,qW,hy,E7l,E7n,E7o];rw [<-hyl,List.take_length,C4 ⟨E69 _,rfl⟩]
 have e1:l_ ys/sz=m:=by rw [hyl];exact Nat.mul_div_cancel _ hsz
 simp only [uL,h2,E7l];rw [e1,C4 hn]
def Held(h:A9)(x:Cell)(l:List Slt)(b r0 r:Nat):Prop:=(l=[]/\x=.ns)\/∃ id,x=.sl id 0 (l_ l) 3/\rd h id=rT (qV l)/\b<=id/\id≠r0/\id≠r
def Held.more{x:Cell}{l:List Slt}{b:Nat}(hd:Held h x l b r0 r)(t:A9):Held (h++t) x l b r0 r:=by
 rcases hd with hd | ⟨id,h1,h2,h3⟩
 ·exact .inl hd
 ·exact .inr ⟨id,h1,B6 h2,h3⟩
def E0S{x:Cell}{l:List Slt}(hlow:Low (l_ B) B h)(hr:rd h r=rT [x])(h0:rd h r0=rT c0)(h0r:r0≠r)(hBr:l_ B<=r)(hB0:l_ B<=r0)(hd:Held h x l (l_ B) r0 r)(hl:l_ l<=7) :
  ∃ x' h',tQ [.a [cI (k:Int),.s s,cI n],pV r 0] h=A4 (bV A5,h')/\Low (l_ B) B h'/\rd h' r=rT [x']/\rd h' r0=rT c0/\Held h' x' (l++[(k,(s,n))]) (l_ B) r0 r:=by
 have X4:=E5 hr;have E6p:=E5 h0;have l1:B8 (h++[rT [cI (k:Int),.s s,cI n]]) (pV r 0)=A4 (.c x):=C1 (cs:=[x]) (B6 hr) rfl (by simp);have ef:F9 [o0,.s [],o0] [(0,3,.a [cI (k:Int),.s s,cI n])]=A4 [cI (k:Int),.s s,cI n]:=rfl;have hBh:=hlow.2.1;rcases hd with ⟨rfl,rfl⟩ | ⟨id,rfl,hi,hbi,hi0,hir⟩
 ·have hA:=E3V (h:=h++[rT [cI (k:Int),.s s,cI n],rT [cI (k:Int),.s s,cI n]]) (jd:=l_ h+1) (m:=1) (sz:=3) (ys:=[cI (k:Int),.s s,cI n]) (by simp) rfl (by omega) (by omega);simp only [E7c,E7k,E7Q,E7o,E7i,E8a,E7A,Nat.reduceAdd] at hA;have hr2:rd (h++[rT [cI (k:Int),.s s,cI n],rT [cI (k:Int),.s s,cI n],rT [cI (k:Int),.s s,cI n]]) r=rT [.ns]:=B6 hr;have t1:=I8 (x:=.sl (l_ h+2) 0 1 3) (off:=0) hr2 (by simp);refine ⟨.sl (l_ h+2) 0 1 3,_,A4P (n:=0) (by rw [A4w];simp only [esc,esh,Nat.reduceAdd,l1,ef,hA,t1]<;>rfl),(hlow.new _).set hBr _,?_,?_,.inr ⟨l_ h+2,rfl,?_,by omega,by omega,by omega⟩⟩
  ·exact E1 (E5 hr2)
  ·rw [B7 (Ne.symm h0r)];exact B6 h0
  ·rw [B7 (by omega)];simp [qV,slC]
 ·have hA:=A76 (h:=h++[rT [cI (k:Int),.s s,cI n],rT [cI (k:Int),.s s,cI n]]) (id:=id) (jd:=l_ h+1) (n:=l_ l) (m:=1) (sz:=3) (cs:=qV l) (ys:=[cI (k:Int),.s s,cI n]) (rw:=A5) (B6 hi) vT (by simp) rfl rfl (by omega) (by omega);have hli:=E5 hi;have es:(h++[rT [cI (k:Int),.s s,cI n],rT [cI (k:Int),.s s,cI n]]).length=l_ h+2:=by simp
  rw [es] at hA;have hr2:rd ((h++[rT [cI (k:Int),.s s,cI n],rT [cI (k:Int),.s s,cI n]]).set id A7++[rT (qV l++[cI (k:Int),.s s,cI n])]) r=rT [.sl id 0 (l_ l) 3]:=by
   refine B6 ?_;rw [B7 hir];exact B6 hr
  have t1:=I8 (x:=.sl (l_ h+2) 0 (l_ l+1) 3) (off:=0) hr2 (by simp);refine ⟨.sl (l_ h+2) 0 (l_ l+1) 3,_,A4P (n:=0) (by rw [A4w];simp only [esc,esh,Nat.reduceAdd,l1,ef,hA,t1]<;>rfl),(((hlow.new _).set hbi _).new _).set hBr _,?_,?_,.inr ⟨l_ h+2,by simp,?_,by omega,by omega,by omega⟩⟩
  ·exact E1 (E5 hr2)
  ·rw [B7 (Ne.symm h0r)];refine B6 ?_;rw [B7 hi0];exact B6 h0
  ·rw [B7 (by omega),D86];have:((h++[rT [cI (k:Int),.s s,cI n],rT [cI (k:Int),.s s,cI n]]).set id A7).length=l_ h+2:=by simp
   rw [<-this];exact O2
def C16{q:Nat}(hb:l_ b=256)(h0r:r0≠r)(hBr:l_ B<=r)(hB0:l_ B<=r0):∀ (e k m:Nat) (h:A9) (x:Cell) (l:List Slt),k+e=7->e<m->l_ l<=k->Low (l_ B) B h ->
  rd h r=rT [x]->rd h r0=rT (B4 b)->Held h x l (l_ B) r0 r ->
  ∃ x' h',yQ q m (.c (.f 152 [(r,0)])) (pV r0 0) (iV (k:Int)) h=A4 (.t [],h')/\Low (l_ B) B h'/\rd h' r=rT [x']/\Held h' x' (l++Q5 b e k) (l_ B) r0 r
 | e,k,0,h,x,l,_,hm,_,_,_,_,_=>by omega
 | 0,k,m+1,h,x,l,hk,hm,hl,hlow,hr,h0,hd=>by
  have e0:k=7:=by omega
  subst e0;have c0:¬ ((7:Nat):Int)<7:=by omega
  refine ⟨x,h,?_,hlow,hr,by rw [Q5,E7q];exact hd⟩;rw [rD];simp only [esc,c0]<;>rfl
 | e+1,k,m+1,h,x,l,hk,hm,hl,hlow,hr,h0,hd=>by
  have c0:(k:Int)<7:=by omega
  have hbl:(B4 b).length=256:=by rw [B5,hb]
  have s1:=C8 (h:=h) (id:=r0) h0 hbl;have hR:=A5a (h:=h) (k:=k) hb (by omega);have w1:=E3 (a:=k) (by omega);have hcv:∀ (x:Val) (h:A9),aV zY (.c (.f 152 [(r,0)])) [x] h=tQ [x,pV r 0] h:=λ_ _=>Eq.trans rfl rfl
  rw [rD];cases hx:O7 b k with
  | none =>
   rw [hx] at hR;rw [aI hx];obtain ⟨x',h',f1,f2⟩:=C16 (q:=q) hb h0r hBr hB0 e (k+1) m (h++[rT ([.s [],o0])]) x l (by omega) (by omega) (by omega) (hlow.new _) (B6 hr) (B6 h0) (hd.more _);refine ⟨x',h',?_,f2⟩;generalize B4 b=y at *;simp only [esc,esh,Nat.reduceAdd,c0,s1,hR,W5,E8b,w1];exact f1
  | some en =>
   obtain ⟨s,n⟩:=en;rw [hx] at hR;rw [aJ hx];have ef:F9 [o0,.s [],o0] [(0,1,iV (k:Int)),(1,2,.a [.s s,cI n])]=A4 [cI (k:Int),.s s,cI n]:=rfl;obtain ⟨x1,h1,g1,g2,g3,g4,g5⟩:=E0S (k:=k) (n:=n) (s:=s) (hlow.new [rT [.s s,cI n]]) (B6 hr) (B6 h0) h0r hBr hB0 (hd.more _) (by omega);obtain ⟨x',h',f1,f2,f3,f4⟩:=C16 (q:=q) hb h0r hBr hB0 e (k+1) m h1 x1 (l++[(k,(s,n))]) (by omega) (by omega) (by simp;omega) g2 g3 g4 g5;rw [E7i,List.singleton_append] at f4;refine ⟨x',h',?_,f2,f3,f4⟩;generalize B4 b=y at *;simp only [esc,esh,Nat.reduceAdd,c0,s1,hR,W5,E7S,ef,hcv,g1,w1];exact f1
def A2O(hb:l_ b=256):∃ v t,gD [.a (B4 b)] h=A4 (v,h++t)/\Has (h++t) v 3 (J3 b).length (qV (J3 b))/\(t=[]/\v=.c .ns/\J3 b=[]\/t=[rT (qV (J3 b))]/\v=sV (l_ h) 0 (J3 b).length 3):=by
 have key:∀ g,∃ x g',A1D 8 [.a (B4 b)] g=A4 (.c x,g')/\Held g' x (J3 b) (l_ g) (l_ g+3) (l_ g+2):=by
  intro g;have hbl:(B4 b).length=256:=by rw [B5,hb]
  have emk:A3N 152 [pV (l_ g+2) 0]=A4 (.c (.f 152 [(l_ g+2,0)])):=rfl;obtain ⟨x,h',f1,f2,f3,f4⟩:=C16 (b:=b) (r0:=l_ g+3) (r:=l_ g+2) (q:=8) (B:=g) hb (by omega) (by omega) (by omega) 7 0 8 (g++[rT (B4 b),rT [],rT [.ns],rT (B4 b)]) .ns [] (by omega) (by omega) (by simp)
   ((Low.refl (E69 _)).new _) (by simp) (by simp) (.inl ⟨rfl,rfl⟩)
  have hS:lU [.a (B4 b),.c (.f 152 [(l_ g+2,0)])] (g++[rT (B4 b),rT [],rT [.ns]])=A4 (.t [],h'):=by
   refine A7K (n:=8) ?_;rw [A7n];simp only [esc,esh,Nat.reduceAdd];exact f1
  have t1:B8 h' (pV (l_ g+2) 0)=A4 (.c x):=C1 (cs:=[x]) f3 rfl (by simp);rw [C0P];generalize B4 b=y at *;exact ⟨x,h',by simp only [esc,esh,Nat.reduceAdd,hbl,emk,hS,t1],f4⟩
 obtain ⟨x,g',e,hd⟩:=key (ro h);rcases hd with ⟨hl,rfl⟩ | ⟨id,rfl,hr,hbi,_⟩
 ·refine ⟨.c .ns,[],?_,?_,.inl ⟨rfl,rfl,hl⟩⟩
  ·rw [E7q];exact B8R e (by simp [Val.low,Cell.low,Cell.flat])
  ·rw [hl];exact .inl ⟨rfl,rfl,rfl⟩
 ·rw [H8] at hbi;refine ⟨sV (l_ h) 0 (J3 b).length 3,[rT (qV (J3 b))],B8S e ⟨vT,id,rfl,hbi,hr⟩ D85,Has.row (rw:=A5) (by simp) vT E03,.inr ⟨rfl,rfl⟩⟩
def D9j(h:A9)(x:Cell)(cs:List Cell)(n sz b:Nat)(rs:List Nat):Prop:=(n=0/\cs=[]/\x=.ns)\/∃ id,x=.sl id 0 n sz/\rd h id=rT cs/\(l_ cs)=n*sz/\b<=id/\id ∉ rs
def VarC(h:A9)(r:Nat)(cs:List Cell)(n sz b:Nat)(rs:List Nat):Prop:=∃ x,rd h r=rT [x]/\D9j h x cs n sz b rs
def VarC.nil{b:Nat}{rs:List Nat}(hr:rd h r=rT [.ns]):VarC h r [] 0 sz b rs:=⟨.ns,hr,.inl ⟨rfl,rfl,rfl⟩⟩
def VarC.keep{h':A9}{n b:Nat}(hv:VarC h r cs n sz b rs)(h1:rd h' r=rd h r)(h2:∀ id,id ∉ rs->∀ x,rd h id=A4 x->rd h' id=A4 x):VarC h' r cs n sz b rs:=by
 obtain ⟨x,hx,hd⟩:=hv;refine ⟨x,by rw [h1];exact hx,?_⟩;rcases hd with hd | ⟨id,e,hr,hl,hb,hn⟩
 ·exact .inl hd
 ·exact .inr ⟨id,e,h2 id hn _ hr,hl,hb,hn⟩
def VarC.more{n b:Nat}{rs':List Nat}(hv:VarC h r cs n sz b rs)(t:A9)(hrs:∀ j∈rs',j∈rs\/(l_ h)<=j):VarC (h++t) r cs n sz b rs':=by
 obtain ⟨x,hx,hd⟩:=hv;refine ⟨x,B6 hx,?_⟩;rcases hd with hd | ⟨id,e,hr,hl,hb,hn⟩
 ·exact .inl hd
 ·refine .inr ⟨id,e,B6 hr,hl,hb,λhm=>?_⟩;have:=E5 hr;rcases hrs id hm with h1 | h1
  ·exact hn h1
  ·omega
def VarC.fewer{n b:Nat}{rs':List Nat}(hv:VarC h r cs n sz b rs)(hrs:∀ j∈rs',j∈rs):VarC h r cs n sz b rs':=by
 have:=hv.more (rs':=rs') [] (λj hj=>.inl (hrs j hj))
 rwa [E7q] at this
def VarC.push{n b:Nat}(hv:VarC h r cs n sz b rs)(hr:r∈rs)(hbr:b<=r)(hbh:b<=l_ h)(X4:∀ j∈rs,j<l_ h)(hl:n<=100000)(hy:l_ ys=sz)(hsz:0<sz) :
  ∃ x v h2 h3,B8 h (pV r 0)=A4 (.c x)/\uL (h++[rT ys]) sz (.c x) (sV (l_ h) 0 1 sz)=A4 (.c v,h2)/\I7 h2 (pV r 0) (.c v)=A4 h3 /\
   VarC h3 r (cs++ys) (n+1) sz b rs/\Low b h h3/\(∀ j∈rs,j≠r->rd h3 j=rd h j)/\(l_ h)<=h3.length:=by
 obtain ⟨x,hx,hd⟩:=hv;have hrl:=E5 hx;have l1:B8 h (pV r 0)=A4 (.c x):=C1 hx rfl (by simp);rcases hd with ⟨rfl,rfl,rfl⟩ | ⟨id,rfl,hi,nF,hb,hn⟩
 ·have hA:=C4Y (h:=h++[rT ys]) (jd:=l_ h) (m:=1) (sz:=sz) (ys:=ys) (by simp) (by omega) hsz (by omega);have e1:(h++[rT ys]).length=l_ h+1:=by simp
  rw [e1] at hA;have hr2:rd (h++[rT ys]++[rT ys]) r=rT [.ns]:=B6 (B6 hx);have s1:=I8 (x:=.sl (l_ h+1) 0 1 sz) (off:=0) hr2 (by simp);refine ⟨.ns,_,_,_,l1,hA,s1,⟨.sl (l_ h+1) 0 1 sz,E1 (E5 hr2),.inr ⟨l_ h+1,rfl,?_,by simp [hy],by omega,λh1=>by have:=X4 _ h1;omega⟩⟩,(((Low.refl hbh).new _).new _).set hbr _,λj hj hjr=>?_,by simp⟩
  ·rw [B7 (by omega)];have:=O2 (h:=h++[rT ys]) (r:=⟨ys,A5⟩);rw [e1] at this;exact this
  ·rw [B7 (Ne.symm hjr)];have:=X4 j hj;rw [D5 (by simp;omega),D5 this]
 ·have K6:=E5 hi;have Z2:id≠r:=λe=>hn (e ▸ hr)
  have hA:=A76 (h:=h++[rT ys]) (id:=id) (jd:=l_ h) (n:=n) (m:=1) (sz:=sz) (cs:=cs) (ys:=ys) (rw:=A5) (B6 hi) nF (by simp) (by omega) rfl hsz (by omega);have e1:(h++[rT ys]).length=l_ h+1:=by simp
  rw [e1] at hA;have hr2:rd ((h++[rT ys]).set id A7++[rT (cs++ys)]) r=rT [.sl id 0 n sz]:=by
   refine B6 ?_;rw [B7 Z2];exact B6 hx
  have s1:=I8 (x:=.sl (l_ h+1) 0 (n+1) sz) (off:=0) hr2 (by simp);refine ⟨_,_,_,_,l1,hA,s1,⟨.sl (l_ h+1) 0 (n+1) sz,E1 (E5 hr2),.inr ⟨l_ h+1,by simp,?_,by simp [nF,hy,Nat.add_mul],by omega,λh1=>by have:=X4 _ h1;omega⟩⟩,((((Low.refl hbh).new _).set hb _).new _).set hbr _,λj hj hjr=>?_,by simp;omega⟩
  ·rw [B7 (by omega)];have:=O2 (h:=(h++[rT ys]).set id A7) (r:=⟨cs++ys,A5⟩);rw [E7R,e1] at this;exact this
  ·have hji:j≠id:=λe=>hn (e ▸ hj)
   have:=X4 j hj;rw [B7 (Ne.symm hjr),D5 (by simp;omega),B7 (Ne.symm hji),D5 this]
def E41(h:A9)(o:zQ)(cs:List Cell)(n sz:Nat):Prop:=∃ v t,o=A4 (v,h++t)/\Has (h++t) v sz n cs/\(t=[]/\v=.c .ns/\n=0/\cs=[]\/t=[rT cs]/\v=sV (l_ h) 0 n sz)
def E18{S:Fun}{R:Nat->Fun}{args:List Val}{g':A9}{N:Nat}{x:Cell}{n:Nat}
  (hlow:∀ {n:Nat} {args:List Val} {h h2:A9} {v:Val},R n args (ro h)=A4 (v,h2)->v.low (l_ h)=A5->S args h=A4 (v,h))
  (hout:∀ {n:Nat} {args:List Val} {h h2:A9} {v:Val} {sz k:Nat} {cs:List Cell},R n args (ro h)=A4 (v,h2)->Out (l_ h) h2 v sz k cs->O5 cs=A5->S args h=A4 (sV (l_ h) 0 k sz,h++[rT cs]))
  (he:R N args (ro h)=A4 (.c x,g')) (hd:D9j g' x cs n sz (l_ h) rs) (hf:O5 cs=A5) (hx:noX cs=A5):E41 h (S args h) cs n sz:=by
 rcases hd with ⟨hn,hl,rfl⟩ | ⟨id,rfl,hr,hl,hbi,_⟩
 ·refine ⟨.c .ns,[],?_,?_,.inl ⟨rfl,rfl,hn,hl⟩⟩
  ·rw [E7q];exact hlow he (by simp [Val.low,Cell.low,Cell.flat])
  ·exact .inl ⟨rfl,hn,hl⟩
 ·exact ⟨sV (l_ h) 0 n sz,[rT cs],hout he ⟨hl,id,rfl,hbi,hr⟩ hf,Has.row (rw:=A5) (by simp) hl hx,.inr ⟨rfl,rfl⟩⟩
abbrev Tld:=Plc × List UInt8
def C0H(no:Int)(l:List Slt):List Tld:=l.map λs=>((no,s.1,s.2.2),s.2.1)
def C4D(D:Dev)(L:List Int):List Tld:=L.flatMap λno=>C0H no (J3 (blk D no))
def D2e{l:List Slt}:∀ {i:Nat} {x:Slt},l[i]?=A4 x->((qV l).drop (i*3)).take 3=slC (A4 x):=by
 induction l with
 | nil=>intro i x h;simp at h
 | cons y l ih =>
  intro i x h;have e:qV (y::l)=slC (A4 y)++qV l:=rfl;cases i with
  | zero=>simp at h;subst h;rw [e];rfl
  | succ i =>
   simp at h;rw [e,show (i+1)*3=3+i*3 by omega,<-List.drop_drop,List.drop_left' (by rw [kD])];exact ih h
def D0O{σ:Type}{L1:Nat->Val->A9->zQ}{L0:A9->zQ}{C:Val->Val->A9->zQ}{id c0:Nat}{l:List Slt}(P:Nat -> σ -> A9->Prop)(step:σ -> Tld -> σ)
  (hL:∀ m x h,L1 (m+1) x h=bnd (O0 .lss x (iV (l_ l:Nat))) λv14=>cnd v14 (bnd (F5 3 (sV id 0 (l_ l) 3) x) λv15=>bnd (D3 h 3 v15) λv16=>bnd (G0 ((h++[rT ([o0,.s [],o0])])) 3 ((pV (l_ h) 0)) v16) λh17=>bnd (U8 ((pV (l_ h) 0)) 0) λv18=>bnd (B8 h17 v18) λv19=>bnd (U8 ((pV (l_ h) 0)) 1) λv20=>bnd (U8 v20 1) λv21=>bnd (B8 h17 v21) λv22=>bnd (F9 ([o0,o0,o0]) [(0,1,iV no),(1,1,v19),(2,1,v22)]) λc23=>bnd (U8 ((pV (l_ h) 0)) 1) λv24=>bnd (U8 v24 0) λv25=>bnd (B8 h17 v25) λv26=>bnd (C (.a c23) v26 h17) λp27=>bnd (O0 .add x (iV 1)) λv28=>L1 m v28 p27.2) (L0 h))
  (hI:∀ c s h,P c s h->rd h id=rT (qV l))
  (hM:∀ c s h t,P c s h->P c s (h++t))
  (hC:∀ c s h x,P c s h->c<c0+7->x∈l->∃ h',C (.a (nK (A4 (no,x.1,x.2.2)))) (.c (.s x.2.1)) h=A4 (.t [],h')/\P (c+1) (step s ((no,x.1,x.2.2),x.2.1)) h') (h62:l_ l<=7) :
  ∀ (e i M:Nat) (s:σ) (h:A9),i+e=l_ l->e<M->P (c0+i) s h->∃ h',L1 M (iV (i:Int)) h=L0 h'/\P (c0+l_ l) ((C0H no (l.drop i)).foldl step s) h'
 | e,i,0,s,h,_,hm,_=>by omega
 | 0,i,M+1,s,h,hi,hm,hP=>by
  have c1:¬ (i:Int)<(l_ l:Nat):=by omega
  refine ⟨h,?_,by rw [E7j (by omega),show (l_ l)=i by omega];exact hP⟩;rw [hL];simp only [C7,G4,c1,decide_false,Y0]
 | e+1,i,M+1,s,h,hi,hm,hP=>by
  have K6:i<(l_ l):=by omega
  have c1:(i:Int)<(l_ l:Nat):=by omega
  have hx:l[i]?=A4 l[i]:=E64 K6;have hr:=hI _ s h hP;have ad:F5 3 (sV id 0 (l_ l) 3) (iV (i:Int))=A4 (pV id (i*3)):=by rw [E4 K6];simp
  have iZ:l[i]∈l:=E7y K6;obtain ⟨⟨kk,s',i'⟩,ex⟩:=xEq (l[i]);rw [<-ex] at hx iZ;have hsl:=D2e hx;have hlen:=vT (l:=l);have l3:D3 h 3 (pV id (i*3))=A4 (.a (slC (A4 (kk,s',i')))):=by rw [U2 hr (by rw [hlen];omega) rfl,hsl]
  have s3:G0 (h++[rT [o0,.s [],o0]]) 3 (pV (l_ h) 0) (.a (slC (A4 (kk,s',i'))))=A4 (h++[rT (slC (A4 (kk,s',i')))]):=by rw [H6];rfl
  have g0:B8 (h++[rT (slC (A4 (kk,s',i')))]) (pV (l_ h) 0)=A4 (iV (kk:Int)):=by rw [I6];rfl
  have g1:B8 (h++[rT (slC (A4 (kk,s',i')))]) (pV (l_ h) 1)=A4 (.c (.s s')):=by rw [I6];rfl
  have g2:B8 (h++[rT (slC (A4 (kk,s',i')))]) (pV (l_ h) 2)=A4 (iV i'):=by rw [I6];rfl
  have ef:F9 [o0,o0,o0] [(0,1,iV no),(1,1,iV (kk:Int)),(2,1,iV i')]=A4 (nK (A4 (no,kk,i'))):=rfl;obtain ⟨h',f1,f2⟩:=hC _ s (h++[rT (slC (A4 (kk,s',i')))]) (kk,s',i') (hM _ _ _ _ hP) (by omega) iZ;obtain ⟨h'',e1,e2⟩:=D0O P step hL hI hM hC h62 e (i+1) M _ h' (by omega) (by omega) f2;have w1:=E3 (a:=i) (by omega);rw [hL,E7g K6,<-ex];refine ⟨h'',?_,e2⟩;simp only [C7,G4,c1,decide_true,Y1,ad,l3,s3,R4,E8m,E7o,Nat.reduceAdd,g0,g1,g2,ef,f1,M7,w1];exact e1
def C9F:C4D D (no::L)=C0H no (J3 (blk D no))++C4D D L:=by simp [C4D]
def lJ(b:List UInt8):(J3 b).length<=7:=by
 have:∀ e k,(Q5 b e k).length<=e:=by
  intro e
  induction e with
  | zero=>intro k;simp [Q5]
  | succ e ih =>
   intro k;have:=ih (k+1);rw [Q5];split<;>simp<;>omega
 exact this 7 0
def B3P{σ:Type}{L0:Nat->Val->A9->zQ}{L1:Nat->Nat->Val->Val->Val->Val->Val->A9->zQ}{C:Val->Val->A9->zQ}{N:Nat}{x3:Val}{n m:Int}{sid:Nat}(hD:okD D)(P:List Nat->Nat -> σ -> A9->Prop)(step:σ -> Tld -> σ)(hN:8<=N)
  (hL0:∀ m x h,L0 (m+1) x h=bnd (O0 .lss x (iV (l_ L:Nat))) λv7=>cnd v7 (bnd (F5 1 (sV sid 0 (l_ L) 1) x) λv8=>bnd (B8 h v8) λv9=>bnd (D3 h 4 x3) λv10=>bnd (E2 [v10,v9] h) λp11=>bnd (gD [p11.1] p11.2) λp12=>bnd (B5X p12.1) λv13=>L1 m N v9 x p12.1 v13 (iV 0) p12.2) (C2N [] h))
  (hL1:∀ m0 v9 x v w m y h,L1 m0 (m+1) v9 x v w y h=bnd (O0 .lss y w) λv14=>cnd v14 (bnd (F5 3 v y) λv15=>bnd (D3 h 3 v15) λv16=>bnd (G0 ((h++[rT ([o0,.s [],o0])])) 3 ((pV (l_ h) 0)) v16) λh17=>bnd (U8 ((pV (l_ h) 0)) 0) λv18=>bnd (B8 h17 v18) λv19=>bnd (U8 ((pV (l_ h) 0)) 1) λv20=>bnd (U8 v20 1) λv21=>bnd (B8 h17 v21) λv22=>bnd (F9 ([o0,o0,o0]) [(0,1,v9),(1,1,v19),(2,1,v22)]) λc23=>bnd (U8 ((pV (l_ h) 0)) 1) λv24=>bnd (U8 v24 0) λv25=>bnd (B8 h17 v25) λv26=>bnd (C (.a c23) v26 h17) λp27=>bnd (O0 .add y (iV 1)) λv28=>L1 m0 m v9 x v w v28 p27.2) (bnd (O0 .add x (iV 1)) λv29=>L0 m0 v29 h))
  (hI:∀ rs c s h,P rs c s h->D3 h 4 x3=A4 (.a (vwC (l_ D) n m f))/\IsView h f D/\rd h sid=rT (encI L))
  (hR:∀ rs c s h t,P rs c s h->P rs c s (h++t))
  (hN1:∀ rs c s h r,P rs c s h->P (l_ h::rs) c s (h++[A4 r]))
  (hF:∀ i rs c s h,P (i::rs) c s h->P rs c s h)
  (hW:∀ rs c c' s h,P rs c s h->c<=c'->P rs c' s h)
  (hC:∀ rs c s h no x,P rs c s h->c<7*l_ L->no∈L->x∈J3 (blk D no)->∃ h',C (.a (nK (A4 (no,x.1,x.2.2)))) (.c (.s x.2.1)) h=A4 (.t [],h')/\P rs (c+1) (step s ((no,x.1,x.2.2),x.2.1)) h'/\∀ j∈rs,rd h' j=rd h j)
  (h62:l_ L<1000) :
  ∀ (e i M:Nat) (rs:List Nat) (s:σ) (h:A9),i+e=l_ L->e<M->P rs (7*i) s h->∃ h',L0 M (iV (i:Int)) h=A4 (.t [],h')/\P rs (7*l_ L) ((C4D D (L.drop i)).foldl step s) h'
 | e,i,0,rs,s,h,_,hm,_=>by omega
 | 0,i,M+1,rs,s,h,hi,hm,hP=>by
  have c0:¬ (i:Int)<(l_ L:Nat):=by omega
  refine ⟨h,?_,by rw [E7j (by omega),show (l_ L)=i by omega];exact hP⟩;rw [hL0];simp only [C7,G4,c0,decide_false,Y0];rfl
 | e+1,i,M+1,rs,s,h,hi,hm,hP=>by
  have K6:i<(l_ L):=by omega
  have c0:(i:Int)<(l_ L:Nat):=by omega
  obtain ⟨i1,i2,i3⟩:=hI rs _ s h hP;have iZ:L[i]∈L:=E7y K6;have ad:F5 1 (sV sid 0 (l_ L) 1) (iV (i:Int))=A4 (pV sid i):=by rw [E4 K6];simp
  have l1:B8 h (pV sid i)=A4 (iV L[i]):=C1 i3 (by rw [G7,E64 K6];rfl) rfl;have hB:=N2 (n:=n) (m:=m) (no:=L[i]) hD i2;obtain ⟨v,t,b1,b2,b3⟩:=A2O (b:=blk D L[i]) (h:=h) (J8 hD);have hlen:=b2.len;have w1:=E3 (a:=i) (by omega);have h7:=lJ (blk D L[i]);have main:∃ h',L1 M N (iV L[i]) (iV (i:Int)) v (iV ((J3 (blk D L[i])).length:Nat)) (iV ((0:Nat):Int)) (h++t)=bnd (O0 .add (iV (i:Int)) (iV 1)) (λv29=>L0 M v29 h')/\P rs (7*(i+1)) ((C0H L[i] (J3 (blk D L[i]))).foldl step s) h':=by
   rcases b3 with ⟨rfl,rfl,b3⟩ | ⟨rfl,rfl⟩
   ·refine ⟨h,?_,by rw [b3];exact hW _ _ _ _ _ hP (by omega)⟩;obtain ⟨N',rfl⟩:∃ N',N=N'+1:=⟨N-1,by omega⟩;rw [hL1,b3,E7q];rfl
   ·have hl0:(h++[rT (qV (J3 (blk D L[i])))])=h++[rT (qV (J3 (blk D L[i])))]:=rfl;obtain ⟨h',f1,f2⟩:=D0O (L1:=λm y h'=>L1 M m (iV L[i]) (iV (i:Int)) (sV (l_ h) 0 (J3 (blk D L[i])).length 3) (iV ((J3 (blk D L[i])).length:Nat)) y h') (L0:=λh'=>bnd (O0 .add (iV (i:Int)) (iV 1)) (λv29=>L0 M v29 h')) (C:=C) (no:=L[i]) (id:=l_ h) (c0:=7*i) (l:=J3 (blk D L[i]))
     (λc s' h'=>P (l_ h::rs) c s' h'/\rd h' (l_ h)=rT (qV (J3 (blk D L[i])))) step (λm y h'=>hL1 M _ _ _ _ m y h') (λc s' h' hp=>hp.2) (λc s' h' t hp=>⟨hR _ _ _ _ _ hp.1,B6 hp.2⟩)
     (λc s' h' x hp hc hx=>by
      obtain ⟨h2,c1,c2,c3⟩:=hC _ _ _ _ L[i] x hp.1 (by omega) iZ hx;exact ⟨h2,c1,c2,by rw [c3 (l_ h) (by simp)];exact hp.2⟩) (by omega) (J3 (blk D L[i])).length 0 N s (h++[rT (qV (J3 (blk D L[i])))]) (by omega) (by omega) ⟨hN1 _ _ _ _ _ hP,by simp⟩
    rw [E7n] at f2;exact ⟨h',f1,hW _ _ _ _ _ (hF _ _ _ _ _ f2.1) (by omega)⟩
  obtain ⟨h1,m1,m2⟩:=main;obtain ⟨h',f1,f2⟩:=B3P hD P step hN hL0 hL1 hI hR hN1 hF hW hC h62 e (i+1) M rs _ h1 (by omega) (by omega) m2;rw [hL0,E7g K6,C9F,List.foldl_append];refine ⟨h',?_,f2⟩;simp only [C7,G4,c0,decide_true,Y1,ad,l1,i1,hB,b1,hlen];refine m1.trans ?_;simp only [M7,C7,w1];exact f1
def D1X{a:List UInt8}:B3z [.c (.s a),.c (.s b)] h=A4 (bV (Y9 a b),h) :=
 C1z (n:=0) (h2:=ro h) (by rw [C5y];simp only [esc]) rfl
section
variable {α:Type} {lt:α -> α -> Prop}
def D4t(irr:∀ a,¬ lt a a)(tr:∀ a b c,lt a b->lt b c->lt a c):∀ {l m:List α},l.Pairwise lt->m.Pairwise lt->(∀ x,x∈l↔x∈m)->l=m
 | [],[],_,_,_=>rfl
 | [],y::m,_,_,h=>absurd ((h y).2 (E7e ..)) (by simp)
 | x::l,[],_,_,h=>absurd ((h x).1 (E7e ..)) (by simp)
 | x::l,y::m,hl,hm,h=>by
  rw [List.pairwise_cons] at hl hm;have e:x=y:=by
   rcases E7m.1 ((h x).1 (E7e ..)) with e | h1
   ·exact e
   ·rcases E7m.1 ((h y).2 (E7e ..)) with e | h2
    ·exact e.symm
    ·exact absurd (tr _ _ _ (hm.1 x h1) (hl.1 y h2)) (irr y)
  subst e;rw [D4t irr tr hl.2 hm.2 λz=>?_];constructor
  ·intro hz;rcases E7m.1 ((h z).1 (E7d _ hz)) with e | h1
   ·subst e;exact absurd (hl.1 z hz) (irr z)
   ·exact h1
  ·intro hz;rcases E7m.1 ((h z).2 (E7d _ hz)) with e | h1
   ·subst e;exact absurd (hm.1 z hz) (irr z)
   ·exact h1
def D4u(tr:∀ a b c,lt a b->lt b c->lt a c)(tot:∀ a b,lt a b\/a=b\/lt b a){l:List α}{x:α}{p:Nat}(hl:l.Pairwise lt)(hx:x ∉ l)(h1:∀ y∈l.take p,lt y x)(h2:∀ y∈l.drop p,¬ lt y x) :
  (l.take p++x::l.drop p).Pairwise lt:=by
 have hl':=hl;rw [<-List.take_append_drop p l] at hl';rw [List.pairwise_append] at hl';obtain ⟨k1,k2,k3⟩:=hl';rw [List.pairwise_append];refine ⟨k1,?_,?_⟩
 ·rw [List.pairwise_cons];refine ⟨λy hy=>?_,k2⟩;rcases tot x y with h | h | h
  ·exact h
  ·subst h;exact absurd (List.mem_of_mem_drop hy) hx
  ·exact absurd h (h2 y hy)
 ·intro a ha b hb;rcases E7m.1 hb with e | hb
  ·subst e;exact h1 a ha
  ·exact k3 a ha b hb
def mem_insert{l:List α}{x y:α}{p:Nat}:y∈l.take p++x::l.drop p↔y=x\/y∈l:=by
 have e:y∈l↔y∈l.take p\/y∈l.drop p:=by rw [<-E7J,List.take_append_drop]
 rw [E7J,E7m,e];constructor
 ·rintro (h | h | h)
  ·exact .inr (.inl h)
  ·exact .inl h
  ·exact .inr (.inr h)
 ·rintro (h | h | h)
  ·exact .inr (.inl h)
  ·exact .inl h
  ·exact .inr (.inr h)
end
def A85:∀ a:List UInt8,Y9 a a=A6
 | []=>rfl
 | x::a=>by simp [Y9,A85 a,UInt8.lt_irrefl]
def B3M:∀ {a b c:List UInt8},Y9 a b=A5->Y9 b c=A5->Y9 a c=A5
 | [],[],_,h,_=>by simp [Y9] at h
 | [],_::_,[],_,h=>by simp [Y9] at h
 | [],_::_,_::_,_,_=>rfl
 | _::_,[],_,h,_=>by simp [Y9] at h
 | _::_,_::_,[],_,h=>by simp [Y9] at h
 | x::a,y::b,z::c,h1,h2=>by
  simp only [Y9,E8r,E66,decide_eq_true_eq,beq_iff_eq] at h1 h2 ⊢;rcases h1 with h1 | ⟨rfl,h1⟩
  ·rcases h2 with h2 | ⟨rfl,h2⟩
   ·exact .inl (UInt8.lt_trans h1 h2)
   ·exact .inl h1
  ·rcases h2 with h2 | ⟨rfl,h2⟩
   ·exact .inl h2
   ·exact .inr ⟨rfl,B3M h1 h2⟩
def C9O:∀ a b:List UInt8,Y9 a b=A5\/a=b\/Y9 b a=A5
 | [],[]=>.inr (.inl rfl)
 | [],_::_=>.inl rfl
 | _::_,[]=>.inr (.inr rfl)
 | x::a,y::b=>by
  simp only [Y9,E8r,E66,decide_eq_true_eq,beq_iff_eq,List.cons.injEq];rcases Nat.lt_trichotomy x.toNat y.toNat with h | h | h
  ·exact .inl (.inl (UInt8.lt_iff_toNat_lt.2 h))
  ·have e:=UInt8.toNat_inj.1 h;subst e;rcases C9O a b with h | h | h
   ·exact .inl (.inr ⟨rfl,h⟩)
   ·exact .inr (.inl ⟨rfl,h⟩)
   ·exact .inr (.inr (.inr ⟨rfl,h⟩))
  ·exact .inr (.inr (.inl (UInt8.lt_iff_toNat_lt.2 h)))
def plc(l:List (List UInt8))(s:List UInt8):Nat->Nat->Nat->Nat
 | 0,lo,_=>lo
 | f+1,lo,hi=>if lo<hi then (if Y9 (l.getD (lo+(hi-lo)/2) []) s then plc l s f (lo+(hi-lo)/2+1) hi else plc l s f lo (lo+(hi-lo)/2)) else lo
def D6b(l:List (List UInt8))(s:List UInt8):∀ f lo hi,lo<=hi->plc l s f lo hi<=hi
 | 0,lo,hi,h=>h
 | f+1,lo,hi,h=>by
  unfold plc;split
  ·split
   ·exact D6b l s f _ hi (by omega)
   ·exact E7V (D6b l s f lo _ (by omega)) (by omega)
  ·exact h
def C7U{l:List (List UInt8)}(hl:l.Pairwise λa b=>Y9 a b=A5):∀ f lo hi,lo<=hi->hi<=l_ l->hi-lo<=f->(∀ i x,i<lo->l[i]?=A4 x->Y9 x s=A5)->(∀ i x,hi<=i->l[i]?=A4 x->Y9 x s=A6) ->
  (∀ i x,i<plc l s f lo hi->l[i]?=A4 x->Y9 x s=A5)/\(∀ i x,plc l s f lo hi<=i->l[i]?=A4 x->Y9 x s=A6)
 | 0,lo,hi,h,_,hf,h1,h2=>by
  have:hi=lo:=by omega
  subst this;exact ⟨h1,h2⟩
 | f+1,lo,hi,h,hh,hf,h1,h2=>by
  unfold plc;by_cases c:lo<hi
  ·rw [C4 c];have hm:lo+(hi-lo)/2<hi:=by omega
   have hlo:lo<=lo+(hi-lo)/2:=by omega
   generalize lo+(hi-lo)/2=mid at *;have hg:l[mid]?=A4 (l.getD mid []):=by rw [E67,E64 (by omega)];rfl
   have mono:∀ (i j:Nat) (x y:List UInt8),i<j->l[i]?=A4 x->l[j]?=A4 y->Y9 x y=A5:=by
    intro i j x y hij hi hj;rw [List.pairwise_iff_getElem] at hl;obtain ⟨a,rfl⟩:=E7b.1 hi;obtain ⟨b,rfl⟩:=E7b.1 hj;exact hl i j a b hij
   cases cb:Y9 (l.getD mid []) s with
   | true =>
    rw [C4 rfl];refine C7U hl f (mid+1) hi (by omega) hh (by omega) (λi x hi hx=>?_) h2;by_cases e:i=mid
    ·subst e;rw [hg] at hx;rw [<-E8n hx];exact cb
    ·exact B3M (mono i mid x _ (by omega) hx hg) cb
   | false =>
    rw [C5 (by simp)];refine C7U hl f lo mid (by omega) (by omega) (by omega) h1 (λi x hi hx=>?_);by_cases e:i=mid
    ·subst e;rw [hg] at hx;rw [<-E8n hx];exact cb
    ·cases cx:Y9 x s with
     | false=>rfl
     | true=>rw [B3M (mono mid i _ x (by omega) hg hx) cx] at cb;exact cb
  ·rw [C5 c];have:hi=lo:=by omega
   subst this;exact ⟨h1,h2⟩
def C4M(l:List (List UInt8))(s:List UInt8)(n:Nat):Bool:=decide (l[n]?=A4 s)
def B35(l:List (List UInt8))(i:Nat):(encS l)[i]?=(l[i]?).map λx=>.s x:=by simp [encS]
def B8a{q:Nat}{l:List (List UInt8)}{s:List UInt8}{h:A9}(hv:Has h v 1 nv (encS l))(hn:l_ l=nv)(h62:nv<4611686018427387904):∀ f m lo hi:Nat,lo<=hi->hi<=nv->hi-lo<=f->f<m ->
  A8j q m v (.c (.s s)) (iV lo) (iV hi) h=A4 (.t [.c (cI (plc l s f lo hi:Nat)),.c (.b (C4M l s (plc l s f lo hi)))],h)
 | f,0,lo,hi,_,_,_,hm=>by omega
 | f,m+1,lo,hi,h1,h2,hf,hm=>by
  have hlen:=hv.len;have fin:lo=hi->A8j q (m+1) v (.c (.s s)) (iV lo) (iV hi) h=A4 (.t [.c (cI lo),.c (.b (C4M l s lo))],h):=by
   intro e;subst e;have c0:¬ (lo:Int)<lo:=by omega
   rw [A9G];unfold C4M;by_cases c1:lo<nv
   ·have c1':(lo:Int)<nv:=by omega
    obtain ⟨id,off,ev,hid,k1,k2⟩:=hv.sl (by omega);have hx:=k1 lo (.s l[lo]) (by rw [B35,E64 (by omega)];rfl);have eb:F5 1 v (iV (lo:Int))=A4 (pV id (off+lo)):=by rw [ev,E4 (by omega)];simp
    have e2:l[lo]?=A4 l[lo]:=E64 (by omega);rw [e2];simp only [esc,hlen,c0,c1',eb,hx]
   ·have c1':¬ (lo:Int)<nv:=by omega
    have e2:l[lo]?=A7:=E7z (by omega);rw [e2];simp only [esc,hlen,c0,c1',reduceCtorEq]
  cases f with
  | zero =>
   have e:lo=hi:=by omega
   exact fin e
  | succ f =>
   unfold plc;by_cases c:lo<hi
   ·rw [C4 c];have c':(lo:Int)<hi:=by omega
    obtain ⟨id,off,ev,hid,k1,k2⟩:=hv.sl (by omega);have w1:E7f .i64 ((hi:Int)-lo)=((hi-lo:Nat):Int):=by rw [wrap_i64 (by omega) (by omega)];omega
    have w2:=B1j (a:=((hi-lo:Nat):Int)) (b:=2) (by omega) (by omega) (by omega);have w3:((hi-lo:Nat):Int)/2=(((hi-lo)/2:Nat):Int):=by omega
    rw [w3] at w2;have w4:E7f .i64 ((lo:Int)+(((hi-lo)/2:Nat):Int))=((lo+(hi-lo)/2:Nat):Int):=A5Q (by omega);have hm1:lo+(hi-lo)/2<hi:=by omega
    have hm2:lo<=lo+(hi-lo)/2:=by omega
    generalize (hi-lo)/2=d at *;generalize lo+d=mid at *;have hx:=k1 mid (.s l[mid]) (by rw [B35,E64 (by omega)];rfl);have eb:F5 1 v (iV (mid:Int))=A4 (pV id (off+mid)):=by rw [ev,E4 (by omega)];simp
    have eg:l.getD mid []=l[mid]:=by rw [E67,E64 (by omega)];rfl
    rw [eg];have hL:=λh=>D1X (a:=l[mid]) (b:=s) (h:=h)
    rw [A9G];cases cb:Y9 l[mid] s with
    | true =>
     rw [cb] at hL;have ih:=B8a (q:=q) (s:=s) hv hn h62 f m (mid+1) hi (by omega) h2 (by omega) (by omega);rw [C4 rfl];simp only [esc,hlen,c',w1,w2,w4,eb,hx,hL,E3 (a:=mid) (by omega)];exact ih
    | false =>
     rw [cb] at hL;have ih:=B8a (q:=q) (s:=s) hv hn h62 f m lo mid hm2 (by omega) (by omega) (by omega);rw [C5 (by simp)];simp only [esc,hlen,c',w1,w2,w4,eb,hx,hL];exact ih
   ·rw [C5 c];exact fin (by omega)
def C9a{l:List (List UInt8)}(hv:Has h v 1 nv (encS l))(h62:nv<4611686018427387904) :
  A3K [v,.c (.s s)] h=A4 (.t [.c (cI (plc l s nv 0 nv:Nat)),.c (.b (C4M l s (plc l s nv 0 nv)))],h):=by
 have hn:l_ l=nv:=by simpa [cP] using hv.length
 have key:∀ N,nv<N->∀ g,Has g v 1 nv (encS l)->∃ g',B0m N [v,.c (.s s)] g=A4 (.t [.c (cI (plc l s nv 0 nv:Nat)),.c (.b (C4M l s (plc l s nv 0 nv)))],g'):=by
  intro N hN g hv;have e:=B8a (q:=N) (s:=s) hv hn h62 nv N 0 nv (by omega) (by omega) (by omega) hN;rw [C4k];exact ⟨_,by simp only [esc,hv.len];exact e⟩
 obtain ⟨g',e⟩:=key (nv+1) (by omega) (ro h) hv.ro;exact B9c e rfl
def D4N{id n a:Nat}(ha:a<=n):D7M 1 (sV id 0 n 1) (A4 (iV (a:Int))) A7=A4 (sV id a (n-a) 1):=by
 simp only [D7M,bound];rw [C4 (by omega)];simp only [E7l,E7s];rw [C4 ⟨ha,E69 _,trivial⟩];simp
def D9X{H:A9}{id p:Nat}{out:List (List UInt8)}(hr:rd H id=rT (encS (out++[[]])))(hk:out.length=k)(hp:p<=k) :
  ∃ c,C56 H 1 (sV id (p+1) (k-p) 1) (sV id p (k+1-p) 1)=A4 (c,H.set id (rT (encS ((out++[[]]).take (p+1)++out.drop p)))):=by
 have hl:(encS (out++[[]])).length=k+1:=by rw [cP];simp [hk]
 have h1:((encS (out++[[]])).drop p).take (k+1-p)=(encS (out++[[]])).drop p:=E7r (by rw [List.length_drop];omega);have h2:V7 H 1 (sV id p (k+1-p) 1)=A4 ((encS (out++[[]])).drop p):=by
  simp only [V7,if_true,qW,hr,E7l,E8i,h1];rw [C4 ⟨by omega,by simp⟩]
 have h3:((encS (out++[[]])).drop p).length=k+1-p:=by rw [List.length_drop];omega
 have h4:Nat.min (k+1-p) (k-p)=k-p:=Nat.min_eq_right (by omega);have h5:lay (encS (out++[[]])) (p+1) (((encS (out++[[]])).drop p).take (k-p))=encS ((out++[[]]).take (p+1)++out.drop p):=by
  unfold lay;have e1:((encS (out++[[]])).drop p).take (k-p)=encS (out.drop p):=by
   unfold encS;rw [E72,List.drop_append_of_le_length (by simp;omega),List.take_append_of_le_length (by simp;omega),E7r (by simp;omega),List.map_drop]
  have e2:(encS (out++[[]])).drop (p+1+(encS (out.drop p)).length)=[]:=E7j (by rw [hl,cP,List.length_drop];omega);rw [e1,e2];simp only [E7q,encS,E72,List.map_take,List.map_drop]
 refine ⟨iV ((k-p:Nat):Int),?_⟩;simp only [C56,h2,E7l,hr,h3,Nat.div_one,h4,E8i,h5];rw [C4 ⟨trivial,by omega,trivial⟩]
abbrev sN:=List (List UInt8)
def atS(o:sN)(s:List UInt8):Nat:=plc o s o.length 0 o.length
def A9z(o:sN)(s:List UInt8):sN:=bif C4M o s (atS o s) then o else o.take (atS o s)++s::o.drop (atS o s)
def fY(l:sN):sN:=l.foldl A9z []
def D9I(o:sN)(s:List UInt8):atS o s<=o.length:=D6b o s _ _ _ (Nat.zero_le _)
def C3H(o:sN)(s:List UInt8):(A9z o s).length<=o.length+1:=by
 have:=D9I o s;unfold A9z;cases C4M o s (atS o s)<;>simp<;>omega
def D1x(l:sN):∀ o:sN,(l.foldl A9z o).length<=o.length+(l_ l):=by
 induction l with
 | nil=>intro o;simp
 | cons x l ih =>
  intro o;have h1:=ih (A9z o x);have h2:=C3H o x;simp only [E8f,E7k] at h1 ⊢;omega
def B1p(l:sN):(fY l).length<=(l_ l):=by
 have:=D1x l [];simpa [fY] using this
abbrev Up(l:sN):Prop:=l.Pairwise λa b=>Y9 a b=A5
def D2K{o:sN}(ho:Up o):(∀ i x,i<atS o s->o[i]?=A4 x->Y9 x s=A5)/\(∀ i x,atS o s<=i->o[i]?=A4 x->Y9 x s=A6) :=
 C7U ho o.length 0 o.length (Nat.zero_le _) (E69 _) (by omega) (λi x hi=>by omega) (λi x hi hx=>by
  have:=(E7b.1 hx).1;omega)
def D3H{o:sN}(ho:Up o):C4M o s (atS o s)=A5↔s∈o:=by
 unfold C4M;rw [decide_eq_true_eq];constructor
 ·intro h;exact List.mem_of_getElem? h
 ·intro h;obtain ⟨i,hi⟩:=E7O.1 h;obtain ⟨h1,h2⟩:=D2K (s:=s) ho;have hge:atS o s<=i:=by
   false_or_by_contra
   have:=h1 i s (by omega) hi;rw [A85] at this;cases this
  by_cases e:atS o s=i
  ·rw [e];exact hi
  ·have K6:=(E7b.1 hi).1;have hg:o[atS o s]?=A4 o[atS o s]:=E64 (by omega);have k1:=h2 _ _ (E69 _) hg;have k2:Y9 o[atS o s] s=A5:=by
    obtain ⟨a,ha⟩:=E7b.1 hi;have:=List.pairwise_iff_getElem.1 ho (atS o s) i (by omega) a (by omega);rw [ha] at this;exact this
   rw [k1] at k2;cases k2
def E2F{o:sN}(ho:Up o):Up (A9z o s)/\∀ x,x∈A9z o s↔x=s\/x∈o:=by
 unfold A9z;cases c:C4M o s (atS o s) with
 | true =>
  have hm:=(D3H ho).1 c;rw [R8];exact ⟨ho,λx=>⟨λh=>.inr h,λh=>by rcases h with h | h;subst h;exact hm;exact h⟩⟩
 | false =>
  have hm:s ∉ o:=λh=>by rw [(D3H ho).2 h] at c;cases c
  obtain ⟨h1,h2⟩:=D2K (s:=s) ho;rw [bZ];refine ⟨D4u (lt:=λa b=>Y9 a b=A5) (λa b c=>B3M) (λa b=>C9O a b) ho hm (λy hy=>?_) (λy hy=>?_),λx=>mem_insert⟩
  ·obtain ⟨i,hi⟩:=E7O.1 hy;have hl:=(E7b.1 hi).1;rw [E7L] at hl;rw [E7M (by omega)] at hi;exact h1 i y (by omega) hi
  ·obtain ⟨i,hi⟩:=E7O.1 hy;rw [List.getElem?_drop] at hi;have:=h2 _ y (by omega) hi;rw [this];simp
def D3r(l:sN):∀ o:sN,Up o->Up (l.foldl A9z o)/\∀ x,x∈l.foldl A9z o↔x∈o\/x∈l:=by
 induction l with
 | nil=>intro o ho;exact ⟨ho,λx=>by simp⟩
 | cons y l ih =>
  intro o ho;obtain ⟨h1,h2⟩:=E2F (s:=y) ho;obtain ⟨h3,h4⟩:=ih _ h1;refine ⟨h3,λx=>?_⟩;rw [E8f,h4,h2,E7m];constructor
  ·rintro ((h | h) | h)
   ·exact .inr (.inl h)
   ·exact .inl h
   ·exact .inr (.inr h)
  ·rintro (h | h | h)
   ·exact .inl (.inr h)
   ·exact .inl (.inl h)
   ·exact .inr h
def C0B(l:sN):Up (fY l):=(D3r l [] List.Pairwise.nil).1
def dA(l:sN)(x:List UInt8):x∈fY l↔x∈l:=by
 have:=(D3r l [] List.Pairwise.nil).2 x;simpa [fY] using this
def E4Y{l m:sN}(hl:Up l)(hm:Up m)(h:∀ x,x∈l↔x∈m):l=m :=
 D4t (lt:=λa b=>Y9 a b=A5) (λa=>by rw [A85];simp) (λa b c=>B3M) hl hm h
def C2I{q:Nat}{l:sN}(hv:Has g v 1 nv (encS l))(hn:l_ l=nv)(h62:nv<1073741824):∀ (e i m:Nat) (o:sN) (h:A9) (id:Nat),i+e=nv->e<m->o.length<=i->Low (l_ g) g h->l_ g<=id->rd h id=rT (encS o) ->
  ∃ v2 h2,C0i q m (sV id 0 o.length 1) v (iV nv) (iV i) h=A4 (v2,h2)/\Out (l_ g) h2 v2 1 ((l.drop i).foldl A9z o).length (encS ((l.drop i).foldl A9z o))
 | e,i,0,o,h,id,_,hm,_,_,_,_=>by omega
 | 0,i,m+1,o,h,id,hi,hm,hol,hlow,hid,hr=>by
  have e0:i=nv:=by omega
  subst e0;have c0:¬ (i:Int)<i:=by omega
  rw [B13,E7j (by omega),List.foldl_nil];exact ⟨_,_,by simp only [esc,c0]<;>rfl,by rw [cP];omega,_,rfl,hid,hr⟩
 | e+1,i,m+1,o,h,id,hi,hm,hol,hlow,hid,hr=>by
  have c0:(i:Int)<nv:=by omega
  obtain ⟨jd,off,ev,hjd,k1,k2⟩:=(hv.since hlow).sl (by omega);have hx:=k1 i (.s l[i]) (by rw [B35,E64 (by omega)];rfl);have eb:F5 1 v (iV (i:Int))=A4 (pV jd (off+i)):=by rw [ev,E4 (by omega)];simp
  have hP:=C9a (s:=l[i]) (Has.row (sz:=1) (n:=o.length) hr (by rw [cP];omega) (C7F o)) (by omega);rw [E7g (by omega:i<l_ l),E8f];change A3K _ h=A4 (.t [.c (cI (atS o l[i]:Nat)),.c (.b (C4M o l[i] (atS o l[i])))],h) at hP;have hat:=D9I o l[i];rw [B13];generalize hs:l[i]=s at *;cases c:C4M o s (atS o s) with
  | true =>
   have ei:A9z o s=o:=by unfold A9z;rw [c,R8]
   rw [c] at hP;obtain ⟨v2,h2,f1,f2⟩:=C2I (q:=q) hv hn h62 e (i+1) m o h id (by omega) (by omega) (by omega) hlow hid hr;rw [ei];refine ⟨v2,h2,?_,f2⟩;simp only [esc,c0,eb,hx,hP,B12,E3 (a:=i) (by omega)];exact f1
  | false =>
   have ei:A9z o s=o.take (atS o s)++s::o.drop (atS o s):=by unfold A9z;rw [c,bZ]
   rw [c] at hP;have il:=C3H o s;generalize hp:atS o s=p at *;obtain ⟨h1,a1,a2,a3,a4,a5⟩:=push (ys:=[.s []]) (sz:=1) (n:=o.length) hlow hr (by rw [cP];omega) hid rfl (by omega) (by omega);have he:encS o++[.s []]=encS (o++[[]]):=by simp [encS]
   rw [he] at a2;have ef:F9 [Cell.s []] [(0,1,.c (.s []))]=A4 [.s []]:=rfl;have w1:E7f .i64 ((p:Int)+1)=((p+1:Nat):Int):=E3 (by omega);have t1:=D4N (id:=l_ h+1) (n:=o.length+1) (a:=p+1) (by omega);have t2:=D4N (id:=l_ h+1) (n:=o.length+1) (a:=p) (by omega);rw [show o.length+1-(p+1)=o.length-p by omega] at t1;obtain ⟨cc,t3⟩:=D9X (H:=h1) (id:=l_ h+1) (k:=o.length) (p:=p) a2 rfl hat;have t4:F5 1 (sV (l_ h+1) 0 (o.length+1) 1) (iV (p:Int))=A4 (pV (l_ h+1) p):=by rw [E4 (by omega)];simp
   have X4:=E5 a2;have t5:rd (h1.set (l_ h+1) (rT (encS ((o++[[]]).take (p+1)++o.drop p)))) (l_ h+1)=rT (encS ((o++[[]]).take (p+1)++o.drop p)):=E1 X4;have t6:=I8 (x:=.s s) (off:=p) t5 (by rw [cP,E7c,E7L,E7c];simp;omega);have t7:(encS ((o++[[]]).take (p+1)++o.drop p)).set p (.s s)=encS (A9z o s):=by
    rw [ei];have e1:(o++[[]]).take (p+1)=o.take p++[(o++[[]])[p]'(by simp;omega)]:=by
     rw [E7E (by simp;omega),List.take_append_of_le_length hat]
    rw [e1];unfold encS;rw [<-List.map_set]
    congr 1
    rw [E7i,E70 _ _ (by simp;omega),E7L,Nat.min_eq_left hat,E8l];rfl
   rw [List.set_set,t7] at t6;obtain ⟨v2,h2,f1,f2⟩:=C2I (q:=q) hv hn h62 e (i+1) m (A9z o s) (h1.set (l_ h+1) (rT (encS (A9z o s)))) (l_ h+1) (by omega) (by omega) (by omega) (a3.set a4 _) a4 (E1 X4);have el:(A9z o s).length=o.length+1:=by rw [ei];simp;omega
   rw [el] at f1;refine ⟨v2,h2,?_,f2⟩;simp only [esc,c0,eb,hx,hP,ef,a1,w1,t1,t2,t3,t4,t6,B12,E3 (a:=i) (by omega)];exact f1
def C0h{l:sN}(hv:Has h v 1 nv (encS l))(h62:nv<1073741824) :
  A6x [v] h=A4 (sV (l_ h) 0 (fY l).length 1,h++[rT (encS (fY l))]):=by
 have hn:l_ l=nv:=by simpa [cP] using hv.length
 have key:∀ N,nv<N->∀ g,Has g v 1 nv (encS l)->∃ v2 g',B23 N [v] g=A4 (v2,g')/\Out (l_ g) g' v2 1 (fY l).length (encS (fY l)):=by
  intro N hN g hv;obtain ⟨v2,g',f1,f2⟩:=C2I (q:=N) hv hn h62 nv 0 N [] ((g++[rT []])++[rT []]) (l_ g+1) (by omega) hN (E69 _) (((Low.refl (E69 _)).new _).new _) (by omega) (by simp [encS]);rw [E7n] at f2;rw [C5A];refine ⟨v2,g',?_,f2⟩;rw [hv.len,C7];simpa using f1
 obtain ⟨v2,g',e,ho⟩:=key (nv+1) (by omega) (ro h) hv.ro;exact C4z e (by simpa [H8] using ho) (by simp)
def J7(l:List Ent):List Cell:=(l.map λx=>W5 (A4 x)).flatten
def B01{l:List Ent}:(J7 l).length=l_ l*2:=by
 induction l with
 | nil=>rfl
 | cons x l ih=>simp only [J7,E7X,E8g,E7c,W5,E7k,E7Q] at ih ⊢;omega
def E0e{x:Ent}{r:List Cell}:List.drop ((k+1)*2) (W5 (A4 x)++r)=List.drop (k*2) r:=by
 rw [show (k+1)*2=k*2+2 by omega];rfl
def B36:∀ (l:List Ent) (k:Nat) (hk:k<l_ l),((J7 l).drop (k*2)).take 2=W5 (A4 l[k])
 | [],k,hk=>by simp at hk
 | x::l,0,_=>rfl
 | x::l,k+1,hk=>by
  have e:J7 (x::l)=W5 (A4 x)++J7 l:=rfl;rw [e,E0e,List.getElem_cons_succ];exact B36 l k (by simpa using hk)
def iY(l:List Ent)(k:Nat):Ent:=l.getD k ([],0)
def B9F{l:List Ent}(hk:k<l_ l):iY l k=l[k]:=by simp [iY,List.getD,hk]
def mH(l:List Ent):Nat->List UInt8
 | 0=>hdB
 | k+1=>H5 (mH l k) (H9 k) (U6 (iY l k).1 (iY l k).2)
def jJ{l:List Ent}:∀ k,k<=7->(mH l k).length=256
 | 0,_=>pA
 | k+1,hk=>by rw [mH,O1 (by rw [jJ k (by omega),V4];unfold H9;omega)];exact jJ k (by omega)
def atX(b nm:List UInt8):Nat:=match U9 b nm with
 | some x=>x.1
 | none=>0
def E4T{o:Option Slt}:(slC o)[0]?=A4 (cI ((match o with | some x=>x.1 | none=>0:Nat):Int)):=by cases o<;>rfl
def D0w(l:List Ent)(k:Nat):Bool:=decide (atX (mH l (l_ l)) (iY l k).1=k)
def C0p(l:List Ent):Bool:=(E7G 0 (l_ l)).all (D0w l)
def C89(l:List Ent):Bool:=l.all λx=>B52 x.1 x.2
def E01{q:Nat}{l:List Ent}{g:Nat}(hv:Has B v 2 nv (J7 l))(hn:l_ l=nv)(h7:nv<=7)(hg:rd B g=rT (B4 (zeros 256))):∀ (e k m:Nat) (h:A9),k+e=nv->e<m->Low (l_ B) B h->rd h (l_ B)=rT (B4 (mH l nv)) ->
  ∃ h',B6C q m (.c (.p g 0)) (.c (.p (l_ B) 0)) v (.c (cI (nv:Int))) (.c (cI (k:Int))) h=A4 (.t [.a (B4 (bif (E7G k e).all (D0w l) then mH l nv else zeros 256)),.c (cI (bif (E7G k e).all (D0w l) then 0 else 5))],h')
 | e,k,0,h,_,hm,_,_=>by omega
 | 0,k,m+1,h,hk,hm,hlow,hr=>by
  have e0:k=nv:=by omega
  subst e0;have c0:¬ (k:Int)<k:=by omega
  have hL:(B4 (mH l k)).length=256:=by rw [B5];exact jJ k h7
  have hz:(B4 (zeros 256)).length=256:=by rw [B5];exact zeros_length
  have hrg:=hlow.rd hg;have s1:=C8 hr hL;have s2:=storeAll (xs:=B4 (mH l k)) hrg hz hL;have s3:=C8 (h:=h.set g (rT (B4 (mH l k)))) (id:=g) (E1 (E5 hrg)) hL;rw [A87,List.range'_zero,List.all_nil,R8,R8];generalize B4 (mH l k)=y at *;exact ⟨_,by simp only [esc,c0,s1,s2,s3]<;>rfl⟩
 | e+1,k,m+1,h,hk,hm,hlow,hr=>by
  have c0:(k:Int)<nv:=by omega
  have hL:(B4 (mH l nv)).length=256:=by rw [B5];exact jJ nv h7
  have hvB:Has h v 2 nv (J7 l):=by
   refine hv.low hlow λid off m he=>?_
   rcases hv with ⟨rfl,_⟩ | ⟨dX,off',r',rfl,hrd,_⟩
   ·cases he
   ·cases he;exact E5 hrd
  obtain ⟨id,off,ev,hid,k1,k2⟩:=hvB.sl (by omega);have eb:F5 2 v (.c (cI (k:Int)))=A4 (.c (.p id (off+k*2))):=by rw [ev,E4 (by omega)]
  have hld:=k2 (k*2) 2 (by rw [B01];omega);rw [B36 l k (by omega),<-B9F (by omega)] at hld;have w1:=E3 (a:=k) (by omega);have hF:=λh=>yO (b:=mH l nv) (nm:=(iY l k).1) (h:=h) (jJ nv h7)
  have s1:=λt=>C8 (h:=h++t) (B6 hr) hL
  have hat:(slC (U9 (mH l nv) (iY l k).1))[0]?=A4 (cI (atX (mH l nv) (iY l k).1:Nat)):=E4T;have hSl:=kD (o:=U9 (mH l nv) (iY l k).1);rw [A87,List.range'_succ,E8e];have hon:D0w l k=decide (atX (mH l nv) (iY l k).1=k):=by unfold D0w;rw [hn]
  rw [hon];generalize slC (U9 (mH l nv) (iY l k).1)=S at *;generalize atX (mH l nv) (iY l k).1=A at *;obtain ⟨h',ih⟩:=E01 (q:=q) hv hn h7 hg e (k+1) m (h++[rT (W5 (A4 (iY l k))),rT S]) (by omega) (by omega) (hlow.new _) (B6 hr);simp only [W5] at *;by_cases c:A=k
  ·subst c;rw [R9 rfl,E7w];refine ⟨h',?_⟩;generalize B4 (mH l nv)=y at *;simp only [esc,esh,Nat.reduceAdd,c0,eb,hld,s1,hF,hat,hSl,w1];exact ih
  ·rw [aC c,E7v,bZ,bZ];have c':¬ (A:Int)=k:=by omega
   have hz:(B4 (zeros 256)).length=256:=by rw [B5];exact zeros_length
   have hrg:=λt:A9=>B6 (g:=t) (hlow.rd hg)
   have haf:F9 (E68 256 (Cell.i .u8 0)) []=A4 (E68 256 (Cell.i .u8 0)):=rfl;rw [J4] at haf;have s2:=λt=>storeAll (xs:=B4 (zeros 256)) (hrg t) hz hz
   have s3:=λt=>C8 (h:=(h++t).set g (rT (B4 (zeros 256)))) (id:=g) (E1 (E5 (hrg t))) hz
   rw [J4];generalize zeros 256=z at *;generalize B4 (mH l nv)=y at *;exact ⟨_,by simp only [esc,esh,Nat.reduceAdd,c0,eb,hld,s1,hF,hat,hSl,c',haf,s2,s3]<;>rfl⟩
def E00{v:Val}{nv q:Nat}{l:List Ent}{g:Nat}(hv:Has B v 2 nv (J7 l))(hn:l_ l=nv)(h7:nv<=7)(hs:∀ x∈l,x.1.length<=60)(hg:rd B g=rT (B4 (zeros 256)))(hq:nv<q):∀ (e k m:Nat) (h:A9),k+e=nv->e<m->Low (l_ B) B h->rd h (l_ B)=rT (B4 (mH l k)) ->
  ∃ h',B6B q m v (.c (.p g 0)) (.c (.p (l_ B) 0)) v (.c (cI (nv:Int))) (.c (cI (k:Int))) h=A4 (.t [.a (B4 (bif C89 (l.drop k)&&C0p l then mH l nv else zeros 256)),.c (cI (bif C89 (l.drop k) then (bif C0p l then 0 else 5) else 1))],h')
 | e,k,0,h,_,hm,_,_=>by omega
 | 0,k,m+1,h,hk,hm,hlow,hr=>by
  have e0:k=nv:=by omega
  subst e0;have c0:¬ (k:Int)<k:=by omega
  have hvB:Has h v 2 k (J7 l):=by
   refine hv.low hlow λid off m he=>?_
   rcases hv with ⟨rfl,_⟩ | ⟨dX,off',r',rfl,hrd,_⟩
   ·cases he
   ·cases he;exact E5 hrd
  obtain ⟨h',e⟩:=E01 (q:=q) hv hn h7 hg k 0 q h (by omega) hq hlow hr;have em:C89 (l.drop k)=A5:=by rw [E7j (by omega)];rfl
  have eo:(E7G 0 k).all (D0w l)=C0p l:=by unfold C0p;rw [hn]
  rw [eo] at e;rw [A86,em,E7w,R8];exact ⟨h',by simp only [esc,c0,hvB.len];exact e⟩
 | e+1,k,m+1,h,hk,hm,hlow,hr=>by
  have c0:(k:Int)<nv:=by omega
  have hNl:=jJ (l:=l) k (by omega);have hL:(B4 (mH l k)).length=256:=by rw [B5];exact hNl
  have hvB:Has h v 2 nv (J7 l):=by
   refine hv.low hlow λid off m he=>?_
   rcases hv with ⟨rfl,_⟩ | ⟨dX,off',r',rfl,hrd,_⟩
   ·cases he
   ·cases he;exact E5 hrd
  obtain ⟨id,off,ev,hid,k1,k2⟩:=hvB.sl (by omega);have eb:F5 2 v (.c (cI (k:Int)))=A4 (.c (.p id (off+k*2))):=by rw [ev,E4 (by omega)]
  have hld:=k2 (k*2) 2 (by rw [B01];omega);rw [B36 l k (by omega),<-B9F (by omega)] at hld;have w1:=E3 (a:=k) (by omega);have hsk:(iY l k).1.length<=60:=by rw [B9F (by omega)];exact hs _ (E7y _)
  have hM:=λh=>A78 (s:=(iY l k).1) (n:=(iY l k).2) (h:=h) (by omega)
  have hW:=λh=>nB (s:=(iY l k).1) (n:=(iY l k).2) (h:=h) (by omega)
  have hF:=λh=>kJ (k:=k) (h:=h) (by omega)
  have hmd:C89 (l.drop k)=(B52 (iY l k).1 (iY l k).2&&C89 (l.drop (k+1))):=by
   rw [E7g (by omega:k<l_ l),B9F (by omega)];rfl
  have hEl:(U6 (iY l k).1 (iY l k).2).length=32:=V4;have hLy:=B1f (v:=.c (.sl (l_ h+1) 0 32 1)) (nv:=32) (data:=U6 (iY l k).1 (iY l k).2) (l:=mH l k) (h:=h++[rT (W5 (A4 (iY l k))),rT (B4 (U6 (iY l k).1 (iY l k).2))]) (Has.row (rw:=A5) (by simp) (by rw [B5,V4]) (W1 _)) hNl (by rw [hEl];omega) (a:=(H9 k:Nat));have elay:B1d (mH l k) (H9 k:Nat) (U6 (iY l k).1 (iY l k).2)=mH l (k+1):=by
   unfold B1d;have:H9 k<256:=by unfold H9;omega
   rw [C4 ⟨by omega,by omega⟩,E7s,E7r (by rw [hEl];unfold H9;omega)];rfl
  rw [elay] at hLy;have hq2:quiet (h++[rT (W5 (A4 (iY l k)))]) (A4 (.c (.sl (l_ h+1) 0 32 1),h++[rT (W5 (A4 (iY l k))),rT (B4 (U6 (iY l k).1 (iY l k).2))]))=_:=E4N;have hrk:∀ t:A9,rd (h++t) (l_ B)=rT (B4 (mH l k)):=λt=>B6 hr
  have s1:=λt=>C8 (h:=h++t) (hrk t) hL
  have hN1:(B4 (mH l (k+1))).length=256:=by rw [B5];exact jJ (k+1) (by omega)
  have s2:=λt=>storeAll (h:=h++t) (xs:=B4 (mH l (k+1))) (hrk t) hL hN1
  obtain ⟨h',ih⟩:=E00 (q:=q) hv hn h7 hs hg hq e (k+1) m ((h++[rT (W5 (A4 (iY l k))),rT (B4 (U6 (iY l k).1 (iY l k).2))]).set (l_ B) (rT (B4 (mH l (k+1))))) (by omega) (by omega) ((hlow.new _).set (E69 _) _) (E1 (E5 (hrk _)));rw [A86,hmd];generalize U6 (iY l k).1 (iY l k).2=E at *;simp only [W5] at *;cases cm:B52 (iY l k).1 (iY l k).2 with
  | true =>
   rw [cm] at hM;rw [E7w];refine ⟨h',?_⟩;generalize B4 (mH l (k+1))=y1 at *;generalize B4 (mH l k)=y at *;simp only [esc,esh,Nat.reduceAdd,c0,eb,hld,hM,hF,hW,hq2,s1,hLy,s2,w1];exact ih
  | false =>
   rw [cm] at hM;rw [E7v,E7v,bZ,bZ];have hz:(B4 (zeros 256)).length=256:=by rw [B5];exact zeros_length
   have hrg:=λt:A9=>B6 (g:=t) (hlow.rd hg)
   have haf:F9 (E68 256 (Cell.i .u8 0)) []=A4 (E68 256 (Cell.i .u8 0)):=rfl;rw [J4] at haf;have s2:=λt=>storeAll (xs:=B4 (zeros 256)) (hrg t) hz hz
   have s3:=λt=>C8 (h:=(h++t).set g (rT (B4 (zeros 256)))) (id:=g) (E1 (E5 (hrg t))) hz
   rw [J4];generalize zeros 256=z at *;exact ⟨_,by simp only [esc,esh,Nat.reduceAdd,c0,eb,hld,hM,haf,s2,s3]<;>rfl⟩
def D1Z(l:List Ent):Int:=if 7<(l_ l) then 11 else if C89 l=A5 then (if C0p l=A5 then 0 else 5) else 1
def dY(l:List Ent):List UInt8:=if D1Z l=0 then mH l (l_ l) else zeros 256
def A66{l:List Ent}:(dY l).length=256:=by
 unfold dY;split
 ·rename_i h;refine jJ _ ?_
  false_or_by_contra
  unfold D1Z at h;rw [C4 (by omega)] at h;omega
 ·exact zeros_length
def C8S{l:List Ent}(hv:Has h v 2 nv (J7 l))(hs:∀ x∈l,x.1.length<=60):B0u [v] h=A4 (.t [.a (B4 (dY l)),.c (cI (D1Z l))],h):=by
 have hn:l_ l=nv:=by have:=hv.length;rw [B01] at this;omega
 have key:∀ g,Has g v 2 nv (J7 l)->∃ g',A95 8 [v] g=A4 (.t [.a (B4 (dY l)),.c (cI (D1Z l))],g'):=by
  intro g hv;have hz:(B4 (zeros 256)).length=256:=by rw [B5];exact zeros_length
  have hd:(B4 hdB).length=256:=by rw [B5];exact pA
  have hl:=hv.len;have hH:=λh=>B3N (h:=h)
  rw [C32,J4];by_cases c:7<nv
  ·have c0:(7:Int)<nv:=by omega
   have e1:D1Z l=11:=by unfold D1Z;rw [C4 (by omega)]
   have e2:dY l=zeros 256:=by unfold dY;rw [e1,C5 (by omega)]
   have haf:F9 (E68 256 (Cell.i .u8 0)) []=A4 (E68 256 (Cell.i .u8 0)):=rfl;rw [J4] at haf;rw [e1,e2];generalize zeros 256=z at *;exact ⟨_,by simp only [esc,esh,hl,c0,haf,hz]<;>rfl⟩
  ·have c0:¬ (7:Int)<nv:=by omega
   obtain ⟨h',e⟩:=E00 (q:=8) (B:=g++[rT (B4 (zeros 256))]) (g:=l_ g) (hv.more _) hn (by omega) hs (by simp) (by omega) nv 0 8 (g++[rT (B4 (zeros 256)),rT (B4 (mH l 0))]) (by omega) (by omega)
    (by have:=(Low.refl (h:=g++[rT (B4 (zeros 256))]) (E69 _)).new [rT (B4 (mH l 0))];simpa using this) (by simp)
   have e1:D1Z l=(bif C89 l then (bif C0p l then 0 else 5) else 1):=by
    unfold D1Z;rw [C5 (by omega)];cases C89 l<;>cases C0p l<;>simp
   have e2:dY l=(bif C89 l&&C0p l then mH l nv else zeros 256):=by
    unfold dY;rw [e1,<-hn];cases C89 l<;>cases C0p l<;>simp
   rw [E7n,<-e1,<-e2] at e;rw [show mH l 0=hdB from rfl] at e;simp only [E7c,E7k,E7Q,E7o] at e;refine ⟨h',?_⟩;generalize dY l=R at *;generalize hdB=H at *;generalize zeros 256=z at *;simp only [esc,esh,hl,c0,hH,hz,hd];exact e
 obtain ⟨g',e⟩:=key (ro h) hv.ro;exact B8T e (by simp)
def isL(D:Dev)(n k:Int)(d:List Int)(t:Tld):Bool:=decide (A2v D n k d t.2=A4 t.1)
def oX(D:Dev)(n k:Int)(d:List Int):List Tld:=C4D D (T5 D n k d)
def T6(D:Dev)(n k:Int)(d:List Int)(l:List Tld):sN:=(l.filter (isL D n k d)).map (·.2)
def D5P(D:Dev)(n k:Int)(d:List Int)(s:List UInt8):Int:=((A2v D n k d s).getD (0,0,0)).2.2
def fU(D:Dev)(n k:Int)(d:List Int):List Ent:=(fY (T6 D n k d (oX D n k d))).map λs=>(s,D5P D n k d s)
def dQ(D:Dev)(n k:Int)(d:List Int)(l:List Tld):List Plc:=(l.filter λt=>!isL D n k d t).map (·.1)
def B15(l:List Plc):List Cell:=(l.map λp=>nK (A4 p)).flatten
def A6N{k:Int}{d:List Int}:(T5 D n k d).length<=32:=by
 have hml:=U3 (getD (blk D (d.getD 0 0)));have hBl:=jG (O8 (blk D (d.getD 0 0)) 32) (C6 (getD (blk D (d.getD 0 0))));unfold T5;cases X0 D n k d with
 | false=>simp
 | true=>exact E7V (E74 _ _) (by omega)
def MapN(es:W3)(f:List UInt8->Int)(l:sN):Prop:=(∀ e∈es,∃ s,e.1=.s s)/\∀ s∈l,∃ i,A9D (.s s) es=A4 (i,.c (cI (f s)))
def D7a(h:∀ e∈es,∃ s,e.1=Cell.s s):A2S A7 (.s s) es=A5:=by
 simp only [A2S,vO,E7w,E7D];intro e he;obtain ⟨x,hx⟩:=h e he;rw [hx]
def D7g{k:Cell}{p:Part}:∀ {es:W3} {i j:Nat} {q:Part},mgo k es i=A4 (j,q)->(es.set (j-i) (k,p)).length=es.length/\mgo k (es.set (j-i) (k,p)) i=A4 (j,p)/\i<=j/\∀ k'≠k,((mgo k' (es.set (j-i) (k,p)) i)=mgo k' es i)
 | [],i,j,q,h=>by simp [mgo] at h
 | e::es,i,j,q,h=>by
  unfold mgo at h;by_cases c:e.1=k
  ·rw [C4 c] at h;cases h;simp only [E8l,E8p];refine ⟨rfl,by simp [mgo],E69 _,λk' hk'=>?_⟩;have:¬ e.1=k':=λh=>hk' (by rw [<-h,c])
   simp [mgo,this,Ne.symm hk']
  ·rw [C5 c] at h;obtain ⟨h1,h2,h3,h4⟩:=D7g (p:=p) h;have e1:j-i=(j-(i+1))+1:=by omega
   rw [e1,List.set_cons_succ];refine ⟨by simp,?_,by omega,λk' hk'=>?_⟩
   ·simp only [mgo];rw [C5 c];exact h2
   ·simp only [mgo];rw [h4 k' hk']
def D3U{k k':Cell}{p:Part}:∀ {es:W3} {i:Nat},mgo k es i=A7->mgo k' (es++[(k,p)]) i=if k'=k then A4 (i+es.length,p) else mgo k' es i
 | [],i,_=>by
  by_cases c:k'=k
  ·subst c;simp [mgo]
  ·simp [mgo,c,Ne.symm c]
 | e::es,i,h=>by
  unfold mgo at h;by_cases c:e.1=k
  ·rw [C4 c] at h;cases h
  ·rw [C5 c] at h;have ih:=D3U (k':=k') (p:=p) h;simp only [E8a,mgo,ih];by_cases c2:k'=k
   ·subst c2;rw [C5 c,C4 rfl,C4 rfl,E7k]
    congr 2;omega
   ·simp only [C5 c2]
def A4f{k k':Cell}{p:Part}:A9D k (A9E k p es)=A4 (((A9D k es).map (·.1)).getD es.length,p)/\(k'≠k->A9D k' (A9E k p es)=A9D k' es):=by
 unfold A9E A9D;cases c:mgo k es 0 with
 | none =>
  simp only [D3U c];exact ⟨by simp,λh=>by rw [C5 h]⟩
 | some jq =>
  obtain ⟨j,q⟩:=jq;obtain ⟨_,h2,_,h4⟩:=D7g (p:=p) c;simp only [Nat.sub_zero] at h2 h4;exact ⟨by simp [h2],λh=>h4 k' h⟩
def C2n{k:Cell}{p:Part}{Q:Cell->Prop}(hk:Q k)(h:∀ e∈es,Q e.1):∀ e∈A9E k p es,Q e.1:=by
 intro e he;unfold A9E at he;split at he
 ·rcases List.mem_or_eq_of_mem_set he with he | rfl
  ·exact h e he
  ·exact hk
 ·rcases E7J.1 he with he | he
  ·exact h e he
  ·simp at he;subst he;exact hk
def MapN.nil(f:List UInt8->Int):MapN [] f []:=⟨λe he=>by simp at he,λs hs=>by simp at hs⟩
def MapN.put{f:List UInt8->Int}{l:sN}(hm:MapN es f l)(s:List UInt8):MapN (A9E (.s s) (.c (cI (f s))) es) f (l++[s]):=by
 refine ⟨C2n (Q:=λc=>∃ s,c=.s s) ⟨s,rfl⟩ hm.1,λx hx=>?_⟩;by_cases c:x=s
 ·subst c;exact ⟨_,(A4f (k':=.mh)).1⟩
 ·rcases E7J.1 hx with hx | hx
  ·obtain ⟨i,hi⟩:=hm.2 x hx;refine ⟨i,?_⟩;rw [(A4f (k:=.s s) (k':=.s x)).2 (by simpa using c)];exact hi
  ·simp at hx;exact absurd hx c
def D3P{mid:Nat}{f:List UInt8->Int}{l:sN}(hr:rd h mid=A4 (Q1 es))(hm:MapN es f l)(hs:s∈l):yK h A7 (.c o0) A6 (.c (.m mid)) (.c (.s s))=A4 (.c (cI (f s))):=by
 obtain ⟨i,hi⟩:=hm.2 s hs;simp only [yK,B96,D1Q,hr,E7l,qO];rw [C4 (D7a hm.1),hi];rfl
def D7o{mid:Nat}{f:List UInt8->Int}{l:sN}(hr:rd h mid=A4 (Q1 es))(hm:MapN es f l):A29 h A7 (.c (.m mid)) (.c (.s s)) (.c (cI x))=A4 (h.set mid (A4 (Q1 (A9E (.s s) (.c (cI x)) es)))):=by
 simp only [A29,B96,C3Q,hr,E7l,qO];rw [C4 (D7a hm.1)]
def D19{neg:Bool}(p q:Plc):aeq neg [.i .i64,.i .i64,.i .i64] (.a (nK (A4 p))) (.a (nK (A4 q)))=A4 (bV (bif neg then !(decide (A4 p=A4 q)) else decide (A4 p=A4 q))):=by
 simp only [aeq];rw [C4 ⟨rfl,rfl⟩];have:decide (nK (A4 p)=nK (A4 q))=decide (A4 p=A4 q):=by
  apply Bool.eq_iff_iff.2;simp only [decide_eq_true_eq,nK,List.cons.injEq,Cell.i.injEq,true_and,and_true,E7a];obtain ⟨p1,p2,p3⟩:=p;obtain ⟨q1,q2,q3⟩:=q;simp only [Prod.mk.injEq];constructor
  ·rintro ⟨h1,h2,h3⟩;exact ⟨h1,by omega,h3⟩
  ·rintro ⟨h1,h2,h3⟩;exact ⟨h1,by omega,h3⟩
 rw [this]
def B5A{x:Ent}(h:O7 b k=A4 x):x.1.length<=24:=by
 unfold O7 at h;cases hu:gZ (nameB b k) with
 | none=>rw [hu] at h;cases h
 | some s =>
  rw [hu,E7l] at h;split at h
  ·cases h;exact (bP (A30 hu)).2
  ·cases h
def A3V:∀ {e k:Nat} {x:Slt},x∈Q5 b e k->O7 b x.1=A4 x.2/\k<=x.1/\x.1<k+e
 | 0,k,x,h=>by simp [Q5] at h
 | e+1,k,x,h=>by
  cases hr:O7 b k with
  | none =>
   rw [aI hr] at h;have:=A3V h;exact ⟨this.1,by omega,by omega⟩
  | some y =>
   rw [aJ hr] at h;rcases E7m.1 h with rfl | h
   ·exact ⟨hr,E69 _,by dsimp only;omega⟩
   ·have:=A3V h;exact ⟨this.1,by omega,by omega⟩
def A9B{x:Slt}(h:x∈J3 b):O7 b x.1=A4 x.2/\x.1<7:=by
 have:=A3V h;exact ⟨this.1,by omega⟩
def C3K{k:Int}{d:List Int}{s:List Tld}{t:Tld}:T6 D n k d (s++[t])=T6 D n k d s++(if isL D n k d t=A5 then [t.2] else []):=by
 unfold T6;rw [E8k,E72];by_cases c:isL D n k d t=A5
 ·rw [C4 c,E7Z c];rfl
 ·rw [C5 c,E73 c];rfl
def C7A{k:Int}{d:List Int}{s:List Tld}:(T6 D n k d s).length<=(l_ s):=by
 unfold T6;rw [E8s];exact E74 _ _
def RDs(b:Nat):List Nat:=[b,b+1,b+3,b+4,b+5,b+6,b+8]
structure ListP(D:Dev)(n k:Int)(d:List Int)(V I:List Cell)(L:List Int)(g:A9)(rs:List Nat)(c:Nat)(s:List Tld)(h:A9):Prop where
 var:VarC h (l_ g+3) (encS (T6 D n k d s)) (T6 D n k d s).length 1 (l_ g) (rs++RDs (l_ g))
 len:l_ s<=c
 low:Low (l_ g) g h
 r0:rd h (l_ g)=rT V
 r1:rd h (l_ g+1)=rT I
 r6:rd h (l_ g+6)=rT V
 r8:rd h (l_ g+8)=rT (encI L)
 r5:rd h (l_ g+5)=rT [.m (l_ g+4)]
 r4:∃ es,rd h (l_ g+4)=A4 (Q1 es)/\MapN es (D5P D n k d) (T6 D n k d s)
 rs:∀ j∈rs,l_ g+9<=j/\j<(l_ h)
section
variable {D:Dev} {n k:Int} {d:List Int} {V I:List Cell} {L:List Int} {g h:A9} {rs:List Nat} {c:Nat} {s:List Tld}
def ListP.more(P:ListP D n k d V I L g rs c s h)(t:A9):ListP D n k d V I L g rs c s (h++t) where
 var:=P.var.more t λj hj=>.inl hj
 len:=P.len
 low:=P.low.new _
 r0:=B6 P.r0
 r1:=B6 P.r1
 r6:=B6 P.r6
 r8:=B6 P.r8
 r5:=B6 P.r5
 r4:=by obtain ⟨es,h1,h2⟩:=P.r4;exact ⟨es,B6 h1,h2⟩
 rs:=λj hj=>by have:=P.rs j hj;simp;omega
def ListP.one(P:ListP D n k d V I L g rs c s h)(r:Option Row):ListP D n k d V I L g (l_ h::rs) c s (h++[r]) where
 var:=P.var.more _ λj hj=>by
  rcases E7m.1 hj with rfl | hj
  ·exact .inr (E69 _)
  ·exact .inl hj
 len:=P.len
 low:=P.low.new _
 r0:=B6 P.r0
 r1:=B6 P.r1
 r6:=B6 P.r6
 r8:=B6 P.r8
 r5:=B6 P.r5
 r4:=by obtain ⟨es,h1,h2⟩:=P.r4;exact ⟨es,B6 h1,h2⟩
 rs:=λj hj=>by
  have h8:=E5 P.r8;rcases E7m.1 hj with rfl | hj
  ·simp;omega
  ·have:=P.rs j hj;simp;omega
def ListP.less(P:ListP D n k d V I L g (i::rs) c s h):ListP D n k d V I L g rs c s h :=
 { P with var:=P.var.fewer λj hj=>E7d _ hj,rs:=λj hj=>P.rs j (E7d _ hj) }
def ListP.wide{c':Nat}(P:ListP D n k d V I L g rs c s h)(hc:c<=c'):ListP D n k d V I L g rs c' s h :=
 { P with len:=E7V P.len hc }
end
def E4C{k s0:Int}{d:List Int}{s:List Tld}{t:Tld}(hD:okD D)(hd:l_ d=7)(hv:IsView g f D)(hc:c<=90000)(ht:t.2.length<=24)
  (P:ListP D n k d (vwC (l_ D) n m f) (C9 k l s0 p d) L g rs c s h) :
  ∃ h',xU [.a (nK (A4 t.1)),.c (.s t.2),.c (.p (l_ g) 0),.c (.p (l_ g+1) 0),.c (.p (l_ g+3) 0),.c (.p (l_ g+5) 0)] h=A4 (.t [],h')/\ListP D n k d (vwC (l_ D) n m f) (C9 k l s0 p d) L g rs (c+1) (s++[t]) h'/\∀ j∈rs,rd h' j=rd h j:=by
 obtain ⟨⟨p1,p2,p3⟩,nm⟩:=t;have hIl:(C9 k l s0 p d).length=11:=by simp [C9,B9,hd]
 obtain ⟨h1,e1⟩:=xEq (h++[rT (nK (A4 (p1,p2,p3)))]);have n1:h1.length=l_ h+1:=by rw [e1];simp
 have P1:ListP D n k d (vwC (l_ D) n m f) (C9 k l s0 p d) L g (l_ h::rs) c s h1:=e1 ▸ P.one _;have l4:D3 h1 4 (.c (.p (l_ g) 0))=A4 (.a (vwC (l_ D) n m f)):=C8 P1.r0 rfl;have l11:D3 h1 11 (.c (.p (l_ g+1) 0))=A4 (.a (C9 k l s0 p d)):=C8 P1.r1 hIl;have hL:=A2Q (n:=n) (m:=m) (k:=k) (l:=l) (s:=s0) (p:=p) (nm:=nm) (h:=h1) hD hd (hv.since P1.low) (by dsimp only at ht;omega);have hl:=E5 P.r8;have keep:∀ (h':A9),(∀ j∈(l_ h)::rs,rd h' j=rd h1 j)->∀ j∈rs,rd h' j=rd h j:=by
  intro h' hk j hj;rw [hk j (E7d _ hj),e1,D5 (P.rs j hj).2]
 obtain ⟨o,eo⟩:=xEq (A2v D n k d nm);rw [<-eo] at hL;obtain ⟨h2,e2⟩:=xEq (h1++[rT (nK o)]);have s3:G0 (h1++[rT [o0,o0,o0]]) 3 (.c (.p h1.length 0)) (.a (nK o))=A4 h2:=by
  rw [H6,e2];cases o<;>rfl
 have P2:ListP D n k d (vwC (l_ D) n m f) (C9 k l s0 p d) L g (l_ h::rs) c s h2:=e2 ▸ P1.more _;have q1:D3 h2 3 (.c (.p h1.length 0))=A4 (.a (nK o)):=by rw [e2,G9];cases o<;>rfl
 have rp:rd h2 (l_ h)=rT (nK (A4 (p1,p2,p3))):=by rw [e2,e1];simp
 have q2:D3 h2 3 (.c (.p (l_ h) 0))=A4 (.a (nK (A4 (p1,p2,p3)))):=C8 rp rfl;have no:isL D n k d ((p1,p2,p3),nm)=A6->T6 D n k d (s++[((p1,p2,p3),nm)])=T6 D n k d s:=λhn=>by
  rw [C3K,hn];simp
 have stay:T6 D n k d (s++[((p1,p2,p3),nm)])=T6 D n k d s->ListP D n k d (vwC (l_ D) n m f) (C9 k l s0 p d) L g rs (c+1) (s++[((p1,p2,p3),nm)]) h2:=λhn=>by
  have:=P2.less;exact { this with var:=by rw [hn];exact this.var,len:=by have:=P.len;simp;omega,r4:=by rw [hn];exact this.r4 }
 have k2:∀ j∈(l_ h)::rs,rd h2 j=rd h1 j:=λj hj=>by
  rw [e2,D5];rcases E7m.1 hj with rfl | hj
  ·omega
  ·have:=P.rs j hj;omega
 cases o with
 | none =>
  have hn:isL D n k d ((p1,p2,p3),nm)=A6:=by unfold isL;rw [<-eo];simp
  refine ⟨h2,xV (n:=0) ?_,stay (no hn),keep h2 k2⟩;rw [xE];generalize hV:vwC (l_ D) n m f=V at *;generalize hI:C9 k l s0 p d=I at *;simp only [fK,C7,<-e1,l4,l11,hL,yI,E7W,E7u,E7U,fW,fV,s3,E8b,E0p,qJ,bZ,Y0];rfl
 | some q =>
  have ea:=D19 (neg:=A6) q (p1,p2,p3);by_cases c1:q=(p1,p2,p3)
  ·have hn:isL D n k d ((p1,p2,p3),nm)=A5:=by unfold isL;rw [<-eo,c1];simp
   have hns:T6 D n k d (s++[((p1,p2,p3),nm)])=T6 D n k d s++[nm]:=by rw [C3K,C4 hn]
   have hin:D5P D n k d nm=p3:=by unfold D5P;rw [<-eo,c1];rfl
   subst c1;have h2l:h2.length=l_ h+2:=by rw [e2];simp;omega
   obtain ⟨x,v,h3,h4,a1,a2,a3,a4,a5,a6,a7⟩:=P2.var.push (ys:=[.s nm]) (by simp [RDs]) (by omega) (by omega) (by
    intro j hj;rcases E7J.1 hj with hj | hj
    ·exact (P2.rs j hj).2
    ·simp only [RDs,E7m,List.not_mem_nil,or_false] at hj;omega) (by have:=C7A (D:=D) (n:=n) (k:=k) (d:=d) (s:=s);have:=P.len;omega) rfl (by omega)
   have ef:F9 [Cell.s []] [(0,1,.c (.s nm))]=A4 [.s nm]:=rfl;have mem:∀ j,j∈RDs (l_ g)->j≠(l_ g)+3->rd h4 j=rd h2 j:=λj hj Z2=>a6 j (E7C _ hj) Z2
   have m5:B8 h4 (.c (.p (l_ g+5) 0))=A4 (.c (.m (l_ g+4))):=C1 (by rw [mem _ (by simp [RDs]) (by omega)];exact P2.r5) rfl rfl;have m2:B8 h4 (.c (.p (l_ h) 2))=A4 (.c (cI p3)):=C1 (by rw [a6 (l_ h) (by simp) (by omega)];exact rp) rfl rfl;obtain ⟨es,r4,hm⟩:=P2.r4;have r4':rd h4 (l_ g+4)=A4 (Q1 es):=by rw [mem _ (by simp [RDs]) (by omega)];exact r4
   have mp:=D7o (s:=nm) (x:=p3) r4' hm;have hm':=hm.put nm;rw [hin] at hm';have lt4:=E5 r4';obtain ⟨h5,e5⟩:=xEq (h4.set (l_ g+4) (A4 (Q1 (A9E (.s nm) (.c (cI p3)) es))));rw [<-e5] at mp;have oth:∀ j,j≠(l_ g)+4->rd h5 j=rd h4 j:=λj hj=>by rw [e5,B7 (Ne.symm hj)]
   have back:∀ j∈RDs (l_ g),j≠(l_ g)+3->j≠(l_ g)+4->rd h5 j=rd h2 j:=λj hj h3 h4=>by rw [oth j h4,mem j hj h3]
   refine ⟨h5,xV (n:=0) ?_,⟨?_,?_,?_,?_,?_,?_,?_,?_,?_,?_⟩,keep h5 λj hj=>?_⟩
   ·rw [xE];rw [R9 rfl] at ea;generalize hV:vwC (l_ D) n m f=V at *;generalize hI:C9 k l s0 p d=I at *;simp only [fK,C7,<-e1,l4,l11,hL,yI,E7W,E7u,E7U,fW,fV,s3,E7S,D0f,q1,q2,ea,qJ,R8,bZ,Y1,a1,ef,a2,a3,m5,R4,E7o,m2,mp];rfl
   ·rw [hns];have e6:encS (T6 D n k d s++[nm])=encS (T6 D n k d s)++[.s nm]:=by simp [encS]
    rw [e6,E7c];have:=a4.keep (h':=h5) (oth _ (by omega)) (λid hid y hy=>by
     rw [oth id (λe=>hid (E7C _ (by rw [e];simp [RDs])))];exact hy)
    exact this.fewer λj hj=>by
     rcases E7J.1 hj with hj | hj
     ·exact E7I _ (E7d _ hj)
     ·exact E7C _ hj
   ·have:=P.len;simp;omega
   ·rw [e5];exact (P2.low.trans a5).set (by omega) _
   ·rw [back _ (by simp [RDs]) (by omega) (by omega)];exact P2.r0
   ·rw [back _ (by simp [RDs]) (by omega) (by omega)];exact P2.r1
   ·rw [back _ (by simp [RDs]) (by omega) (by omega)];exact P2.r6
   ·rw [back _ (by simp [RDs]) (by omega) (by omega)];exact P2.r8
   ·rw [back _ (by simp [RDs]) (by omega) (by omega)];exact P2.r5
   ·exact ⟨_,by rw [e5];exact E1 lt4,by rw [hns];exact hm'⟩
   ·intro j hj;have:=P.rs j hj;have e6:h5.length=h4.length:=by rw [e5];simp
    omega
   ·have hj9:l_ g+9<=j:=by
     rcases E7m.1 hj with rfl | hj
     ·omega
     ·exact (P.rs j hj).1
    rw [oth j (by omega),a6 j (E7I _ hj) (by omega),k2 j hj]
  ·have hn:isL D n k d ((p1,p2,p3),nm)=A6:=by unfold isL;rw [<-eo];simpa using c1
   refine ⟨h2,xV (n:=0) ?_,stay (no hn),keep h2 k2⟩;rw [xE];rw [aC (by simpa using c1)] at ea;generalize hV:vwC (l_ D) n m f=V at *;generalize hI:C9 k l s0 p d=I at *;simp only [fK,C7,<-e1,l4,l11,hL,yI,E7W,E7u,E7U,fW,fV,s3,E7S,D0f,q1,q2,ea,qJ,R8,bZ,Y0];rfl
def D6a{l:List Plc}{x:Plc}:B15 (l++[x])=B15 l++nK (A4 x):=by simp [B15]
def D59{l:List Plc}:O5 (B15 l)=A5:=by
 induction l with
 | nil=>rfl
 | cons x l ih =>
  have:B15 (x::l)=nK (A4 x)++B15 l:=rfl;rw [this,qN,ih];rfl
def D8Q{l:List Plc}:noX (B15 l)=A5:=by
 induction l with
 | nil=>rfl
 | cons x l ih =>
  have:B15 (x::l)=[cI x.1,cI (x.2.1:Int),cI x.2.2]++B15 l:=rfl;rw [this];simp [noX,Cell.isX] at ih ⊢;exact ih
def C3V{k:Int}{d:List Int}{s:List Tld}{t:Tld}:dQ D n k d (s++[t])=dQ D n k d s++(if isL D n k d t=A5 then [] else [t.1]):=by
 unfold dQ;rw [E8k,E72];by_cases c:isL D n k d t=A5
 ·rw [C4 c,E73 (by simp [c])];rfl
 ·rw [C5 c,E7Z (by simp [c])];rfl
def D6v{k:Int}{d:List Int}{s:List Tld}:(dQ D n k d s).length<=(l_ s):=by
 unfold dQ;rw [E8s];exact E74 _ _
def RSs(b:Nat):List Nat:=[b,b+1,b+3,b+4,b+6]
structure StrP(D:Dev)(n k:Int)(d:List Int)(V I:List Cell)(L:List Int)(g:A9)(rs:List Nat)(c:Nat)(s:List Tld)(h:A9):Prop where
 var:VarC h (l_ g+3) (B15 (dQ D n k d s)) (dQ D n k d s).length 3 (l_ g) (rs++RSs (l_ g))
 len:l_ s<=c
 low:Low (l_ g) g h
 r0:rd h (l_ g)=rT V
 r1:rd h (l_ g+1)=rT I
 r4:rd h (l_ g+4)=rT V
 r6:rd h (l_ g+6)=rT (encI L)
 rs:∀ j∈rs,l_ g+7<=j/\j<(l_ h)
section
variable {D:Dev} {n k:Int} {d:List Int} {V I:List Cell} {L:List Int} {g h:A9} {rs:List Nat} {c:Nat} {s:List Tld}
def StrP.more(P:StrP D n k d V I L g rs c s h)(t:A9):StrP D n k d V I L g rs c s (h++t) where
 var:=P.var.more t λj hj=>.inl hj
 len:=P.len
 low:=P.low.new _
 r0:=B6 P.r0
 r1:=B6 P.r1
 r4:=B6 P.r4
 r6:=B6 P.r6
 rs:=λj hj=>by have:=P.rs j hj;simp;omega
def StrP.one(P:StrP D n k d V I L g rs c s h)(r:Option Row):StrP D n k d V I L g (l_ h::rs) c s (h++[r]) where
 var:=P.var.more _ λj hj=>by
  rcases E7m.1 hj with rfl | hj
  ·exact .inr (E69 _)
  ·exact .inl hj
 len:=P.len
 low:=P.low.new _
 r0:=B6 P.r0
 r1:=B6 P.r1
 r4:=B6 P.r4
 r6:=B6 P.r6
 rs:=λj hj=>by
  have h8:=E5 P.r6;rcases E7m.1 hj with rfl | hj
  ·simp;omega
  ·have:=P.rs j hj;simp;omega
def StrP.less(P:StrP D n k d V I L g (i::rs) c s h):StrP D n k d V I L g rs c s h :=
 { P with var:=P.var.fewer λj hj=>E7d _ hj,rs:=λj hj=>P.rs j (E7d _ hj) }
def StrP.wide{c':Nat}(P:StrP D n k d V I L g rs c s h)(hc:c<=c'):StrP D n k d V I L g rs c' s h :=
 { P with len:=E7V P.len hc }
end
def E3j{k s0:Int}{d:List Int}{s:List Tld}{t:Tld}(hD:okD D)(hd:l_ d=7)(hv:IsView g f D)(hc:c<=90000)(ht:t.2.length<=24)
  (P:StrP D n k d (vwC (l_ D) n m f) (C9 k l s0 p d) L g rs c s h) :
  ∃ h',tS [.a (nK (A4 t.1)),.c (.s t.2),pV (l_ g) 0,pV (l_ g+1) 0,pV (l_ g+3) 0] h=A4 (.t [],h')/\StrP D n k d (vwC (l_ D) n m f) (C9 k l s0 p d) L g rs (c+1) (s++[t]) h'/\∀ j∈rs,rd h' j=rd h j:=by
 obtain ⟨⟨p1,p2,p3⟩,nm⟩:=t;have hIl:(C9 k l s0 p d).length=11:=by simp [C9,B9,hd]
 obtain ⟨h1,e1⟩:=xEq (h++[rT (nK (A4 (p1,p2,p3)))]);have n1:h1.length=l_ h+1:=by rw [e1];simp
 have P1:StrP D n k d (vwC (l_ D) n m f) (C9 k l s0 p d) L g (l_ h::rs) c s h1:=e1 ▸ P.one _;have l4:D3 h1 4 (pV (l_ g) 0)=A4 (.a (vwC (l_ D) n m f)):=C8 P1.r0 rfl;have l11:D3 h1 11 (pV (l_ g+1) 0)=A4 (.a (C9 k l s0 p d)):=C8 P1.r1 hIl;have hL:=A2Q (n:=n) (m:=m) (k:=k) (l:=l) (s:=s0) (p:=p) (nm:=nm) (h:=h1) hD hd (hv.since P1.low) (by dsimp only at ht;omega);have hl:=E5 P.r6;have keep:∀ (h':A9),(∀ j∈(l_ h)::rs,rd h' j=rd h1 j)->∀ j∈rs,rd h' j=rd h j:=by
  intro h' hk j hj;rw [hk j (E7d _ hj),e1,D5 (P.rs j hj).2]
 obtain ⟨o,eo⟩:=xEq (A2v D n k d nm);rw [<-eo] at hL;obtain ⟨h2,e2⟩:=xEq (h1++[rT (nK o)]);have s3:G0 (h1++[rT [o0,o0,o0]]) 3 (pV h1.length 0) (.a (nK o))=A4 h2:=by
  rw [H6,e2];cases o<;>rfl
 have P2:StrP D n k d (vwC (l_ D) n m f) (C9 k l s0 p d) L g (l_ h::rs) c s h2:=e2 ▸ P1.more _;have q1:D3 h2 3 (pV h1.length 0)=A4 (.a (nK o)):=by rw [e2,G9];cases o<;>rfl
 have rp:rd h2 (l_ h)=rT (nK (A4 (p1,p2,p3))):=by rw [e2,e1];simp
 have q2:D3 h2 3 (pV (l_ h) 0)=A4 (.a (nK (A4 (p1,p2,p3)))):=C8 rp rfl;have k2:∀ j∈(l_ h)::rs,rd h2 j=rd h1 j:=λj hj=>by
  rw [e2,D5];rcases E7m.1 hj with rfl | hj
  ·omega
  ·have:=P.rs j hj;omega
 by_cases hn:isL D n k d ((p1,p2,p3),nm)=A5
 ·have ho:o=A4 (p1,p2,p3):=by
   have:=hn;unfold isL at this;rw [<-eo] at this;simpa using this
  subst ho;have pL:dQ D n k d (s++[((p1,p2,p3),nm)])=dQ D n k d s:=by rw [C3V,C4 hn];simp
  have ea:=D19 (neg:=A5) (p1,p2,p3) (p1,p2,p3);rw [R9 rfl] at ea;have P3:=P2.less;refine ⟨h2,A4T (n:=0) ?_,{ P3 with var:=by rw [pL];exact P3.var,len:=by have:=P.len;simp;omega },keep h2 k2⟩;rw [A4B];generalize hV:vwC (l_ D) n m f=V at *;generalize hI:C9 k l s0 p d=I at *;simp only [fK,C7,<-e1,l4,l11,hL,yI,E7W,E7u,E7U,fW,fV,s3,E7S,yL,Bool.not_true,D3s,q1,q2,ea,qJ,R8,bZ,Y0];rfl
 ·have pL:dQ D n k d (s++[((p1,p2,p3),nm)])=dQ D n k d s++[(p1,p2,p3)]:=by rw [C3V,C5 hn]
  have h2l:h2.length=l_ h+2:=by rw [e2];simp;omega
  obtain ⟨x,v,h3,h4,a1,a2,a3,a4,a5,a6,a7⟩:=P2.var.push (ys:=nK (A4 (p1,p2,p3))) (by simp [RSs]) (by omega) (by omega) (by
   intro j hj;rcases E7J.1 hj with hj | hj
   ·exact (P2.rs j hj).2
   ·simp only [RSs,E7m,List.not_mem_nil,or_false] at hj;omega) (by have:=D6v (D:=D) (n:=n) (k:=k) (d:=d) (s:=s);have:=P.len;omega) rfl (by omega)
  have ef:F9 [o0,o0,o0] [(0,3,.a (nK (A4 (p1,p2,p3))))]=A4 (nK (A4 (p1,p2,p3))):=rfl;have mem:∀ j,j∈RSs (l_ g)->j≠(l_ g)+3->rd h4 j=rd h2 j:=λj hj Z2=>a6 j (E7C _ hj) Z2
  have fin:StrP D n k d (vwC (l_ D) n m f) (C9 k l s0 p d) L g rs (c+1) (s++[((p1,p2,p3),nm)]) h4:=by
   refine ⟨?_,?_,P2.low.trans a5,?_,?_,?_,?_,?_⟩
   ·rw [pL,D6a,E7c];exact a4.fewer λj hj=>by
     rcases E7J.1 hj with hj | hj
     ·exact E7I _ (E7d _ hj)
     ·exact E7C _ hj
   ·have:=P.len;simp;omega
   ·rw [mem _ (by simp [RSs]) (by omega)];exact P2.r0
   ·rw [mem _ (by simp [RSs]) (by omega)];exact P2.r1
   ·rw [mem _ (by simp [RSs]) (by omega)];exact P2.r4
   ·rw [mem _ (by simp [RSs]) (by omega)];exact P2.r6
   ·intro j hj;have:=P.rs j hj;omega
  have kp:∀ j∈rs,rd h4 j=rd h j:=keep h4 λj hj=>by
   have hj9:l_ g+7<=j:=by
    rcases E7m.1 hj with rfl | hj
    ·omega
    ·exact (P.rs j hj).1
   rw [a6 j (E7I _ hj) (by omega),k2 j hj]
  refine ⟨h4,A4T (n:=0) ?_,fin,kp⟩;rw [A4B];cases o with
  | none =>
   generalize hV:vwC (l_ D) n m f=V at *;generalize hI:C9 k l s0 p d=I at *;simp only [fK,C7,<-e1,l4,l11,hL,yI,E7W,E7u,E7U,fW,fV,s3,E8b,yL,Bool.not_false,E0q,E3x,qJ,R8,bZ,Y1,a1,q2,ef,a2,a3];rfl
  | some q =>
   have hq:q≠(p1,p2,p3):=by
    intro e;apply hn;unfold isL;rw [<-eo,e];simp
   have ea:=D19 (neg:=A5) q (p1,p2,p3);rw [aC (by simpa using hq)] at ea;generalize hV:vwC (l_ D) n m f=V at *;generalize hI:C9 k l s0 p d=I at *;simp only [fK,C7,<-e1,l4,l11,hL,yI,E7W,E7u,E7U,fW,fV,s3,E7S,yL,Bool.not_true,Bool.not_false,D3s,q1,q2,ea,qJ,R8,bZ,Y1,a1,ef,a2,a3];rfl
def C6I{k s:Int}{d:List Int}(hD:okD D)(hd:l_ d=7)(hv:IsView h f D) :
  E41 h (sL [.a (vwC (l_ D) n m f),.a (C9 k l s p d)] h) (B15 (dQ D n k d (oX D n k d))) (dQ D n k d (oX D n k d)).length 3:=by
 have key:∀ g,IsView g f D->∃ x g',sI 0 [.a (vwC (l_ D) n m f),.a (C9 k l s p d)] g=A4 (.c x,g')/\D9j g' x (B15 (dQ D n k d (oX D n k d))) (dQ D n k d (oX D n k d)).length 3 (l_ g) ([]++RSs (l_ g)):=by
  intro g hv;have hIl:(C9 k l s p d).length=11:=by simp [C9,B9,hd]
  have hbl:=A6N (D:=D) (n:=n) (k:=k) (d:=d);obtain ⟨V,hV⟩:=xEq (vwC (l_ D) n m f);obtain ⟨I,hI⟩:=xEq (C9 k l s p d);have hVl:l_ V=4:=by rw [hV];rfl
  have E0w:l_ I=11:=by rw [hI];exact hIl
  obtain ⟨G,hG⟩:=xEq (g++[rT V,rT I,rT [],rT [.ns]]);obtain ⟨G2,hG2⟩:=xEq (G++[rT V,rT I,rT (encI (T5 D n k d))]);have lG:l_ G=l_ g+4:=by rw [hG];simp
  have lG2:G2.length=l_ g+7:=by rw [hG2];simp [lG]
  have hB:=A2R (n:=n) (m:=m) (k:=k) (l:=l) (s:=s) (p:=p) (h:=G++[rT V,rT I]) hD hd (by rw [hG];exact (hv.more _).more _);rw [<-hV,<-hI] at hB;have hB2:(G++[rT V,rT I])++[rT (encI (T5 D n k d))]=G2:=by rw [hG2];simp
  rw [hB2] at hB;have lB:(G++[rT V,rT I]).length=l_ g+6:=by simp [lG]
  rw [lB] at hB;have emk:A3N 160 [pV (l_ g) 0,pV (l_ g+1) 0,pV (l_ g+3) 0]=A4 (.c (.f 160 [(l_ g,0),(l_ g+1,0),(l_ g+3,0)])):=rfl;have hcv:∀ (x y:Val) (h:A9),aV lO (.c (.f 160 [(l_ g,0),(l_ g+1,0),(l_ g+3,0)])) [x,y] h=tS [x,y,pV (l_ g) 0,pV (l_ g+1) 0,pV (l_ g+3) 0] h:=λ_ _ _=>Eq.trans rfl rfl
  have P0:StrP D n k d V I (T5 D n k d) g [] 0 [] G2:=by
   refine ⟨VarC.nil ?_,E69 _,?_,?_,?_,?_,?_,λj hj=>by simp at hj⟩
   ·rw [hG2,hG];simp
   ·rw [hG2,hG];exact ((Low.refl (E69 _)).new _).new _
   ·rw [hG2,hG];simp
   ·rw [hG2,hG];simp
   ·rw [hG2,<-lG];simp
   ·rw [hG2,show (l_ g)+6=l_ G+2 by omega];simp
  obtain ⟨h',f1,f2⟩:=B3P (σ:=List Tld) (L0:=λM x h=>yV 300 M (.c (.f 160 [(l_ g,0),(l_ g+1,0),(l_ g+3,0)])) (pV (l_ g+4) 0) (sV (l_ g+6) 0 (T5 D n k d).length 1) (iV ((T5 D n k d).length:Nat)) x h)
   (L1:=λM m2 x7 x14 x21 x22 x23 h=>yW 300 M m2 (.c (.f 160 [(l_ g,0),(l_ g+1,0),(l_ g+3,0)])) (pV (l_ g+4) 0) x7 (sV (l_ g+6) 0 (T5 D n k d).length 1) (iV ((T5 D n k d).length:Nat)) x14 x21 x22 x23 h)
   (C:=λx y h=>aV lO (.c (.f 160 [(l_ g,0),(l_ g+1,0),(l_ g+3,0)])) [x,y] h)
   (N:=300) (x3:=pV (l_ g+4) 0) (n:=n) (m:=m) (f:=f) (sid:=l_ g+6) (L:=T5 D n k d) hD (λrs c s h=>StrP D n k d V I (T5 D n k d) g rs c s h) (λs t=>s++[t]) (by omega)
   (λM x h=>by rw [A5W])
   (λM v9 x v w M2 y h=>by rw [A5X])
   (λrs c s h P=>⟨by rw [<-hV];exact C8 P.r4 hVl,hv.since P.low,P.r6⟩)
   (λrs c s h t P=>P.more t) (λrs c s h r P=>P.one r) (λi rs c s h P=>P.less) (λrs c c' s h P hc=>P.wide hc)
   (λrs c st h1 no x P hc X5 hx=>by
    obtain ⟨h2,e1,e2,e3⟩:=E3j (t:=((no,x.1,x.2.2),x.2.1)) (n:=n) (m:=m) (k:=k) (l:=l) (s0:=s) (p:=p) (c:=c) hD hd hv (by omega) (by have:=B5A (A9B hx).1;exact this) (by rw [<-hV,<-hI];exact P);rw [<-hV,<-hI] at e2;exact ⟨h2,by rw [hcv];exact e1,e2,e3⟩)
   (by omega) (T5 D n k d).length 0 300 [] [] G2 (by omega) (by omega) P0
  rw [E7n] at f2;have efold:∀ (L:List Tld) (s0:List Tld),L.foldl (λs t=>s++[t]) s0=s0++L:=by
   intro L
   induction L with
   | nil=>intro s0;simp
   | cons t L ih=>intro s0;rw [E8f,ih];simp
  rw [efold,E7A] at f2;change StrP D n k d V I (T5 D n k d) g [] (7*(T5 D n k d).length) (oX D n k d) h' at f2;have hS:lW [.a V,.a I,.c (.f 160 [(l_ g,0),(l_ g+1,0),(l_ g+3,0)])] G=A4 (.t [],h'):=by
   refine A7O (n:=300) ?_;rw [A7s];have g4:D3 (G++[rT V,rT I]) 4 (pV (l_ G) 0)=A4 (.a V):=by rw [G9];exact L9 hVl
   have g11:D3 (G++[rT V,rT I]) 11 (pV (l_ G+1) 0)=A4 (.a I):=by rw [P8];exact L9 E0w
   simp only [fK,C7,E7i,E8a,E7A,E7c,E7k,E7Q,E7o,g4,g11,hB,B0R];rw [lG];exact f1
  obtain ⟨x,hx,hdx⟩:=f2.var;refine ⟨x,h',?_,hdx⟩;have t1:B8 h' (pV (l_ g+3) 0)=A4 (.c x):=C1 hx rfl (by
   rcases hdx with ⟨_,_,rfl⟩ | ⟨id,rfl,_⟩<;>rfl)
  have g4:D3 G 4 (pV (l_ g) 0)=A4 (.a V):=by rw [hG,G9];exact L9 hVl
  have g11:D3 G 11 (pV (l_ g+1) 0)=A4 (.a I):=by rw [hG,P8];exact L9 E0w
  rw [C0V,<-hV,<-hI];simp only [fK,C7,E7i,E8a,E7A,E7c,E7k,E7Q,E7o,Nat.reduceAdd,<-hG,g4,g11,emk,hS,t1]
 obtain ⟨x,g',e,hdx⟩:=key (ro h) hv.ro;rw [H8] at hdx;exact E18 (S:=sL) (R:=sI) B80 B81 e hdx D59 D8Q
def A5K{n:Nat}(hn:n<=32):toX (nH d t n) i=if i<n then zU d t i else 0:=by
 unfold toX nH;rw [E67];by_cases c:i<n
 ·rw [C4 c,List.getElem?_append_left (by simpa using c),List.getElem?_map,List.getElem?_range c];rfl
 ·rw [C5 c,List.getElem?_append_right (by simp;omega)];unfold zI;rw [List.getElem?_replicate];split<;>rfl
def D3o{u:List Int}{n:Nat}(hn:n<=32)(h:∀ i,i<n->zU d t i=toX u i)(hu:u.length=32)(h0:∀ i,n<=i->toX u i=0):nH d t n=u:=by
 apply List.ext_getElem?;intro i;by_cases c:i<32
 ·have h1:=oY (d:=d) (t:=t) hn;rw [C5e (by omega),C5e (by omega),A5K hn];by_cases c2:i<n
  ·rw [C4 c2,h i c2]
  ·rw [C5 c2,h0 i (by omega)]
 ·have h1:=oY (d:=d) (t:=t) hn;rw [E7z (by omega),E7z (by omega)]
def A45{n:Nat}{p b:Nat}:A83 n t p b=A5↔toX t p≠0/\∀ k,k<n->k%2 ^ b=p%2 ^ b->toX t k=toX t p:=by
 unfold A83 B1u Z5;simp only [E66,E7Y,decide_eq_false_iff_not,E7D,E7N,List.mem_range,beq_iff_eq,decide_eq_true_eq];constructor
 ·rintro ⟨h1,h2⟩;exact ⟨h1,λk hk hm=>h2 k ⟨hk,hm⟩⟩
 ·rintro ⟨h1,h2⟩;exact ⟨h1,λk hk=>h2 k hk.1 hk.2⟩
def sR{n:Nat}{t:List Int}{p:Nat}:∀ e b,b<=aU n t p b e/\aU n t p b e<=b+e/\(∀ c,b<=c->c<aU n t p b e->A83 n t p c=A6)/\(aU n t p b e<b+e->A83 n t p (aU n t p b e)=A5)
 | 0,b=>⟨E69 _,E69 _,λc h1 h2=>by unfold aU at h2;omega,λh=>by unfold aU at h;omega⟩
 | e+1,b=>by
  unfold aU;cases ca:A83 n t p b with
  | true=>exact ⟨E69 _,by rw [R8];omega,λc h1 h2=>by rw [R8] at h2;omega,λ_=>by rw [R8];exact ca⟩
  | false =>
   obtain ⟨h1,h2,h3,h4⟩:=sR (n:=n) (t:=t) (p:=p) e (b+1);rw [bZ];refine ⟨by omega,by omega,λc k1 k2=>?_,λk=>h4 (by omega)⟩;by_cases e1:c=b
   ·subst e1;exact ca
   ·exact h3 c (by omega) k2
def C4G{n:Nat}{p b x:Nat}(h1:b<=x)(h2:x<=b+e)(h3:∀ c,b<=c->c<x->A83 n t p c=A6)(h4:x<b+e->A83 n t p x=A5):aU n t p b e=x:=by
 obtain ⟨k1,k2,k3,k4⟩:=sR (n:=n) (t:=t) (p:=p) e b;rcases Nat.lt_trichotomy (aU n t p b e) x with h | h | h
 ·have:=h3 _ k1 h;rw [k4 (by omega)] at this;cases this
 ·exact h
 ·have:=k3 x h1 h;rw [h4 (by omega)] at this;cases this
def B9s{p:Nat}:Y8 d t p<=fN d:=by
 have:=(sR (n:=C6 d) (t:=t) (p:=p) (fN d) 0).2.1;unfold Y8;omega
def B3L{p:Nat}(h:c<Y8 d t p):A83 (C6 d) t p c=A6:=(sR (n:=C6 d) (t:=t) (p:=p) (fN d) 0).2.2.1 c (Nat.zero_le _) h
def B5e{p:Nat}(h:Y8 d t p<fN d):A83 (C6 d) t p (Y8 d t p)=A5:=(sR (n:=C6 d) (t:=t) (p:=p) (fN d) 0).2.2.2 (by unfold Y8 at h;omega)
def B9t{p x:Nat}(h2:x<=fN d)(h3:∀ c,c<x->A83 (C6 d) t p c=A6)(h4:x<fN d->A83 (C6 d) t p x=A5):Y8 d t p=x :=
 C4G (Nat.zero_le _) (by omega) (λc _=>h3 c) (λh=>h4 (by omega))
def C6y{p:Nat}(hp:p<C6 d)(hk:k<C6 d)(hm:k%2 ^ Y8 d t p=p%2 ^ Y8 d t p):toX t k=toX t p:=by
 by_cases c:Y8 d t p<fN d
 ·exact (A45.1 (B5e c)).2 k hk hm
 ·have e:Y8 d t p=fN d:=by have:=B9s (d:=d) (t:=t) (p:=p);omega
  rw [e] at hm;unfold C6 at hp hk;rw [Nat.mod_eq_of_lt hp,Nat.mod_eq_of_lt hk] at hm;rw [hm]
def C7y{a b x:Nat}(h:c<=x)(hm:a%2 ^ x=b%2 ^ x):a%2 ^ c=b%2 ^ c:=by
 have hd:2 ^ c ∣ 2 ^ x:=Nat.pow_dvd_pow 2 h;rw [<-Nat.mod_mod_of_dvd a hd,<-Nat.mod_mod_of_dvd b hd,hm]
def D2D{n:Nat}{p:Nat}(hs:toX t k=toX t p)(hm:k%2 ^ c=p%2 ^ c):A83 n t k c=A83 n t p c:=by
 rw [Bool.eq_iff_iff,A45,A45,hs,hm]
def D2P{p:Nat}(hp:p<C6 d)(hk:k<C6 d)(hm:k%2 ^ Y8 d t p=p%2 ^ Y8 d t p):Y8 d t k=Y8 d t p:=by
 have hs:=C6y hp hk hm;refine B9t B9s (λc hc=>?_) (λh=>?_)
 ·rw [D2D hs (C7y (by omega) hm)];exact B3L hc
 ·rw [D2D hs hm];exact B5e h
def D61{α:Type}{p r:α -> Bool}:∀ {l:List α},(∀ x∈l,p x=A5->r x=A5)->(l.filter p).length<=(l.filter r).length
 | [],_=>by simp
 | y::l,h=>by
  have h1:=D61 (l:=l) λx hx=>h x (E7d _ hx)
  have h2:=h y (E7e ..);simp only [List.filter_cons];cases hy:p y with
  | true=>rw [h2 hy];simpa using h1
  | false=>cases r y<;>simp<;>omega
def D60{α:Type}{p r:α -> Bool}:∀ {l:List α},(∀ x∈l,p x=A5->r x=A5)->(l.filter p).length=(l.filter r).length->∀ x∈l,r x=p x
 | [],_,_,x,hx=>by cases hx
 | y::l,h,he,x,hx=>by
  have h':∀ x∈l,p x=A5->r x=A5:=λx hx=>h x (E7d _ hx)
  have h1:=D61 h';have h2:=h y (E7e ..);simp only [List.filter_cons] at he;have key:r y=p y/\(l.filter p).length=(l.filter r).length:=by
   cases hy:p y with
   | true =>
    rw [h2 hy];rw [hy,h2 hy] at he;exact ⟨rfl,by simpa using he⟩
   | false =>
    rw [hy] at he;cases hr:r y with
    | true=>rw [hr] at he;simp at he;omega
    | false=>rw [hr] at he;exact ⟨rfl,by simpa using he⟩
  rcases E7m.1 hx with e | hx
  ·subst e;exact key.1
  ·exact D60 h' key.2 x hx
def A1g{p:Nat}(hp:p<C6 d):B66 d t p=A5↔∀ k,k<C6 d->toX t k=toX t p->k%2 ^ Y8 d t p=p%2 ^ Y8 d t p:=by
 unfold B66;rw [decide_eq_true_eq];unfold Z5 yU;constructor
 ·intro he k hk hs;have:=D60 (p:=λk=>k%2 ^ Y8 d t p==p%2 ^ Y8 d t p) (r:=λk=>decide (toX t k=toX t p)) (l:=E7H (C6 d)) (λx hx h=>by
   rw [decide_eq_true_eq];exact C6y hp (List.mem_range.1 hx) (by simpa using h)) he k (List.mem_range.2 hk)
  rw [R9 hs] at this;simpa using this.symm
 ·intro h
  congr 1
  refine List.filter_congr λk hk=>?_
  have hk:=List.mem_range.1 hk;rw [Bool.eq_iff_iff,decide_eq_true_eq,beq_iff_eq];exact ⟨λhm=>C6y hp hk hm,λhs=>h k hk hs⟩
def gN:A02 t i=A5↔∀ k,k<i->toX t k≠toX t i:=by
 unfold A02;simp only [E7D,List.mem_range,E7Y,decide_eq_false_iff_not]
def A07:zD d t i=A5↔toX t i≠0/\B7X (toX t i)=A5/\(A02 t i=A5\/B66 d t i=A5):=by
 unfold zD;simp only [E66,E7Y,decide_eq_false_iff_not,E8r]
def D5R(hi:i<C6 d)(hk:zD d t i=A5):zD d (nH d t (C6 d)) i=A5:=by
 have hm:=U3 d;have hg:∀ k,toX (nH d t (C6 d)) k=if k<C6 d then zU d t k else 0:=λk=>A5K hm
 have hgi:toX (nH d t (C6 d)) i=toX t i:=by rw [hg,C4 hi];unfold zU;rw [hk];rfl
 obtain ⟨h1,h2,h3⟩:=A07.1 hk;have A2o:∀ k,toX (nH d t (C6 d)) k=toX t i->k<C6 d/\toX t k=toX t i:=by
  intro k he;rw [hg] at he;by_cases c:k<C6 d
  ·rw [C4 c] at he;unfold zU at he;cases ck:zD d t k with
   | true=>rw [ck] at he;exact ⟨c,he⟩
   | false=>rw [ck] at he;exact absurd he.symm h1
  ·rw [C5 c] at he;exact absurd he.symm h1
 rw [A07,hgi];refine ⟨h1,h2,?_⟩;rcases h3 with h3 | h3
 ·left
  rw [gN,hgi];intro k hki he;exact gN.1 h3 k hki (A2o k he).2
 ·right
  have hw:=(A1g hi).1 h3;have hsame:∀ k,k<C6 d->(toX (nH d t (C6 d)) k=toX t i↔toX t k=toX t i):=by
   intro k hkm;refine ⟨λhe=>(A2o k he).2,λhe=>?_⟩;have nF:=hw k hkm he;have hb:=D2P hi hkm nF;have:zD d t k=A5:=by
    rw [A07,he];refine ⟨h1,h2,.inr ((A1g hkm).2 λj hj hs=>?_)⟩;rw [hb,nF];exact hw j hj (hs.trans he)
   rw [hg,C4 hkm];unfold zU;rw [this];exact he
  have kM:∀ c,A83 (C6 d) (nH d t (C6 d)) i c=A83 (C6 d) t i c:=by
   intro c;rw [Bool.eq_iff_iff,A45,A45,hgi];exact ⟨λh=>⟨h.1,λk k1 k2=>(hsame k k1).1 (h.2 k k1 k2)⟩,λh=>⟨h.1,λk k1 k2=>(hsame k k1).2 (h.2 k k1 k2)⟩⟩
  have hb:Y8 d (nH d t (C6 d)) i=Y8 d t i :=
   B9t B9s (λc hc=>by rw [kM];exact B3L hc) (λh=>by rw [kM];exact B5e h)
  rw [A1g hi,hb,hgi];intro k hkm he;exact hw k hkm ((hsame k hkm).1 he)
def D8c(h:0<=d/\d<=5):A9o d (nH d t (C6 d))=d::nH d t (C6 d):=by
 have hm:=U3 d;unfold A9o;rw [C4 h]
 congr 1
 refine D3o hm (λi hi=>?_) (oY hm) (λi hi=>by rw [A5K hm,C5 (by omega)]);cases ck:zD d t i with
 | true =>
  have:=D5R hi ck;unfold zU;rw [this];rfl
 | false =>
  have e:toX (nH d t (C6 d)) i=0:=by rw [A5K hm,C4 hi];unfold zU;rw [ck];rfl
  unfold zU zD;rw [e];rfl
def D0a(d:Int)(t:List Int):∃ e u,A9o d t=e::u/\u.length=32/\A9o e u=e::u/\0<=e/\e<=5/\∀ i,toX u i=0\/toX u i=toX t i:=by
 have hm:=U3 d;by_cases h:0<=d/\d<=5
 ·refine ⟨d,nH d t (C6 d),by unfold A9o;rw [C4 h],oY hm,D8c h,h.1,h.2,λi=>?_⟩;rw [A5K hm];by_cases c:i<C6 d
  ·rw [C4 c];unfold zU;cases zD d t i
   ·exact .inl rfl
   ·exact .inr rfl
  ·rw [C5 c];exact .inl rfl
 ·refine ⟨0,zI 32,by unfold A9o;rw [C5 h],N7,by decide +kernel,by omega,by omega,λi=>.inl ?_⟩;unfold toX zI;rw [E67,List.getElem?_replicate];split<;>rfl
def C3S(h0:0<=d)(h5:d<=5)(h:A9o d t=d::t):A1b d t=A5:=by
 unfold A1b;rw [R9 h0,R9 h5,R9 h];rfl
def C2E:A1b d t=A5↔0<=d/\d<=5/\A9o d t=d::t:=by
 unfold A1b;simp only [E66,decide_eq_true_eq]
def C0c(hx:x≠0):∀ k,x∈J5 t k↔∃ j,j<k/\toX t j=x
 | 0=>by simp [J5]
 | k+1=>by
  rw [B5f,E7J,C0c hx k];constructor
  ·rintro (⟨j,h1,h2⟩ | h)
   ·exact ⟨j,by omega,h2⟩
   ·split at h
    ·simp at h;exact ⟨k,by omega,h.symm⟩
    ·cases h
  ·rintro ⟨j,h1,h2⟩;by_cases c:∃ j,j<k/\toX t j=x
   ·exact .inl c
   ·right
    have:j=k:=by
     by_cases e:j=k
     ·exact e
     ·exact absurd ⟨j,by omega,h2⟩ c
    subst this;have hb:yN t j=A5:=by
     unfold yN;rw [E66];refine ⟨by rw [h2];simp [hx],?_⟩;rw [gN];intro k hk he;exact c ⟨k,hk,he.trans h2⟩
    rw [C4 hb,h2];simp
def E2D(h:toX t i≠0):decide (toX t i∈J5 t i) = !A02 t i:=by
 cases c:A02 t i with
 | true =>
  rw [Bool.not_true,aC];rw [C0c h];rintro ⟨j,h1,h2⟩;exact gN.1 c j h1 h2
 | false =>
  rw [Bool.not_false,R9];rw [C0c h]
  false_or_by_contra
  rename_i hn;have:A02 t i=A5:=gN.2 λk hk he=>hn ⟨k,hk,he⟩
  rw [c] at this;cases this
def bU(at':Int->Int):Nat->Nat->List (Nat × Int)
 | 0,_=>[]
 | e+1,j=>if at' j=0 then bU at' e (j+1) else (j,at' j)::bU at' e (j+1)
def B0Z(at':Int->Int):∀ e j,(bU at' e j).length<=e
 | 0,j=>by simp [bU]
 | e+1,j=>by
  have:=B0Z at' e (j+1);unfold bU;split<;>simp<;>omega
def A9l{at':Int->Int}:∀ (e j:Nat) (p:Nat × Int),p∈bU at' e j->j<=p.1/\p.1<j+e/\p.2=at' p.1/\p.2≠0
 | 0,j,p,h=>by simp [bU] at h
 | e+1,j,p,h=>by
  rw [bU] at h;by_cases c:at' (j:Int)=0
  ·rw [C4 c] at h;have:=A9l e (j+1) p h;omega
  ·rw [C5 c] at h;rcases E7m.1 h with rfl | h
   ·exact ⟨E69 _,by dsimp only;omega,rfl,c⟩
   ·have:=A9l e (j+1) p h;omega
def C6K{σ:Type}{L:Nat->Val->A9->zQ}{C:Val->Val->A9->zQ}{x3 x4:Val}{n m k l s p:Int}{d:List Int}(hD:okD D)(hd:l_ d=7)(P:Nat -> σ -> A9->Prop)(step:σ -> Nat × Int -> σ)
  (hL:∀ m x h,L (m+1) x h=bnd (O0 .lss x (iV 134)) λv3=>cnd v3 (bnd (D3 h 4 x3) λv4=>bnd (D3 h 11 x4) λv5=>bnd (A8N [v4,v5,x] h) λp6=>bnd (O0 .neq p6.1 (iV 0)) λv7=>cnd v7 (bnd (C x p6.1 p6.2) λp8=>bnd (O0 .add x (iV 1)) λv9=>L m v9 p8.2) (bnd (O0 .add x (iV 1)) λv9=>L m v9 p6.2)) (C2N [] h))
  (hM:∀ j s' h,P j s' h->P (j+1) s' h)
  (hI:∀ j s' h,P j s' h->D3 h 4 x3=A4 (.a (vwC (l_ D) n m f))/\D3 h 11 x4=A4 (.a (C9 k l s p d))/\IsView h f D)
  (hC:∀ j s' h no,P j s' h->j<134->no≠0->no=atF D n k d (j:Nat)->∃ h',C (iV ((j:Nat):Int)) (iV no) h=A4 (.t [],h')/\P (j+1) (step s' (j,no)) h') :
  ∀ (e j M:Nat) (s':σ) (h:A9),j+e=134->e<M->P j s' h->∃ h',L M (iV (j:Int)) h=A4 (.t [],h')/\P 134 ((bU (atF D n k d) e j).foldl step s') h'
 | e,j,0,s',h,_,hm,_=>by omega
 | 0,j,M+1,s',h,hj,hm,hP=>by
  have c0:¬ (j:Int)<134:=by omega
  have e0:j=134:=by omega
  refine ⟨h,?_,e0 ▸ hP⟩;rw [hL];simp only [C7,G4,c0,decide_false,Y0];rfl
 | e+1,j,M+1,s',h,hj,hm,hP=>by
  have c0:(j:Int)<134:=by omega
  obtain ⟨i1,i2,i3⟩:=hI j s' h hP;have hA:=C6Z (n:=n) (m:=m) (k:=k) (l:=l) (s:=s) (p:=p) (j:=(j:Int)) hD hd i3;have w1:=E3 (a:=j) (by omega);rw [hL,bU];by_cases c:atF D n k d j=0
  ·obtain ⟨h',f1,f2⟩:=C6K hD hd P step hL hM hI hC e (j+1) M s' h (by omega) (by omega) (hM _ _ _ hP);rw [C4 c];refine ⟨h',?_,f2⟩;simp only [C7,G4,c0,decide_true,Y1,i1,i2,hA,c,B3J,ne_eq,eq_self,not_true_eq_false,decide_false,Y0,M7,w1];exact f1
  ·obtain ⟨h1,g1,g2⟩:=hC j s' h (atF D n k d j) hP (by omega) c rfl;obtain ⟨h',f1,f2⟩:=C6K hD hd P step hL hM hI hC e (j+1) M (step s' (j,atF D n k d j)) h1 (by omega) (by omega) g2;rw [C5 c];refine ⟨h',?_,f2⟩;simp only [C7,G4,c0,decide_true,Y1,i1,i2,hA,c,B3J,ne_eq,not_false_eq_true,g1,M7,w1];exact f1
def E3L(h:A9)(o:zQ)(l:List Int):Prop:=∃ v t,o=A4 (v,h++t)/\Has (h++t) v 1 (l_ l) (encI l)/\(t=[]/\v=.c .ns/\l=[]\/t=[rT (encI l)]/\v=sV (l_ h) 0 (l_ l) 1)
def E19{S:Fun}{R:Nat->Fun}{args:List Val}{g':A9}{N:Nat}{x:Cell}{l:List Int}
  (hlow:∀ {n:Nat} {args:List Val} {h h2:A9} {v:Val},R n args (ro h)=A4 (v,h2)->v.low (l_ h)=A5->S args h=A4 (v,h))
  (hout:∀ {n:Nat} {args:List Val} {h h2:A9} {v:Val} {sz k:Nat} {cs:List Cell},R n args (ro h)=A4 (v,h2)->Out (l_ h) h2 v sz k cs->O5 cs=A5->S args h=A4 (sV (l_ h) 0 k sz,h++[rT cs]))
  (he:R N args (ro h)=A4 (.c x,g')) (hd:C9p g' x l (l_ h) rs):E3L h (S args h) l:=by
 rcases hd with ⟨hl,rfl⟩ | ⟨id,rfl,hr,hbi,_⟩
 ·refine ⟨.c .ns,[],?_,?_,.inl ⟨rfl,rfl,hl⟩⟩
  ·rw [E7q];exact hlow he (by simp [Val.low,Cell.low,Cell.flat])
  ·rw [hl];exact .inl ⟨rfl,rfl,rfl⟩
 ·exact ⟨sV (l_ h) 0 (l_ l) 1,[rT (encI l)],hout he ⟨by rw [B9,E8i],id,rfl,hbi,hr⟩ (by simp),Has.row (rw:=A5) (by simp) (by rw [B9,E8i]) (A5B _),.inr ⟨rfl,rfl⟩⟩
def T2(s:Int):Int:=if s<1 then 0 else if 34304<s then 134 else (s+255)/256
end Go.Proofs.YtbipebfdappanaaGreat
