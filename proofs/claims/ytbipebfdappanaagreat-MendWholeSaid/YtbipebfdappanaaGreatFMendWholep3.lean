/- What the proof of this claim leans on, part 3. -/
import Derived.Test.YtbipebfdappanaaGreatFMendWholep2
set_option linter.all false
set_option maxRecDepth 100000
open Go Go.Esc
noncomputable section
open List renaming length->l_,all_cons->E9p,all_eq_true->E8O,append_assoc->E8t,append_nil->E8C,cons_append->E89,drop_eq_getElem_cons->E8s,drop_of_length_le->E8x,drop_zero->E8y,filter_append->E9x,filter_cons_of_neg->E9k,filter_cons_of_pos->E9l,flatten_cons->E9v,foldl_cons->E9q,getD_eq_getElem?_getD->E8k,getElem?_cons_succ->E8F,getElem?_cons_zero->E84,getElem?_eq_getElem->E8h,getElem?_eq_none->E8P,getElem?_eq_some_iff->E8p,getElem?_take_of_lt->E86,getElem_mem->E8M,length_append->E8o,length_cons->E8w,length_drop->E9u,length_filter_le->E9f,length_nil->E8X,length_replicate->E8S,length_set->E80,length_take->E8Y,map_append->E9e,map_cons->E9c,mem_append->E8U,mem_append_left->E8W,mem_append_right->E8V,mem_cons->E8J,mem_cons_of_mem->E8q,mem_cons_self->E8u,mem_filter->E8Z,mem_iff_getElem?->E9g,mem_range'_1->E9s,nil_append->E8I,range->E8T,range'->E8Q,replicate->E8l,replicate_succ->E81,set_append_right->E9a,set_cons_zero->E9A,take_of_length_le->E8B,take_succ_eq_append_getElem->E8R,take_zero->E9i
open Bool renaming and_eq_true->E8j,false_and->E8E,not_eq_true'->E9b,true_and->E8K,true_or->E9d,false->A6,true->A5
open Int renaming cast_ofNat_Int->E9B,toNat_natCast->E8D
open IntKind renaming wrap->E8r
open Nat renaming add_zero->E9y,le_refl->E8m,le_trans->E83,mul_one->E9w,sub_self->E9t,zero_add->E8A
open Option renaming bind_some->E8z,isSome_none->E9o,isSome_some->E87,map_some->E85,none->A7,some->A4
open Option.some renaming injEq->E8n
open Go.Proofs.Tryz renaming prog->A8
namespace Go.Proofs.YtbipebfdappanaaGreat
variable {h g B:A9}{t L:List Int}{d n p l m no x:Int}{b s:List UInt8}{k i q r sz nv e c r0:Nat}{D:Dev}{f:Cell}{v:Val}{rs:List Nat}{cs ys z c0:List Cell}{es:V8}
section
variable (n m m2:Nat) (a0 a1 x1 x3 x5 x14 x15:Val) (h:A9)
def B5G:FD A8:=⟨px 0X113027e4601343022e3b6c13b5e6e33f1c5611623ef22a261b0448839710004883c5d51d191192016d3026a4602e3b371100722401b1c19063581a0584b75870581e04a581f0110323a2a0196d4231329f128f2362a41b11c2801a282c1ff1b00103048818104881d71c01a1b19611d2016d302284602e3b37106224102202977032b4203112e21b250182,[],[],[.cellN 2 4,.tmp 3],[D8 A6M B3b]⟩
def D0k:=B5G.R
def A3R:=mR D0k B5G (tT []) n [a0] h
def B5J:=B5G.K Tryz.func7
def vO:=B5G.Q
def A30:OfT D0k vO:=B5J.of
def mU:FD A8:=⟨px 0X12af40301c190181391a0391e00391f038391f383970130619104291a2829701038043651f00062340422e253182,[],[.eqN A5 A5 (.t 6)],[.tmp 4],[]⟩
def xR:=mU.R
def B3H:=mR xR mU (tT []) n [a0,a1] h
def A6s:=mU.K Tryz.func101
def yK:=mU.S
def B1c:G0 xR yK:=A6s.flat
def A6k:FD A8:=⟨px 0X12184886048818044881d7164500221c31b17301c2,[],[],[.cellN 3 256],[]⟩
def B3F:=A6k.R
def C6m:=mR B3F A6k (tT []) n [a0,a1] h
def C3F:=A6k.K Tryz.func27
def A6Q:=A6k.S
def C2y:G0 B3F A6Q:=C3F.flat
def W5:FD A8:=⟨px 0X122a48860145f2e10432855020121a488601c3b21000322403f042031a1641842942031c41b422e219531c2,[],[],[.cellN 4 256],[D8 yK A6s,D8 A6Q C3F]⟩
def iG:=W5.R
def vC:K7:=W5.E
def A9e:TT:=⟨vC,[]⟩
def A4W:=mR iG W5 A9e n [a0,a1] h
def E5:=W5.K Tryz.func52
def D9:=W5.S
def A2U:G0 iG D9:=E5.flat
def mT:FD A8:=⟨px 0X126a1b65a1b3d1c21123cf13bf21b63b181b11e2801c3b2c3af2d0042234e1042134c15842e1c1b3842012481b603b3b211101322403f2e2a024f4241329f128f11ff5021e2811c2801a1f2c1ef1a004203381031802a1b2b1b1f1d1b01d23b41b422e219531c2,[],[],[.cellN 4 11],[D8 A3U B0q,D8 D9 E5,D8 A6O B3d]⟩
def mY:=mT.R
def A18:=mR mY mT (tT []) n [a0,a1] h
def J5:=mT.K Tryz.func15
def F9:=mT.S
def yJ:G0 mY F9:=J5.flat
def bB:FD A8:=⟨px 0X139f205c390250000027238f1f052a02218024886181a4881d042134a14e4183e13e2a071829f40412384215030702441340121494200605110292c1d033f3d41c20131cf30004881c6b04005028192b5720192014882481500622410320103031801852b42942034884a03a2342,[],[],[.tmp 2],[D8 cL gD,D8 D9 E5]⟩
def xQ:=bB.R
def A5V:AtH:=bB.lj 0 n [m] [x1,x3,x14,x15]
def A6S:=tT [⟨2,4,A5V⟩]
def B3G:=mR xQ bB A6S n [a0] h
def A0C:=mL bB A6S 0 n [m] [x1,x3,x14,x15] h
def A6r:=bB.K Tryz.func28
def yI:=bB.S
def B2O:A3Q xQ yI:=A6r.out
def T3:FD A8:=⟨px 0X12cf204a2c026000002722bf5053c02b4921802af3001813901011113e50022e12e161824103200790620350021a11e4181c63b427f4041244215011a07024313188901211d420060515011b418201314a174214a03a2342,[],[],[.tmp 2],[D8 F9 J5]⟩
def uG:=T3.R
def A3u:AtH:=T3.lj 0 n [m] [x1,x3,x5]
def B6H:AtH:=T3.lj 1 n [m] [x1,x3,x5]
def uQ:=tT [⟨2,3,A3u⟩,⟨2,3,B6H⟩]
def B2D:=mR uG T3 uQ n [a0] h
def zS:=mL T3 uQ 0 n [m] [x1,x3,x5] h
def zR:=mJ T3 uQ 1 n [m] [x1,x3,x5] h
def A4C:=T3.K Tryz.func85
def jX:=T3.S
def B1b:A3Q uG jX:=A4C.out
def qI:FD A8:=⟨px 0X13af40301c190423592f35e5970422592f01592f4e4593c01301c1901813b1a03b1e003b1f03a3b1f3a3b701306191042b1a2a2b7011022010303180652c01900063340422e253182,[],[],[.tmp 4],[D8 cL gD,D8 oD A0N,D8 D9 E5,D8 B3P C3y]⟩
def A0S:=qI.R
def B6l:=mR A0S qI (tT []) n [a0,a1] h
def A8I:=qI.K Tryz.func59
def A0X:=qI.S
def B2P:G0 A0S A0X:=A8I.flat
end
def IsView(h:A9)(f:Cell)(D:Dev):Prop:=∃ r q rw rw',f=.f 27 [(r,0)]/\rd h r=A4 ⟨[.sl q 0 (l_ D) 256],rw⟩/\rd h q=A4 ⟨E3 D,rw'⟩
def IsView.ro(hv:IsView h f D):IsView (ro h) f D:=by
 obtain ⟨r,q,rw,rw',e,h1,h2⟩:=hv;exact ⟨r,q,A6,A6,e,uD h1 rfl,uD h2 (dO D)⟩
def IsView.more(hv:IsView h f D)(l:A9):IsView (h++l) f D:=by
 obtain ⟨r,q,rw,rw',e,h1,h2⟩:=hv;exact ⟨r,q,rw,rw',e,B6 h1,B6 h2⟩
def IsView.since(hv:IsView g f D)(h1:Low (l_ g) g h):IsView h f D:=by
 obtain ⟨r,q,rw,rw',e,h2,h3⟩:=hv;exact ⟨r,q,rw,rw',e,h1.rd h2,h1.rd h3⟩
def IsView.get(hv:IsView h f D):∃ id cs,f=.f id cs:=by
 obtain ⟨r,q,rw,rw',e,_⟩:=hv;exact ⟨_,_,e⟩
def vwC(b n m:Int)(f:Cell):List Cell:=[cI b,cI n,.i .u64 m,f]
section
variable {D:Dev} {n m:Int} {f:Cell}
def C1w{b:Int}:ldN (rT (vwC b n m f)) 0 3=A4 (.a (L5 b n m)):=rfl
def B5A{b:Int}:ldN (rT (vwC b n m f)) 0 4=A4 (.a (vwC b n m f)):=rfl
end
def D3g{rw rw':Bool}{no:Nat}(hD:okD D)(Y8:no<l_ D)(h1:rd h r=A4 ⟨[.sl q 0 (l_ D) 256],rw⟩)(h2:rd h q=A4 ⟨E3 D,rw'⟩) :
  A6Q [iV (no:Int),pV r 0] h=A4 (.a (B4 D[no]),h):=by
 have key:∀ g rw rw',rd g r=A4 ⟨[.sl q 0 (l_ D) 256],rw⟩->rd g q=A4 ⟨E3 D,rw'⟩->∃ g',B3F 0 [iV (no:Int),pV r 0] g=A4 (.a (B4 D[no]),g'):=by
  intro g rw rw' h1 h2;have hz:(E8l 256 (Cell.i .u8 0)).length=256:=E8S;have hB:(B4 D[no]).length=256:=by rw [B5,hD.at Y8]
  have l1:B9 (g++[rT (E8l 256 (.i .u8 0))]) (pV r 0)=A4 (sV q 0 (l_ D) 256):=B8 (cs:=[.sl q 0 (l_ D) 256]) (B6 h1) rfl (by cases rw<;>rfl);have a1:F0 256 (sV q 0 (l_ D) 256) (iV (no:Int))=A4 (pV q (0+no*256)):=E4 Y8;have l2:C9 (g++[rT (E8l 256 (.i .u8 0))]) 256 (pV q (0+no*256))=A4 (.a (B4 D[no])):=by
   rw [S7 (cs:=E3 D) (rw:=rw') (B6 h2) (by rw [H9 hD];omega) (by
    rw [E8A,qS hD Y8,V6];simp),E8A,qS hD Y8]
  rw [E8A] at a1 l2;rw [C6m];generalize E8l 256 (Cell.i .u8 0)=z at *;generalize B4 D[no]=y at *;exact ⟨_,by simp only [esc,esh,l1,a1,l2,hz,hB]<;>rfl⟩
 obtain ⟨g',e⟩:=key (ro h) A6 A6 (uD h1 rfl) (uD h2 (dO D));exact C2y e (by simp [Val.flat])
def C99{b:Int}{f:Nat}{cs:List (Nat × Nat)}:yK [.a (vwC b n m (.f f cs)),iV no] h=A4 (bV (decide (0<=no)&&decide (no<b)),h):=by
 have key:∀ g,∃ g',xR 0 [.a (vwC b n m (.f f cs)),iV no] g=A4 (bV (decide (0<=no)&&decide (no<b)),g'):=by
  intro g;rw [B3H];unfold vwC;by_cases c1:0<=no
  ·exact ⟨_,by simp only [esc,esh,c1]<;>rfl⟩
  ·exact ⟨_,by simp only [esc,esh,c1,E8E]<;>rfl⟩
 obtain ⟨g',e⟩:=key (ro h);exact B1c e rfl
def K8(hD:okD D)(hv:IsView h f D):D9 [.a (vwC (l_ D) n m f),iV no] h=A4 (.a (B4 (blk D no)),h):=by
 have key:∀ g,IsView g f D->∃ g',iG 0 [.a (vwC (l_ D) n m f),iV no] g=A4 (.a (B4 (blk D no)),g'):=by
  intro g hv;have hz:(B4 (zeros 256)).length=256:=by rw [B5];exact zeros_length
  have hB:(B4 (blk D no)).length=256:=by rw [B5,J6 hD]
  obtain ⟨r,q,rw',rw'',rfl,h1,h2⟩:=hv;have hT:=λh=>C99 (b:=l_ D) (n:=n) (m:=m) (no:=no) (f:=27) (cs:=[(r,0)]) (h:=h)
  have hcv:∀ (x:Val) (h:A9),aQ vC (.c (.f 27 [(r,0)])) [x] h=A6Q [x,pV r 0] h:=λ_ _=>Eq.trans rfl rfl
  rw [A4W,G9];by_cases c1:0<=no/\no<(l_ D)
  ·have c2:=c1.1;have c3:=c1.2;obtain ⟨k,rfl⟩:∃ k:Nat,no=k:=⟨no.toNat,by omega⟩;have e1:=B4e (D:=D) (i:=k) (by omega);have hO:=D3g (h:=g++[rT (vwC (l_ D) n m (.f 27 [(r,0)])),rT (B4 (zeros 256))]) hD (show k<(l_ D) by omega) (B6 h1) (B6 h2);rw [<-e1] at hO;simp only [c2,c3,decide_true,Bool.and_self] at hT;generalize B4 (zeros 256)=z at *;generalize B4 (blk D k)=y at *;unfold vwC at *;exact ⟨_,by simp only [esc,esh,Nat.reduceAdd,hT,hcv,hO,hz,hB]<;>rfl⟩
  ·have e1:=E0Y (D:=D) (i:=no) (by omega);have ht:(decide (0<=no)&&decide (no<(l_ D:Int)))=A6:=by
    rw [Bool.and_eq_false_iff,decide_eq_false_iff_not,decide_eq_false_iff_not];omega
   simp only [ht] at hT;rw [e1] at hB ⊢;have ef:F6 (B4 (zeros 256)) []=A4 (B4 (zeros 256)):=rfl;generalize B4 (zeros 256)=z at *;unfold vwC at *;exact ⟨_,by simp only [esc,esh,Nat.reduceAdd,hT,ef,hz]<;>rfl⟩
 obtain ⟨g',e⟩:=key (ro h) hv.ro;exact A2U e (by simp [Val.flat])
def D19{id m:Nat}{y:Val}(hr:rd h id=rT [])(hy:Has h y sz m ys)(hsz:0<sz)(hn:m<=1073741824) :
  uR h sz (sV id 0 0 sz) y=A4 (sV (l_ h) 0 m sz,h.set id A7++[rT ys]):=by
 have h1:=hy.add;have h2:l_ ys/sz=m:=by rw [hy.length];exact Nat.mul_div_cancel m hsz
 simp only [uR,h1,hr,E8z,h2,E8I,E8A];rw [C4 ⟨trivial,trivial,by simp,trivial,hn⟩]
def A9z(D:Dev):Bool:=okS (D.headD [])&&decide (fieldN (D.headD []) 8 2=l_ D)
def uW(D:Dev):Int:=fieldN (D.headD []) 10 2
def C7j(D:Dev):Int:=fieldN (D.headD []) 12 8
def D5W(hv:Has h v 256 0 []):∃ t,vO [v] h=A4 (.t [.a (vwC 0 0 0 .nf),.c (cI 13)],h++t):=by
 have ef:F6 [o0,o0,.i .u64 0,.nf] []=A4 [o0,o0,.i .u64 0,.nf]:=rfl;have hl:=hv.len;rw [show ((0:Nat):Int)=0 from rfl] at hl;exact ⟨_,A30 (n:=0) (by rw [A3R];simp only [esc,esh,Nat.reduceAdd,hl,ef,vwC]<;>rfl)⟩
def E3Z(h:okS b=A6):D2C b=L5 0 0 0:=by unfold D2C;rw [h];rfl
def D78(h:okS b=A5):D2C b=L5 (fieldN b 8 2) (fieldN b 10 2) (fieldN b 12 8):=by unfold D2C;rw [h];rfl
def D7F(hv:Has h v 256 (l_ D) (E3 D))(hD:okD D)(h0:0<l_ D)(hn:A9z D=A6):∃ t,vO [v] h=A4 (.t [.a (vwC 0 0 0 .nf),.c (cI 13)],h++t):=by
 have ef:F6 [o0,o0,.i .u64 0,.nf] []=A4 [o0,o0,.i .u64 0,.nf]:=rfl;have hl:=hv.len;have hv2:=hv.more [rT [o0,o0,.i .u64 0,.nf]];obtain ⟨b,E,rfl⟩:∃ b E,D=b::E:=by cases D with | nil=>simp at h0 | cons b E=>exact ⟨b,E,rfl⟩
 obtain ⟨id,off,rfl,hid,_,hB⟩:=hv2.sl h0;have hBl:(B4 b).length=256:=by rw [B5,hD.cons.1]
 have l2:=hB 0 256 (by rw [H9 hD];omega);have ec:((E3 (b::E)).drop 0).take 256=B4 b:=by
  have:=qS (i:=0) hD h0
  rwa [Nat.zero_mul] at this
 rw [ec,E9y] at l2;have a1:F0 256 (sV id off (b::E).length 256) (iV 0)=A4 (pV id off):=by
  have:=E4 (k:=.i64) (id:=id) (off:=off) (sz:=256) (j:=0) (len:=(b::E).length) h0
  rwa [Nat.zero_mul,E9y] at this
 have hG:=λh=>B1V (h:=h) hD.cons.1
 have c0:¬ (((b::E).length:Nat):Int)=0:=by omega
 have n13:¬ (13:Int)=0:=by decide
 unfold A9z at hn;simp only [List.headD_cons] at hn;cases ho:okS b with
 | false =>
  simp only [ho,E3Z ho,bZ] at hG;refine ⟨[rT [o0,o0,.i .u64 0,.nf],rT [o0,o0,.i .u64 0]],A30 (n:=0) ?_⟩;rw [A3R];generalize (b::E).length=N at *;generalize B4 b=y at *;unfold L5 at *;simp only [esc,esh,Nat.reduceAdd,ef,vwC,l2,a1,hG,n13,eq_self,c0]<;>rfl
 | true =>
  rw [ho,E8K] at hn
  replace hn:=of_decide_eq_false hn
  simp only [ho,D78 ho,S8] at hG;refine ⟨[rT [o0,o0,.i .u64 0,.nf],rT [cI (fieldN b 8 2),cI (fieldN b 10 2),.i .u64 (fieldN b 12 8)]],A30 (n:=0) ?_⟩;rw [A3R];generalize (b::E).length=N at *;generalize B4 b=y at *;generalize fieldN b 8 2=n1 at *;unfold L5 at *;simp only [esc,esh,Nat.reduceAdd,ef,vwC,l2,a1,hG,eq_self,c0,hn]<;>rfl
def D5V(hv:Has h v 256 (l_ D) (E3 D))(hD:okD D)(hn:A9z D=A6):∃ t,vO [v] h=A4 (.t [.a (vwC 0 0 0 .nf),.c (cI 13)],h++t):=by
 by_cases h0:D=[]
 ·subst h0;exact D5W hv
 ·exact D7F hv hD (List.length_pos_iff.2 h0) hn
def B8Y(hv:Has h v 256 (l_ D) (E3 D))(hD:okD D)(hn:A9z D=A5)(h60:l_ D<=1073741824) :
  ∃ f t,vO [v] h=A4 (.t [.a (vwC (l_ D) (uW D) (C7j D) f),.c o0],h++t)/\IsView (h++t) f D:=by
 obtain ⟨b,E,rfl⟩:∃ b E,D=b::E:=by
  cases D with
  | nil=>simp only [A9z,List.headD_nil,E8X,E8j] at hn;exact absurd hn.1 (by decide)
  | cons b E=>exact ⟨b,E,rfl⟩
 have h0:0<(b::E).length:=by simp
 have hv2:=hv.more [rT [o0,o0,.i .u64 0,.nf]];unfold A9z at hn;simp only [List.headD_cons,E8j] at hn;have ho:=hn.1;have hn2:=of_decide_eq_true hn.2;have hv3:=hv.more [rT [o0,o0,.i .u64 0,.nf],rT (L5 (b::E).length (fieldN b 10 2) (fieldN b 12 8)),rT []];obtain ⟨id,off,rfl,hid,_,hB⟩:=hv2.sl h0;have hBl:(B4 b).length=256:=by rw [B5,hD.cons.1]
 have l2:=hB 0 256 (by rw [H9 hD];omega);have ec:((E3 (b::E)).drop 0).take 256=B4 b:=by
  have:=qS (i:=0) hD h0
  rwa [Nat.zero_mul] at this
 rw [ec,E9y] at l2;have a1:F0 256 (sV id off (b::E).length 256) (iV 0)=A4 (pV id off):=by
  have:=E4 (k:=.i64) (id:=id) (off:=off) (sz:=256) (j:=0) (len:=(b::E).length) h0
  rwa [Nat.zero_mul,E9y] at this
 have hG:=λh=>B1V (h:=h) hD.cons.1
 have c0:¬ (((b::E).length:Nat):Int)=0:=by omega
 have n13:¬ (13:Int)=0:=by decide
 simp only [ho,D78 ho,S8,hn2] at hG;have eN:uW (b::E)=fieldN b 10 2:=rfl;have eM:C7j (b::E)=fieldN b 12 8:=rfl;have hA:=D19 (id:=l_ h+2) (by simp) hv3 (by omega) h60;have ef1:F6 ([]:List Cell) []=A4 []:=rfl;have W4:id<(l_ h):=by
  rcases hv with ⟨e,_⟩ | ⟨i,o,r,e,hr,_⟩
  ·cases e
  ·cases e;exact E1 hr
 rw [eN,eM];unfold IsView;generalize E3 (b::E)=C at *;have emk:A32 27 [pV (l_ h+4) 0]=A4 (.c (.f 27 [(l_ h+4,0)])):=rfl;refine ⟨.f 27 [(l_ h+4,0)],[rT (vwC (b::E).length (fieldN b 10 2) (fieldN b 12 8) (.f 27 [(l_ h+4,0)])),rT (L5 (b::E).length (fieldN b 10 2) (fieldN b 12 8)),A7,rT C,rT [.sl (l_ h+3) 0 (b::E).length 256]],A30 (n:=0) ?_,l_ h+4,l_ h+3,A5,A5,rfl,gP,gP⟩;rw [A3R];generalize (b::E).length=N at *;generalize B4 b=y at *;generalize fieldN b 10 2=n1 at *;generalize fieldN b 12 8=n2 at *;have ef2:∀ x,F6 [o0,o0,.i .u64 0,.nf] [(0,3,.a [cI (N:Int),cI n1,.i .u64 n2]),(3,1,.c x)]=A4 [cI (N:Int),cI n1,.i .u64 n2,x]:=λ_=>rfl
 unfold L5 vwC at *;simp only [esc,esh,Nat.reduceAdd] at hA;simp only [esc,esh,Nat.reduceAdd,Nat.reduceLT,l2,a1,hG,eq_self,c0,hA,ef1,ef2,emk]<;>rfl
section
variable (n m m2:Nat) (a0 a1:Val) (h:A9)
def wX:FD A8:=⟨px 0X118f20306191889011b1a71b701104261700523201042,[],[],[.tmp 2],[]⟩
def A4U:=wX.R
def B9s:=mR A4U wX (tT []) n [a0] h
def B29:=wX.K Tryz.func138
def A5b:=wX.S
def B6x:G0 A4U A5b:=B29.flat
def A3K:FD A8:=⟨px 0X11bf401906313019622811c488181c50201140160000722403f010318131f4203140422e253182,[],[],[.tmp 4],[D8 A5b B29,D8 A2e A8G]⟩
def B0Q:=A3K.R
def C4X:=mR B0Q A3K (tT []) n [a0,a1] h
def A3P:=A3K.K Tryz.func96
def qP:=A3K.S
def C5e:SOk A8 96 qP:=A3P.sok
def B9V:G0 B0Q qP:=A3P.flat
end
def ptP(b:List UInt8)(i:Nat):Int:=fieldN b (2*i) 2
def C5t(hk:k<128):A5b [iV k] h=A4 (bV A5,h):=by
 have key:∀ g,∃ g',A4U 0 [iV k] g=A4 (bV A5,g'):=by
  intro g;have c1:(0:Int)<=k:=by omega
  have c2:(k:Int)<128:=by omega
  rw [B9s];exact ⟨_,by simp only [esc,c1,c2]<;>rfl⟩
 obtain ⟨g',e⟩:=key (ro h);exact B6x e rfl
def E6m(hb:l_ b=256)(hi:i<128):((atN b ((2*i:Nat):Int) 2:Nat):Int)=ptP b i:=by
 unfold atN ptP fieldN;rw [C4 ⟨by omega,Y7.2 (by omega)⟩];simp only [E8D];rfl
def E27(hi:i<128):E8r .i64 (2*(i:Int))=((2*i:Nat):Int):=by rw [wrap_i64 (by omega) (by omega)];omega
def A8v(hb:l_ b=256)(hk:k<128):qP [.a (B4 b),iV k] h=A4 (iV (ptP b k),h):=by
 have key:∀ g,∃ g',B0Q 0 [.a (B4 b),iV k] g=A4 (iV (ptP b k),g'):=by
  intro g;have hB:(B4 b).length=256:=by rw [B5,hb]
  have hT:=λh=>C5t (h:=h) hk
  have hA:=λh=>rA (h:=h) hb (a:=((2*k:Nat):Int)) (w:=2)
  rw [E6m hb hk] at hA;rw [C4X];exact ⟨_,by simp only [esc,esh,hB,hT,E27 hk,hA]<;>rfl⟩
 obtain ⟨g',e⟩:=key (ro h);exact B9V e rfl
def zI(n:Nat):List Int:=E8l n 0
def N5{n:Nat}:(zI n).length=n:=by simp [zI]
abbrev D1(k l s p:Int)(d:List Int):List Cell:=cI k::cI l::cI s::cI p::encI d
def V7(n:Int):Bool:=decide (0<=n)&&decide (n<=65535)
def A7k:V7 n=A5↔0<=n/\n<=65535:=by unfold V7;simp
def aT:A75 [iV n] h=A4 (bV (V7 n),h):=by
 refine B8b (n:=0) (h2:=ro h) ?_ rfl;rw [C1U];unfold V7;by_cases c:0<=n
 ·simp only [esc,c,E8K]
 ·simp only [esc,c,E8E]
def B2l:yF [iV n] h=A4 (iV (if n<1 then 0 else if 34304<n then 134 else (n+255)/256),h):=by
 refine B6w (n:=0) (h2:=ro h) ?_ rfl;rw [B9q];by_cases c1:n<1
 ·rw [C4 c1];simp only [esc,c1]
 ·rw [C5 c1];by_cases c2:34304<n
  ·rw [C4 c2];simp only [esc,c1,c2]
  ·rw [C5 c2];have e1:E8r .i64 (n+256)=n+256:=wrap_i64 (by omega) (by omega);have e2:E8r .i64 (n+256-1)=n+255:=by rw [wrap_i64 (by omega) (by omega)];omega
   simp only [esc,c1,c2,e1,e2,B1M (a:=n+255) (b:=256) (by omega) (by omega) (by omega)]
def C03{g:A9}{k l s p:Int}{d:List Int}{q:Nat}(hd:l_ d=7)(hz:z.length=7):∀ e i m:Nat,i+e=6->e<m ->
  A9S q m (pV (l_ g) 0) (pV (l_ g+1) 0) (pV (l_ g+2) 0) (.a (encI (d.take 6))) (iV i) (g++[rT (D1 k l s p d),rT z,rT (encI (d.take i++zI (7-i)))]) =
   A4 (.a (encI d),g++[rT (D1 k l s p d),rT (encI d),rT (encI d)])
 | e,i,0,_,hm=>by omega
 | 0,i,m+1,hi,hm=>by
  have e0:i=6:=by omega
  subst e0;have h1':¬ ((6:Nat):Int)<6:=by omega
  have l1:(D1 k l s p d)[10]?=A4 (cI d[6]):=by
   have:(encI d)[6]?=A4 (cI d[6]):=by rw [G6,E8h (by omega)];rfl
   exact this
  have a1:K2 7 1 (pV (l_ g+2) 0) (iV 6)=A4 (pV (l_ g+2) 6):=rfl;have ho:6<(encI (d.take 6++zI (7-6))).length:=by rw [C1,E8o,N5,E8Y];omega
  have es:(encI (d.take 6++zI (7-6))).set 6 (cI d[6])=encI d:=by
   rw [zH]
   congr 1
   have h6:(d.take 6).length=6:=by simp;omega
   rw [E9a _ _ (by omega),h6];have:d=d.take 6++[d[6]]:=by
    rw [<-E8R (by omega),E8B (by omega)]
   conv=>rhs;rw [this]
   rfl
  have hl:(encI d).length=7:=by rw [C1,hd]
  rw [A3o];simp only [esc,esh,h1',l1,a1,ho,es,hl,hz]
 | e+1,i,m+1,hi,hm=>by
  have ih:=C03 (g:=g) (k:=k) (l:=l) (s:=s) (p:=p) (q:=q) hd hz e (i+1) m (by omega) (by omega);have h1':(i:Int)<6:=by omega
  have hx:A5j 6 (.a (encI (d.take 6))) (iV (i:Int))=A4 (iV d[i]):=by
   rw [B4S (by omega),G6,E86 (by omega),E8h (by omega)];rfl
  have a1:K2 7 1 (pV (l_ g+2) 0) (iV (i:Int))=A4 (pV (l_ g+2) i):=by rw [O2 (by omega)];simp
  have ho:i<(encI (d.take i++zI (7-i))).length:=by rw [C1,E8o,N5,E8Y];omega
  have es:(encI (d.take i++zI (7-i))).set i (cI d[i])=encI (d.take (i+1)++zI (7-(i+1))):=by
   rw [zH];refine congrArg encI ?_;have h6:(d.take i).length=i:=by simp;omega
   rw [E9a _ _ (by omega),h6,E9t,E8R (by omega),E8t];refine congrArg (d.take i ++ ·) ?_;rw [show 7-i=7-(i+1)+1 by omega];unfold zI;rw [E81,E9A];rfl
  rw [A3o];simp only [esc,esh,h1',hx,a1,ho,es,E2 (a:=i) (by omega)];exact ih
def E3V{k s:Int}{d:List Int}(hd:l_ d=7):ldN (rT (D1 k l s p d)) 4 6=A4 (.a (encI (d.take 6))):=by
 have h1:(D1 k l s p d).length=11:=by simp [C1,hd]
 simp only [ldN,E8z];rw [C4 ⟨by omega,by simp⟩];simp only [List.drop_succ_cons,E8y];unfold encI;rw [List.map_take]
def qU{k s:Int}{d:List Int}(hd:l_ d=7):eX [.a (D1 k l s p d)] h=A4 (.a (encI d),h):=by
 have key:∀ N,7<N->∀ g,∃ g',A2S N [.a (D1 k l s p d)] g=A4 (.a (encI d),g'):=by
  intro N hN g;have:=C03 (g:=g) (k:=k) (l:=l) (s:=s) (p:=p) (z:=encI (zI 7)) (q:=N) hd (by rw [C1,N5]) 6 0 N (by omega) (by omega);have e0:encI (d.take 0++zI (7-0))=[o0,o0,o0,o0,o0,o0,o0]:=rfl;have e1:encI (zI 7)=[o0,o0,o0,o0,o0,o0,o0]:=rfl;rw [e0,e1] at this;rw [B7R];exact ⟨_,by simp only [esc,esh,Nat.reduceAdd,E3V hd];exact this⟩
 obtain ⟨g',e⟩:=key (l_ h+8) (by omega) (ro h);exact B3Y e (by simp)
def D1Q(l s p:Int)(d:List Int):Bool:=decide (l=0/\s=0/\p=0/\d=zI 7)
def C1g(k l s p:Int)(d:List Int):Bool:=decide (0<=k/\k<=2)&&(V7 l&&(V7 p&&(decide (0<=s/\s<=34304)&&d.all V7)))
def A5J(k l s p:Int)(d:List Int):Bool:=if k=0 then D1Q l s p d else C1g k l s p d
def C30{h:A9}{d:List Int}{q:Nat}(hd:l_ d=7):∀ e i m:Nat,i+e=7->e<m ->
  B40 q m (.a (encI d)) (iV i) h=A4 (iV (bif (d.drop i).all V7 then 0 else 1),h)
 | e,i,0,_,hm=>by omega
 | 0,i,m+1,hi,hm=>by
  have c0:¬ (i:Int)<7:=by omega
  rw [A7h,E8x (by omega)];simp only [esc,c0]
 | e+1,i,m+1,hi,hm=>by
  have ih:=C30 (h:=h) (q:=q) hd e (i+1) m (by omega) (by omega);have c0:(i:Int)<7:=by omega
  have hx:A5j 7 (.a (encI d)) (iV (i:Int))=A4 (iV d[i]):=by
   rw [B4S (by omega),G6,E8h (by omega)];rfl
  rw [A7h,E8s (by omega),E9p];cases c1:V7 d[i] with
  | true =>
   simp only [esc,c0,hx,aT,c1,E8K,E2 (a:=i) (by omega)];exact ih
  | false=>simp only [esc,c0,hx,aT,c1,E8E]
def E3g{k s k' l' s' p':Int}{d d':List Int}{neg:Bool}(hd:l_ d=7)(hd':d'.length=7) :
  aeq neg [Sh.i .i64,.i .i64,.i .i64,.i .i64,.i .i64,.i .i64,.i .i64,.i .i64,.i .i64,.i .i64,.i .i64] (.a (D1 k l s p d)) (.a (D1 k' l' s' p' d'))=A4 (bV (bif neg then !decide (k::l::s::p::d=k'::l'::s'::p'::d') else decide (k::l::s::p::d=k'::l'::s'::p'::d'))):=by
 have h1:=D55 (l:=k::l::s::p::d) (m:=k'::l'::s'::p'::d') (n:=11) (by simp [hd]) (by simp [hd']);have h2:=C6L (l:=k::l::s::p::d) (m:=k'::l'::s'::p'::d') (n:=11) (by simp [hd]) (by simp [hd']);cases neg
 ·exact h2
 ·exact h1
def E29{s:Int}{d:List Int}:decide ((0:Int)::l::s::p::d=0::0::0::0::zI 7)=D1Q l s p d:=by
 unfold D1Q;simp
def C2A:F6 [o0,o0,o0,o0,o0,o0,o0,o0,o0,o0,o0] []=A4 (D1 0 0 0 0 (zI 7)):=rfl
def B4Z{k s:Int}{d:List Int}(hd:l_ d=7):A73 [.a (D1 k l s p d)] h=A4 (iV (bif A5J k l s p d then 0 else 1),h):=by
 have hlen:(D1 k l s p d).length=11:=by simp [C1,hd]
 have key:∀ N,8<N->∀ g,∃ g',A7N N [.a (D1 k l s p d)] g=A4 (iV (bif A5J k l s p d then 0 else 1),g'):=by
  intro N hN g;have lp:=λg=>C30 (h:=g) (q:=N) hd 7 0 N (by omega) (by omega)
  simp only [E8y,E9B] at lp;rw [C1S];unfold A5J;by_cases k0:k=0
  ·subst k0;rw [C4 rfl];have c1:¬ (0:Int)<0:=by omega
   have c2:¬ (2:Int)<0:=by omega
   have hq:=E3g (k:=0) (l:=l) (s:=s) (p:=p) (k':=0) (l':=0) (s':=0) (p':=0) (neg:=A5) hd (N5 (n:=7));simp only [S8,E29] at hq;cases hz:D1Q l s p d with
   | false =>
    rw [hz] at hq;exact ⟨_,by simp only [esc,esh,c1,c2,hlen,C2A,hq]<;>rfl⟩
   | true =>
    rw [hz] at hq;have hz':=of_decide_eq_true hz;obtain ⟨rfl,rfl,rfl,rfl⟩:=hz';have sm:V7 0=A5:=by decide
    have al:(zI 7).all V7=A5:=by decide
    have c3:¬ (34304:Int)<0:=by omega
    rw [al] at lp;exact ⟨_,by simp only [esc,esh,c1,c2,c3,hlen,C2A,hq,aT,sm,qU hd,lp]<;>rfl⟩
  ·rw [C5 k0];unfold C1g;by_cases c1:k<0
   ·rw [W3 (show ¬ (0<=k/\k<=2) by omega)];exact ⟨_,by simp only [esc,esh,c1,E8E]<;>rfl⟩
   ·by_cases c2:2<k
    ·rw [W3 (show ¬ (0<=k/\k<=2) by omega)];exact ⟨_,by simp only [esc,esh,c1,c2,E8E]<;>rfl⟩
    ·rw [O4 (show 0<=k/\k<=2 by omega),E8K];cases sl:V7 l with
     | false=>exact ⟨_,by simp only [esc,esh,c1,c2,k0,aT,sl,E8E]<;>rfl⟩
     | true =>
      cases sp:V7 p with
      | false=>exact ⟨_,by simp only [esc,esh,c1,c2,k0,aT,sl,sp,E8K,E8E]<;>rfl⟩
      | true =>
       by_cases c3:s<0
       ·rw [W3 (show ¬ (0<=s/\s<=34304) by omega)];exact ⟨_,by simp only [esc,esh,c1,c2,k0,aT,sl,sp,c3,E8K,E8E]<;>rfl⟩
       ·by_cases c4:34304<s
        ·rw [W3 (show ¬ (0<=s/\s<=34304) by omega)];exact ⟨_,by simp only [esc,esh,c1,c2,k0,aT,sl,sp,c3,c4,E8K,E8E]<;>rfl⟩
        ·rw [O4 (show 0<=s/\s<=34304 by omega)];exact ⟨_,by simp only [esc,esh,c1,c2,k0,aT,sl,sp,c3,c4,E8K,hlen,qU hd,lp]<;>rfl⟩
 obtain ⟨g',e⟩:=key (l_ h+9) (by omega) (ro h);exact B79 e rfl
def A59(k l s p:Int):List UInt8:=D6 1 k++zeros 1++D6 2 l++D6 4 s++D6 2 p
def tJ(d:List Int):List UInt8:=(d.map (D6 2)).flatten
def cZ(k l s p:Int)(d:List Int):List UInt8:=A59 k l s p++tJ d++zeros 8
def pI{k s:Int}:(A59 k l s p).length=10:=by simp [A59]
def vV{d:List Int}:(tJ d).length=2*(l_ d):=by
 unfold tJ
 induction d with
 | nil=>rfl
 | cons x d ih=>simp only [E9c,E9v,E8o,R4,E8w,ih];omega
def A2x{k s:Int}{d:List Int}(hd:l_ d=7):(cZ k l s p d).length=32:=by
 unfold cZ;rw [E8o,E8o,pI,vV,zeros_length,hd]
def D9m{d:List Int}:tJ (d++[x])=tJ d++D6 2 x:=by simp [tJ]
def D9n{k s:Int}:kV (kV (kV (kV (zeros 256) 0 1 k) 2 2 l) 4 4 s) 8 2 p=R2 256 (A59 k l s p):=by
 rw [<-E2q];have h1:=lU (l:=[]) (a:=0) (w:=1) (v:=k) (by simp) (by omega) (by omega) (by omega);have h2:=lU (l:=[]++zeros (0-0)++D6 1 k) (a:=2) (w:=2) (v:=l) (by simp) (by omega) (by omega) (by omega);have h3:=lU (l:=[]++zeros (0-0)++D6 1 k++zeros 1++D6 2 l) (a:=4) (w:=4) (v:=s) (by simp) (by omega) (by omega) (by omega);have h4:=lU (l:=[]++zeros (0-0)++D6 1 k++zeros 1++D6 2 l++zeros 0++D6 4 s) (a:=8) (w:=2) (v:=p) (by simp) (by omega) (by omega) (by omega);simp only [E8o,E8X,zeros_length,R4,E9t,Nat.reduceAdd,Nat.reduceSub] at h1 h2 h3 h4;simp only [E9B] at h1 h2 h3 h4;rw [h1,h2,h3,h4]
 congr 1
def D5h{g:A9}{c0:List Cell}{B:List UInt8}{q:Nat}(hB:l_ B=256)(hz:z.length=32):∀ e i m:Nat,i+e=32->e<m ->
  C0G q m (pV (l_ g+1) 0) (pV (l_ g+2) 0) (pV (l_ g+3) 0) (iV i) (g++[rT c0,rT z,rT (B4 (B.take i++zeros (32-i))),rT (B4 B)]) =
   A4 (.t [.a (B4 (B.take 32)),.c o0],g++[rT c0,rT (B4 (B.take 32)),rT (B4 (B.take 32)),rT (B4 B)])
 | e,i,0,_,hm=>by omega
 | 0,i,m+1,hi,hm=>by
  have e0:i=32:=by omega
  subst e0;have h1':¬ ((32:Nat):Int)<32:=by omega
  have hl:(B4 (B.take 32)).length=32:=by rw [B5,E8Y];omega
  have e1:B4 (B.take 32++zeros (32-32))=B4 (B.take 32):=by simp [zeros]
  rw [B2o,e1];simp only [esc,esh,h1',hl,hz]
 | e+1,i,m+1,hi,hm=>by
  have ih:=D5h (g:=g) (c0:=c0) (q:=q) hB hz e (i+1) m (by omega) (by omega);have h1':(i:Int)<32:=by omega
  have a1:K2 256 1 (pV (l_ g+3) 0) (iV (i:Int))=A4 (pV (l_ g+3) i):=by rw [O2 (by omega)];simp
  have a2:K2 32 1 (pV (l_ g+2) 0) (iV (i:Int))=A4 (pV (l_ g+2) i):=by rw [O2 (by omega)];simp
  have l1:(B4 B)[i]?=A4 (.i .u8 B[i].toNat):=by rw [zG,E8h (by omega)];rfl
  have ho:i<(B4 (B.take i++zeros (32-i))).length:=by rw [B5,E8o,zeros_length,E8Y];omega
  have es:(B4 (B.take i++zeros (32-i))).set i (.i .u8 B[i].toNat)=B4 (B.take (i+1)++zeros (32-(i+1))):=by
   rw [oZ];refine congrArg B4 ?_;have h6:(B.take i).length=i:=by simp;omega
   rw [E9a _ _ (by omega),h6,E9t,E8R (by omega),E8t];refine congrArg (B.take i ++ ·) ?_;rw [show 32-i=32-(i+1)+1 by omega];unfold zeros;rw [E81,E9A];rfl
  rw [B2o];simp only [esc,esh,h1',a1,a2,l1,ho,es,E2 (a:=i) (by omega)];exact ih
def D5i{g:A9}{k l s p:Int}{d:List Int}{c0 z:List Cell}{q:Nat}(hd:l_ d=7)(hz:z.length=32)(hq:33<q):∀ e i m:Nat,i+e=7->e<m ->
  C0F q m (pV (l_ g+1) 0) (pV (l_ g+2) 0) (pV (l_ g+3) 0) (.a (encI d)) (iV i) (g++[rT c0,rT z,rT (B4 (zeros 32)),rT (B4 (R2 256 (A59 k l s p++tJ (d.take i))))]) =
   A4 (.t [.a (B4 (cZ k l s p d)),.c o0],g++[rT c0,rT (B4 (cZ k l s p d)),rT (B4 (cZ k l s p d)),rT (B4 (R2 256 (A59 k l s p++tJ d)))])
 | e,i,0,_,hm=>by omega
 | 0,i,m+1,hi,hm=>by
  have e0:i=7:=by omega
  subst e0;have h1':¬ ((7:Nat):Int)<7:=by omega
  rw [E8B (by omega)];have hlen:(A59 k l s p++tJ d).length=24:=by rw [E8o,pI,vV,hd]
  have:=D5h (g:=g) (c0:=c0) (z:=z) (q:=q) (B:=R2 256 (A59 k l s p++tJ d)) (I7 (by omega)) hz 32 0 q (by omega) (by omega);have e1:(R2 256 (A59 k l s p++tJ d)).take 32=cZ k l s p d:=by
   unfold R2 cZ;rw [List.take_append,E8B (by omega),hlen];refine congrArg (A59 k l s p++tJ d ++ ·) ?_;unfold zeros;rw [List.take_replicate];rfl
  rw [e1] at this;simp only [E9i,E8I,Nat.sub_zero] at this;rw [B2n];simp only [esc,h1'];exact this
 | e+1,i,m+1,hi,hm=>by
  have ih:=D5i (g:=g) (k:=k) (l:=l) (s:=s) (p:=p) (c0:=c0) hd hz hq e (i+1) m (by omega) (by omega);have h1':(i:Int)<7:=by omega
  have hx:A5j 7 (.a (encI d)) (iV (i:Int))=A4 (iV d[i]):=by
   rw [B4S (by omega),G6,E8h (by omega)];rfl
  have hlen:(A59 k l s p++tJ (d.take i)).length=10+2*i:=by rw [E8o,pI,vV,E8Y];omega
  have hL:(B4 (R2 256 (A59 k l s p++tJ (d.take i)))).length=256:=by rw [B5,I7 (by omega)]
  have e2:E8r .i64 (2*(i:Int))=((2*i:Nat):Int):=by rw [wrap_i64 (by omega) (by omega)];omega
  have e3:E8r .i64 (10+((2*i:Nat):Int))=((10+2*i:Nat):Int):=by rw [wrap_i64 (by omega) (by omega)];omega
  have hw:=aW (l:=R2 256 (A59 k l s p++tJ (d.take i))) (h:=g++[rT c0,rT z,rT (B4 (zeros 32)),rT (B4 (R2 256 (A59 k l s p++tJ (d.take i))))]) (I7 (by omega)) (a:=((10+2*i:Nat):Int)) (w:=2) (v:=d[i]);have e4:=lU (l:=A59 k l s p++tJ (d.take i)) (a:=10+2*i) (w:=2) (v:=d[i]) (by omega) (by omega) (by omega) (by omega);rw [show ((2:Nat):Int)=2 from rfl,hlen,E9t,show zeros 0=[] from rfl,E8C,E8t,<-D9m,<-E8R (by omega)] at e4;rw [e4] at hw;have hL':(B4 (R2 256 (A59 k l s p++tJ (d.take (i+1))))).length=256:=by
   rw [B5,I7 (by rw [E8o,pI,vV,E8Y];omega)]
  rw [B2n];simp only [esc,esh,h1',hx,hL,e2,e3,hw,hL',E2 (a:=i) (by omega)];exact ih
def C0E{k s:Int}{d:List Int}(hd:l_ d=7) :
  A6I [.a (D1 k l s p d)] h=A4 (.t [.a (B4 (bif A5J k l s p d then cZ k l s p d else zeros 32)),.c (cI (bif A5J k l s p d then 0 else 1))],h):=by
 have hlen:(D1 k l s p d).length=11:=by simp [C1,hd]
 have key:∀ N,33<N->∀ g,∃ g',B3s N [.a (D1 k l s p d)] g=A4 (.t [.a (B4 (bif A5J k l s p d then cZ k l s p d else zeros 32)),.c (cI (bif A5J k l s p d then 0 else 1))],g'):=by
  intro N hN g;have hz:(B4 (zeros 32)).length=32:=by rw [B5];exact zeros_length
  have hz2:(B4 (zeros 256)).length=256:=by rw [B5];exact zeros_length
  rw [C59,G9,G9];cases c:A5J k l s p d with
  | false =>
   generalize zeros 32=z at *;generalize zeros 256=y at *;exact ⟨_,by simp only [esc,esh,Nat.reduceAdd,hlen,B4Z hd,c,hz,Int.reduceEq]<;>rfl⟩
  | true =>
   have:=D5i (g:=g) (k:=k) (l:=l) (s:=s) (p:=p) (c0:=D1 k l s p d) (z:=B4 (zeros 32)) (q:=N) hd hz hN 7 0 N (by omega) (by omega);simp only [E9i,show tJ []=[] from rfl,E8C] at this;have w1:=λh=>aW (h:=h) (l:=zeros 256) zeros_length (a:=0) (w:=1) (v:=k)
   have w2:=λh=>aW (h:=h) (l:=kV (zeros 256) 0 1 k) (W1 zeros_length) (a:=2) (w:=2) (v:=l)
   have w3:=λh=>aW (h:=h) (l:=kV (kV (zeros 256) 0 1 k) 2 2 l) (W1 (W1 zeros_length)) (a:=4) (w:=4) (v:=s)
   have w4:=λh=>aW (h:=h) (l:=kV (kV (kV (zeros 256) 0 1 k) 2 2 l) 4 4 s) (W1 (W1 (W1 zeros_length))) (a:=8) (w:=2) (v:=p)
   have l1:(B4 (kV (zeros 256) 0 1 k)).length=256:=by rw [B5,W1 zeros_length]
   have l2:(B4 (kV (kV (zeros 256) 0 1 k) 2 2 l)).length=256:=by rw [B5,W1 (W1 zeros_length)]
   have l3:(B4 (kV (kV (kV (zeros 256) 0 1 k) 2 2 l) 4 4 s)).length=256:=by rw [B5,W1 (W1 (W1 zeros_length))]
   have l4:(B4 (R2 256 (A59 k l s p))).length=256:=by rw [B5,I7 (by rw [pI];omega)]
   simp only [D9n] at w4;generalize zeros 32=z at *;generalize zeros 256=y at *;exact ⟨_,by simp only [esc,esh,Nat.reduceAdd,hlen,B4Z hd,c,hz,hz2,w1,w2,w3,w4,l1,l2,l3,l4,qU hd];exact this⟩
 obtain ⟨g',e⟩:=key (l_ h+34) (by omega) (ro h);exact C2h e (by simp)
def B2U(b:List UInt8):Int:=fieldN b 0 1
def B4N(b:List UInt8):Int:=fieldN b 2 2
def B4P(b:List UInt8):Int:=fieldN b 4 4
def B4O(b:List UInt8):Int:=fieldN b 8 2
def bW(b:List UInt8):List Int:=(E8T 7).map λj=>fieldN b (10+2*j) 2
def M7:(bW b).length=7:=by simp [bW]
def C2Y(hi:i<7):(bW b)[i]?=A4 (fieldN b (10+2*i) 2):=by simp [bW,hi]
def C7Y{k s:Int}{d:List Int}:(D1 k l s p d).set (4+i) (cI x)=D1 k l s p (d.set i x):=by
 rw [show 4+i=i+1+1+1+1 by omega];simp only [D1,List.set_cons_succ,zH]
def C1q{D:List Int}(hD:l_ D=7)(hi:i<7):(D.take i++zI (7-i)).set i D[i]=D.take (i+1)++zI (7-(i+1)):=by
 have h6:(D.take i).length=i:=by simp;omega
 rw [E9a _ _ (by omega),h6,E9t,E8R (by omega),E8t];refine congrArg (D.take i ++ ·) ?_;rw [show 7-i=7-(i+1)+1 by omega];unfold zI;rw [E81,E9A];rfl
def D06{g:A9}{b:List UInt8}{k l s p:Int}{c0:List Cell}{q:Nat}(hb:l_ b=32)(hz:z.length=11):∀ e i m:Nat,i+e=6->e<m ->
  C0D q m (pV (l_ g+1) 0) (pV (l_ g+2) 0) (pV (l_ g+3) 0) (iV i) (g++[rT c0,rT z,rT (B4 (R2 256 b)),rT (D1 k l s p ((bW b).take i++zI (7-i)))]) =
   A4 (.a (D1 k l s p (bW b)),g++[rT c0,rT (D1 k l s p (bW b)),rT (B4 (R2 256 b)),rT (D1 k l s p (bW b))])
 | e,i,0,_,hm=>by omega
 | 0,i,m+1,hi,hm=>by
  have e0:i=6:=by omega
  subst e0;have h1':¬ ((6:Nat):Int)<6:=by omega
  have hX:(B4 (R2 256 b)).length=256:=by rw [B5,I7 (by omega)]
  have ha:=λh=>rA (h:=h) (l:=R2 256 b) (I7 (by omega)) (a:=22) (w:=2)
  have e1:=D6d (b:=b) (a:=22) (w:=2) (by omega) (by omega) (by omega) (by omega);simp only [E9B] at e1;simp only [e1] at ha;have ho:(encI ((bW b).take 6++zI (7-6))).length=7:=by simp [C1,M7,N5]
  have hg6:(bW b)[6]'(by rw [M7];omega)=fieldN b 22 2:=by
   have:=C2Y (b:=b) (i:=6) (by omega);rw [E8h (by rw [M7];omega)] at this;exact Option.some.inj this
  have es:(D1 k l s p ((bW b).take 6++zI (7-6))).set 10 (cI (fieldN b 22 2))=D1 k l s p (bW b):=by
   have h1:=C7Y (k:=k) (l:=l) (s:=s) (p:=p) (x:=fieldN b 22 2) (d:=(bW b).take 6++zI (7-6)) (i:=6);rw [show 4+6=10 from rfl] at h1;rw [h1,<-hg6,C1q M7 (by omega)];have:(bW b).take (6+1)++zI (7-(6+1))=bW b:=by rw [E8B (by rw [M7];omega)];simp [zI]
   rw [this]
  have hl1:(D1 k l s p (bW b)).length=11:=by simp [C1,M7]
  rw [B2m];simp only [esc,esh,Nat.reduceAdd,Nat.reduceLT,h1',hX,ha,ho,es,hl1,hz]
 | e+1,i,m+1,hi,hm=>by
  have ih:=D06 (g:=g) (k:=k) (l:=l) (s:=s) (p:=p) (c0:=c0) (q:=q) hb hz e (i+1) m (by omega) (by omega);have h1':(i:Int)<6:=by omega
  have hX:(B4 (R2 256 b)).length=256:=by rw [B5,I7 (by omega)]
  have e2:E8r .i64 (2*(i:Int))=((2*i:Nat):Int):=by rw [wrap_i64 (by omega) (by omega)];omega
  have e3:E8r .i64 (10+((2*i:Nat):Int))=((10+2*i:Nat):Int):=by rw [wrap_i64 (by omega) (by omega)];omega
  have ha:=λh=>rA (h:=h) (l:=R2 256 b) (I7 (by omega)) (a:=((10+2*i:Nat):Int)) (w:=2)
  have e1:=D6d (b:=b) (a:=10+2*i) (w:=2) (by omega) (by omega) (by omega) (by omega);rw [show ((2:Nat):Int)=2 from rfl] at e1;simp only [e1] at ha;have a1:K2 6 1 (pV (l_ g+3) 4) (iV (i:Int))=A4 (pV (l_ g+3) (4+i)):=by rw [O2 (by omega)];simp
  have ho:(encI ((bW b).take i++zI (7-i))).length=7:=by simp [C1,M7,N5];omega
  have ho2:4+i<11:=by omega
  have hgi:(bW b)[i]'(by rw [M7];omega)=fieldN b (10+2*i) 2:=by
   have:=C2Y (b:=b) (i:=i) (by omega);rw [E8h (by rw [M7];omega)] at this;exact Option.some.inj this
  have es:(D1 k l s p ((bW b).take i++zI (7-i))).set (4+i) (cI (fieldN b (10+2*i) 2))=D1 k l s p ((bW b).take (i+1)++zI (7-(i+1))):=by
   rw [C7Y,<-hgi,C1q M7 (by omega)]
  rw [B2m];simp only [esc,esh,Nat.reduceAdd,h1',hX,e2,e3,ha,a1,ho,ho2,es,E2 (a:=i) (by omega)];exact ih
def B1B(hb:l_ b=32):B3X [.a (B4 b)] h=A4 (.a (D1 (B2U b) (B4N b) (B4P b) (B4O b) (bW b)),h):=by
 have key:∀ N,7<N->∀ g,∃ g',B3r N [.a (B4 b)] g=A4 (.a (D1 (B2U b) (B4N b) (B4P b) (B4O b) (bW b)),g'):=by
  intro N hN g;have hl:(B4 b).length=32:=by rw [B5,hb]
  have hX:(B4 (R2 256 b)).length=256:=by rw [B5,I7 (by omega)]
  have hz:(E8l 256 (Cell.i .u8 0)).length=256:=E8S;have z11:[o0,o0,o0,o0,o0,o0,o0,o0,o0,o0,o0]=D1 0 0 0 0 (zI 7):=rfl;have l11:(D1 0 0 0 0 (zI 7)).length=11:=rfl;have ho:=B55 (h:=g++[rT (B4 b),rT (D1 0 0 0 0 (zI 7))]) (v:=sV (l_ g) 0 32 1) (nv:=32) (data:=b) (Has.tr (by simp) (by omega) (V6 _)) (by omega);rw [D2X (by omega)] at ho;have at_:∀ (a w:Nat),a+w<=32->1<=w->w<=4->∀ h,A2e [.a (B4 (R2 256 b)),iV a,iV w] h=A4 (iV (fieldN b a w),h):=λa w h1 h2 h3 h=>by
   rw [rA (I7 (by omega)),D6d (by omega) (by omega) h2 h3]
  have a1:=at_ 0 1 (by omega) (by omega) (by omega);have a2:=at_ 2 2 (by omega) (by omega) (by omega);have a3:=at_ 4 4 (by omega) (by omega) (by omega);have a4:=at_ 8 2 (by omega) (by omega) (by omega);simp only [E9B] at a1 a2 a3 a4;have ef:F6 (D1 0 0 0 0 (zI 7)) [(0,1,iV (fieldN b 0 1)),(1,1,iV (fieldN b 2 2)),(2,1,iV (fieldN b 4 4)),(3,1,iV (fieldN b 8 2))]=A4 (D1 (B2U b) (B4N b) (B4P b) (B4O b) (zI 7)):=rfl;have lf:(D1 (B2U b) (B4N b) (B4P b) (B4O b) (zI 7)).length=11:=rfl;have:=D06 (g:=g) (b:=b) (k:=B2U b) (l:=B4N b) (s:=B4P b) (p:=B4O b) (c0:=B4 b) (z:=D1 0 0 0 0 (zI 7)) (q:=N) hb l11 6 0 N (by omega) (by omega);simp only [E9i,E8I,Nat.sub_zero] at this;rw [C58,z11];generalize E8l 256 (Cell.i .u8 0)=z at *;generalize D1 0 0 0 0 (zI 7)=y at *;exact ⟨_,by simp only [esc,esh,Nat.reduceAdd,hl,ho,hz,hX,a1,a2,a3,a4,ef,l11,lf];exact this⟩
 obtain ⟨g',e⟩:=key (l_ h+8) (by omega) (ro h);exact C2g e (by simp)
def cD(b:List UInt8):Bool:=A5J (B2U b) (B4N b) (B4P b) (B4O b) (bW b)&&decide (cZ (B2U b) (B4N b) (B4P b) (B4O b) (bW b)=b)
def oU(b:List UInt8):List Cell:=bif cD b then D1 (B2U b) (B4N b) (B4P b) (B4O b) (bW b) else D1 0 0 0 0 (zI 7)
def A8l:(oU b).length=11:=by
 unfold oU;cases cD b<;>simp [C1,M7,N5]
def C0n:M9 (oU b)=A5:=by
 unfold oU;cases cD b<;>simp
def C7Z(hb:l_ b=32):A74 [.a (B4 b)] h=A4 (.t [.a (oU b),.c (.b (cD b))],h):=by
 have key:∀ g,∃ g',A7O 0 [.a (B4 b)] g=A4 (.t [.a (oU b),.c (.b (cD b))],g'):=by
  intro g;have hl:(B4 b).length=32:=by rw [B5,hb]
  have hI:(D1 (B2U b) (B4N b) (B4P b) (B4O b) (bW b)).length=11:=by simp [C1,M7]
  have z11:[o0,o0,o0,o0,o0,o0,o0,o0,o0,o0,o0]=D1 0 0 0 0 (zI 7):=rfl;have l11:(D1 0 0 0 0 (zI 7)).length=11:=rfl;have af:=C2A;rw [z11] at af;have hz:(E8l 32 (Cell.i .u8 0)).length=32:=E8S;have hp:=λh=>C0E (h:=h) (k:=B2U b) (l:=B4N b) (s:=B4P b) (p:=B4O b) (d:=bW b) M7
  have hB:(B4 (cZ (B2U b) (B4N b) (B4P b) (B4O b) (bW b))).length=32:=by rw [B5,A2x M7]
  have hZ:(B4 (zeros 32)).length=32:=by rw [B5];exact zeros_length
  have hq:=D0r (l:=cZ (B2U b) (B4N b) (B4P b) (B4O b) (bW b)) (m:=b) (n:=32) (A2x M7) hb;rw [C1T,z11];unfold oU cD;generalize E8l 32 (Cell.i .u8 0)=z at *;generalize D1 0 0 0 0 (zI 7)=y at *;cases c:A5J (B2U b) (B4N b) (B4P b) (B4O b) (bW b) with
  | false =>
   simp only [c,bZ] at hp;exact ⟨_,by simp only [esc,esh,Nat.reduceAdd,hl,B1B hb,hI,l11,hp,hz,hZ,Int.reduceEq,af,E8E]<;>rfl⟩
  | true =>
   simp only [c,S8] at hp;cases c2:decide (cZ (B2U b) (B4N b) (B4P b) (B4O b) (bW b)=b) with
   | false =>
    rw [c2] at hq;exact ⟨_,by simp only [esc,esh,Nat.reduceAdd,hl,B1B hb,hI,l11,hp,hz,hB,hq,af,Bool.and_false]<;>rfl⟩
   | true =>
    rw [c2] at hq;exact ⟨_,by simp only [esc,esh,Nat.reduceAdd,hl,B1B hb,hI,l11,hp,hz,hB,hq]<;>rfl⟩
 obtain ⟨g',e⟩:=key (ro h);exact B8a e (by simp [C0n])
section
variable (n m m2:Nat) (a0 a1 a2 x1 x2 x3 x4 x5 x6 x7 x8 x9 x10 x11 x12 x15 x16 x17 x20 x21:Val) (h:A9)
def A1C:FD A8:=⟨px 0X16f2013803804045500521103a2342,[],[.min (.t 4) (.v (.c (cI 5))),.max (.v (.c o0)) (.t 5)],[.tmp 2],[]⟩
def A7K:=A1C.R
def C1P:=mR A7K A1C (tT []) n [a0] h
def gC:=A1C.K Tryz.func127
def cK:=A1C.S
def B76:G0 A7K cK:=gC.flat
def A3I:FD A8:=⟨px 0X118f20306197ffffd0191b1a71b701104261700523201042,[],[],[.tmp 2],[]⟩
def B9p:=A3I.R
def C4R:=mR B9p A3I (tT []) n [a0] h
def B0r:=A3I.K Tryz.func128
def A3V:=A3I.S
def B9P:G0 B9p A3V:=B0r.flat
def vD:FD A8:=⟨px 0X113022f48864f4884c1c3024bf2d053c0221827c488601941a4236e1028902019626a16a4883d1c7180153026c488601c3b371111113722403f01334e39036f420338f12ff50618487a414484a18215030702441328901215d4200605110481814c2b2b35b591820132af2488611c145a052964230403e501130785b134b123b112b104194101d18d721919411930153022c488601c3b371062240632101032849180401c72b40192f4303111c4c03a353182,[.c (.i .u8 105),.c (.i .u8 100),.c (.i .u8 120),.c (.i .u8 33)],[],[.cellN 2 256,.tmp 3],[D8 cK gC,D8 A85 B27,D8 uJ A4B,D8 A3V B0r]⟩
def B3p:=vD.R
def C0C:AtH:=vD.lj 0 n [m] [x2,x4,x20,x21]
def C3K:=tT [⟨2,4,C0C⟩]
def C57:=mR B3p vD C3K n [a0] h
def B2k:=mL vD C3K 0 n [m] [x2,x4,x20,x21] h
def B23:=vD.K Tryz.func81
def A6H:=vD.S
def C6u:SOk A8 81 A6H:=B23.sok
def C2f:G0 B3p A6H:=B23.flat
def A3J:FD A8:=⟨px 0X16f20051b2058010344918500521103a2342,[],[],[.tmp 2],[D8 cK gC]⟩
def B0M:=A3J.R
def C4S:=mR B0M A3J (tT []) n [a0] h
def jT:=A3J.K Tryz.func122
def fI:=A3J.S
def B9Q:G0 B0M fI:=jT.flat
def jF:FD A8:=⟨px 0X113022f4964f49691c3025af180500218a59031801793022f49601f3b3711107224103204401482d14f518e5b051bf4235313270242890127e4f021a94203016254ef18001234f494d1c329421915301793022f49601f3b3711622401b181907e4e1f4887e3c6c4887e3c0110325c3d0718f422200333cf13bf248861c61b11828063b2c3af38001135a49391c181a1c331a22ff1c052e02218422a1e01482d14a519018303028902019623813e488182c1f019181ef50412284215030702441328901213b420060511c013942031bf24961f41b01011f3b529030328488191c51942111f4c03a353182,[],[.eqA A5 (E8l 256 (.i .u8)) (.t 32) (.t 33)],[.cellN 2 33,.tmp 3],[D8 A2e A8G,D8 A6H B23,D8 fI jT]⟩
def B3o:=jF.R
def C0z:AtH:=jF.lj 0 n [m] [x1,x2,x4,x12]
def C0A:AtH:=jF.lj 1 n [m] [x2,x4,x8]
def B35:=tT [⟨2,4,C0z⟩,⟨2,3,C0A⟩]
def C56:=mR B3o jF B35 n [a0] h
def B2g:=mL jF B35 0 n [m] [x1,x2,x4,x12] h
def B2h:=mL jF B35 1 n [m] [x2,x4,x8] h
def B22:=jF.K Tryz.func77
def A6G:=jF.S
def C6t:SOk A8 77 A6G:=B22.sok
def C2d:G0 B3o A6G:=B22.flat
def kZ:FD A8:=⟨px 0X11b401022bf7053802b492180134013c000002722401a22104401482d13a53a104401482d12a51a1a0180194d25319f5041264215030702441340121294200605111a6021f1d462820023340422e253182,[],[],[.tmp 4],[]⟩
def A7L:=kZ.R
def B4W:AtH:=kZ.lj 0 n [m] [x1,x2,x6,x7]
def B66:=tT [⟨2,4,B4W⟩]
def C1Q:=mR A7L kZ B66 n [a0,a1] h
def A7e:=mL kZ B66 0 n [m] [x1,x2,x6,x7] h
def A7w:=kZ.K Tryz.func129
def A1P:=kZ.S
def B77:G0 A7L A1P:=A7w.flat
def iD:FD A8:=⟨px 0X14ff607e4f02600001724af19004026c15e4804184ef1800613901011113e6e16e4b05181541307024061201036c49184e3c047f4203006053bf190041824e16839042b271c200003314a1294238f70051b20581380380113484918482a0181f6301d201164812e00001722401b1a19064381a010382f2e49383c383870110122a1a0184b42031648632e27531c2,[],[.min (.t 18) (.t 20),.max (.v (.c o0)) (.t 21)],[.tmp 6],[D8 fI jT,D8 cK gC]⟩
def A4T:=iD.R
def B2j:AtH:=iD.lj 0 n [m] [x3,x7,x8,x9]
def B36:=tT [⟨2,4,B2j⟩]
def B9o:=mR A4T iD B36 n [a0,a1,a2] h
def B8F:=mL iD B36 0 n [m] [x3,x7,x8,x9] h
def A4z:=iD.K Tryz.func149
def yE:=iD.S
def B73:A3Q A4T yE:=A4z.out
def lA:FD A8:=⟨px 0X11b601022df1b052c02d492180136013c0000003722404324a104401482d13a51e1f06592521ef1800441811d3184215030702451340121394200605110292819032f2d2b652c2000033360632e27531c2,[],[],[.tmp 6],[]⟩
def A7M:=lA.R
def B4X:AtH:=lA.lj 0 n [m] [x2,x3,x9,x10,x11]
def B67:=tT [⟨2,5,B4X⟩]
def C1R:=mR A7M lA B67 n [a0,a1,a2] h
def A7f:=mL lA B67 0 n [m] [x2,x3,x9,x10,x11] h
def B6O:=lA.K Tryz.func170
def A72:=lA.S
def B78:G0 A7M A72:=B6O.flat
def qF:FD A8:=⟨px 0X14ff4001132f494e1c3024df28055a04d49218014cf407e127e00000037224302e1901a2a33692f20691e40148696a17a691f7a69704632692f5e6976c6976849693c5e49693c01103204401482d14c54c2b01f01918f432af504123842150307024413401214b420060511011338491e1c3493f61c240530114012a0000722401b1a19064281a010282f2849283c282870110121a60183b4203140422e253182,[],[],[.tmp 4],[D8 fI jT,D8 cK gC,D8 yE A4z,D8 A72 B6O]⟩
def B0L:=qF.R
def B7q:AtH:=qF.lj 0 n [m] [x1,x2,x15,x16]
def B93:=tT [⟨2,4,B7q⟩]
def C4Q:=mR B0L qF B93 n [a0,a1] h
def A9Q:=mL qF B93 0 n [m] [x1,x2,x15,x16] h
def B9c:=qF.K Tryz.func150
def B09:=qF.S
def B9O:G0 B0L B09:=B9c.flat
def cH:FD A8:=⟨px 0X12df40482d021a0000003722cf19052e02c4921802bf5050023a13182404223e104401482d12e51c1c064b3521bf60412184215011a07024513401212d42006051101031a4971c32b296328200231111b42140422e253182,[],[],[.tmp 4],[D8 fI jT]⟩
def A7J:=cH.R
def B4U:AtH:=cH.lj 0 n [m] [x1,x2,x5,x8,x9]
def C7W:AtH:=cH.lj 1 n [m] [x1,x2,x5,x8,x9]
def A8f:=tT [⟨2,5,B4U⟩,⟨2,5,C7W⟩]
def C1O:=mR A7J cH A8f n [a0,a1] h
def A7d:=mL cH A8f 0 n [m] [x1,x2,x5,x8,x9] h
def A7c:=mJ cH A8f 1 n [m] [x1,x2,x5,x8,x9] h
def B6N:=cH.K Tryz.func151
def A71:=cH.S
def B75:G0 A7J A71:=B6N.flat
def jE:FD A8:=⟨px 0X122f4963f496c1c211111104326bf290518c022180422a601482d13f55f14f15182401b3819018218c1a2042618c2f5f18c71f4918c3c018c4b0181a3518c2f042418c2f4f18c71f4918c3c4f18c71f4918c3c01042337817c49181e0191bd7530172401b181906c4d0126c2f5c6c70110224e38077d42032ff5004401482d1585482c051b422bf404123c4215011a07024513401214d42006051101133c491f1c34b4941c20131ef24961f31b01011f3b0402e55731820122a49601f3b21022240632101031e49180401a62b40192d43031f4c03a253182,[],[],[.cellN 2 33],[D8 cK gC,D8 fI jT,D8 A3V B0r,D8 A1P A7w,D8 B09 B9c,D8 yE A4z,D8 A71 B6N]⟩
def B3n:=jE.R
def A4a:AtH:=jE.lj 0 n [m] [x1,x2,x3,x16,x17]
def D2u:AtH:=jE.lj 1 n [m] [x1,x2,x3,x16,x17]
def B34:=tT [⟨2,5,A4a⟩,⟨2,5,D2u⟩]
def C55:=mR B3n jE B34 n [a0] h
def B2f:=mL jE B34 0 n [m] [x1,x2,x3,x16,x17] h
def kU:=mJ jE B34 1 n [m] [x1,x2,x3,x16,x17] h
def B21:=jE.K Tryz.func123
def A6F:=jE.S
def C6s:SOk A8 123 A6F:=B21.sok
def C2c:G0 B3n A6F:=B21.flat
def Y3:FD A8:=⟨px 0X13cf206a3c0250000003723bf7055803b4921803af3001c13901011113e04401482d15a54a14a118182430181904213f2f3a3f73e493f3c01103204401482d12c51c1a01a4f4219f40412184215011a0702441340121294200605110103184951c31f1d41c201314a174214a03a2342,[],[],[.tmp 2],[D8 fI jT,D8 A1P A7w]⟩
def A2R:=Y3.R
def A1b:AtH:=Y3.lj 0 n [m] [x1,x3,x6,x7]
def C20:AtH:=Y3.lj 1 n [m] [x1,x3,x6,x7]
def A2V:=tT [⟨2,4,A1b⟩,⟨2,4,C20⟩]
def B7Q:=mR A2R Y3 A2V n [a0] h
def A3n:=mL Y3 A2V 0 n [m] [x1,x3,x6,x7] h
def sK:=mJ Y3 A2V 1 n [m] [x1,x3,x6,x7] h
def tY:=Y3.K Tryz.func82
def kM:=Y3.S
def uI:SOk A8 82 kM:=tY.sok
def B6v:A3Q A2R kM:=tY.out
def A1A:FD A8:=⟨px 0X118f40062130103184918181500062140422e253182,[],[],[.tmp 4],[D8 cK gC,D8 C2j D0g]⟩
def A7H:=A1A.R
def C1M:=mR A7H A1A (tT []) n [a0,a1] h
def A7v:=A1A.K Tryz.func103
def A1N:=A1A.S
def C2e:SOk A8 103 A1N:=A7v.sok
def B72:G0 A7H A1N:=A7v.flat
def A1B:FD A8:=⟨px 0X128f20301a1902f4e33a492f3c0102f2f2e492f3c013018192d0191d1a01d1e01c1d1f011042040451c01900533103a2342,[],[.eqA A6 ([.i .i64]++E8l 32 (.i .i64)) (.t 13) (.t 14)],[.tmp 2],[D8 A6F B21]⟩
def A7I:=A1B.R
def C1N:=mR A7I A1B (tT []) n [a0] h
def B6M:=A1B.K Tryz.func135
def A1O:=A1B.S
def B74:G0 A7I A1O:=B6M.flat
end
section
variable (n m m2:Nat) (a0 a1 a2 a3 x0 x1 x2 x3 x4 x5 x7 x8 x19 x20 x21:Val) (h:A9)
def A4l:FD A8:=⟨px 0X15cf607f5c02020116011d00622403f042037f1031803f4f2b51af42100013304ef7006223390722f106213041a7a57a4481c1818243ff3a006203041a6a503180683b2b66d45239f700440162d44e5582e0518242df2b0390124c2c034f651c20510201a1111f46502920116013800001722401b61918b9043e1a3c3e70101b6191012e1a2c2e701503204018182b1b4d420316063a632e319751c2,[],[],[.tmp 6],[D8 X1 Z7,D8 D9 E5,D8 qP A3P]⟩
def C1I:=A4l.R
def C7H:AtH:=A4l.lj 0 n [] [x3,x7]
def D0m:=tT [⟨1,2,C7H⟩]
def D1T:=mR C1I A4l D0m n [a0,a1,a2] h
def C9K:=mJ A4l D0m 0 n [] [x3,x7] h
def C1z:=A4l.K Tryz.func108
def A8Z:=A4l.S
def D10:SOk A8 108 A8Z:=C1z.sok
def C6p:G0 C1I A8Z:=C1z.flat
def A3E:FD A8:=⟨px 0X148f50478496102268168493e1c5411623df13cf24961f61b1282801e3c2c3bf2d001230182130410162d45855842e1c1c1f1d11920135024849601f3b33c1000722401b281902e4d018202e2f02e1e10162e6a42e2e1f032e3c02c2e1f01190320401a182b1c4f4203311f4c43a422e419751c2,[],[],[.cellN 4 33,.tmp 5],[D8 X1 Z7,D8 D9 E5,D8 A6G B22]⟩
def B0F:=A3E.R
def C4L:=mR B0F A3E (tT []) n [a0,a1] h
def xH:=A3E.K Tryz.func102
def jW:=A3E.S
def B9J:G0 B0F jW:=xH.flat
def aE:FD A8:=⟨px 0X14af406e4a024a000000047249f2d053804949218048f700613901011113e5a15c151824042234c1031805e392b4794238f1900441811d33a4215011a07024513401215d42006051102901133a492a1c45b594f52820023174811f1b401d201144813a0000722403f2c28024b422131ff11ef24961f51b11a280181e2c1df1a0042032a1b182a41b1c191d1b119214a43a422e375182,[],[],[.tmp 4],[D8 jW xH,D8 kM tY,D8 X1 Z7]⟩
def A4R:=aE.R
def B2d:AtH:=aE.lj 0 n [m] [x2,x7,x19,x20,x21]
def C5n:AtH:=aE.lj 1 n [m] [x2,x7,x19,x20,x21]
def A5e:=tT [⟨2,5,B2d⟩,⟨2,5,C5n⟩]
def B9m:=mR A4R aE A5e n [a0,a1] h
def A5z:=mL aE A5e 0 n [m] [x2,x7,x19,x20,x21] h
def A5y:=mJ aE A5e 1 n [m] [x2,x7,x19,x20,x21] h
def xE:=aE.K Tryz.func159
def oC:=aE.S
def B70:A3Q A4R oC:=xE.out
def kX:FD A8:=⟨px 0X1b72a118024e2a01813901011113e041a4c53e461824301c1906202f2f02f1e1a3a2f1f032f3c02c2f1f013018195021d1a01d1e01c1d1f0103f74591e4b731c20401a,[],[],[],[D8 X1 Z7]⟩
def B6Z:=kX.R
def A5A:AtH:=kX.lj 0 n [] [x0]
def B64:=tT [⟨1,1,A5A⟩]
def qJ:=mR B6Z kX B64 n [a0,a1,a2,a3] h
def A66:=mJ kX B64 0 n [] [x0] h
def A7u:=kX.K Tryz.func162
def lF:=kX.Q
def qN:OfT B6Z lF:=A7u.of
def S4:FD A8:=⟨px 0X22c2a0613901011113e2c11e45180005f1c4218243904276021f5182731801a,[],[],[],[gG lF A7u]⟩
def A0n:=S4.R
def A0d:K7:=S4.E
def B1w:AtH:=S4.lj 0 n [] [x1,x3]
def A0r:TT:=⟨A0d,[⟨1,2,B1w⟩]⟩
def sS:=mR A0n S4 A0r n [a0,a1,a2,a3] h
def rU:=mJ S4 A0r 0 n [] [x1,x3] h
def A0i:=S4.K Tryz.func164
def dT:=S4.Q
def sX:OfT A0n dT:=A0i.of
def O8:FD A8:=⟨px 0X2df18053a02218004265f3813813e1418241032281f0249421ef700463031e1281b182841b1c51f421af6041264215011a0702441318b901212b420060511801294263a632e219751c2,[],[],[],[D8 A8Z C1z,gG dT A0i]⟩
def A3f:=O8.R
def rX:K7:=O8.E
def A2r:AtH:=O8.lj 0 n [m] [x2,x3,x4,x8]
def B4I:AtH:=O8.lj 1 n [m] [x2,x3,x4,x8]
def sG:TT:=⟨rX,[⟨2,4,A2r⟩,⟨2,4,B4I⟩]⟩
def B0G:=mR A3f O8 sG n [a0,a1,a2] h
def A9K:=mL O8 sG 0 n [m] [x2,x3,x4,x8] h
def A9J:=mJ O8 sG 1 n [m] [x2,x3,x4,x8] h
def A28:=O8.K Tryz.func163
def sC:=O8.Q
def B07:OfT A3f sC:=A28.of
def U5:FD A8:=⟨px 0X14ef405f4219052005f6e421120463237a6a22cc5e7c1b187c4481c400223ff22a6191b6c7a785e42ca3f18932b352322a4181b2291b240292013ef400181392042136a1b186a4185a440195a000017302582a01a13901011113e0410162d44c53e471824382b014f3522af129f24961f61b11a28018292c28f1d004203381b183841e1c191a423101a24190220401e1a2b339420324c11b4214a43a422e375182,[],[],[.tmp 4],[D8 jW xH,D8 oC xE,gG sC A28,gG lF A7u]⟩
def U6:=U5.R
def A26:K7:=U5.E
def A2q:AtH:=U5.lj 0 n [] [x2,x3,x5]
def A3j:TT:=⟨A26,[⟨1,3,A2q⟩]⟩
def xO:=mR U6 U5 A3j n [a0,a1] h
def A9I:=mJ U5 A3j 0 n [] [x2,x3,x5] h
def rZ:=U5.K Tryz.func139
def Y0:=U5.S
def A80:E3b U6 Y0:=rZ.low
def A81:A3Q U6 Y0:=rZ.out
end
def D25(D:Dev)(n:Int)(d:List Int)(j:Nat):Int :=
 if j<6 then d.getD j 0 else bif G7 (l_ D) n (d.getD 6 0) then ptP (blk D (d.getD 6 0)) (j-6) else 0
def vS(D:Dev)(n:Int)(d:List Int)(j:Nat):Int:=bif G7 (l_ D) n (D25 D n d j) then D25 D n d j else 0
def atF(D:Dev)(n k:Int)(d:List Int)(j:Int):Int:=if k=1/\0<=j/\j<134 then vS D n d j.toNat else 0
def C9L{r:Option Row}:C7H q (pV (l_ g) 0) (iV no) (g++[rT (vwC (l_ D) n m f),r])=A4 (iV (bif G7 (l_ D) n no then no else 0),g++[rT (vwC (l_ D) n m f),r]):=by
 have l3:=C1w (b:=l_ D) (n:=n) (m:=m) (f:=f);have hI:=λh=>X8 (b:=l_ D) (n:=n) (m:=m) (i:=no) (h:=h)
 rw [C9K];generalize vwC (l_ D) n m f=V at *;cases c:G7 (l_ D) n no with
 | false =>
  simp only [c] at hI;simp only [esc,esh,Nat.reduceAdd,Nat.reduceMul,Nat.reduceLT,l3,hI]
 | true =>
  simp only [c] at hI;simp only [esc,esh,Nat.reduceAdd,Nat.reduceMul,Nat.reduceLT,l3,hI]
def C7G{k s j:Int}{d:List Int}(hD:okD D)(hd:l_ d=7)(hv:IsView h f D) :
  A8Z [.a (vwC (l_ D) n m f),.a (D1 k l s p d),iV j] h=A4 (iV (atF D n k d j),h):=by
 have key:∀ g,IsView g f D->∃ g',C1I 0 [.a (vwC (l_ D) n m f),.a (D1 k l s p d),iV j] g=A4 (iV (atF D n k d j),g'):=by
  intro g hv;have l3:=C1w (b:=l_ D) (n:=n) (m:=m) (f:=f);have l4:=B5A (b:=l_ D) (n:=n) (m:=m) (f:=f);have i0:(D1 k l s p d)[0]?=A4 (cI k):=rfl;have i10:(D1 k l s p d)[10]?=A4 (cI (d.getD 6 0)):=by
   have:(D1 k l s p d)[10]?=(encI d)[6]? := rfl;rw [this,G6,E8h (by omega),E8k,E8h (by omega)];rfl
  have hJ:=λno=>C9L (D:=D) (n:=n) (m:=m) (no:=no) (f:=f) (q:=0) (g:=g) (r:=rT (D1 k l s p d))
  rw [D1T];by_cases c1:k=1
  ·by_cases c2:j<0
   ·have e:atF D n k d j=0:=by unfold atF;rw [C5 (by omega)]
    rw [e];generalize vwC (l_ D) n m f=V at *;generalize D1 k l s p d=I at *;exact ⟨_,by simp only [esc,esh,Nat.reduceAdd,Nat.reduceMul,Nat.reduceLT,eq_self,i0,c1,c2]<;>rfl⟩
   ·by_cases c3:134<=j
    ·have e:atF D n k d j=0:=by unfold atF;rw [C5 (by omega)]
     rw [e];generalize vwC (l_ D) n m f=V at *;generalize D1 k l s p d=I at *;exact ⟨_,by simp only [esc,esh,Nat.reduceAdd,Nat.reduceMul,Nat.reduceLT,eq_self,i0,c1,c2,c3]<;>rfl⟩
    ·obtain ⟨i,rfl⟩:∃ i:Nat,j=i:=⟨j.toNat,by omega⟩;have e:atF D n k d i=vS D n d i:=by unfold atF;rw [C4 (by omega),E8D]
     rw [e];unfold vS;by_cases c4:(i:Int)<6
     ·have er:D25 D n d i=d.getD i 0:=by unfold D25;rw [C4 (by omega)]
      have ia:(D1 k l s p d)[4+i]?=A4 (cI (d.getD i 0)):=by
       have:(D1 k l s p d)[4+i]?=(encI d)[i]? := by
        rw [Nat.add_comm];rfl
       rw [this,G6,E8h (by omega),E8k,E8h (by omega)];rfl
      have ad:=O2 (k:=.i64) (id:=l_ g+1) (off:=4) (sz:=1) (j:=i) (n:=6) (by omega);rw [E9w] at ad;rw [er];generalize vwC (l_ D) n m f=V at *;generalize D1 k l s p d=I at *;exact ⟨_,by simp only [esc,esh,Nat.reduceAdd,Nat.reduceMul,Nat.reduceLT,eq_self,i0,c1,c2,c3,c4,ad,ia,hJ]<;>rfl⟩
     ·have er:D25 D n d i=bif G7 (l_ D) n (d.getD 6 0) then ptP (blk D (d.getD 6 0)) (i-6) else 0:=by unfold D25;rw [C5 (by omega)]
      have hI:=λh=>X8 (b:=l_ D) (n:=n) (m:=m) (i:=d.getD 6 0) (h:=h)
      rw [er];cases c5:G7 (l_ D) n (d.getD 6 0) with
      | false =>
       simp only [c5] at hI;generalize vwC (l_ D) n m f=V at *;generalize D1 k l s p d=I at *;exact ⟨_,by simp only [esc,esh,Nat.reduceAdd,Nat.reduceMul,Nat.reduceLT,eq_self,i0,i10,c1,c2,c3,c4,l3,hI,hJ]<;>rfl⟩
      | true =>
       simp only [c5] at hI;have hB:=K8 (n:=n) (m:=m) (no:=d.getD 6 0) (h:=g++[rT (vwC (l_ D) n m f),rT (D1 k l s p d)]) hD (hv.more _);have w:E8r .i64 ((i:Int)-6)=((i-6:Nat):Int):=by rw [wrap_i64 (by omega) (by omega)];omega
       have hP:=λh=>A8v (b:=blk D (d.getD 6 0)) (k:=i-6) (h:=h) (J6 hD) (by omega)
       generalize vwC (l_ D) n m f=V at *;generalize D1 k l s p d=I at *;exact ⟨_,by simp only [esc,esh,Nat.reduceAdd,Nat.reduceMul,Nat.reduceLT,eq_self,i0,i10,c1,c2,c3,c4,l3,l4,hI,hB,w,hP,hJ]<;>rfl⟩
  ·have e:atF D n k d j=0:=by unfold atF;rw [C5 (by omega)]
   rw [e];generalize vwC (l_ D) n m f=V at *;generalize D1 k l s p d=I at *;exact ⟨_,by simp only [esc,esh,Nat.reduceAdd,Nat.reduceMul,Nat.reduceLT,eq_self,i0,c1]<;>rfl⟩
 obtain ⟨g',e⟩:=key (ro h) hv.ro;exact C6p e rfl
def B5j{id n:Nat}(hr:rd h id=rT cs)(hl:l_ cs=n*sz)(hy:l_ ys=sz)(hsz:0<sz)(hn:n+1<=1073741824) :
  ∃ h',uR (h++[rT ys]) sz (sV id 0 n sz) (sV (l_ h) 0 1 sz)=A4 (sV (l_ h+1) 0 (n+1) sz,h')/\rd h' (l_ h+1)=rT (cs++ys)/\(∀ i r,i≠id->rd h i=A4 r->rd h' i=A4 r)/\(∀ b,b<=id->b<=l_ h->Low b h h'):=by
 refine ⟨(h++[rT ys]).set id A7++[rT (cs++ys)],?_,?_,λi r hi hir=>?_,λb hb hb2=>(((Low.refl hb2).new _).set hb A7).new _⟩
 ·rw [A8h (h:=h++[rT ys]) (m:=1) (B6 hr) hl N8 (by omega) rfl hsz hn];simp
 ·have:=N8 (h:=(h++[rT ys]).set id A7) (r:=Row.mk (cs++ys) A5);rw [E80] at this;simpa using this
 ·refine B6 ?_;rw [B7 (Ne.symm hi)];exact B6 hir
def D0e(h:A9)(x:Cell)(l:List Int)(b:Nat)(rs:List Nat):Prop:=(l=[]/\x=.ns)\/∃ id,x=.sl id 0 (l_ l) 1/\rd h id=rT (encI l)/\b<=id/\id ∉ rs
def VarI(h:A9)(r:Nat)(l:List Int)(b:Nat)(rs:List Nat):Prop:=∃ x,rd h r=rT [x]/\D0e h x l b rs
def VarI.nil{b:Nat}(hr:rd h r=rT [.ns]):VarI h r [] b rs:=⟨.ns,hr,.inl ⟨rfl,rfl⟩⟩
def VarI.keep{h':A9}{b:Nat}{l:List Int}(hv:VarI h r l b rs)(h1:rd h' r=rd h r)(h2:∀ id,id ∉ rs->∀ x,rd h id=A4 x->rd h' id=A4 x):VarI h' r l b rs:=by
 obtain ⟨x,hx,hd⟩:=hv;refine ⟨x,by rw [h1];exact hx,?_⟩;rcases hd with hd | ⟨id,e,hr,hb,hn⟩
 ·exact .inl hd
 ·exact .inr ⟨id,e,h2 id hn _ hr,hb,hn⟩
def C5D{jd m:Nat}(hy:rd h jd=rT ys)(hyl:l_ ys=m*sz)(hsz:0<sz)(hn:m<=1073741824) :
  uR h sz (.c .ns) (sV jd 0 m sz)=A4 (sV (l_ h) 0 m sz,h++[rT ys]):=by
 have h2:V0 h sz (sV jd 0 m sz)=A4 ys:=by
  simp only [V0,if_true,rJ,hy,E8z,E8y,E8A];rw [<-hyl,List.take_length,C4 ⟨E8m _,rfl⟩]
 have e1:l_ ys/sz=m:=by rw [hyl];exact Nat.mul_div_cancel _ hsz
 simp only [uR,h2,E8z];rw [e1,C4 hn]
def VarI.push{b:Nat}{l:List Int}(hv:VarI h r l b rs)(hr:r∈rs)(hbr:b<=r)(hbh:b<=l_ h)(W4:∀ j∈rs,j<l_ h)(hl:l_ l<=100000)(n:Int) :
  ∃ x v h2 h3,B9 h (pV r 0)=A4 (.c x)/\uR (h++[rT [cI n]]) 1 (.c x) (sV (l_ h) 0 1 1)=A4 (.c v,h2)/\I8 h2 (pV r 0) (.c v)=A4 h3 /\
   VarI h3 r (l++[n]) b rs/\Low b h h3/\(∀ j∈rs,j≠r->rd h3 j=rd h j)/\(l_ h)<=h3.length:=by
 obtain ⟨x,hx,hd⟩:=hv;have hrl:=E1 hx;have l1:B9 h (pV r 0)=A4 (.c x):=B8 hx rfl (by simp);rcases hd with ⟨rfl,rfl⟩ | ⟨id,rfl,hi,hb,hn⟩
 ·have hA:=C5D (h:=h++[rT [cI n]]) (jd:=l_ h) (m:=1) (sz:=1) (ys:=[cI n]) (by simp) rfl (by omega) (by omega);have e1:(h++[rT [cI n]]).length=l_ h+1:=by simp
  rw [e1] at hA;have hr2:rd (h++[rT [cI n]]++[rT [cI n]]) r=rT [.ns]:=B6 (B6 hx);have s1:=I9 (x:=.sl (l_ h+1) 0 1 1) (off:=0) hr2 (by simp);refine ⟨.ns,_,_,_,l1,hA,s1,⟨.sl (l_ h+1) 0 1 1,D3 (E1 hr2),.inr ⟨l_ h+1,rfl,?_,by omega,λh1=>by have:=W4 _ h1;omega⟩⟩,(((Low.refl hbh).new _).new _).set hbr _,λj hj hjr=>?_,by simp⟩
  ·rw [B7 (by omega)];have:=N8 (h:=h++[rT [cI n]]) (r:=⟨[cI n],A5⟩);rw [e1] at this;exact this
  ·rw [B7 (Ne.symm hjr)];have:=W4 j hj;rw [D5 (by simp;omega),D5 this]
 ·have K6:=E1 hi;have aZ:id≠r:=λe=>hn (e ▸ hr)
  have hA:=A8h (h:=h++[rT [cI n]]) (id:=id) (jd:=l_ h) (n:=l_ l) (m:=1) (sz:=1) (cs:=encI l) (ys:=[cI n]) (rw:=A5) (B6 hi) (by rw [C1,E9w]) (by simp) rfl rfl (by omega) (by omega);have e1:(h++[rT [cI n]]).length=l_ h+1:=by simp
  rw [e1] at hA;have ee:encI l++[cI n]=encI (l++[n]):=by rw [jM];rfl
  rw [ee] at hA;have hr2:rd ((h++[rT [cI n]]).set id A7++[rT (encI (l++[n]))]) r=rT [.sl id 0 (l_ l) 1]:=by
   refine B6 ?_;rw [B7 aZ];exact B6 hx
  have s1:=I9 (x:=.sl (l_ h+1) 0 (l_ l+1) 1) (off:=0) hr2 (by simp);refine ⟨_,_,_,_,l1,hA,s1,⟨.sl (l_ h+1) 0 (l_ l+1) 1,D3 (E1 hr2),.inr ⟨l_ h+1,by simp,?_,by omega,λh1=>by have:=W4 _ h1;omega⟩⟩,((((Low.refl hbh).new _).set hb _).new _).set hbr _,λj hj hjr=>?_,by simp;omega⟩
  ·rw [B7 (by omega)];have:=N8 (h:=(h++[rT [cI n]]).set id A7) (r:=⟨encI (l++[n]),A5⟩);rw [E80,e1] at this;exact this
  ·have hji:j≠id:=λe=>hn (e ▸ hj)
   have:=W4 j hj;rw [B7 (Ne.symm hjr),D5 (by simp;omega),B7 (Ne.symm hji),D5 this]
def fP(d:Int):Nat:=(max 0 (min d 5)).toNat
def B1q(d:Int):fP d<=5:=by unfold fP;omega
def D7U(h0:0<=d)(h5:d<=5):((fP d:Nat):Int)=d:=by unfold fP;omega
def E1d(d:Int):(max 0 (min d 5))=((fP d:Nat):Int):=by unfold fP;omega
def C6(d:Int):Nat:=2 ^ fP d
def C8D{n:Nat}(h:n<=5):2 ^ n<=32:=by
 have:=Nat.pow_le_pow_right (n:=2) (by omega) h;simpa using this
def T5(d:Int):C6 d<=32:=C8D (B1q d)
def B5D:[o0]++E8l 32 o0=encI (0::zI 32):=by
 simp [encI,zI]
def toX(t:List Int)(i:Nat):Int:=t.getD i 0
def C5R(h:i<l_ t):t[i]?=A4 (toX t i):=by
 unfold toX;rw [E8k,E8h h];rfl
def B8B(n:Int):Bool:=decide (0<=n)&&decide (n<=65535)
def B7r:A3V [iV n] h=A4 (bV (B8B n),h):=by
 refine B9P (n:=0) (h2:=ro h) ?_ rfl;rw [C4R];unfold B8B;by_cases c:0<=n
 ·simp only [esc,c,E8K]
 ·simp only [esc,c,E8E]
def G5(ht:l_ t=32):(encI (d::t)).length=33:=by rw [C1];simp [ht]
def E1v(ht:l_ t=32)(hi:i<32):(encI (d::t))[1+i]?=A4 (cI (toX t i)):=by
 rw [G6,Nat.add_comm 1 i,E8F,C5R (by omega)];rfl
def D4f{v:Int}:(encI (d::t)).set (1+i) (cI v)=encI (d::t.set i v):=by
 rw [zH,Nat.add_comm 1 i,List.set_cons_succ]
def ldX{id:Nat}{rw:Bool}(hr:rd h id=A4 ⟨encI (d::t),rw⟩)(ht:l_ t=32)(hi:i<32):B9 h (pV id (1+i))=A4 (iV (toX t i)) :=
 B8 hr (E1v ht hi) (by simp [Cell.isX])
def adX{id:Nat}(hi:i<32):K2 32 1 (pV id (0+1)) (iV (i:Int))=A4 (pV id (1+i)):=by rw [O2 hi];simp
def dM:cK [.a (encI (d::t))] h=A4 (iV (fP d:Nat),h):=by
 have key:∀ g,∃ g',A7K 0 [.a (encI (d::t))] g=A4 (iV (fP d:Nat),g'):=by
  intro g;have e1:B6z (iV d) (iV 5)=A4 (iV (min d 5)):=by
   simp only [B6z];by_cases h:(5:Int)<d
   ·rw [C4 h,Int.min_eq_right (by omega)]
   ·rw [C5 h,Int.min_eq_left (by omega)]
  have e2:C5g (iV 0) (iV (min d 5))=A4 (iV (fP d:Nat)):=by
   rw [<-E1d];simp only [C5g];by_cases h:(min d 5:Int) > 0
   ·rw [C4 h,Int.max_eq_right (by omega)]
   ·rw [C5 h,Int.max_eq_left (by omega)]
  have e3:B9 (g++[rT (encI (d::t))]) (pV (l_ g) 0)=A4 (iV d):=B8 (N8) rfl rfl;rw [C1P];generalize hz:encI (d::t)=z at *;exact ⟨_,by simp only [esc,e3,e1,e2]<;>rfl⟩
 obtain ⟨g',e⟩:=key (ro h);exact B76 e rfl
def D8v(hk:k<=5):N4 .shl (iV 1) (.c (.i .u64 (k:Int)))=A4 (iV ((2 ^ k:Nat):Int)):=by
 rw [B96 (by omega)];have h1:Nat.min (k:Int).toNat (IntKind.i64).bits=k:=by
  have:(IntKind.i64).bits=64:=rfl;rw [this,E8D];exact Nat.min_eq_left (by omega)
 have h2:=C8D hk;rw [h1,Int.one_mul];have e:(2:Int) ^ k=((2 ^ k:Nat):Int):=by simp
 rw [e];generalize 2 ^ k=y at h2 ⊢;rw [wrap_i64 (by omega) (by omega)]
def C3v(hk:k<=64):E8r .u64 (k:Int)=(k:Int):=wrap_u64 (by omega) (by omega)
def gN(ht:l_ t=32):fI [.a (encI (d::t))] h=A4 (iV (C6 d:Nat),h):=by
 have key:∀ g,∃ g',B0M 0 [.a (encI (d::t))] g=A4 (iV (C6 d:Nat),g'):=by
  intro g;have hl:=G5 (d:=d) ht;have hd:=λh=>dM (d:=d) (t:=t) (h:=h)
  have e1:=D8v (B1q d);have e2:=C3v (k:=fP d) (by have:=B1q d;omega);rw [C4S];unfold C6;generalize encI (d::t)=z at *;exact ⟨_,by simp only [esc,esh,hl,hd,e1,e2]<;>rfl⟩
 obtain ⟨g',e⟩:=key (ro h);exact B9Q e rfl
def A1a(t:List Int)(i:Nat):Bool:=(E8T i).all λk=>!decide (toX t k=toX t i)
def C7B{d:Int}{g:A9}{i q:Nat}(ht:l_ t=32)(hi:i<32):∀ e k m:Nat,k+e=i->e<m ->
  B4W q m (iV (i:Int)) (pV (l_ g) 0) (iV (i:Int)) (iV (k:Int)) (g++[rT (encI (d::t))]) =
   A4 (bV ((E8Q k e).all λk=>!decide (toX t k=toX t i)),g++[rT (encI (d::t))])
 | e,k,0,_,hm=>by omega
 | 0,k,m+1,hk,hm=>by
  have c0:¬ (k:Int)<i:=by omega
  rw [A7e];simp only [esc,c0,List.range'_zero]
 | e+1,k,m+1,hk,hm=>by
  have ih:=C7B (d:=d) (g:=g) (q:=q) ht hi e (k+1) m (by omega) (by omega);have c0:(k:Int)<i:=by omega
  have a1:=adX (id:=l_ g) (i:=k) (by omega);have a2:=adX (id:=l_ g) (i:=i) (by omega);have l1:=ldX (h:=g++[rT (encI (d::t))]) (id:=l_ g) N8 ht (i:=k) (by omega);have l2:=ldX (h:=g++[rT (encI (d::t))]) (id:=l_ g) N8 ht (i:=i) (by omega);rw [A7e,List.range'_succ,E9p];by_cases c:toX t k=toX t i
  ·rw [O4 c,Bool.not_true,E8E];rw [c] at l1;simp only [esc,c0,a1,a2,l1,l2]
  ·rw [W3 c,Bool.not_false,E8K];simp only [esc,c0,a1,a2,l1,l2,c,E2 (a:=k) (by omega)];exact ih
def B4V(ht:l_ t=32)(hi:i<32):A1P [.a (encI (d::t)),iV (i:Int)] h=A4 (bV (A1a t i),h):=by
 have key:∀ N,i<N->∀ g,∃ g',A7L N [.a (encI (d::t)),iV (i:Int)] g=A4 (bV (A1a t i),g'):=by
  intro N hN g;have e:=C7B (d:=d) (g:=g) (q:=N) ht hi i 0 N (by omega) hN;rw [C1Q];unfold A1a;rw [List.range_eq_range'];exact ⟨_,by simp only [esc];exact e⟩
 obtain ⟨g',e⟩:=key (i+1) (by omega) (ro h);exact B77 e rfl
def Y9(n p b:Nat):List Nat:=(E8T n).filter λk=>k%2 ^ b==p%2 ^ b
def A35(l:List Nat):List Int:=l.map λ(n:Nat)=>(n:Int)
def B4B(l:List Nat):(A35 l).length=(l_ l):=by simp [A35]
def bX(d b:Int):Nat:=(max 0 (min b (fP d:Nat))).toNat
def E6n(d b:Int):bX d b<=fP d:=by unfold bX;omega
def plX(d p b:Int):List Nat:=if 0<=p/\p<(C6 d:Nat) then Y9 (C6 d) p.toNat (bX d b) else []
def B6A(n s r i:Nat):List Nat:=(E8T n).filter λk=>decide (k<i)&&(k%s==r)
def D8P{n s:Nat}(hs:0<s)(hi:i<n)(hr:i%s=r):B6A n s r (i+s)=B6A n s r i++[i]:=by
 unfold B6A;have e:E8T n=E8T i++(i::E8Q (i+1) (n-i-1)):=by
  have e1:E8T n=E8Q 0 (i+(n-i-1+1)):=by
   rw [List.range_eq_range'];congr 1;omega
  rw [e1,<-List.range'_append_1,List.range_eq_range',E8A,List.range'_succ]
 rw [e,E9x,E9x,List.filter_cons,List.filter_cons];have h1:(E8T i).filter (λk=>decide (k<i+s)&&(k%s==r))=(E8T i).filter (λk=>decide (k<i)&&(k%s==r)):=by
  refine List.filter_congr λk hk=>?_
  have:=List.mem_range.1 hk;rw [O4 (show k<i+s by omega),O4 this]
 have h2:(E8Q (i+1) (n-i-1)).filter (λk=>decide (k<i+s)&&(k%s==r))=[]:=by
  rw [List.filter_eq_nil_iff];intro k hk;have hk:=E9s.1 hk;by_cases c:k<i+s
  ·have:k%s≠r:=by
    intro e;have e1:=Nat.div_add_mod k s;have e2:=Nat.div_add_mod i s;rw [e] at e1;rw [hr] at e2;have e4:s*(i/s)<s*(k/s):=by omega
    have e5:i/s<k/s:=Nat.lt_of_mul_lt_mul_left e4;have e6:s*(i/s+1)<=s*(k/s):=Nat.mul_le_mul_left _ e5;rw [Nat.mul_add] at e6;omega
   simp [this]
  ·simp [c]
 have h3:(E8Q (i+1) (n-i-1)).filter (λk=>decide (k<i)&&(k%s==r))=[]:=by
  rw [List.filter_eq_nil_iff];intro k hk;have hk:=E9s.1 hk;rw [W3 (by omega)];simp
 rw [h1,h2,h3,hr];simp [hs]
def E0W{n s:Nat}(hi:n<=i):B6A n s r i=(E8T n).filter λk=>k%s==r:=by
 unfold B6A;refine List.filter_congr λk hk=>?_
 have:=List.mem_range.1 hk;rw [O4 (show k<i by omega),E8K]
def C6T{n s:Nat}:B6A n s r r=[]:=by
 unfold B6A;rw [List.filter_eq_nil_iff];intro k hk;by_cases c:k<r
 ·have:k%s<=k:=Nat.mod_le _ _;have:¬ k%s=r:=by omega
  simp [this]
 ·simp [c]
def D3K(n s r i:Nat):(B6A n s r i).length<=n:=by
 unfold B6A;exact E83 (E9f _ _) (by simp)
def C4q{d:Int}{s q:Nat}(ht:l_ t=32)(hs:0<s)(hs2:s<=32):∀ (e i m:Nat) (h:A9) (id:Nat),C6 d<=i+e->i<=64->e<m->i%s=r->Low (g++[rT (encI (d::t))]).length (g++[rT (encI (d::t))]) h->(g++[rT (encI (d::t))]).length<=id->rd h id=rT (encI (A35 (B6A (C6 d) s r i))) ->
  ∃ v h',B2j q m (pV (l_ g) 0) (iV (s:Int)) (sV id 0 (B6A (C6 d) s r i).length 1) (iV (i:Int)) h=A4 (v,h') /\
   Out (l_ g) h' v 1 ((E8T (C6 d)).filter λk=>k%s==r).length (encI (A35 ((E8T (C6 d)).filter λk=>k%s==r)))
 | e,i,0,h,id,_,_,hm,_,_,_,_=>by omega
 | e,i,m+1,h,id,hi,hi2,hm,hr,hlow,hid,hrd=>by
  have hB:=G5 (d:=d) ht;have s1:=C8 (h:=h) (id:=l_ g) (cs:=encI (d::t)) (hlow.rd (by simp)) hB;have hM:=λh=>gN (d:=d) (h:=h) ht
  have D9j:=T5 d;have hbl:=D3K (C6 d) s r i;rw [E8o] at hid;rw [B8F];by_cases c:i<C6 d
  ·obtain ⟨e,rfl⟩:=X0 e (by omega);have c0:(i:Int)<(C6 d:Nat):=by omega
   have en:=D8P hs c hr;obtain ⟨h1,a1,a2,a3,a4,a5⟩:=push (ys:=[cI (i:Int)]) (sz:=1) (n:=(B6A (C6 d) s r i).length) hlow hrd (by rw [C1,B4B];omega) (by rw [E8o];exact hid) rfl (by omega) (by omega);have he:encI (A35 (B6A (C6 d) s r i))++[cI (i:Int)]=encI (A35 (B6A (C6 d) s r (i+s))):=by rw [en];simp [encI,A35]
   rw [he] at a2;obtain ⟨v,h',f1,f2⟩:=C4q (q:=q) ht hs hs2 e (i+s) m h1 (l_ h+1) (by omega) (by omega) (by omega) (by rw [Nat.add_mod_right];exact hr) a3 a4 a2;have hl1:(B6A (C6 d) s r (i+s)).length=(B6A (C6 d) s r i).length+1:=by rw [en];simp
   rw [hl1] at f1;have ef:F6 [o0] [(0,1,iV (i:Int))]=A4 [cI (i:Int)]:=rfl;refine ⟨v,h',?_,f2⟩;simp only [esc,s1,hM,c0,ef,a1,A50 (show i+s<9223372036854775808 by omega)];exact f1
  ·have c0:¬ (i:Int)<(C6 d:Nat):=by omega
   rw [E0W (by omega)] at hrd ⊢;refine ⟨_,_,by simp only [esc,s1,hM,c0]<;>rfl,by rw [C1,B4B];omega,_,rfl,by omega,hrd⟩
def amm{b:Int}{d:Nat}:∃ w,B6z (iV b) (iV (d:Int))=A4 (iV w)/\C5g (iV 0) (iV w)=A4 (iV ((max 0 (min b d)).toNat:Nat)):=by
 refine ⟨min b d,?_,?_⟩
 ·simp only [B6z];by_cases h:(d:Int)<b
  ·rw [C4 h,Int.min_eq_right (by omega)]
  ·rw [C5 h,Int.min_eq_left (by omega)]
 ·simp only [C5g];by_cases h:(min b d:Int) > 0
  ·rw [C4 h,Int.max_eq_right (by omega),Int.toNat_of_nonneg (by omega)]
  ·rw [C5 h,Int.max_eq_left (by omega)];rfl
def B2i{b:Int}(ht:l_ t=32) :
  yE [.a (encI (d::t)),iV p,iV b] h=A4 (sV (l_ h) 0 (plX d p b).length 1,h++[rT (encI (A35 (plX d p b)))]):=by
 have key:∀ N,64<N->∀ g,∃ v g',A4T N [.a (encI (d::t)),iV p,iV b] g=A4 (v,g')/\Out (l_ g) g' v 1 (plX d p b).length (encI (A35 (plX d p b))):=by
  intro N hN g;have hB:=G5 (d:=d) ht;have hM:=λh=>gN (d:=d) (h:=h) ht
  have hD:=λh=>dM (d:=d) (t:=t) (h:=h)
  have D9j:=T5 d;rw [B9o];unfold plX;by_cases c1:p<0
  ·rw [C5 (by omega)];refine ⟨sV (l_ g+2) 0 0 1,g++[rT (encI (d::t)),rT [],rT []],?_,rfl,l_ g+2,rfl,by omega,by simp [encI,A35]⟩;generalize encI (d::t)=z at *;simp only [esc,c1]
  ·by_cases c2:((C6 d:Nat):Int)<=p
   ·rw [C5 (by omega)];refine ⟨sV (l_ g+2) 0 0 1,g++[rT (encI (d::t)),rT [],rT []],?_,rfl,l_ g+2,rfl,by omega,by simp [encI,A35]⟩;generalize encI (d::t)=z at *;simp only [esc,esh,Nat.reduceAdd,hB,hM,c1,c2]
   ·rw [C4 (by omega)];obtain ⟨p,rfl⟩:∃ n:Nat,p=n:=⟨p.toNat,by omega⟩;rw [E8D];obtain ⟨w,m1,m2⟩:=amm (b:=b) (d:=fP d);have hbx:=E6n d b;have hdl:=B1q d;change C5g _ _=A4 (iV ((bX d b:Nat):Int)) at m2;have e1:=D8v (k:=bX d b) (by omega);have e2:=C3v (k:=bX d b) (by omega);have hp0:0<2 ^ bX d b:=Nat.pow_pos (by omega);have hp1:=C8D (show bX d b<=5 by omega);have e3:N4 .rem (iV (p:Int)) (iV ((2 ^ bX d b:Nat):Int))=A4 (iV ((p%2 ^ bX d b:Nat):Int)):=by
     rw [D5n (by omega) (by omega)];simp
    have hpm:p%2 ^ bX d b<2 ^ bX d b:=Nat.mod_lt _ hp0;unfold Y9;generalize 2 ^ bX d b=s at *;obtain ⟨v,g',f1,f2⟩:=C4q (g:=g) (d:=d) (t:=t) (q:=N) (s:=s) (r:=p%s) ht hp0 hp1 (C6 d) (p%s) N (g++[rT (encI (d::t)),rT [],rT []]) (l_ g+2) (by omega) (by omega) (by omega) (Nat.mod_mod _ _)
     (by have:=(Low.refl (h:=g++[rT (encI (d::t))]) (E8m _)).new [rT [],rT []];simpa using this) (by simp) (by rw [C6T];simp [encI,A35])
    rw [C6T] at f1;refine ⟨v,g',?_,f2⟩;generalize encI (d::t)=z at *;simp only [esc,esh,Nat.reduceAdd,hB,hM,hD,c1,c2,m1,m2,e1,e2,e3] at f1 ⊢;exact f1
 obtain ⟨v,g',e,ho⟩:=key (l_ h+65) (by omega) (ro h);exact B73 e (by simpa [G8] using ho) (by simp)
def C9H{l:List Nat}(hi:i<l_ l):(encI (A35 l))[i]?=A4 (cI ((l[i]:Nat):Int)):=by
 rw [G6];unfold A35;rw [List.getElem?_map,E8h hi];rfl
def B1W(t:List Int)(l:List Nat)(no:Int):Bool:=l.all λk=>decide (toX t k=no)
def C9d{d no:Int}{l:List Nat}{q:Nat}(ht:l_ t=32)(hl:∀ k∈l,k<32)(hv:Has g v 1 (l_ l) (encI (A35 l)))(hll:l_ l<9223372036854775807):∀ e i m:Nat,i+e=l_ l->e<m ->
  B4X q m (iV no) (pV (l_ g) 0) v (iV (l_ l:Nat)) (iV (i:Int)) (g++[rT (encI (d::t))])=A4 (bV (B1W t (l.drop i) no),g++[rT (encI (d::t))])
 | e,i,0,_,hm=>by omega
 | 0,i,m+1,hi,hm=>by
  have c0:¬ (i:Int)<(l_ l:Nat):=by omega
  rw [A7f,E8x (by omega)];simp only [esc,c0,B1W]
 | e+1,i,m+1,hi,hm=>by
  have ih:=C9d (d:=d) (no:=no) (q:=q) ht hl hv hll e (i+1) m (by omega) (by omega);have c0:(i:Int)<(l_ l:Nat):=by omega
  obtain ⟨id,off,ev,hid,k1,k2⟩:=(hv.more [rT (encI (d::t))]).sl (by omega);have hx:=k1 i _ (C9H (by omega));have eb:F0 1 v (iV (i:Int))=A4 (pV id (off+i)):=by rw [ev,E4 (by omega)];simp
  have hk:=hl l[i] (E8M (by omega));have a1:=adX (id:=l_ g) (i:=l[i]) hk;have l1:=ldX (h:=g++[rT (encI (d::t))]) (id:=l_ g) N8 ht (i:=l[i]) hk;rw [A7f,E8s (by omega:i<l_ l),B1W,E9p];rw [B1W] at ih;by_cases c:toX t l[i]=no
  ·rw [O4 c,E8K];rw [c] at l1;simp only [esc,c0,eb,hx,a1,l1,E2 (a:=i) (by omega)];exact ih
  ·rw [W3 c,E8E];simp only [esc,c0,eb,hx,a1,l1,c]
def C7X{l:List Nat}(ht:l_ t=32)(hl:∀ k∈l,k<32)(hv:Has h v 1 (l_ l) (encI (A35 l)))(hll:l_ l<9223372036854775807) :
  A72 [.a (encI (d::t)),v,iV no] h=A4 (bV (B1W t l no),h):=by
 have key:∀ N,l_ l<N->∀ g,Has g v 1 (l_ l) (encI (A35 l))->∃ g',A7M N [.a (encI (d::t)),v,iV no] g=A4 (bV (B1W t l no),g'):=by
  intro N hN g hv;have e:=C9d (d:=d) (no:=no) (q:=N) ht hl hv hll (l_ l) 0 N (by omega) hN;rw [E8y] at e;rw [C1R];exact ⟨_,by simp only [esc,hv.len];exact e⟩
 obtain ⟨g',e⟩:=key (l_ l+1) (by omega) (ro h) hv.ro;exact B78 e rfl
def D68{n p b:Nat}(hn:n<=32):∀ k∈Y9 n p b,k<32:=by
 intro k hk;have:=List.mem_range.1 (E8Z.1 hk).1;omega
def C8A(n p b:Nat):(Y9 n p b).length<=n:=E83 (E9f _ _) (by simp)
def E2u{p b:Nat}(hp:p<C6 d)(hb:b<=fP d):plX d p b=Y9 (C6 d) p b:=by
 unfold plX;have:bX d b=b:=by unfold bX;omega
 rw [C4 ⟨by omega,by omega⟩,this,E8D]
def A9h(n:Nat)(t:List Int)(p b:Nat):Bool:=!decide (toX t p=0)&&B1W t (Y9 n p b) (toX t p)
def aP(n:Nat)(t:List Int)(p:Nat):Nat->Nat->Nat
 | b,0=>b
 | b,e+1=>bif A9h n t p b then b else aP n t p (b+1) e
def Y4(d:Int)(t:List Int)(p:Nat):Nat:=aP (C6 d) t p 0 (fP d)
def C2C{d:Int}{t:List Int}{p q:Nat}(ht:l_ t=32)(hp:p<C6 d):∀ (e b m:Nat) (h:A9),b+e=fP d->e<m->Low (g++[rT (encI (d::t))]).length (g++[rT (encI (d::t))]) h ->
  ∃ h',B7q q m (iV (p:Int)) (pV (l_ g) 0) (iV (fP d:Nat)) (iV (b:Int)) h=A4 (iV (aP (C6 d) t p b e:Nat),h')
 | e,b,0,h,_,hm,_=>by omega
 | 0,b,m+1,h,hb,hm,hlow=>by
  have e0:b=fP d:=by omega
  subst e0;have c0:¬ ((fP d:Nat):Int)<(fP d:Nat):=by omega
  have hB:=G5 (d:=d) ht;have s1:=C8 (h:=h) (id:=l_ g) (cs:=encI (d::t)) (hlow.rd (by simp)) hB;have hD:=λh=>dM (d:=d) (t:=t) (h:=h)
  rw [A9Q];generalize encI (d::t)=z at *;exact ⟨_,by simp only [esc,c0,s1,hD,aP]<;>rfl⟩
 | e+1,b,m+1,h,hb,hm,hlow=>by
  have D9j:=T5 d;have hdl:=B1q d;have c0:(b:Int)<(fP d:Nat):=by omega
  have hB:=G5 (d:=d) ht;have hrd:rd h (l_ g)=rT (encI (d::t)):=hlow.rd (by simp);have s1:=C8 (h:=h) (id:=l_ g) (cs:=encI (d::t)) hrd hB;have a1:=adX (id:=l_ g) (i:=p) (by omega);have l1:=ldX (h:=h) (id:=l_ g) hrd ht (i:=p) (by omega);have hP:=B2i (d:=d) (p:=p) (b:=b) (h:=h) ht;rw [E2u hp (by omega)] at hP;have hq:=U9 ((Grows.rfl' (h:=h)).new (encI (A35 (Y9 (C6 d) p b)))) (v:=sV (l_ h) 0 (Y9 (C6 d) p b).length 1);have hW:=C7X (d:=d) (no:=toX t p) (h:=h++[rT (encI (A35 (Y9 (C6 d) p b)))]) (v:=sV (l_ h) 0 (Y9 (C6 d) p b).length 1) ht (D68 (p:=p) (b:=b) D9j) (Has.row (rw:=A5) N8 (by rw [C1,B4B];omega) (A5K _)) (by have:=C8A (C6 d) p b;omega);have l2:=ldX (h:=h++[rT (encI (A35 (Y9 (C6 d) p b)))]) (id:=l_ g) (B6 hrd) ht (i:=p) (by omega);rw [A9Q,aP];unfold A9h;by_cases cz:toX t p=0
  ·obtain ⟨h',ih⟩:=C2C (q:=q) ht hp e (b+1) m h (by omega) (by omega) hlow;rw [O4 cz,Bool.not_true,E8E,bZ];rw [cz] at l1;refine ⟨h',?_⟩;generalize encI (d::t)=z at *;simp only [esc,c0,a1,l1,E2 (a:=b) (by omega)];exact ih
  ·rw [W3 cz,Bool.not_false,E8K];cases cw:B1W t (Y9 (C6 d) p b) (toX t p) with
   | true =>
    rw [cw] at hW;rw [S8];generalize encI (d::t)=z at *;exact ⟨_,by simp only [esc,c0,a1,l1,cz,s1,hP,hq,hW]<;>rfl⟩
   | false =>
    rw [cw] at hW;obtain ⟨h',ih⟩:=C2C (q:=q) ht hp e (b+1) m (h++[rT (encI (A35 (Y9 (C6 d) p b)))]) (by omega) (by omega) (hlow.new _);rw [bZ];refine ⟨h',?_⟩;generalize encI (d::t)=z at *;simp only [esc,c0,a1,l1,cz,s1,hP,hq,hW,E2 (a:=b) (by omega)];exact ih
def E0X(d:Int)(t:List Int)(p:Int):Nat:=if 0<=p/\p<(C6 d:Nat) then Y4 d t p.toNat else 0
def C9R(ht:l_ t=32):B09 [.a (encI (d::t)),iV p] h=A4 (iV (E0X d t p:Nat),h):=by
 have key:∀ N,5<N->∀ g,∃ g',B0L N [.a (encI (d::t)),iV p] g=A4 (iV (E0X d t p:Nat),g'):=by
  intro N hN g;have hB:=G5 (d:=d) ht;have hM:=λh=>gN (d:=d) (h:=h) ht
  have hD:=λh=>dM (d:=d) (t:=t) (h:=h)
  have hdl:=B1q d;rw [C4Q];unfold E0X;by_cases c1:p<0
  ·rw [C5 (by omega)];generalize encI (d::t)=z at *;exact ⟨_,by simp only [esc,c1]<;>rfl⟩
  ·by_cases c2:((C6 d:Nat):Int)<=p
   ·rw [C5 (by omega)];generalize encI (d::t)=z at *;exact ⟨_,by simp only [esc,esh,hB,hM,c1,c2]<;>rfl⟩
   ·rw [C4 (by omega)];obtain ⟨p,rfl⟩:∃ n:Nat,p=n:=⟨p.toNat,by omega⟩;rw [E8D];obtain ⟨h',e⟩:=C2C (g:=g) (q:=N) ht (show p<C6 d by omega) (fP d) 0 N (g++[rT (encI (d::t))]) (by omega) (by omega) (Low.refl (E8m _));unfold Y4;refine ⟨h',?_⟩;generalize encI (d::t)=z at *;simp only [esc,esh,hB,hM,hD,c1,c2];exact e
 obtain ⟨g',e⟩:=key (l_ h+6) (by omega) (ro h);exact B9O e rfl
def E3v{p:Nat}(hp:p<C6 d):E0X d t p=Y4 d t p:=by
 unfold E0X;rw [C4 ⟨by omega,by omega⟩,E8D]
def zC(n:Nat)(t:List Int)(no:Int):Nat:=((E8T n).filter λk=>decide (toX t k=no)).length
def D32{n:Nat}:zC (n+1) t no=zC n t no+(if toX t n=no then 1 else 0):=by
 unfold zC;rw [List.range_succ,E9x,E8o,List.filter_cons];by_cases c:toX t n=no<;>simp [c]
def D8X{n:Nat}:zC n t no<=n:=E83 (E9f _ _) (by simp)
def C7f{d no:Int}{t:List Int}{g:A9}{n q:Nat}(ht:l_ t=32)(hn:n<=32):∀ e i m:Nat,i+e=n->e<m ->
  B4U q m (iV no) (pV (l_ g) 0) (iV (zC i t no:Nat)) (iV (n:Int)) (iV (i:Int)) (g++[rT (encI (d::t))])=A4 (iV (zC n t no:Nat),g++[rT (encI (d::t))])
 | e,i,0,_,hm=>by omega
 | 0,i,m+1,hi,hm=>by
  have e0:i=n:=by omega
  subst e0;have c0:¬ (i:Int)<i:=by omega
  rw [A7d];simp only [esc,c0]
 | e+1,i,m+1,hi,hm=>by
  have ih:=C7f (d:=d) (no:=no) (g:=g) (q:=q) ht hn e (i+1) m (by omega) (by omega);have c0:(i:Int)<n:=by omega
  have a1:=adX (id:=l_ g) (i:=i) (by omega);have l1:=ldX (h:=g++[rT (encI (d::t))]) (id:=l_ g) N8 ht (i:=i) (by omega);have hc:=D8X (n:=i) (t:=t) (no:=no);rw [D32] at ih;rw [A7d];generalize zC i t no=C at *;by_cases c:toX t i=no
  ·rw [C4 c] at ih;rw [c] at l1;simp only [esc,c0,a1,l1,A7c,E2 (a:=C) (by omega),E2 (a:=i) (by omega)];exact ih
  ·rw [C5 c,E9y] at ih;simp only [esc,c0,a1,l1,c,A7c,E2 (a:=i) (by omega)];exact ih
def C7V(ht:l_ t=32):A71 [.a (encI (d::t)),iV no] h=A4 (iV (zC (C6 d) t no:Nat),h):=by
 have key:∀ N,32<N->∀ g,∃ g',A7J N [.a (encI (d::t)),iV no] g=A4 (iV (zC (C6 d) t no:Nat),g'):=by
  intro N hN g;have hB:=G5 (d:=d) ht;have hM:=λh=>gN (d:=d) (h:=h) ht
  have hm:=T5 d;have e:=C7f (d:=d) (no:=no) (g:=g) (q:=N) ht hm (C6 d) 0 N (by omega) (by omega);rw [show zC 0 t no=0 from rfl] at e;rw [C1O];generalize encI (d::t)=z at *;exact ⟨_,by simp only [esc,esh,hB,hM];exact e⟩
 obtain ⟨g',e⟩:=key (l_ h+33) (by omega) (ro h);exact B75 e rfl
def B7J(d:Int)(t:List Int)(i:Nat):Bool:=decide ((Y9 (C6 d) i (Y4 d t i)).length=zC (C6 d) t (toX t i))
def zM(d:Int)(t:List Int)(i:Nat):Bool:=!decide (toX t i=0)&&(B8B (toX t i)&&(A1a t i||B7J d t i))
def zZ(d:Int)(t:List Int)(i:Nat):Int:=bif zM d t i then toX t i else 0
def nL(d:Int)(t:List Int)(k:Nat):List Int:=(E8T k).map (zZ d t)++zI (32-k)
def pB(hk:k<=32):(nL d t k).length=32:=by simp [nL,zI];omega
def D9d:nL d t 0=zI 32:=rfl
def D9c(hk:k<32):nL d t (k+1)=(nL d t k).set k (zZ d t k):=by
 unfold nL;have e:zI (32-k)=0::zI (32-(k+1)):=by
  unfold zI;rw [show 32-k=(32-(k+1))+1 by omega,E81]
 rw [e,E9a _ _ (by simp),List.range_succ,E9e,E8t];simp
def D9b(hk:k<32)(hf:zZ d t k=0):nL d t (k+1)=nL d t k:=by
 unfold nL;have e:zI (32-k)=0::zI (32-(k+1)):=by
  unfold zI;rw [show 32-k=(32-(k+1))+1 by omega,E81]
 rw [e,List.range_succ,E9e,E8t];simp [hf]
def C7C{d:Int}{t:List Int}{q:Nat}(ht:l_ t=32):∀ (e i m:Nat) (h:A9),i+e=C6 d->e<m->Low (g++[rT (encI (d::t)),rT (encI (0::zI 32))]).length (g++[rT (encI (d::t)),rT (encI (0::zI 32))]) h->rd h (l_ g+2)=rT (encI (d::nL d t i)) ->
  ∃ h',A4a q m (pV (l_ g) 0) (pV (l_ g+1) 0) (pV (l_ g+2) 0) (iV (C6 d:Nat)) (iV (i:Int)) h=A4 (.a (encI (d::nL d t (C6 d))),h')
 | e,i,0,h,_,hm,_,_=>by omega
 | 0,i,m+1,h,hi,hm,hlow,hr=>by
  have e0:i=C6 d:=by omega
  subst e0;have c0:¬ ((C6 d:Nat):Int)<(C6 d:Nat):=by omega
  have hF:=G5 (d:=d) (pB (d:=d) (t:=t) (T5 d));have hz:(encI (0::zI 32)).length=33:=G5 (d:=0) N5;have hr1:rd h (l_ g+1)=rT (encI (0::zI 32)):=hlow.rd (by simp);have s1:=C8 (h:=h) (id:=l_ g+2) hr hF;have s2:=storeAll (h:=h) (id:=l_ g+1) (xs:=encI (d::nL d t (C6 d))) hr1 hz hF;have s3:=C8 (h:=h.set (l_ g+1) (rT (encI (d::nL d t (C6 d))))) (id:=l_ g+1) (D3 (E1 hr1)) hF;rw [B2f];generalize encI (d::nL d t (C6 d))=z at *;exact ⟨_,by simp only [esc,c0,s1,s2,s3]<;>rfl⟩
 | e+1,i,m+1,h,hi,hm,hlow,hr=>by
  have D9j:=T5 d;have c0:(i:Int)<(C6 d:Nat):=by omega
  have hB:=G5 (d:=d) ht;have hrd:rd h (l_ g)=rT (encI (d::t)):=hlow.rd (by simp);have s1:=C8 (h:=h) (id:=l_ g) (cs:=encI (d::t)) hrd hB;have a1:=adX (id:=l_ g) (i:=i) (by omega);have l1:=ldX (h:=h) (id:=l_ g) hrd ht (i:=i) (by omega);have hFi:=λh=>B7r (n:=toX t i) (h:=h)
  have hFs:=λh=>B4V (d:=d) (t:=t) (i:=i) (h:=h) ht (by omega)
  have w1:=E2 (a:=i) (by omega);have hk:i<32:=by omega
  have skip:zZ d t i=0->∀ h2,Low (g++[rT (encI (d::t)),rT (encI (0::zI 32))]).length (g++[rT (encI (d::t)),rT (encI (0::zI 32))]) h2->rd h2 (l_ g+2)=rT (encI (d::nL d t i)) ->
    ∃ h',A4a q m (pV (l_ g) 0) (pV (l_ g+1) 0) (pV (l_ g+2) 0) (iV (C6 d:Nat)) (iV ((i+1:Nat):Int)) h2=A4 (.a (encI (d::nL d t (C6 d))),h'):=by
   intro hf h2 hlow2 hr2;exact C7C (q:=q) ht e (i+1) m h2 (by omega) (by omega) hlow2 (by rw [D9b hk hf];exact hr2)
  have a3:=adX (id:=l_ g+2) (i:=i) hk;have put:zZ d t i=toX t i->∀ h2,Low (g++[rT (encI (d::t)),rT (encI (0::zI 32))]).length (g++[rT (encI (d::t)),rT (encI (0::zI 32))]) h2->rd h2 (l_ g+2)=rT (encI (d::nL d t i)) ->
    ∃ h3,I8 h2 (pV (l_ g+2) (1+i)) (iV (toX t i))=A4 h3/\∃ h',A4a q m (pV (l_ g) 0) (pV (l_ g+1) 0) (pV (l_ g+2) 0) (iV (C6 d:Nat)) (iV ((i+1:Nat):Int)) h3=A4 (.a (encI (d::nL d t (C6 d))),h'):=by
   intro hf h2 hlow2 hr2;have hF:=G5 (d:=d) (pB (d:=d) (t:=t) (k:=i) (by omega));have t1:=I9 (x:=cI (toX t i)) (off:=1+i) hr2 (by rw [hF];omega);rw [D4f,<-hf,<-D9c hk,hf] at t1;refine ⟨_,t1,C7C (q:=q) ht e (i+1) m _ (by omega) (by omega) (hlow2.set (by simp) _) (D3 (E1 hr2))⟩
  rw [B2f];by_cases cz:toX t i=0
  ·have hf:zZ d t i=0:=by unfold zZ zM;rw [O4 cz];rfl
   obtain ⟨h',ih⟩:=skip hf h hlow hr;rw [cz] at l1;refine ⟨h',?_⟩;generalize encI (d::t)=z at *;simp only [esc,c0,a1,l1,kU,w1];exact ih
  ·cases cf:B8B (toX t i) with
   | false =>
    rw [cf] at hFi;have hf:zZ d t i=0:=by unfold zZ zM;rw [cf,E8E,Bool.and_false,bZ]
    obtain ⟨h',ih⟩:=skip hf h hlow hr;refine ⟨h',?_⟩;generalize encI (d::t)=z at *;simp only [esc,c0,a1,l1,cz,hFi,kU,w1];exact ih
   | true =>
    rw [cf] at hFi;cases cs:A1a t i with
    | true =>
     rw [cs] at hFs;have hf:zZ d t i=toX t i:=by unfold zZ zM;rw [cf,cs,W3 cz];rfl
     obtain ⟨h3,st,h',ih⟩:=put hf h hlow hr;refine ⟨h',?_⟩;generalize encI (d::t)=z at *;simp only [esc,c0,a1,l1,cz,hFi,s1,hFs,a3,st,kU,w1];exact ih
    | false =>
     rw [cs] at hFs;have hBi:=λh=>C9R (d:=d) (t:=t) (p:=(i:Int)) (h:=h) ht
     rw [E3v (by omega)] at hBi;have hbl:Y4 d t i<=fP d:=by
      have:∀ e b,aP (C6 d) t i b e<=b+e:=by
       intro e
       induction e with
       | zero=>intro b;exact E8m _
       | succ e ih =>
        intro b;unfold aP;cases A9h (C6 d) t i b
        ·rw [bZ];have:=ih (b+1);omega
        ·rw [S8];omega
      have:=this (fP d) 0;unfold Y4;omega
     have hP:=B2i (d:=d) (p:=(i:Int)) (b:=(Y4 d t i:Nat)) (h:=h) ht;rw [E2u (by omega) hbl] at hP;have hq:=U9 ((Grows.rfl' (h:=h)).new (encI (A35 (Y9 (C6 d) i (Y4 d t i))))) (v:=sV (l_ h) 0 (Y9 (C6 d) i (Y4 d t i)).length 1);have hC:=λh=>C7V (d:=d) (no:=toX t i) (h:=h) ht
     have ew:decide (((Y9 (C6 d) i (Y4 d t i)).length:Int)=((zC (C6 d) t (toX t i):Nat):Int))=B7J d t i:=by
      unfold B7J;by_cases c:(Y9 (C6 d) i (Y4 d t i)).length=zC (C6 d) t (toX t i)
      ·rw [O4 c,O4 (by omega)]
      ·rw [W3 c,W3 (by omega)]
     have hlow2:=hlow.new [rT (encI (A35 (Y9 (C6 d) i (Y4 d t i))))];have hr2:rd (h++[rT (encI (A35 (Y9 (C6 d) i (Y4 d t i))))]) (l_ g+2)=rT (encI (d::nL d t i)):=B6 hr;cases cw:B7J d t i with
     | true =>
      rw [cw] at ew;have hf:zZ d t i=toX t i:=by unfold zZ zM;rw [cf,cs,cw,W3 cz];rfl
      obtain ⟨h3,st,h',ih⟩:=put hf _ hlow2 hr2;refine ⟨h',?_⟩;generalize encI (d::t)=z at *;simp only [esc,c0,a1,l1,cz,hFi,s1,hFs,hBi,hP,hq,hC,ew,a3,st,kU,w1];exact ih
     | false =>
      rw [cw] at ew;have hf:zZ d t i=0:=by unfold zZ zM;rw [cf,cs,cw,W3 cz];rfl
      obtain ⟨h',ih⟩:=skip hf _ hlow2 hr2;refine ⟨h',?_⟩;generalize encI (d::t)=z at *;simp only [esc,c0,a1,l1,cz,hFi,s1,hFs,hBi,hP,hq,hC,ew,kU,w1];exact ih
def A9H(d:Int)(t:List Int):List Int:=if 0<=d/\d<=5 then d::nL d t (C6 d) else 0::zI 32
def C0x(ht:l_ t=32):A6F [.a (encI (d::t))] h=A4 (.a (encI (A9H d t)),h):=by
 have key:∀ N,32<N->∀ g,∃ g',B3n N [.a (encI (d::t))] g=A4 (.a (encI (A9H d t)),g'):=by
  intro N hN g;have hB:=G5 (d:=d) ht;have hz:(encI (0::zI 32)).length=33:=G5 (d:=0) N5;have hM:=λh=>gN (d:=d) (h:=h) ht
  have hD:=λh=>dM (d:=d) (t:=t) (h:=h)
  have l0:(encI (d::t))[0]?=A4 (cI d):=rfl;have haf:F6 (encI (0::zI 32)) []=A4 (encI (0::zI 32)):=rfl;rw [C55,B5D];unfold A9H;by_cases c:0<=d/\d<=5
  ·rw [C4 c];have hd:=D7U c.1 c.2;rw [hd] at hD;have ef:F6 (encI (0::zI 32)) [(0,1,iV d)]=A4 (encI (d::zI 32)):=by
    have e1:(0+1<=(encI (0::zI 32)).length):=by rw [hz];omega
    simp only [F6,cells?];rw [C4 ⟨rfl,e1⟩];rfl
   have hz2:(encI (d::zI 32)).length=33:=G5 (d:=d) N5;obtain ⟨h',e⟩:=C7C (g:=g) (d:=d) (t:=t) (q:=N) ht (C6 d) 0 N (g++[rT (encI (d::t)),rT (encI (0::zI 32)),rT (encI (d::zI 32))]) (by omega) (by have:=T5 d;omega)
    (by have:=(Low.refl (h:=g++[rT (encI (d::t)),rT (encI (0::zI 32))]) (E8m _)).new [rT (encI (d::zI 32))];simpa using this) (by rw [D9d];simp)
   refine ⟨h',?_⟩;generalize encI (d::zI 32)=z2 at *;generalize encI (0::zI 32)=z at *;generalize encI (d::t)=y at *;simp only [esc,esh,Nat.reduceAdd,hB,hz,l0,hM,hD,ef,hz2];exact e
  ·rw [C5 c];have cd:¬ d=((fP d:Nat):Int):=by unfold fP;omega
   generalize encI (0::zI 32)=z at *;generalize encI (d::t)=y at *;exact ⟨_,by simp only [esc,esh,Nat.reduceAdd,hB,hz,l0,hD,cd,haf]<;>rfl⟩
 obtain ⟨g',e⟩:=key (l_ h+33) (by omega) (ro h);exact C2c e (by simp)
def E7U:([Sh.i .i64]++E8l 32 (Sh.i .i64))=E8l 33 (.i .i64):=rfl
def A1j(d:Int)(t:List Int):Bool:=decide (0<=d)&&(decide (d<=5)&&decide (A9H d t=d::t))
def C4f:(A9H d t).length=33:=by
 unfold A9H;split
 ·rw [E8w,pB (T5 d)]
 ·rw [E8w,N5]
def C7U(ht:l_ t=32):A1O [.a (encI (d::t))] h=A4 (bV (A1j d t),h):=by
 have key:∀ g,∃ g',A7I 0 [.a (encI (d::t))] g=A4 (bV (A1j d t),g'):=by
  intro g;have hB:=G5 (d:=d) ht;have hF:=λh=>C0x (d:=d) (t:=t) (h:=h) ht
  have hE:=C6L (l:=A9H d t) (m:=d::t) (n:=33) C4f (by simp [ht]);have l0:(encI (d::t))[0]?=A4 (cI d):=rfl;rw [C1N,E7U];unfold A1j;generalize A9H d t=F at *;by_cases c1:0<=d
  ·by_cases c2:d<=5
   ·generalize decide (F=d::t)=B at *;generalize encI (d::t)=y at *;exact ⟨_,by simp only [esc,esh,hB,l0,c1,c2,hF,hE,E8K]<;>rfl⟩
   ·generalize encI (d::t)=y at *;exact ⟨_,by simp only [esc,esh,hB,l0,c1,c2,E8K,E8E]<;>rfl⟩
  ·generalize encI (d::t)=y at *;exact ⟨_,by simp only [esc,esh,hB,l0,c1,E8E]<;>rfl⟩
 obtain ⟨g',e⟩:=key (ro h);exact B74 e rfl
def pM(d:List Int):List UInt8:=(d.map (D6 2)).flatten
def A2E{d:List Int}:(pM d).length=2*(l_ d):=by
 induction d with
 | nil=>rfl
 | cons x d ih=>simp only [pM,E9c,E9v,E8o,R4,E8w] at ih ⊢;omega
def D9L{d:List Int}:pM (d++[x])=pM d++D6 2 x:=by simp [pM]
def magX:List UInt8:=[105,100,120,33]
def A5F(d:Int):List UInt8:=magX++D6 1 d++zeros 27
def A2v:(A5F d).length=32:=by simp [A5F,magX]
def pH(d:Int)(t:List Int):List UInt8:=R2 256 (A5F d++pM t)
def A7a(ht:l_ t=32):(pH d t).length=256:=I7 (by rw [E8o,A2v,A2E];omega)
def D66{n:Nat}{l:List UInt8}(h:l_ l+k<=n):R2 n (l++zeros k)=R2 n l:=by
 unfold R2 zeros;rw [E8t,List.replicate_append_replicate,E8o,E8S]
 congr 2;omega
def okX(d:Int)(t:List Int):Bool:=decide (0<=d)&&(decide (d<=5)&&t.all B8B)
def D09{d:Int}{g:A9}{y:List Cell}{q:Nat}(ht:l_ t=32)(hyl:y.length=33):∀ e i m:Nat,i+e=32->e<m ->
  ∃ h',C0C q m (pV (l_ g+1) 0) (pV (l_ g+3) 0) (.a (encI t)) (iV (i:Int)) (g++[rT y,rT (B4 (zeros 256)),rT (B4 magX),rT (B4 (R2 256 (A5F d++pM (t.take i))))]) =
   A4 (.t [.a (B4 (bif (t.drop i).all B8B then pH d t else zeros 256)),.c (cI (bif (t.drop i).all B8B then 0 else 1))],h')
 | e,i,0,_,hm=>by omega
 | 0,i,m+1,hi,hm=>by
  have e0:i=32:=by omega
  subst e0;have c0:¬ ((32:Nat):Int)<32:=by omega
  have hz:(B4 (zeros 256)).length=256:=by rw [B5];exact zeros_length
  have hB:(B4 (pH d t)).length=256:=by rw [B5];exact A7a ht
  have eB:R2 256 (A5F d++pM t)=pH d t:=rfl;rw [B2k,E8B (by omega),E8x (by omega),List.all_nil,S8,S8,eB];generalize pH d t=B at *;generalize B4 magX=mg at *;generalize zeros 256=z at *;exact ⟨_,by simp only [esc,esh,c0,hz,hB]<;>rfl⟩
 | e+1,i,m+1,hi,hm=>by
  obtain ⟨h',ih⟩:=D09 (d:=d) (g:=g) (q:=q) ht hyl e (i+1) m (by omega) (by omega);have c0:(i:Int)<32:=by omega
  have hz:(B4 (zeros 256)).length=256:=by rw [B5];exact zeros_length
  have haf:F6 (E8l 256 (Cell.i .u8 0)) []=A4 (E8l 256 (Cell.i .u8 0)):=rfl;rw [G9] at haf;have hx:A5j 32 (.a (encI t)) (iV (i:Int))=A4 (iV t[i]):=by
   rw [B4S (by omega),G6,E8h (by omega)];rfl
  have hF:=λh=>B7r (n:=t[i]) (h:=h)
  have hnl:(A5F d++pM (t.take i)).length=32+2*i:=by rw [E8o,A2v,A2E,E8Y];omega
  have hP0:(R2 256 (A5F d++pM (t.take i))).length=256:=I7 (by omega);have hp:(B4 (R2 256 (A5F d++pM (t.take i)))).length=256:=by rw [B5,hP0]
  have hW:=λh=>aW (h:=h) (l:=R2 256 (A5F d++pM (t.take i))) hP0 (a:=((32+2*i:Nat):Int)) (w:=2) (v:=t[i])
  have ew:=lU (l:=A5F d++pM (t.take i)) (a:=32+2*i) (w:=2) (v:=t[i]) (by omega) (by omega) (by omega) (by omega);rw [hnl,E9t,show zeros 0=[] from rfl,E8C,E8t,<-D9L,<-E8R (by omega)] at ew;rw [show ((2:Nat):Int)=2 from rfl] at ew;rw [ew] at hW;have hp2:(B4 (R2 256 (A5F d++pM (t.take (i+1))))).length=256:=by rw [B5,I7 (by rw [E8o,A2v,A2E,E8Y];omega)]
  have w1:E8r .i64 (2*(i:Int))=((2*i:Nat):Int):=by rw [wrap_i64 (by omega) (by omega)];omega
  have w2:E8r .i64 (32+((2*i:Nat):Int))=((32+2*i:Nat):Int):=by rw [wrap_i64 (by omega) (by omega)];omega
  rw [B2k,G9,E8s (by omega:i<l_ t),E9p];generalize R2 256 (A5F d++pM (t.take (i+1)))=P1 at *;generalize R2 256 (A5F d++pM (t.take i))=P0 at *;generalize pH d t=B at *;generalize B4 magX=mg at *;generalize zeros 256=z at *;cases c:B8B t[i] with
  | false =>
   rw [c] at hF;rw [E8E,bZ,bZ];exact ⟨_,by simp only [esc,esh,c0,hx,hF,haf,hz]<;>rfl⟩
  | true =>
   rw [c] at hF;rw [E8K];refine ⟨h',?_⟩;simp only [esc,esh,c0,hx,hF,hp,w1,w2,hW,hp2,E2 (a:=i) (by omega)];exact ih
def C0B(ht:l_ t=32):A6H [.a (encI (d::t))] h=A4 (.t [.a (B4 (bif okX d t then pH d t else zeros 256)),.c (cI (bif okX d t then 0 else 1))],h):=by
 have key:∀ N,32<N->∀ g,∃ g',B3p N [.a (encI (d::t))] g=A4 (.t [.a (B4 (bif okX d t then pH d t else zeros 256)),.c (cI (bif okX d t then 0 else 1))],g'):=by
  intro N hN g;have hB:=G5 (d:=d) ht;have hz:(B4 (zeros 256)).length=256:=by rw [B5];exact zeros_length
  have hD:=λh=>dM (d:=d) (t:=t) (h:=h)
  have l0:(encI (d::t))[0]?=A4 (cI d):=rfl;have haf:F6 (E8l 256 (Cell.i .u8 0)) []=A4 (E8l 256 (Cell.i .u8 0)):=rfl;rw [G9] at haf;rw [C57,G9];unfold okX;by_cases c:0<=d/\d<=5
  ·rw [O4 c.1,O4 c.2,E8K,E8K];have hd:=D7U c.1 c.2;rw [hd] at hD;have ef:F6 [Cell.i .u8 0,.i .u8 0,.i .u8 0,.i .u8 0] [(0,1,.c (.i .u8 105)),(1,1,.c (.i .u8 100)),(2,1,.c (.i .u8 120)),(3,1,.c (.i .u8 33))]=A4 (B4 magX):=rfl;have hO:=B55 (data:=magX) (v:=sV (l_ g+2) 0 4 1) (nv:=4) (h:=g++[rT (encI (d::t)),rT (B4 (zeros 256)),rT (B4 magX),A7]) (Has.row (rw:=A5) (by simp) rfl (V6 _)) (by decide);rw [D2X (by decide)] at hO;have hM:B2a (g++[rT (encI (d::t)),rT (B4 (zeros 256)),rT (B4 magX),A7]) (sV (l_ g+2) 0 4 1)=A4 (sV (l_ g+2) 0 4 1):=by simp [B2a]
   have hW:=λh=>aW (h:=h) (l:=R2 256 magX) (I7 (by decide)) (a:=4) (w:=1) (v:=d)
   have ew:=lU (l:=magX) (a:=4) (w:=1) (v:=d) (by decide) (by omega) (by omega) (by omega);have e5:magX++zeros (4-magX.length)++D6 1 d=magX++D6 1 d:=rfl;have e6:R2 256 (magX++D6 1 d)=R2 256 (A5F d++pM (t.take 0)):=by
    rw [E9i,show pM []=[] from rfl,E8C];exact (D66 (by simp [magX])).symm
   rw [e5,e6] at ew;rw [show ((4:Nat):Int)=4 from rfl,show ((1:Nat):Int)=1 from rfl] at ew;rw [ew] at hW;have hp2:(B4 (R2 256 (A5F d++pM (t.take 0)))).length=256:=by rw [B5,I7 (by rw [E8o,A2v,A2E,E8Y];omega)]
   have e7:C9 (g++[rT (encI (d::t)),rT (B4 (zeros 256)),rT (B4 magX),rT (B4 (R2 256 (A5F d++pM (t.take 0))))]) 32 (pV (l_ g) 1)=A4 (.a (encI t)):=by
    rw [H6];simp only [E84,Option.join_some,ldN,E8z];rw [C4 ⟨by rw [hB];omega,rfl⟩];have:(encI (d::t)).drop 1=encI t:=rfl;rw [this,E8B (by rw [C1];omega)]
   obtain ⟨h',e⟩:=D09 (d:=d) (t:=t) (g:=g) (q:=N) ht hB 32 0 N (by omega) hN;rw [E8y] at e;generalize R2 256 (A5F d++pM (t.take 0))=P1 at *;generalize R2 256 magX=P2 at *;generalize pH d t=B at *;generalize B4 magX=mg at *;generalize zeros 256=z at *;generalize encI (d::t)=y at *;refine ⟨h',?_⟩;simp only [esc,esh,Nat.reduceAdd,hB,hz,l0,hD,ef,hM,hO,hW,hp2,e7,show (l_ g)+2+1=l_ g+3 from rfl];exact e
  ·have cd:¬ d=((fP d:Nat):Int):=by unfold fP;omega
   have ec:(decide (0<=d)&&(decide (d<=5)&&t.all B8B))=A6:=by
    by_cases c1:0<=d
    ·rw [W3 (show ¬ d<=5 by omega)];simp
    ·rw [W3 c1];rfl
   rw [ec,bZ,bZ];generalize zeros 256=z at *;generalize encI (d::t)=y at *;exact ⟨_,by simp only [esc,esh,Nat.reduceAdd,hB,hz,l0,hD,cd,haf]<;>rfl⟩
 obtain ⟨g',e⟩:=key (l_ h+33) (by omega) (ro h);refine C2f e ?_;cases okX d t<;>simp
def getD(b:List UInt8):Int:=fieldN b 4 1
def E5l(b:List UInt8)(i:Nat):Int:=fieldN b (32+2*i) 2
def O5(b:List UInt8)(n:Nat):List Int:=(E8T n).map (E5l b)++zI (32-n)
def A2s{n:Nat}(hn:n<=32):(O5 b n).length=32:=by simp [O5,zI];omega
def D9h(hk:k<32):O5 b (k+1)=(O5 b k).set k (E5l b k):=by
 unfold O5;have e:zI (32-k)=0::zI (32-(k+1)):=by
  unfold zI;rw [show 32-k=(32-(k+1))+1 by omega,E81]
 rw [e,E9a _ _ (by simp),List.range_succ,E9e,E8t];simp
def E0U{a w:Nat}(h:a+w<=256)(hw:1<=w)(hw4:w<=4):((atN b (a:Int) w:Nat):Int)=fieldN b a w:=by
 unfold atN fieldN;rw [C4 ⟨by omega,Y7.2 (by omega)⟩];simp only [E8D]
def C1h(t:List Int)(n e:Nat):Bool:=(E8Q n e).all λi=>decide (toX t i=0)
def Q9(b:List UInt8):Bool:=okX (getD b) (O5 b 32)&&(decide (pH (getD b) (O5 b 32)=b)&&C1h (O5 b 32) (C6 (getD b)) (32-C6 (getD b)))
def E1K{b:List UInt8}{d:Int}{ix iz q:Nat}{h:A9}(ht:l_ t=32)(hx:rd h ix=rT (encI (d::t)))(hz:rd h iz=rT (encI (0::zI 32))):∀ e i m:Nat,i+e=32->e<m ->
  ∃ h',C0A q m (pV iz 0) (pV ix 0) (iV (i:Int)) h=A4 (.t [.a (encI (bif C1h t i e then d::t else 0::zI 32)),.c (cI (bif C1h t i e then 0 else 14))],h')
 | e,i,0,_,hm=>by omega
 | 0,i,m+1,hi,hm=>by
  have e0:i=32:=by omega
  subst e0;have c0:¬ ((32:Nat):Int)<32:=by omega
  have hX:=G5 (d:=d) ht;have hZ:(encI (0::zI 32)).length=33:=G5 (d:=0) N5;have s1:=C8 (h:=h) (id:=ix) hx hX;have s2:=storeAll (h:=h) (id:=iz) (xs:=encI (d::t)) hz hZ hX;have s3:=C8 (h:=h.set iz (rT (encI (d::t)))) (id:=iz) (D3 (E1 hz)) hX;have er:C1h t 32 0=A5:=rfl;rw [B2h,er,S8,S8];generalize encI (d::t)=y at *;exact ⟨_,by simp only [esc,c0,s1,s2,s3]<;>rfl⟩
 | e+1,i,m+1,hi,hm=>by
  obtain ⟨h',ih⟩:=E1K (b:=b) (q:=q) ht hx hz e (i+1) m (by omega) (by omega);have c0:(i:Int)<32:=by omega
  have hZ:(encI (0::zI 32)).length=33:=G5 (d:=0) N5;have a1:=adX (id:=ix) (i:=i) (by omega);have l1:=ldX (h:=h) (id:=ix) hx ht (i:=i) (by omega);have haf:F6 (encI (0::zI 32)) []=A4 (encI (0::zI 32)):=rfl;have s2:=storeAll (h:=h) (id:=iz) (xs:=encI (0::zI 32)) hz hZ hZ;have s3:=C8 (h:=h.set iz (rT (encI (0::zI 32)))) (id:=iz) (D3 (E1 hz)) hZ;have er:C1h t i (e+1)=(decide (toX t i=0)&&C1h t (i+1) e):=by unfold C1h;rw [List.range'_succ,E9p]
  rw [B2h,er,B5D];by_cases c:toX t i=0
  ·rw [O4 c,E8K];rw [c] at l1;generalize encI (0::zI 32)=z at *;exact ⟨h',by simp only [esc,c0,a1,l1,E2 (a:=i) (by omega)];exact ih⟩
  ·rw [W3 c,E8E,bZ,bZ];generalize encI (0::zI 32)=z at *;exact ⟨_,by simp only [esc,c0,a1,l1,c,haf,s2,s3]<;>rfl⟩
def E1J{b:List UInt8}{g:A9}{q:Nat}(hb:l_ b=256)(hq:32<q):∀ e i m:Nat,i+e=32->e<m ->
  ∃ h',C0z q m (pV (l_ g) 0) (pV (l_ g+1) 0) (pV (l_ g+2) 0) (iV (i:Int)) (g++[rT (B4 b),rT (encI (0::zI 32)),rT (encI (getD b::O5 b i))]) =
   A4 (.t [.a (encI (bif Q9 b then getD b::O5 b 32 else 0::zI 32)),.c (cI (bif Q9 b then 0 else 14))],h')
 | e,i,0,_,hm=>by omega
 | 0,i,m+1,hi,hm=>by
  have e0:i=32:=by omega
  subst e0;have c0:¬ ((32:Nat):Int)<32:=by omega
  have hB:(B4 b).length=256:=by rw [B5,hb]
  have ht:=A2s (b:=b) (n:=32) (E8m _);have hX:=G5 (d:=getD b) ht;have hZ:(encI (0::zI 32)).length=33:=G5 (d:=0) N5;have hz0:(E8l 256 (Cell.i .u8 0)).length=256:=E8S;have hP:=λh=>C0B (d:=getD b) (t:=O5 b 32) (h:=h) ht
  have hM:=λh=>gN (d:=getD b) (h:=h) ht
  have D9j:=T5 (getD b);have haf:F6 (encI (0::zI 32)) []=A4 (encI (0::zI 32)):=rfl;unfold Q9;rw [B2g,B5D];cases co:okX (getD b) (O5 b 32) with
  | false =>
   rw [co] at hP;simp only [bZ] at hP;have hzz:(B4 (zeros 256)).length=256:=by rw [B5];exact zeros_length
   rw [E8E,bZ,bZ];generalize encI (0::zI 32)=z at *;generalize encI (getD b::O5 b 32)=y at *;generalize E8l 256 (Cell.i .u8 0)=zz at *;generalize zeros 256=zzz at *;exact ⟨_,by simp only [esc,esh,Nat.reduceAdd,c0,hX,hP,hz0,hzz,haf,hZ,show decide ((1:Int)=0)=A6 from rfl]<;>rfl⟩
  | true =>
   rw [co] at hP;simp only [S8] at hP;rw [E8K];have K6:=A7a (d:=getD b) ht;have hI:(B4 (pH (getD b) (O5 b 32))).length=256:=by rw [B5,K6]
   have hE:=D0r (n:=256) K6 hb;by_cases ce:pH (getD b) (O5 b 32)=b
   ·rw [O4 ce,E8K];rw [O4 ce] at hE;obtain ⟨h',e⟩:=E1K (b:=b) (d:=getD b) (t:=O5 b 32) (ix:=l_ g+2) (iz:=l_ g+1) (q:=q) (h:=g++[rT (B4 b),rT (encI (0::zI 32)),rT (encI (getD b::O5 b 32)),rT (B4 (pH (getD b) (O5 b 32)))]) ht (by simp) (by simp) (32-C6 (getD b)) (C6 (getD b)) q (by omega) (by omega);refine ⟨h',?_⟩;generalize C1h (O5 b 32) (C6 (getD b)) (32-C6 (getD b))=R at *;generalize pH (getD b) (O5 b 32)=I at *;generalize getD b::O5 b 32=Y at *;generalize encI (0::zI 32)=z at *;generalize E8l 256 (Cell.i .u8 0)=zz at *;simp only [esc,esh,Nat.reduceAdd,c0,hX,hP,hz0,hI,hB,hE,hM];exact e
   ·rw [W3 ce,E8E,bZ,bZ];rw [W3 ce] at hE;generalize pH (getD b) (O5 b 32)=I at *;generalize encI (0::zI 32)=z at *;generalize encI (getD b::O5 b 32)=y at *;generalize E8l 256 (Cell.i .u8 0)=zz at *;exact ⟨_,by simp only [esc,esh,Nat.reduceAdd,c0,hX,hP,hz0,hI,hB,hE,haf,hZ]<;>rfl⟩
 | e+1,i,m+1,hi,hm=>by
  obtain ⟨h',ih⟩:=E1J (g:=g) (q:=q) hb hq e (i+1) m (by omega) (by omega);have c0:(i:Int)<32:=by omega
  have hB:(B4 b).length=256:=by rw [B5,hb]
  have ht:=A2s (b:=b) (n:=i) (by omega);have hX:=G5 (d:=getD b) ht;have hA:=λh=>rA (h:=h) hb (a:=((32+2*i:Nat):Int)) (w:=2)
  have ea:=E0U (b:=b) (a:=32+2*i) (w:=2) (by omega) (by omega) (by omega);rw [show ((2:Nat):Int)=2 from rfl] at ea;rw [ea] at hA;have w1:E8r .i64 (2*(i:Int))=((2*i:Nat):Int):=by rw [wrap_i64 (by omega) (by omega)];omega
  have w2:E8r .i64 (32+((2*i:Nat):Int))=((32+2*i:Nat):Int):=by rw [wrap_i64 (by omega) (by omega)];omega
  have a1:=adX (id:=l_ g+2) (i:=i) (by omega);have hs:(encI (getD b::O5 b i)).set (1+i) (cI (fieldN b (32+2*i) 2))=encI (getD b::O5 b (i+1)):=by rw [D4f,D9h (by omega)];rfl
  have W4:1+i<(encI (getD b::O5 b i)).length:=by rw [hX];omega
  rw [B2g];generalize Q9 b=G at *;generalize getD b::O5 b 32=Y at *;generalize encI (getD b::O5 b (i+1))=y1 at *;generalize encI (getD b::O5 b i)=y at *;generalize encI (0::zI 32)=z at *;refine ⟨h',?_⟩;simp only [esc,esh,c0,hB,w1,w2,hA,a1,W4,hs,E2 (a:=i) (by omega)];exact ih
def C0y(hb:l_ b=256):A6G [.a (B4 b)] h=A4 (.t [.a (encI (bif Q9 b then getD b::O5 b 32 else 0::zI 32)),.c (cI (bif Q9 b then 0 else 14))],h):=by
 have key:∀ N,32<N->∀ g,∃ g',B3o N [.a (B4 b)] g=A4 (.t [.a (encI (bif Q9 b then getD b::O5 b 32 else 0::zI 32)),.c (cI (bif Q9 b then 0 else 14))],g'):=by
  intro N hN g;have hB:(B4 b).length=256:=by rw [B5,hb]
  have hZ:(encI (0::zI 32)).length=33:=G5 (d:=0) N5;have hA:=λh=>rA (h:=h) hb (a:=4) (w:=1)
  have ea:=E0U (b:=b) (a:=4) (w:=1) (by omega) (by omega) (by omega);rw [show ((4:Nat):Int)=4 from rfl,show ((1:Nat):Int)=1 from rfl] at ea;rw [ea] at hA;have ef:F6 (encI (0::zI 32)) [(0,1,iV (fieldN b 4 1))]=A4 (encI (getD b::O5 b 0)):=by
   have e1:(0+1<=(encI (0::zI 32)).length):=by rw [hZ];omega
   simp only [F6,cells?];rw [C4 ⟨rfl,e1⟩];rfl
  have hX:=G5 (d:=getD b) (A2s (b:=b) (n:=0) (by omega));obtain ⟨h',e⟩:=E1J (g:=g) (q:=N) hb hN 32 0 N (by omega) hN;rw [C56,B5D];generalize Q9 b=G at *;generalize getD b::O5 b 32=Y at *;generalize encI (getD b::O5 b 0)=y at *;generalize encI (0::zI 32)=z at *;exact ⟨h',by simp only [esc,esh,Nat.reduceAdd,hB,hZ,hA,ef,hX];exact e⟩
 obtain ⟨g',e⟩:=key (l_ h+33) (by omega) (ro h);refine C2d e ?_;cases Q9 b<;>simp
def yV(t:List Int)(i:Nat):Bool:=!decide (toX t i=0)&&A1a t i
def J3(t:List Int)(k:Nat):List Int:=((E8T k).filter (yV t)).map (toX t)
def B5Q:J3 t (k+1)=J3 t k++(if yV t k=A5 then [toX t k] else []):=by
 unfold J3;rw [List.range_succ,E9x,E9e,List.filter_cons];by_cases c:yV t k=A5<;>simp [c]
def jL(t:List Int)(k:Nat):(J3 t k).length<=k:=by
 unfold J3;rw [List.length_map];exact E83 (E9f _ _) (by simp)
def B1l{d:Int}{t:List Int}{n q:Nat}(ht:l_ t=32)(hn:n<=32):∀ (e i m:Nat) (h:A9) (id:Nat),i+e=n->e<m->Low (g++[rT (encI (d::t))]).length (g++[rT (encI (d::t))]) h->(g++[rT (encI (d::t))]).length<=id->rd h id=rT (encI (J3 t i)) ->
  ∃ v h',A1b q m (pV (l_ g) 0) (sV id 0 (J3 t i).length 1) (iV (n:Int)) (iV (i:Int)) h=A4 (v,h')/\Out (l_ g) h' v 1 (J3 t n).length (encI (J3 t n))
 | e,i,0,h,id,_,hm,_,_,_=>by omega
 | 0,i,m+1,h,id,hi,hm,hlow,hid,hr=>by
  have e0:i=n:=by omega
  subst e0;have c0:¬ (i:Int)<i:=by omega
  rw [E8o] at hid;rw [A3n];exact ⟨_,_,by simp only [esc,c0]<;>rfl,by rw [C1];omega,_,rfl,by omega,hr⟩
 | e+1,i,m+1,h,id,hi,hm,hlow,hid,hr=>by
  have c0:(i:Int)<n:=by omega
  have hB:=G5 (d:=d) ht;have hrd:rd h (l_ g)=rT (encI (d::t)):=hlow.rd (by simp);have s1:=C8 (h:=h) (id:=l_ g) (cs:=encI (d::t)) hrd hB;have a1:=adX (id:=l_ g) (i:=i) (by omega);have l1:=ldX (h:=h) (id:=l_ g) hrd ht (i:=i) (by omega);have hFs:=λh=>B4V (d:=d) (t:=t) (i:=i) (h:=h) ht (by omega)
  have w1:=E2 (a:=i) (by omega);have hul:=jL t i;rw [A3n];have skip:yV t i=A6->∃ v h',A1b q m (pV (l_ g) 0) (sV id 0 (J3 t i).length 1) (iV (n:Int)) (iV ((i+1:Nat):Int)) h=A4 (v,h')/\Out (l_ g) h' v 1 (J3 t n).length (encI (J3 t n)):=by
   intro c;have hu:J3 t (i+1)=J3 t i:=by rw [B5Q,c];simp
   have:=B1l (q:=q) ht hn e (i+1) m h id (by omega) (by omega) hlow hid (by rw [hu];exact hr);rw [hu] at this;exact this
  by_cases cz:toX t i=0
  ·obtain ⟨v,h',f1,f2⟩:=skip (by unfold yV;rw [O4 cz];rfl);rw [cz] at l1;refine ⟨v,h',?_,f2⟩;generalize encI (d::t)=z at *;simp only [esc,c0,a1,l1,sK,w1];exact f1
  ·cases cs:A1a t i with
   | false =>
    obtain ⟨v,h',f1,f2⟩:=skip (by unfold yV;rw [cs,Bool.and_false]);rw [cs] at hFs;refine ⟨v,h',?_,f2⟩;generalize encI (d::t)=z at *;simp only [esc,c0,a1,l1,cz,s1,hFs,sK,w1];exact f1
   | true =>
    rw [cs] at hFs;have cb:yV t i=A5:=by unfold yV;rw [cs,W3 cz];rfl
    have hu:J3 t (i+1)=J3 t i++[toX t i]:=by rw [B5Q,C4 cb]
    obtain ⟨h1,b1,b2,b3,b4,b5⟩:=push (ys:=[cI (toX t i)]) (sz:=1) (n:=(J3 t i).length) hlow hr (by rw [C1];omega) hid rfl (by omega) (by omega);have he:encI (J3 t i)++[cI (toX t i)]=encI (J3 t (i+1)):=by rw [hu];simp [encI]
    rw [he] at b2;obtain ⟨v,h',f1,f2⟩:=B1l (q:=q) ht hn e (i+1) m h1 (l_ h+1) (by omega) (by omega) b3 b4 b2;have hl1:(J3 t (i+1)).length=(J3 t i).length+1:=by rw [hu];simp
    rw [hl1] at f1;have ef:F6 [o0] [(0,1,iV (toX t i))]=A4 [cI (toX t i)]:=rfl;refine ⟨v,h',?_,f2⟩;generalize encI (d::t)=z at *;simp only [esc,c0,a1,l1,cz,s1,hFs,ef,b1,sK,w1];exact f1
def iP(ht:l_ t=32):kM [.a (encI (d::t))] h=A4 (sV (l_ h) 0 (J3 t (C6 d)).length 1,h++[rT (encI (J3 t (C6 d)))]):=by
 have key:∀ N,32<N->∀ g,∃ v g',A2R N [.a (encI (d::t))] g=A4 (v,g')/\Out (l_ g) g' v 1 (J3 t (C6 d)).length (encI (J3 t (C6 d))):=by
  intro N hN g;have hB:=G5 (d:=d) ht;have hM:=λh=>gN (d:=d) (h:=h) ht
  have hm:=T5 d;obtain ⟨v,g',f1,f2⟩:=B1l (g:=g) (d:=d) (q:=N) ht hm (C6 d) 0 N (g++[rT (encI (d::t)),rT [],rT []]) (l_ g+2) (by omega) (by omega)
   (by have:=(Low.refl (h:=g++[rT (encI (d::t))]) (E8m _)).new [rT [],rT []];simpa using this) (by simp) (by simp [J3,encI])
  rw [show J3 t 0=[] from rfl] at f1;rw [B7Q];refine ⟨v,g',?_,f2⟩;generalize encI (d::t)=z at *;simp only [esc,esh,Nat.reduceAdd,hB,hM] at f1 ⊢;exact f1
 obtain ⟨v,g',e,ho⟩:=key (l_ h+33) (by omega) (ro h);exact B6v e (by simpa [G8] using ho) (by simp)
def E16(h:Nat)(b:Int):Nat:=if b<1 then 0 else if 32<=b then h else h%2 ^ b.toNat
def D6Y{x:Nat}{b:Int}(hx:x<4294967296):C2j [.c (.i .u32 (x:Int)),iV b] h=A4 (iV (E16 x b:Nat),h):=by
 have key:∀ g,∃ g',C1V 0 [.c (.i .u32 (x:Int)),iV b] g=A4 (iV (E16 x b:Nat),g'):=by
  intro g;rw [D1V];unfold E16;by_cases c1:b<1
  ·rw [C4 c1];exact ⟨_,by simp only [esc,c1]<;>rfl⟩
  ·rw [C5 c1];have w1:E8r .i64 (x:Int)=(x:Int):=wrap_i64 (by omega) (by omega);by_cases c2:32<=b
   ·rw [C4 c2];exact ⟨_,by simp only [esc,c1,c2,w1]<;>rfl⟩
   ·rw [C5 c2];obtain ⟨k,rfl⟩:∃ k:Nat,b=k:=⟨b.toNat,by omega⟩;rw [E8D];have w2:=C3v (k:=k) (by omega);have hp:2 ^ k<=2 ^ 31:=Nat.pow_le_pow_right (by omega) (by omega);have hp0:0<2 ^ k:=Nat.pow_pos (by omega);have e1:N4 .shl (.c (.i .u32 1)) (.c (.i .u64 (k:Int)))=A4 (.c (.i .u32 ((2 ^ k:Nat):Int))):=by
     rw [B96 (by omega)];have h1:Nat.min (k:Int).toNat (IntKind.u32).bits=k:=by
      have:(IntKind.u32).bits=32:=rfl;rw [this,E8D];exact Nat.min_eq_left (by omega)
     rw [h1,Int.one_mul];have e:(2:Int) ^ k=((2 ^ k:Nat):Int):=by simp
     rw [e];generalize 2 ^ k=y at hp hp0 ⊢;rw [wrap_u32 (by omega) (by omega)]
    have w3:E8r .u32 (((2 ^ k:Nat):Int)-1)=((2 ^ k-1:Nat):Int):=by rw [wrap_u32 (by omega) (by omega)];omega
    have e2:=E3n (a:=x) (b:=2 ^ k-1) hx (by omega);rw [Nat.and_two_pow_sub_one_eq_mod] at e2;have hm:x%2 ^ k<2 ^ k:=Nat.mod_lt _ hp0;have w4:E8r .i64 ((x%2 ^ k:Nat):Int)=((x%2 ^ k:Nat):Int):=wrap_i64 (by omega) (by omega);generalize 2 ^ k-1=y at *;generalize x%2 ^ k=z at *;exact ⟨_,by simp only [esc,c1,c2,w2,e1,w3,e2,w4]<;>rfl⟩
 obtain ⟨g',e⟩:=key (ro h);exact C6v e rfl
def B4T{x:Nat}(ht:l_ t=32)(hx:x<4294967296):A1N [.a (encI (d::t)),.c (.i .u32 (x:Int))] h=A4 (iV (x%C6 d:Nat),h):=by
 have key:∀ g,∃ g',A7H 0 [.a (encI (d::t)),.c (.i .u32 (x:Int))] g=A4 (iV (x%C6 d:Nat),g'):=by
  intro g;have hB:=G5 (d:=d) ht;have hD:=λh=>dM (d:=d) (t:=t) (h:=h)
  have hL:=λh=>D6Y (x:=x) (b:=(fP d:Nat)) (h:=h) hx
  have e:E16 x (fP d:Nat)=x%C6 d:=by
   unfold E16 C6;have:=B1q d;rw [E8D];by_cases c:((fP d:Nat):Int)<1
   ·have:fP d=0:=by omega
    rw [C4 c,this];simp [Nat.mod_one]
   ·rw [C5 c,C5 (by omega)]
  rw [e] at hL;rw [C1M];generalize encI (d::t)=y at *;exact ⟨_,by simp only [esc,esh,hB,hD,hL]<;>rfl⟩
 obtain ⟨g',e⟩:=key (ro h);exact B72 e rfl
def Z5(D:Dev)(n k:Int)(d:List Int):Bool:=decide (k=2)&&G7 (l_ D) n (d.getD 0 0)&&Q9 (blk D (d.getD 0 0))
def uY(D:Dev)(n k:Int)(d:List Int):List Int:=bif Z5 D n k d then getD (blk D (d.getD 0 0))::O5 (blk D (d.getD 0 0)) 32 else 0::zI 32
def A1S(b:List UInt8):(O5 b 32).length=32:=by simp [O5,zI]
def D05(D:Dev)(n k:Int)(d:List Int):∃ x t,uY D n k d=x::t/\(l_ t)=32:=by
 unfold uY;cases Z5 D n k d with
 | false=>exact ⟨_,_,rfl,N5⟩
 | true=>exact ⟨_,_,rfl,A1S _⟩
def A7b(D:Dev)(n k:Int)(d:List Int):(encI (uY D n k d)).length=33:=by
 obtain ⟨x,t,e,h⟩:=D05 D n k d;rw [e,C1];simp [h]
def A1Q{k s:Int}{d:List Int}(hD:okD D)(hd:l_ d=7)(hv:IsView h f D) :
  jW [.a (vwC (l_ D) n m f),.a (D1 k l s p d)] h=A4 (.t [.a (encI (uY D n k d)),.c (.b (Z5 D n k d))],h):=by
 have key:∀ g,IsView g f D->∃ g',B0F 0 [.a (vwC (l_ D) n m f),.a (D1 k l s p d)] g=A4 (.t [.a (encI (uY D n k d)),.c (.b (Z5 D n k d))],g'):=by
  intro g hv;have l3:=C1w (b:=l_ D) (n:=n) (m:=m) (f:=f);have l4:=B5A (b:=l_ D) (n:=n) (m:=m) (f:=f);have i0:(D1 k l s p d)[0]?=A4 (cI k):=rfl;have i4:(D1 k l s p d)[4]?=A4 (cI (d.getD 0 0)):=by
   have:(D1 k l s p d)[4]?=(encI d)[0]? := rfl;rw [this,G6,E8h (by omega),E8k,E8h (by omega)];rfl
  have ad:∀ q,K2 6 1 (pV q 4) (iV 0)=A4 (pV q 4):=λq=>rfl
  have hz:(encI (0::zI 32)).length=33:=G5 (d:=0) N5;have ef:F6 (encI (0::zI 32)) []=A4 (encI (0::zI 32)):=rfl;have n12:¬ (14:Int)=0:=by decide
  rw [C4L,B5D];unfold uY Z5;by_cases c1:k=2
  ·have hI:=λh=>X8 (b:=l_ D) (n:=n) (m:=m) (i:=d.getD 0 0) (h:=h)
   cases c2:G7 (l_ D) n (d.getD 0 0) with
   | false =>
    simp only [c2] at hI;simp only [Bool.and_false,E8E,bZ];generalize vwC (l_ D) n m f=V at *;generalize D1 k l s p d=I at *;generalize encI (0::zI 32)=z at *;exact ⟨_,by simp only [esc,esh,Nat.reduceAdd,eq_self,i0,c1,l3,ad,i4,hI,hz,ef]<;>rfl⟩
   | true =>
    simp only [c2] at hI;have hB:=K8 (n:=n) (m:=m) (no:=d.getD 0 0) (h:=g++[rT (vwC (l_ D) n m f),rT (D1 k l s p d),rT (encI (0::zI 32))]) hD (hv.more _);have hG:=λh=>C0y (h:=h) (J6 hD (i:=d.getD 0 0))
    have hX:(encI (getD (blk D (d.getD 0 0))::O5 (blk D (d.getD 0 0)) 32)).length=33:=G5 (A1S _);rw [O4 c1,E8K,E8K];cases c3:Q9 (blk D (d.getD 0 0)) with
    | false =>
     simp only [c3,bZ] at hG;rw [bZ];generalize encI (getD (blk D (d.getD 0 0))::O5 (blk D (d.getD 0 0)) 32)=x at *;generalize B4 (blk D (d.getD 0 0))=y at *;generalize vwC (l_ D) n m f=V at *;generalize D1 k l s p d=I at *;generalize encI (0::zI 32)=z at *;exact ⟨_,by simp only [esc,esh,Nat.reduceAdd,eq_self,i0,c1,l3,l4,ad,i4,hI,hB,hG,hz,ef,n12]<;>rfl⟩
    | true =>
     simp only [c3,S8] at hG;rw [S8];generalize encI (getD (blk D (d.getD 0 0))::O5 (blk D (d.getD 0 0)) 32)=x at *;generalize B4 (blk D (d.getD 0 0))=y at *;generalize vwC (l_ D) n m f=V at *;generalize D1 k l s p d=I at *;generalize encI (0::zI 32)=z at *;exact ⟨_,by simp only [esc,esh,Nat.reduceAdd,eq_self,i0,c1,l3,l4,ad,i4,hI,hB,hG,hz,hX,ef]<;>rfl⟩
  ·rw [W3 c1,E8E,E8E,bZ];generalize vwC (l_ D) n m f=V at *;generalize D1 k l s p d=I at *;generalize encI (0::zI 32)=z at *;exact ⟨_,by simp only [esc,esh,Nat.reduceAdd,eq_self,i0,c1,hz,ef]<;>rfl⟩
 obtain ⟨g',e⟩:=key (ro h) hv.ro;exact B9J e (by simp [Val.flat,Cell.flat])
def T1(D:Dev)(n k:Int)(d:List Int):List Int:=bif Z5 D n k d then (J3 (O5 (blk D (d.getD 0 0)) 32) (C6 (getD (blk D (d.getD 0 0))))).filter (G7 (l_ D) n) else []
def B8s{n m:Int}{p q sid:Nat}(h1:rd g p=rT (vwC (l_ D) n m f))(hL:l_ L<=32):∀ (e i M id:Nat) (h:A9) (l:List Int),i+e=l_ L->e<M->l_ l<=i->Low (l_ g) g h->l_ g<=id->id≠sid->rd h sid=rT (encI L)->rd h id=rT (encI l) ->
  ∃ v' h',B2d q M (pV p 0) (sV id 0 (l_ l) 1) (sV sid 0 (l_ L) 1) (iV (l_ L:Int)) (iV (i:Int)) h=A4 (v',h')/\Out (l_ g) h' v' 1 (l++(L.drop i).filter (G7 (l_ D) n)).length (encI (l++(L.drop i).filter (G7 (l_ D) n)))
 | e,i,0,id,h,l,_,hm,_,_,_,_,_,_=>by omega
 | 0,i,M+1,id,h,l,hi,hm,hl,hlow,hid,aZ,hs,hr=>by
  have e0:i=(l_ L):=by omega
  subst e0;have c0:¬ ((l_ L:Nat):Int)<(l_ L:Nat):=by omega
  rw [A5z,E8x (E8m _),List.filter_nil,E8C];exact ⟨_,_,by simp only [esc,c0]<;>rfl,by rw [C1,E9w],id,rfl,hid,hr⟩
 | e+1,i,M+1,id,h,l,hi,hm,hl,hlow,hid,aZ,hs,hr=>by
  have K6:i<(l_ L):=by omega
  have c0:(i:Int)<(l_ L:Nat):=by omega
  have ad:F0 1 (sV sid 0 (l_ L) 1) (iV (i:Int))=A4 (pV sid i):=by rw [E4 K6];simp
  have l1:B9 h (pV sid i)=A4 (iV L[i]):=B8 hs (by rw [G6,E8h K6];rfl) rfl;have fa:U2 (pV p 0) 0=A4 (pV p 0):=rfl;have l3:C9 h 3 (pV p 0)=A4 (.a (L5 (l_ D) n m)):=by rw [S7 (hlow.rd h1) (by simp [vwC]) rfl];rfl
  have hI:=X8 (b:=l_ D) (n:=n) (m:=m) (i:=L[i]) (h:=h);have w1:=E2 (a:=i) (by omega);rw [A5z,E8s K6];cases c:G7 (l_ D) n L[i] with
  | false =>
   rw [c] at hI;obtain ⟨v',h',f1,f2⟩:=B8s (q:=q) h1 hL e (i+1) M id h l (by omega) (by omega) (by omega) hlow hid aZ hs hr;rw [E9k (by rw [c];simp)];refine ⟨v',h',?_,f2⟩;simp only [C7,G4,c0,decide_true,X6,ad,l1,fa,l3,hI,Y6,A5y,L8,w1];exact f1
  | true =>
   rw [c] at hI;have ef:F6 [o0] [(0,1,iV L[i])]=A4 (encI [L[i]]):=rfl;obtain ⟨h2,a1,a2,a3,a4⟩:=B5j (n:=l_ l) (sz:=1) (ys:=encI [L[i]]) hr (by rw [C1,E9w]) rfl (by omega) (by omega);rw [<-jM] at a2;have el:(l++[L[i]]).length=l_ l+1:=by simp
   have W4:=E1 hs;obtain ⟨v',h',f1,f2⟩:=B8s (q:=q) h1 hL e (i+1) M (l_ h+1) h2 (l++[L[i]]) (by omega) (by omega) (by rw [el];omega) (hlow.trans (a4 _ hid (by have:=hlow.2.1;omega))) (by have:=hlow.2.1;omega) (by omega) (a3 _ _ (Ne.symm aZ) hs) a2;rw [E9l (by rw [c])];rw [E8t,List.singleton_append] at f2;rw [el] at f1;refine ⟨v',h',?_,f2⟩;simp only [C7,G4,c0,decide_true,X6,ad,l1,fa,l3,hI,ef,a1,A5y,L8,w1];exact f1
def A2Z{k s:Int}{d:List Int}(hD:okD D)(hd:l_ d=7)(hv:IsView h f D) :
  oC [.a (vwC (l_ D) n m f),.a (D1 k l s p d)] h=A4 (sV (l_ h) 0 (T1 D n k d).length 1,h++[rT (encI (T1 D n k d))]):=by
 have key:∀ g,IsView g f D->∃ v g',A4R 33 [.a (vwC (l_ D) n m f),.a (D1 k l s p d)] g=A4 (v,g')/\Out (l_ g) g' v 1 (T1 D n k d).length (encI (T1 D n k d)):=by
  intro g hv;have hIl:(D1 k l s p d).length=11:=by simp [D1,C1,hd]
  have l11:ldN (rT (D1 k l s p d)) 0 11=A4 (.a (D1 k l s p d)):=K9 hIl;have l4:=B5A (b:=l_ D) (n:=n) (m:=m) (f:=f);have hz:(encI (0::zI 32)).length=33:=G5 (d:=0) N5;have hX:=A7b D n k d;have hI:=A1Q (n:=n) (m:=m) (k:=k) (l:=l) (s:=s) (p:=p) (h:=g++[rT (vwC (l_ D) n m f),rT (D1 k l s p d),rT []]) hD hd (hv.more _);rw [B9m,B5D];cases c:Z5 D n k d with
  | false =>
   rw [c] at hI;have eb:T1 D n k d=[]:=by unfold T1;rw [c];rfl
   rw [eb];generalize encI (uY D n k d)=x at *;generalize encI (0::zI 32)=z at *;refine ⟨sV (l_ g+4) 0 0 1,g++[rT (vwC (l_ D) n m f),rT (D1 k l s p d),rT [],rT x,rT []],?_,rfl,l_ g+4,rfl,by omega,by simp [encI]⟩;generalize vwC (l_ D) n m f=V at *;generalize D1 k l s p d=I at *;simp only [esc,esh,Nat.reduceAdd,l4,l11,hI,hz,hX]
  | true =>
   rw [c] at hI;have eb:T1 D n k d=(J3 (O5 (blk D (d.getD 0 0)) 32) (C6 (getD (blk D (d.getD 0 0))))).filter (G7 (l_ D) n):=by unfold T1;rw [c];rfl
   have ex:uY D n k d=getD (blk D (d.getD 0 0))::O5 (blk D (d.getD 0 0)) 32:=by unfold uY;rw [c];rfl
   rw [ex] at hI hX;have hB:=λh=>iP (d:=getD (blk D (d.getD 0 0))) (h:=h) (A1S (blk D (d.getD 0 0)))
   have hBl:=jL (O5 (blk D (d.getD 0 0)) 32) (C6 (getD (blk D (d.getD 0 0))));have hml:=T5 (getD (blk D (d.getD 0 0)));rw [eb];generalize J3 (O5 (blk D (d.getD 0 0)) 32) (C6 (getD (blk D (d.getD 0 0))))=L at *;generalize encI (getD (blk D (d.getD 0 0))::O5 (blk D (d.getD 0 0)) 32)=x at *;generalize encI (0::zI 32)=z at *;obtain ⟨v',h',f1,f2⟩:=B8s (D:=D) (n:=n) (m:=m) (f:=f) (g:=g++[rT (vwC (l_ D) n m f),rT (D1 k l s p d),rT [],rT x]) (p:=l_ g) (q:=33) (sid:=l_ g+5) (L:=L) (by simp) (by omega) (l_ L) 0 33 (l_ g+4) (g++[rT (vwC (l_ D) n m f),rT (D1 k l s p d),rT [],rT x,rT [],rT (encI L)]) [] (by omega) (by omega) (by simp)
    (by
     have:=(Low.refl (h:=g++[rT (vwC (l_ D) n m f),rT (D1 k l s p d),rT [],rT x]) (E8m _)).new [rT [],rT (encI L)];simpa using this) (by simp) (by omega) (by simp) (by simp [encI])
   rw [E8I,E8y] at f2;rw [E8X] at f1;refine ⟨v',h',?_,f2.1,?_⟩
   ·generalize vwC (l_ D) n m f=V at *;generalize D1 k l s p d=I at *;simp only [esc,esh,Nat.reduceAdd,l4,l11,hI,hz,hX,hB];exact f1
   ·obtain ⟨id,e,hb,hr⟩:=f2.2;exact ⟨id,e,by simp at hb;omega,hr⟩
 obtain ⟨v,g',e,ho⟩:=key (ro h) hv.ro;exact B70 e (by simpa [G8] using ho) (by simp)
section
variable (n m m2:Nat) (a0 a1 x0 x1 x2 x3 x4 x6 x7 x8 x9 x10 x18 x19 x21 x22:Val) (h:A9)
def qG:FD A8:=⟨px 0X11201024bf2e053a04b49218011d201500001722401b1a195b027a1a17a4e787a777a7014b0220385e173901a18d15238f30412742150307024313401215f42006051105b72c035d5b41c2013011d201500622401b6193b02481a74870101b6192b02381a73870101b18191c9051e1a01e18a71e701501205b740284f42031201042,[.c (.s [46]),.c (.s [46,46]),.c (.i .u8 0),.c (.i .u8 47)],[.idxS (.t 25) (.t 26),.idxS (.t 30) (.t 31)],[.tmp 2],[]⟩
def B9r:=qG.R
def B7w:AtH:=qG.lj 0 n [m] [x0,x21,x22]
def B94:=tT [⟨2,3,B7w⟩]
def C4V:=mR B9r qG B94 n [a0] h
def A94:=mL qG B94 0 n [m] [x0,x21,x22] h
def B0t:=qG.K Tryz.func172
def A3Y:=qG.S
def C5b:SOk A8 172 A3Y:=B0t.sok
def B9S:G0 B9r A3Y:=B0t.flat
def vF:FD A8:=⟨px 0X113026e3966a393d1c37111102723cf2b052a02218022a185e1392d0384e1710502482e07182df604123c42150307024513401215942006051105b7134f4d11c2013022a1381392d06905b71d051961192011cf3002c3961e11e39184711101722410321819022d4218f50010377031b42031e4c11942111e21b250182,[],[.idxS (.t 24) (.t 25)],[.cellN 2 25,.tmp 3],[D8 A3Y B0t]⟩
def B3u:=vF.R
def C0U:AtH:=vF.lj 0 n [m] [x0,x2,x4,x18,x19]
def C3M:=tT [⟨2,5,C0U⟩]
def C6c:=mR B3u vF C3M n [a0] h
def B2r:=mL vF C3M 0 n [m] [x0,x2,x4,x18,x19] h
def B25:=vF.K Tryz.func173
def A6J:=vF.S
def C6w:SOk A8 173 A6J:=B25.sok
def C2l:G0 B3u A6J:=B25.flat
def A1F:FD A8:=⟨px 0X1113df20683d0302011d12b20275001a22401b18192684e6a39683c4e39683c0110323e2e07791100722df12cf23961e61b11828062c2c2bf29001033a2a0181f1d31c201328f5013803805022a1d051b4001a2011d12b2027500001b2241c90521e1b023942031af400680411e1391818c41942112b103a3342,[.c (.s [])],[.slA 25 1 (.t 1) (A4 (.v (.c (cI 1)))) (A4 (.t 14)),.b2s (.t 15),.eqA A5 (E8l 25 (.i .u8)) (.t 25) (.t 26)],[.tmp 2,.tmp 3],[D8 A6J B25]⟩
def A7P:=A1F.R
def C1W:=mR A7P A1F (tT []) n [a0] h
def B6S:=A1F.K Tryz.func165
def A76:=A1F.S
def C2m:SOk A8 165 A76:=B6S.sok
def B8e:G0 A7P A76:=B6S.flat
def A6e:FD A8:=⟨px 0X17f4004121a171400062340130182,[],[],[.tmp 4],[]⟩
def C3H:=A6e.R
def C6b:=mR C3H A6e (tT []) n [a0,a1] h
def C3B:=A6e.K Tryz.func171
def B30:=A6e.S
def C2k:G0 C3H B30:=C3B.flat
def qH:FD A8:=⟨px 0X159f113df40301e1904218d1a1f18d7018d1e04118d4f7c18d7718d7010612029716815e3d01e0194600000031b33cf70583c02183bf6050024c131824042035e1040411d3a172c066b422bf18001a021901a204722c128128171a452150702404121a11a1b033b42030406053131af1160029719041f1d18231140230182,[],[],[.tmp 4,.tmp 5],[D8 B30 C3B]⟩
def B0P:=qH.R
def A8u:AtH:=qH.lj 0 n [m] [x0,x1,x6,x7]
def B95:=tT [⟨2,4,A8u⟩]
def C4W:=mR B0P qH B95 n [a0,a1] h
def A95:=mL qH B95 0 n [m] [x0,x1,x6,x7] h
def B9f:=qH.K Tryz.func153
def A3Z:=qH.S
def B9T:G0 B0P A3Z:=B9f.flat
def jI:FD A8:=⟨px 0X14df203f4d0250000003724cf1a056c02218022a4611d7a16e17a151823811385e16a103850024e15a3807019032ff30041392b1013113e4c14612017243a2c0159423132bf12af6011a280182a2c29f1e0042032e1381f0181f1d1821df500441811d31c4215011a07024413401212f420060511029718032d2b291c201314a174212481042,[.c (.s [])],[.slL 1 (.t 24) (A4 (.t 26)) A7,.slL 1 (.t 28) (A4 (.t 29)) A7,.copy 1 (.t 27) (.t 30)],[.tmp 2],[D8 A3Z B9f]⟩
def B3v:=jI.R
def C0W:AtH:=jI.lj 0 n [m] [x3,x8,x9,x10]
def D2R:AtH:=jI.lj 1 n [m] [x3,x8,x9,x10]
def B39:=tT [⟨2,4,C0W⟩,⟨2,4,D2R⟩]
def C6d:=mR B3v jI B39 n [a0] h
def B2t:=mL jI B39 0 n [m] [x3,x8,x9,x10] h
def B2s:=mJ jI B39 1 n [m] [x3,x8,x9,x10] h
def B26:=jI.K Tryz.func126
def A6K:=jI.S
def C6x:SOk A8 126 A6K:=B26.sok
def C5c:A3Q B3v A6K:=B26.out
end
def A2p(c:UInt8):Bool:=!(decide ((c.toNat:Int)=0)||decide ((c.toNat:Int)=47))
def aS(s:List UInt8):Bool:=!(decide ((l_ s:Int)<1)||decide (24<(l_ s:Int))||decide (s=[46])||decide (s=[46,46]))&&s.all A2p
def bL(h:aS s=A5):1<=l_ s/\(l_ s)<=24:=by
 unfold aS at h;simp at h;omega
def C6Z(s:List UInt8)(hs:l_ s<9223372036854775807)(n:Nat)(h:A9):∀ d i m:Nat,i+d=l_ s->d<m ->
  B7w n m (.c (.s s)) (iV (l_ s)) (iV i) h=A4 (iV (bif (s.drop i).all A2p then 0 else 3),h)
 | d,i,0,_,hm=>by omega
 | 0,i,m+1,hi,hm=>by
  have c0:¬ ((i:Int)<l_ s):=by omega
  rw [A94,show s.drop i=[] from E8x (by omega)];simp only [esc,c0]
 | d+1,i,m+1,hi,hm=>by
  have h1:(i:Int)<(l_ s):=by omega
  have h2:i<(l_ s):=by omega
  have ih:=C6Z s hs n h d (i+1) m (by omega) (by omega);rw [A94,E8s h2,E9p];by_cases c1:(s[i].toNat:Int)=0
  ·have f:A2p s[i]=A6:=by unfold A2p;rw [O4 c1];rfl
   simp only [esc,h1,C0u h2,c1,f,E8E]
  ·by_cases c2:(s[i].toNat:Int)=47
   ·have f:A2p s[i]=A6:=by unfold A2p;rw [O4 c2];simp
    simp only [esc,h1,C0u h2,c2,f,E8E,Int.reduceEq]
   ·have f:A2p s[i]=A5:=by unfold A2p;rw [W3 c1,W3 c2];rfl
    simp only [esc,h1,C0u h2,c1,c2,f,E8K,E2 (a:=i) (by omega)];exact ih
def C6Y(hs:l_ s<9223372036854775807)(h:A9):A3Y [.c (.s s)] h=A4 (iV (bif aS s then 0 else 3),h):=by
 refine B9S (n:=l_ s+1) (h2:=ro h) ?_ rfl;rw [C4V];have hl:=C6Z s hs (l_ s+1) (ro h) (l_ s) 0 (l_ s+1) (by omega) (by omega);rw [E8y] at hl;unfold aS;by_cases c1:(l_ s:Int)<1
 ·simp only [esc,c1,E9d,E8E]
 ·by_cases c2:(24:Int)<(l_ s)
  ·simp only [esc,c1,c2,E9d,E8E,Bool.or_true]
  ·by_cases c3:s=[46]
   ·subst c3;simp only [esc];rfl
   ·by_cases c4:s=[46,46]
    ·subst c4;simp only [esc];rfl
    ·simp only [esc,c1,c2,c3,c4,Bool.or_self,E8K];exact hl
def A5M(s:List UInt8)(i:Nat):List UInt8:=UInt8.ofNat (l_ s)::(s.take i++zeros (24-i))
def iY(s:List UInt8):List UInt8:=bif aS s then A5M s (l_ s) else zeros 25
def B1J(hi:i<=l_ s)(hs:l_ s<=24):(A5M s i).length=25:=by
 unfold A5M;rw [E8w,E8o,zeros_length,E8Y];omega
def rB:(iY s).length=25:=by
 unfold iY;cases hf:aS s with
 | false=>exact zeros_length
 | true=>exact B1J (E8m _) (bL hf).2
def D9V(hi:i<l_ s)(hs:l_ s<=24):(A5M s i).set (1+i) s[i]=A5M s (i+1):=by
 unfold A5M;rw [Nat.add_comm 1 i,List.set_cons_succ];refine congrArg (UInt8.ofNat (l_ s) :: ·) ?_;have hlen:(List.take i s).length=i:=by simp;omega
 rw [E9a _ _ (by omega),hlen,E9t,E8R hi,E8t];refine congrArg (List.take i s ++ ·) ?_;have e:24-i=(24-(i+1))+1:=by omega
 rw [e];unfold zeros;rw [E81,E9A];rfl
def D1m(s:List UInt8)(hs:l_ s<=24)(h:A9)(c2:List Cell)(l2:c2.length=25)(n:Nat):∀ d i m:Nat,i+d=l_ s->d<m ->
  C0U n m (.c (.s s)) (pV (l_ h) 0) (pV (l_ h+1) 0) (iV (l_ s)) (iV i) (h++[rT c2,rT (B4 (A5M s i))]) =
   A4 (.t [.a (B4 (A5M s (l_ s))),.c o0],h++[rT (B4 (A5M s (l_ s))),rT (B4 (A5M s (l_ s)))])
 | d,i,0,_,hm=>by omega
 | 0,i,m+1,hi,hm=>by
  have h1:¬ ((i:Int)<l_ s):=by omega
  have e:i=(l_ s):=by omega
  subst e;have hl:(B4 (A5M s (l_ s))).length=25:=by rw [B5];exact B1J (E8m _) hs
  rw [B2r];simp only [esc,esh,h1,hl,l2]
 | d+1,i,m+1,hi,hm=>by
  have h1:(i:Int)<(l_ s):=by omega
  have h3:i<(l_ s):=by omega
  have hl:(B4 (A5M s i)).length=25:=by rw [B5];exact B1J (by omega) hs
  have ih:=D1m s hs h c2 l2 n d (i+1) m (by omega) (by omega);have e1:E8r .i64 (1+(i:Int))=((1+i:Nat):Int):=by rw [wrap_i64 (by omega) (by omega)];omega
  have ea:K2 25 1 (pV (l_ h+1) 0) (iV ((1+i:Nat):Int))=A4 (pV (l_ h+1) (1+i)):=by rw [O2 (by omega)];simp
  have ho:1+i<(B4 (A5M s i)).length:=by omega
  rw [B2r];simp only [esc,esh,h1,e1,C0u h3,ea,ho,oZ,D9V h3 hs,E2 (a:=i) (by omega)];exact ih
def D8l(hs:l_ s<9223372036854775807)(h:A9) :
  A6J [.c (.s s)] h=A4 (.t [.a (B4 (iY s)),.c (cI (bif aS s then 0 else 3))],h):=by
 have key:∀ g,∃ g',B3u (l_ s+1) [.c (.s s)] g=A4 (.t [.a (B4 (iY s)),.c (cI (bif aS s then 0 else 3))],g'):=by
  intro g;have hz:=G9 25;have hl:(B4 (zeros 25)).length=25:=by rw [B5];exact zeros_length
  rw [C6c,hz];unfold iY;cases hf:aS s with
  | false =>
   generalize zeros 25=Z at *;exact ⟨_,by simp only [esc,esh,C6Y hs,hf,hl,Int.reduceEq]<;>rfl⟩
  | true =>
   have E7J:=(bL hf).2;have e0:(B4 (zeros 25)).set 0 (.i .u8 (E8r .u8 (l_ s)))=B4 (A5M s 0):=by
    rw [wrap_u8 (by omega) (by omega)];have:((l_ s:Nat):Int)=((UInt8.ofNat (l_ s)).toNat:Int):=by rw [UInt8.toNat_ofNat'];omega
    rw [this,oZ];rfl
   have:=D1m s E7J g (B4 (zeros 25)) hl (l_ s+1) (l_ s) 0 (l_ s+1) (by omega) (by omega);rw [<-e0] at this;generalize zeros 25=Z at *;have a0:K2 25 1 (pV (l_ g+1) 0) (iV 0)=A4 (pV (l_ g+1) 0):=rfl;have ho:0<(B4 Z).length:=by omega
   exact ⟨_,by simp only [esc,esh,C6Y hs,hf,a0,ho];exact this⟩
 obtain ⟨g',e⟩:=key (ro h);exact C2l e (by simp)
def gY(l:List UInt8):Option (List UInt8) :=
 if (l.headD 0).toNat<=24 then
  if aS ((l.drop 1).take (l.headD 0).toNat)=A5/\iY ((l.drop 1).take (l.headD 0).toNat)=l then A4 ((l.drop 1).take (l.headD 0).toNat) else A7
 else A7
def E0u{l:List UInt8}(hl:l_ l=25)(h:A9) :
  A76 [.a (B4 l)] h=A4 (.t [.c (.s ((gY l).getD [])),.c (cI (if (gY l).isSome then 0 else 3))],h):=by
 have key:∀ g,∃ g',A7P 0 [.a (B4 l)] g=A4 (.t [.c (.s ((gY l).getD [])),.c (cI (if (gY l).isSome then 0 else 3))],g'):=by
  intro g;obtain ⟨x,r,rfl⟩:∃ x r,l=x::r:=by
   cases l with
   | nil=>simp at hl
   | cons x r=>exact ⟨x,r,rfl⟩
  have hx:=x.toNat_lt;rw [C1W];have a0:K2 25 1 (pV (l_ g) 0) (iV 0)=A4 (pV (l_ g) 0):=rfl;have l0:(B4 (x::r))[0]?=A4 (.i .u8 x.toNat):=rfl;have e1:E8r .i64 (x.toNat:Int)=x.toNat:=wrap_i64 (by omega) (by omega);have mI:(B4 (x::r)).length=25:=by rw [B5,hl]
  unfold gY;simp only [List.headD_cons,List.drop_succ_cons,E8y];by_cases c1:x.toNat<=24
  ·rw [C4 c1];have c1':¬ (24:Int)<x.toNat:=by omega
   have e2:E8r .i64 (1+(x.toNat:Int))=((1+x.toNat:Nat):Int):=by rw [wrap_i64 (by omega) (by omega)];omega
   have e3:=E59 (h:=g) (l:=[rT (B4 (x::r))]) (k:=0) (n:=25) (a:=1) (b:=1+x.toNat) (cs:=B4 (x::r)) rfl mI (by omega) (by omega);rw [E9y,show 1+x.toNat-1=x.toNat by omega,show ((1:Nat):Int)=1 from rfl] at e3;have hh:Has (g++[rT (B4 (x::r))]) (sV (l_ g) 1 x.toNat 1) 1 x.toNat (B4 (r.take x.toNat)):=Has.part N8 (by omega) (by
    rw [D80,D81];simp) (V6 _)
   have hs:(r.take x.toNat).length<9223372036854775807:=by simp;omega
   have hp:=D8l hs (g++[rT (B4 (x::r))]);have hpl:(B4 (iY (r.take x.toNat))).length=25:=by rw [B5,rB]
   have hz:(E8l 25 (Cell.i .u8 0)).length=25:=E8S;have hq:=D0r (l:=iY (r.take x.toNat)) (m:=x::r) rB hl;generalize E8l 25 (Cell.i .u8 0)=z at *;cases hf:aS (r.take x.toNat) with
   | false =>
    rw [hf] at hp;rw [C5 (by simp)];exact ⟨_,by simp only [esc,esh,a0,l0,e1,c1',e2,e3,hh.str,hp,hpl,hz,Int.reduceEq,Option.getD_none,E9o,Bool.false_eq_true]<;>rfl⟩
   | true =>
    rw [hf] at hp;by_cases c2:iY (r.take x.toNat)=x::r
    ·rw [C4 ⟨rfl,c2⟩];exact ⟨_,by simp only [esc,esh,a0,l0,e1,c1',e2,e3,hh.str,hp,hpl,hz,mI,hq,O4 c2,Option.getD_some,E87]<;>rfl⟩
    ·rw [C5 (λh=>c2 h.2)];exact ⟨_,by simp only [esc,esh,a0,l0,e1,c1',e2,e3,hh.str,hp,hpl,hz,mI,hq,W3 c2,Option.getD_none,E9o,Bool.false_eq_true]<;>rfl⟩
  ·rw [C5 c1];have c1':(24:Int)<x.toNat:=by omega
   exact ⟨_,by simp only [esc,esh,a0,l0,e1,c1',Option.getD_none,E9o,Bool.false_eq_true]<;>rfl⟩
 obtain ⟨g',e⟩:=key (ro h);exact B8e e (by simp)
section
variable (n m m2:Nat) (a0 a1 a2 a3 x0 x1 x2 x3 x4 x6 x7 x11 x16 x17 x18 x34 x35 x36:Val) (h:A9)
def wR:FD A8:=⟨px 0X15f20028962500261400521201042,[],[],[.tmp 2],[]⟩
def A4N:=wR.R
def B9j:=mR A4N wR (tT []) n [a0] h
def nQ:=wR.K Tryz.func156
def iH:=wR.S
def B6o:G0 A4N iH:=nQ.flat
def A3B:FD A8:=⟨px 0X128f203018191889019391a0391e138391f013018195041f1a01f1e11e1f1f0110220103040451f00523103a2342,[],[],[.tmp 2],[cal C5b]⟩
def B0y:=A3B.R
def C4E:=mR B0y A3B (tT []) n [a0] h
def A3N:=A3B.K Tryz.func155
def xW:=A3B.S
def B9C:G0 B0y xW:=A3N.flat
def pR:FD A8:=⟨px 0X139f20041393b143b133b123b113b1051a513e582f0420522ef30041390384a2c041122bf12af23961e41b11a280182a2c29f1e001030403c1f2b19190521df300111a10218213e0692b01c20412850690411a62b1974214a03a2342,[.c (.i .u64 8),.c (.i .u8 0)],[.slA 25 1 (.t 4) A7 A7],[.tmp 2],[cal C6w]⟩
def A0O:=pR.R
def B6g:=mR A0O pR (tT []) n [a0] h
def iE:=pR.K Tryz.func157
def cX:=pR.S
def B3N:A3Q A0O cX:=iE.out
def kW:FD A8:=⟨px 0X11b5024f261b826e1c3020135024f260293b31b11622401b2c1901c31ac1a211ac4e28906351ac2f0101ac2f1f1ac72f4881ac3c01ac4e0141ac2f18a21ac3c0101b1819019a4d01319a2f78219a3c0110326c4b0280191d9431000334af22612901a5a0111a102293b190632301037c178488185a3d071192d3533cf13bf18011828063b2c3af38001134e39391c74633301b22ff1b053802218022a28481392d0404c14882d04022e11900201033c11e1e01a181df704121a421503070245131cd012139420060511b012f42031e4c11d42312941b422e319531c2,[],[.b2sN A7 (.t 44),.b2sN A7 (.t 49)],[.cellN 4 2,.tmp 5],[D8 iH nQ,cal C2m,D8 A2e A8G,D8 xW A3N,D8 cX iE,D8 A84 B5I]⟩
def A7C:=kW.R
def B4h:AtH:=kW.lj 0 n [m] [x1,x2,x4,x6,x11]
def B63:=tT [⟨2,5,B4h⟩]
def C1E:=mR A7C kW B63 n [a0,a1] h
def A6Z:=mL kW B63 0 n [m] [x1,x2,x4,x6,x11] h
def A1K:=kW.K Tryz.func143
def sT:=kW.S
def B7W:G0 A7C sT:=A1K.flat
def tU:FD A8:=⟨px 0X11b30174221c2a0633903012c133e6318645002231422e253182,[],[],[.tmp 3],[]⟩
def B14:=tU.R
def A4L:=mR B14 tU (tT []) n [a0,a1] h
def B1Z:=tU.K Tryz.func152
def uA:=tU.Q
def A44:OfT B14 uA:=B1Z.of
def S3:FD A8:=⟨px 0X39f7054c022180124301e1904b4d01184b6e02141022c4b6d3e24b3c3e4b74a4b7012c28019692220721ff11ef2262951b11a280181e2c1df1a0042032812a4881b1c191d1b18219f4041218421503070243133d012129420060517011f42422e153182,[],[],[],[D8 sT A1K,gG uA B1Z]⟩
def A0l:=S3.R
def A0c:K7:=S3.E
def yY:AtH:=S3.lj 0 n [m] [x1,x2,x7]
def A0q:TT:=⟨A0c,[⟨2,3,yY⟩]⟩
def A7z:=mR A0l S3 A0q n [a0,a1] h
def rS:=mL S3 A0q 0 n [m] [x1,x2,x7] h
def A0g:=S3.K Tryz.func105
def lZ:=S3.Q
def A7W:OfT A0l lZ:=A0g.of
def A1t:FD A8:=⟨px 0X17f201842505204203412b85e648818301224c174234a03a2342,[],[],[.tmp 2],[gG lZ A0g]⟩
def A1L:=A1t.R
def C1B:=mR A1L A1t (tT []) n [a0] h
def sQ:=A1t.K Tryz.func124
def gE:=A1t.S
def A8T:SOk A8 124 gE:=sQ.sok
def B9x:E3b A1L gE:=sQ.low
def B9y:A3Q A1L gE:=sQ.out
def eV:FD A8:=⟨px 0X11df5003f2a431c000017201b282a22a361e3183182404222840400514552d261c21000301a31742e219753282,[],[],[.tmp 5],[]⟩
def B13:=eV.R
def C2G:AtH:=eV.lj 0 n [] [x3]
def B18:=tT [⟨1,1,C2G⟩]
def A4K:=mR B13 eV B18 n [a0,a1,a2,a3] h
def A3l:=mJ eV B18 0 n [] [x3] h
def B1Y:=eV.K Tryz.func106
def kJ:=eV.Q
def A43:OfT B13 kJ:=B1Y.of
def R9:FD A8:=⟨px 0X39f7054c022180124301e1904b4d01184b6e02141022c4b6d3e24b3c3e4b74a4b7012c28019692220721ff11ef2262951b11a280181e2c1df1a0042032812a4881b1c191d1b18219f4041218421503070243133d012129420060517011f42422e153182,[],[],[],[D8 sT A1K,gG kJ B1Y]⟩
def A0k:=R9.R
def A0b:K7:=R9.E
def yX:AtH:=R9.lj 0 n [m] [x1,x2,x7]
def A0p:TT:=⟨A0b,[⟨2,3,yX⟩]⟩
def A7y:=mR A0k R9 A0p n [a0,a1] h
def rR:=mL R9 A0p 0 n [m] [x1,x2,x7] h
def A0f:=R9.K Tryz.func105
def lY:=R9.Q
def A7V:OfT A0k lY:=A0f.of
def A1s:FD A8:=⟨px 0X11cf5011a11c1028361a41a318201b1a116304203461c31da5e1c4881830022322a44c21f422c4c11d42312c4c43a422e419751c2,[],[],[.cellN 4 3,.tmp 5],[gG lY A0f]⟩
def A7x:=A1s.R
def C1A:=mR A7x A1s (tT []) n [a0,a1] h
def sP:=A1s.K Tryz.func55
def lE:=A1s.S
def C16:SOk A8 55 lE:=sP.sok
def B7U:G0 A7x lE:=sP.flat
def A1u:FD A8:=⟨px 0X126488601030785b134b123b112b10419413e4021c01b1042,[.c (.i .u8 98),.c (.i .u8 107),.c (.i .u8 116),.c (.i .u8 33)],[],[.cellN 0 256],[D8 A85 B27]⟩
def A7A:=A1u.R
def C1C:=mR A7A A1u (tT []) n [] h
def A7r:=A1u.K Tryz.func154
def A1M:=A1u.S
def B7V:G0 A7A A1M:=A7r.flat
def fC:FD A8:=⟨px 0X113022f48864f4886e1c3026df4c054a06d49218012d3022f488601c3b37111112722404327f104019e682b41cf22625ff15ef2362c191b11c2801a5e2c5df5900625304018e54f4885a1c1a2b35258f18f264ef7029181b021861a21d4167a7c1823503270245134012119b42016251102974a0319918f18d1c23c15349f2a053e022182784886061a343201336821801235e15e4883b1c501901530268488601c3b37111111105722403f01134a22f1c36b42032ef6f262cf502961b021861a21d4163a3c182150307024613401214f420060511029728034d4b491c2031ff248861c41b001f5c31961192015d30238488601c3b371062243d05202971b033b4203111c21b250182,[],[],[.cellN 2 256,.tmp 3],[D8 A1M A7r,D8 xW A3N,D8 iH nQ,D8 cX iE,D8 A4p A8H,D8 lE sP]⟩
def B0w:=fC.R
def B7d:AtH:=fC.lj 0 n [m] [x0,x2,x4,x16,x17,x18]
def B7e:AtH:=fC.lj 1 n [m] [x2,x4,x34,x35,x36]
def B1i:=tT [⟨2,6,B7d⟩,⟨2,5,B7e⟩]
def C4C:=mR B0w fC B1i n [a0] h
def A9n:=mL fC B1i 0 n [m] [x0,x2,x4,x16,x17,x18] h
def A9o:=mL fC B1i 1 n [m] [x2,x4,x34,x35,x36] h
def B86:=fC.K Tryz.func130
def B0X:=fC.S
def C41:SOk A8 130 B0X:=B86.sok
def B9z:G0 B0w B0X:=B86.flat
def A1v:FD A8:=⟨px 0X117023c2601141022d3b4a10402481010371f018020119702282602d3b31c10001722401b6193d042c1a72c70110127163b4203112d61b21d530282,[],[],[.cellN 6 2,.tmp 7],[D8 iH nQ]⟩
def A7B:=A1v.R
def C1D:=mR A7B A1v (tT []) n [a0,a1,a2] h
def B6J:=A1v.K Tryz.func158
def A7X:=A1v.S
def B9B:E3b A7B A7X:=B6J.low
def A3A:FD A8:=⟨px 0X12ff5004e261428002801632301134821872a018020155023a2602d3b32e100072243018190394d010392f2c2393c01306193d01291a7297011042711b494203112d4c432e319701c2,[],[],[.cellN 4 2,.tmp 5],[D8 xW A3N,D8 cX iE,D8 A7X B6J]⟩
def B0x:=A3A.R
def C4D:=mR B0x A3A (tT []) n [a0,a1] h
def B87:=A3A.K Tryz.func131
def B0Y:=A3A.S
def C42:SOk A8 131 B0Y:=B87.sok
def B9A:D0q B0x B0Y:=B87.tidy
def gZ:FD A8:=⟨px 0X11b4015a000072025e48860181e33320123021814e5011304048548488187019240383a3182c31f1c34b2521ef11df2362c51b11e2801c1d2c1cf700182030400511c51e488181c1b1b241c20000301a31632e27531c2,[],[.eqA A6 ([.i .i64,.s,.i .i64]) (.t 15) (.t 16)],[.tmp 4],[D8 lE sP,D8 iH nQ,D8 cX iE,D8 A4p A8H]⟩
def B3e:=gZ.R
def C5j:AtH:=gZ.lj 0 n [] []
def B33:=tT [⟨1,0,C5j⟩]
def A6w:=mR B3e gZ B33 n [a0,a1,a2] h
def A5n:=mJ gZ B33 0 n [] [] h
def B2X:=gZ.K Tryz.func174
def xU:=gZ.Q
def A6E:OfT B3e xU:=B2X.of
def T2:FD A8:=⟨px 0X39f7054c022180124301e1904b4d01184b6e02141022c4b6d3e24b3c3e4b74a4b7012c28019692220721ff11ef2262951b11a280181e2c1df1a0042032812a4881b1c191d1b18219f4041218421503070243133d012129420060517011f42422e153182,[],[],[],[D8 sT A1K,gG xU B2X]⟩
def A13:=T2.R
def A1U:K7:=T2.E
def A0s:AtH:=T2.lj 0 n [m] [x1,x2,x7]
def A2f:TT:=⟨A1U,[⟨2,3,A0s⟩]⟩
def A8K:=mR A13 T2 A2f n [a0,a1] h
def tC:=mL T2 A2f 0 n [m] [x1,x2,x7] h
def A1V:=T2.K Tryz.func105
def nX:=T2.Q
def A8U:OfT A13 nX:=A1V.of
def A3z:FD A8:=⟨px 0X121c48861a4881821120421361a22de5e1848851c30124f248861c31b0045c37421c4c03a253182,[],[],[.cellN 2 256],[D8 A1M A7r,gG nX A1V]⟩
def B0v:=A3z.R
def C4B:=mR B0v A3z (tT []) n [a0] h
def B85:=A3z.K Tryz.func161
def B0W:=A3z.S
def B9w:G0 B0v B0W:=B85.flat
def wQ:FD A8:=⟨px 0X16f20038218488180103448818301900533103a2342,[],[.eqA A6 (E8l 256 (.i .u8)) (.t 4) (.t 5)],[.tmp 2],[D8 B0W B85]⟩
def A4M:=wQ.R
def B9i:=mR A4M wQ (tT []) n [a0] h
def B2Y:=wQ.K Tryz.func137
def xV:=wQ.S
def B6n:G0 A4M xV:=B2Y.flat
end
def E2y{l l':List (Option Row)}(hl:l'=l++[rT cs]):quiet (g++l) (A4 (v,g++l'))=A4 (v,g++l'):=by
 subst hl;have:=U9 ((Grows.rfl' (h:=g++l)).new cs) (v:=v);rw [E8t] at this;exact this
def E54{a:Option Row}:quiet (g++[a]) (A4 (v,g++[a,rT cs]))=A4 (v,g++[a,rT cs]):=E2y rfl
def E55{a b:Option Row}:quiet (g++[a,b]) (A4 (v,g++[a,b,rT cs]))=A4 (v,g++[a,b,rT cs]):=E2y rfl
def I1(k:Nat):Nat:=32+32*k
def kP(hk:k<7):iH [iV (k:Int)] h=A4 (iV (I1 k:Nat),h):=by
 have key:∀ g,∃ g',A4N 0 [iV (k:Int)] g=A4 (iV (I1 k:Nat),g'):=by
  intro g;have w1:=E2 (a:=k) (by omega);have w2:E8r .i64 (32*((k+1:Nat):Int))=((I1 k:Nat):Int):=by unfold I1;rw [wrap_i64 (by omega) (by omega)];omega
  rw [B9j];exact ⟨_,by simp only [esc,w1,w2]<;>rfl⟩
 obtain ⟨g',e⟩:=key (ro h);exact B6o e rfl
def D6g:List UInt8:=[98,107,116,33]
def hdB:List UInt8:=R2 256 D6g
def pF:hdB.length=256:=I7 (by decide)
def B4g:A1M [] h=A4 (.a (B4 hdB),h):=by
 have key:∀ g,∃ g',A7A 0 [] g=A4 (.a (B4 hdB),g'):=by
  intro g;have hz:(B4 (zeros 256)).length=256:=by rw [B5];exact zeros_length
  have hd:(B4 hdB).length=256:=by rw [B5];exact pF
  have ef:F6 [Cell.i .u8 0,.i .u8 0,.i .u8 0,.i .u8 0] [(0,1,.c (.i .u8 98)),(1,1,.c (.i .u8 107)),(2,1,.c (.i .u8 116)),(3,1,.c (.i .u8 33))]=A4 (B4 D6g):=rfl;have hO:=B55 (data:=D6g) (v:=sV (l_ g+1) 0 4 1) (nv:=4) (h:=g++[rT (B4 (zeros 256)),rT (B4 D6g)]) (Has.row (rw:=A5) (by simp) rfl (V6 _)) (by decide);rw [D2X (by decide),show R2 256 D6g=hdB from rfl] at hO;have hM:B2a (g++[rT (B4 (zeros 256)),rT (B4 D6g)]) (sV (l_ g+1) 0 4 1)=A4 (sV (l_ g+1) 0 4 1):=by simp [B2a]
  rw [C1C,G9];generalize hdB=B at *;generalize B4 D6g=mg at *;generalize zeros 256=z at *;exact ⟨_,by simp only [esc,esh,ef,hM,hO,hz,hd]<;>rfl⟩
 obtain ⟨g',e⟩:=key (ro h);exact B7V e (by simp)
def B6E(s:List UInt8)(n:Int):Bool:=aS s&&(decide (1<=n)&&decide (n<=128))
def A8j(hs:l_ s<9223372036854775807):xW [.a [.s s,cI n]] h=A4 (bV (B6E s n),h):=by
 have key:∀ g,∃ g',B0y 0 [.a [.s s,cI n]] g=A4 (bV (B6E s n),g'):=by
  intro g;have hC:=λh=>C6Y hs h
  rw [C4E];unfold B6E;cases hf:aS s with
  | false =>
   rw [hf] at hC;exact ⟨_,by simp only [esc,esh,hC,Int.reduceEq]<;>rfl⟩
  | true =>
   rw [hf] at hC;by_cases c1:1<=n
   ·by_cases c2:n<=128
    ·rw [O4 c1,O4 c2];exact ⟨_,by simp only [esc,esh,hC,c1,c2]<;>rfl⟩
    ·rw [O4 c1,W3 c2];exact ⟨_,by simp only [esc,esh,hC,c1,c2]<;>rfl⟩
   ·rw [W3 c1];exact ⟨_,by simp only [esc,esh,hC,c1]<;>rfl⟩
 obtain ⟨g',e⟩:=key (ro h);exact B9C e rfl
def U0(s:List UInt8)(n:Int):List UInt8:=D6 2 n++iY s++[0,0,0,0,0]
def U8:(U0 s n).length=32:=by simp [U0,rB]
def nE(hs:l_ s<9223372036854775807):cX [.a [.s s,cI n]] h=A4 (sV (l_ h) 0 32 1,h++[rT (B4 (U0 s n))]):=by
 have key:∀ g,∃ v g',A0O 0 [.a [.s s,cI n]] g=A4 (v,g')/\Out (l_ g) g' v 1 32 (B4 (U0 s n)):=by
  intro g;have e4:N4 .shr (iV n) (.c (.i .u64 8))=A4 (iV (n/256)):=C6I (by omega);have wm:∀ a:Int,E8r .u8 a=a%256:=λa=>by
   simp only [E8r,IntKind.bits,IntKind.signed,E8E];rfl
  have b0:E8r .u8 n=((byI n 0).toNat:Int):=by rw [wm,C5F];simp
  have b1:E8r .u8 (n/256)=((byI n 1).toNat:Int):=by rw [wm,C5F];simp
  have ef:F6 [Cell.i .u8 0,.i .u8 0] [(0,1,.c (.i .u8 (byI n 0).toNat)),(1,1,.c (.i .u8 (byI n 1).toNat))]=A4 (B4 (D6 2 n)):=rfl;have ef5:F6 [Cell.i .u8 0,.i .u8 0,.i .u8 0,.i .u8 0,.i .u8 0] [(0,1,.c (.i .u8 0)),(1,1,.c (.i .u8 0)),(2,1,.c (.i .u8 0)),(3,1,.c (.i .u8 0)),(4,1,.c (.i .u8 0))]=A4 (B4 [0,0,0,0,0]):=rfl;have hP:=λh=>D8l hs h
  have hpl:(B4 (iY s)).length=25:=by rw [B5];exact rB
  have hz:(B4 (zeros 25)).length=25:=by rw [B5];exact zeros_length
  have hA:=A8h (h:=g++[rT [.s s,cI n],rT [],rT (B4 (D6 2 n)),rT (B4 (iY s))]) (id:=l_ g+2) (jd:=l_ g+3) (n:=2) (m:=25) (sz:=1) (cs:=B4 (D6 2 n)) (ys:=B4 (iY s)) (rw:=A5) (by simp) (by simp [B5]) (by simp) (by rw [hpl]) rfl (by omega) (by omega);simp only [E8o,E8w,E8X,E8A,E8t,E89,E8I,B5r,List.set_cons_succ,E9A,Nat.reduceAdd,<-A64] at hA;have E7u:(B4 (D6 2 n++iY s)).length=27*1:=by rw [B5,E8o,R4,rB]
  have hA2:=A8h (h:=g++[rT [.s s,cI n],rT [],A7,rT (B4 (iY s)),rT (B4 (D6 2 n++iY s)),rT (B4 [0,0,0,0,0])]) (id:=l_ g+4) (jd:=l_ g+5) (n:=27) (m:=5) (sz:=1) (cs:=B4 (D6 2 n++iY s)) (ys:=B4 [0,0,0,0,0]) (rw:=A5) (by simp) E7u (by simp) rfl rfl (by omega) (by omega);simp only [E8o,E8w,E8X,E8A,E8t,E89,E8I,B5r,List.set_cons_succ,E9A,Nat.reduceAdd,<-A64] at hA2;rw [<-E8t (D6 2 n),show D6 2 n++iY s++[0,0,0,0,0]=U0 s n from rfl] at hA2;rw [B6g,G9];refine ⟨sV (l_ g+6) 0 32 1,g++[rT [.s s,cI n],rT [],A7,rT (B4 (iY s)),A7,rT (B4 [0,0,0,0,0]),rT (B4 (U0 s n))],?_,by rw [B5,U8],l_ g+6,rfl,by omega,?_⟩
  ·generalize U0 s n=E at *;generalize D6 2 n++iY s=Q at *;generalize B4 [0,0,0,0,0]=F at *;generalize B4 (iY s)=P at *;generalize B4 (D6 2 n)=B2 at *;generalize zeros 25=z at *;simp only [esc,esh,Nat.reduceAdd,b0,e4,b1,ef,hP,hpl,hz,hA,ef5,hA2]
  ·simp
 obtain ⟨v,g',e,ho⟩:=key (ro h);exact B3N e (by simpa [G8] using ho) (by simp)
def jB(b:List UInt8)(k:Nat):List UInt8:=(b.drop (I1 k)).take 32
def nameB(b:List UInt8)(k:Nat):List UInt8:=(b.drop (I1 k+2)).take 25
def yU(b:List UInt8)(k:Nat):Int:=fieldN b (I1 k) 2
abbrev Ent:=List UInt8 × Int
def isE(b:List UInt8)(k:Nat)(s:List UInt8):Bool:=B6E s (yU b k)&&decide (U0 s (yU b k)=jB b k)
def O3(b:List UInt8)(k:Nat):Option Ent:=(gY (nameB b k)).bind λs=>if isE b k s=A5 then A4 (s,yU b k) else A7
def W8:Option Ent->List Cell
 | none=>[.s [],o0]
 | some e=>[.s e.1,cI e.2]
def D3a(hb:l_ b=256)(hk:k<7):(jB b k).length=32:=by simp [jB,I1,hb];omega
def C0T(hb:l_ b=256)(hk:k<7):(nameB b k).length=25:=by simp [nameB,I1,hb];omega
def A4i{l:List UInt8}(h:gY l=A4 s):aS s=A5:=by
 unfold gY at h;split at h
 ·split at h
  ·rename_i hc;cases h;exact hc.1
  ·cases h
 ·cases h
def cpN(l:List UInt8)(i:Nat):List UInt8:=l.take i++zeros (25-i)
def D6t{l:List UInt8}(hl:l_ l=25)(hi:i<=25):(cpN l i).length=25:=by simp [cpN,zeros,hl];omega
def E3C{l:List UInt8}(hl:l_ l=25)(hi:i<25):(cpN l i).set i l[i]=cpN l (i+1):=by
 unfold cpN;have hlen:(List.take i l).length=i:=by simp;omega
 rw [E9a _ _ (by omega),hlen,E9t,E8R (by omega),E8t];refine congrArg (List.take i l ++ ·) ?_;have e:25-i=(25-(i+1))+1:=by omega
 rw [e];unfold zeros;rw [E81,E9A];rfl
def E3B{l:List UInt8}(hl:l_ l=25):cpN l 25=l:=by simp [cpN,zeros,E8B,hl]
def E1b:B2T b (I1 k:Nat) 32=jB b k:=by
 unfold B2T jB;rw [C4 (by omega)];simp
def E3t(hk:k<7):((atN b (I1 k:Nat) 2:Nat):Int)=yU b k:=by
 unfold atN yU fieldN I1;rw [C4 ⟨by omega,Y7.2 (by omega)⟩];simp only [E8D];rfl
def C6U{q:Nat}{g:A9}(hb:l_ b=256)(hk:k<7):∀ e i m:Nat,i+e=25->e<m ->
  ∃ h',B4h q m (iV (k:Int)) (pV (l_ g) 0) (pV (l_ g+1) 0) (pV (l_ g+2) 0) (iV (i:Int)) (g++[rT (B4 b),rT [.s [],o0],rT (B4 (cpN (nameB b k) i))]) =
   A4 (.t [.a (W8 (O3 b k)),.c (.b (O3 b k).isSome)],h')
 | e,i,0,_,hm=>by omega
 | 0,i,m+1,hi,hm=>by
  have e0:i=25:=by omega
  subst e0;have hnl:=C0T hb hk;rw [E3B hnl];have c0:¬ ((25:Nat):Int)<25:=by omega
  have hbl:(B4 b).length=256:=by rw [B5,hb]
  have hnc:(B4 (nameB b k)).length=25:=by rw [B5,hnl]
  have hU:=λh=>E0u hnl h
  have hF:=λh=>kP (h:=h) hk
  have hA:=λh=>rA (h:=h) hb (a:=(I1 k:Nat)) (w:=2)
  rw [E3t hk] at hA;have ef:∀ (s:List UInt8) (n:Int),F6 [Cell.s [],o0] [(0,1,.c (.s s)),(1,1,iV n)]=A4 [.s s,cI n]:=λ_ _=>rfl
  have ef0:F6 [Cell.s [],o0] []=A4 [.s [],o0]:=rfl;rw [A6Z];unfold O3;cases hu:gY (nameB b k) with
  | none =>
   rw [hu] at hU;simp only [Option.getD_none,E9o,Bool.false_eq_true,if_false] at hU;generalize yU b k=n at *;generalize B4 (nameB b k)=z at *;generalize B4 b=y at *;exact ⟨_,by simp only [esc,esh,Nat.reduceAdd,c0,hbl,hnc,hU,hF,hA,ef,ef0,Int.reduceEq,Option.bind_none,W8]<;>rfl⟩
  | some s =>
   rw [hu] at hU;simp only [Option.getD_some,E87,if_true] at hU;have hfs:=(bL (A4i hu)).2;have hM:=λh=>A8j (s:=s) (n:=yU b k) (h:=h) (by omega)
   rw [E8z];unfold isE;cases hm:B6E s (yU b k) with
   | false =>
    rw [hm] at hM;rw [E8E,C5 (by simp)];generalize yU b k=n at *;generalize B4 (nameB b k)=z at *;generalize B4 b=y at *;exact ⟨_,by simp only [esc,esh,Nat.reduceAdd,c0,hbl,hnc,hU,hF,hA,ef,ef0,hM,W8]<;>rfl⟩
   | true =>
    rw [hm] at hM;rw [E8K];have hW:=λh=>nE (s:=s) (n:=yU b k) (h:=h) (by omega)
    have hsl:=D3a hb hk;have hC:=λh=>B1G (h:=h) hb (a:=(I1 k:Nat)) (n:=32)
    rw [E1b,hsl] at hC;have s1:=λ(c0 c1 c2 c3:Option Row)=>Has.str (l:=U0 s (yU b k)) (Has.row (h:=g++[c0,c1,c2,c3,rT (B4 (U0 s (yU b k)))]) (id:=l_ g+4) (sz:=1) (n:=32) (rw:=A5) (by simp) (by rw [B5,U8]) (V6 _))
    have s2:=λ(c0 c1 c2 c3 c4:Option Row)=>Has.str (l:=jB b k) (Has.row (h:=g++[c0,c1,c2,c3,c4,rT (B4 (jB b k))]) (id:=l_ g+5) (sz:=1) (n:=32) (rw:=A5) (by simp) (by rw [B5,hsl]) (V6 _))
    by_cases ce:U0 s (yU b k)=jB b k
    ·rw [C4 (O4 ce)];generalize U0 s (yU b k)=E at *;generalize jB b k=L at *;generalize yU b k=n at *;subst ce;generalize B4 (nameB b k)=z at *;generalize B4 b=y at *;exact ⟨_,by simp only [esc,esh,Nat.reduceAdd,c0,hbl,hnc,hU,hF,hA,ef,ef0,hM,hW,s1,hC,s2,eq_self,W8,E87]<;>rfl⟩
    ·rw [C5 (by rw [decide_eq_true_eq];exact ce)];generalize U0 s (yU b k)=E at *;generalize jB b k=L at *;generalize yU b k=n at *;generalize B4 (nameB b k)=z at *;generalize B4 b=y at *;exact ⟨_,by simp only [esc,esh,Nat.reduceAdd,c0,hbl,hnc,hU,hF,hA,ef,ef0,hM,hW,s1,hC,s2,ce,W8,E9o]<;>rfl⟩
 | e+1,i,m+1,hi,hm=>by
  obtain ⟨h',ih⟩:=C6U (q:=q) (g:=g) hb hk e (i+1) m (by omega) (by omega);have hnl:=C0T hb hk;have c0:(i:Int)<25:=by omega
  have hF:=λh=>kP (h:=h) hk
  have hbl:(B4 b).length=256:=by rw [B5,hb]
  have pE:(B4 (cpN (nameB b k) i)).length=25:=by rw [B5];exact D6t hnl (by omega)
  have W4:i<(B4 (cpN (nameB b k) i)).length:=by omega
  have w1:E8r .i64 (((I1 k:Nat):Int)+2)=((I1 k+2:Nat):Int):=by unfold I1;rw [wrap_i64 (by omega) (by omega)];omega
  have w2:E8r .i64 (((I1 k+2:Nat):Int)+(i:Int))=((I1 k+2+i:Nat):Int):=by unfold I1;rw [wrap_i64 (by omega) (by omega)];omega
  have hj:I1 k+2+i<256:=by unfold I1;omega
  have a1:K2 256 1 (pV (l_ g) 0) (iV ((I1 k+2+i:Nat):Int))=A4 (pV (l_ g) (I1 k+2+i)):=by rw [O2 hj];simp
  have a2:K2 25 1 (pV (l_ g+2) 0) (iV (i:Int))=A4 (pV (l_ g+2) i):=by rw [O2 (by omega)];simp
  have ei:(nameB b k)[i]'(by omega)=b[I1 k+2+i]'(by omega):=by simp [nameB]
  have l1:(B4 b)[I1 k+2+i]?=A4 (.i .u8 ((nameB b k)[i]'(by omega)).toNat):=by
   rw [ei];simp [B4,hb,hj]
  have hs:(B4 (cpN (nameB b k) i)).set i (.i .u8 ((nameB b k)[i]'(by omega)).toNat)=B4 (cpN (nameB b k) (i+1)):=by rw [oZ,E3C hnl (by omega)]
  rw [A6Z];refine ⟨h',?_⟩;generalize B4 (cpN (nameB b k) (i+1))=z1 at *;generalize B4 (cpN (nameB b k) i)=z at *;generalize B4 b=y at *;simp only [esc,esh,c0,hF,w1,w2,a1,l1,a2,W4,hs,E2 (a:=i) (by omega)];exact ih
def D82{o:Option Ent}:M9 (W8 o)=A5:=by cases o<;>rfl
def A5o(hb:l_ b=256)(hk:k<7):sT [.a (B4 b),iV (k:Int)] h=A4 (.t [.a (W8 (O3 b k)),.c (.b (O3 b k).isSome)],h):=by
 have key:∀ N,25<N->∀ g,∃ g',A7C N [.a (B4 b),iV (k:Int)] g=A4 (.t [.a (W8 (O3 b k)),.c (.b (O3 b k).isSome)],g'):=by
  intro N hN g;obtain ⟨h',e⟩:=C6U (g:=g) (q:=N) hb hk 25 0 N (by omega) hN;have e0:cpN (nameB b k) 0=zeros 25:=by simp [cpN]
  rw [e0] at e;rw [C1E,G9];generalize zeros 25=z at *;generalize B4 b=y at *;exact ⟨h',by simp only [esc,esh,Nat.reduceAdd];exact e⟩
 obtain ⟨g',e⟩:=key (l_ h+26) (by omega) (ro h);exact B7W e (by simp [Val.flat,D82,Cell.flat])
abbrev Slt:=Nat × Ent
def slC:Option Slt->List Cell
 | none=>[o0,.s [],o0]
 | some x=>[cI (x.1:Int),.s x.2.1,cI x.2.2]
def kF{o:Option Slt}:(slC o).length=3:=by cases o<;>rfl
def D5G{o:Option Slt}:M9 (slC o)=A5:=by cases o<;>rfl
def X7(b nm:List UInt8):Nat->Nat->Option Slt
 | 0,_=>A7
 | e+1,k=>match O3 b k with
  | some x=>if x.1=nm then A4 (k,x) else X7 b nm e (k+1)
  | none=>X7 b nm e (k+1)
def lM{nm:List UInt8}(hx:O3 b k=A7):X7 b nm (e+1) k=X7 b nm e (k+1):=by rw [X7,hx]
def zJ{nm:List UInt8}(hx:O3 b k=A4 (nm,n)):X7 b nm (e+1) k=A4 (k,(nm,n)):=by rw [X7,hx];simp
def lJ{nm:List UInt8}(hx:O3 b k=A4 (s,n))(aZ:s≠nm):X7 b nm (e+1) k=X7 b nm e (k+1):=by rw [X7,hx];simp [aZ]
def U3(b nm:List UInt8):Option Slt:=X7 b nm 7 0
def E1C{k:Int}{nm:List UInt8}{r1 r2 r3:Nat}(h1:rd h r1=rT [.s nm])(h3:rd h r3=rT [.b A6])(aZ:s≠nm) :
  kJ [.a [cI k,.s s,cI n],pV r1 0,pV r2 0,pV r3 0] h=A4 (bV A5,h++[rT [cI k,.s s,cI n]]):=by
 refine A43 (n:=0) ?_;have l1:B9 (h++[rT [cI k,.s s,cI n]]) (pV r1 0)=A4 (.c (.s nm)):=B8 (cs:=[.s nm]) (B6 h1) rfl rfl;have l3:B9 (h++[rT [cI k,.s s,cI n]]) (pV r3 0)=A4 (bV A6):=B8 (cs:=[.b A6]) (B6 h3) rfl rfl;rw [A4K];simp only [esc,esh,Nat.reduceAdd,l1,aZ,A3l,l3]<;>rfl
def D9a{k:Int}{nm:List UInt8}{c2:List Cell}{r1 r2 r3:Nat}(h1:rd h r1=rT [.s nm])(h2:rd h r2=rT c2)(hl:c2.length=3)(h3:rd h r3=rT [.b A6])(h23:r2≠r3) :
  kJ [.a [cI k,.s nm,cI n],pV r1 0,pV r2 0,pV r3 0] h=A4 (bV A6,((h++[rT [cI k,.s nm,cI n]]).set r2 (rT [cI k,.s nm,cI n])).set r3 (rT [.b A5])):=by
 refine A43 (n:=0) ?_;have l1:B9 (h++[rT [cI k,.s nm,cI n]]) (pV r1 0)=A4 (.c (.s nm)):=B8 (cs:=[.s nm]) (B6 h1) rfl rfl;have s2:=storeAll (h:=h++[rT [cI k,.s nm,cI n]]) (id:=r2) (n:=3) (xs:=[cI k,.s nm,cI n]) (B6 h2) hl rfl;have h3':rd ((h++[rT [cI k,.s nm,cI n]]).set r2 (rT [cI k,.s nm,cI n])) r3=rT [.b A6]:=by rw [B7 h23];exact B6 h3
 have s3:=I9 (x:=.b A5) (off:=0) h3' (by simp);have l4:B9 (((h++[rT [cI k,.s nm,cI n]]).set r2 (rT [cI k,.s nm,cI n])).set r3 (rT [.b A5])) (pV r3 0)=A4 (bV A5):=B8 (cs:=[.b A5]) (D3 (by simpa using E1 h3')) rfl rfl;rw [A4K];have s3:I8 ((h++[rT [cI k,.s nm,cI n]]).set r2 (rT [cI k,.s nm,cI n])) (pV r3 0) (bV A5)=A4 (((h++[rT [cI k,.s nm,cI n]]).set r2 (rT [cI k,.s nm,cI n])).set r3 (rT [.b A5])):=s3;simp only [esc,esh,Nat.reduceAdd,l1,s2,s3,A3l,l4]<;>rfl
def C2Q{nm:List UInt8}{r1 r2 r3 q:Nat}(hb:l_ b=256)(hB1:rd B r1=rT [.s nm])(hr2:l_ B<=r2)(hr3:l_ B<=r3)(h23:r2≠r3)(h02:r0≠r2)(h03:r0≠r3):∀ (e k m:Nat) (h:A9),k+e=7->e<m->Low (l_ B) B h ->
  rd h r2=rT (slC A7)->rd h r3=rT [.b A6]->rd h r0=rT (B4 b) ->
  ∃ h',yX q m (.c (.f 106 [(r1,0),(r2,0),(r3,0)])) (pV r0 0) (iV (k:Int)) h=A4 (.t [],h')/\Low (l_ B) B h'/\rd h' r2=rT (slC (X7 b nm e k))/\rd h' r3=rT [.b (X7 b nm e k).isSome]
 | e,k,0,h,_,hm,_,_,_,_=>by omega
 | 0,k,m+1,h,hk,hm,hlow,h2,h3,h0=>by
  have e0:k=7:=by omega
  subst e0;have c0:¬ ((7:Nat):Int)<7:=by omega
  refine ⟨h,?_,hlow,h2,h3⟩;rw [rR];simp only [esc,c0]<;>rfl
 | e+1,k,m+1,h,hk,hm,hlow,h2,h3,h0=>by
  have c0:(k:Int)<7:=by omega
  have hbl:(B4 b).length=256:=by rw [B5,hb]
  have s1:=C8 (h:=h) (id:=r0) h0 hbl;have hR:=A5o (h:=h) (k:=k) hb (by omega);have w1:=E2 (a:=k) (by omega);have hcv:∀ (x:Val) (h:A9),aQ A0b (.c (.f 106 [(r1,0),(r2,0),(r3,0)])) [x] h=kJ [x,pV r1 0,pV r2 0,pV r3 0] h:=λ_ _=>Eq.trans rfl rfl
  rw [rR];cases hx:O3 b k with
  | none =>
   rw [hx] at hR;rw [lM hx];obtain ⟨h',f1,f2⟩:=C2Q (q:=q) hb hB1 hr2 hr3 h23 h02 h03 e (k+1) m (h++[rT ([.s [],o0])]) (by omega) (by omega) (hlow.new _) (B6 h2) (B6 h3) (B6 h0);refine ⟨h',?_,f2⟩;generalize B4 b=y at *;simp only [esc,esh,Nat.reduceAdd,c0,s1,hR,W8,E9o,w1];exact f1
  | some x =>
   obtain ⟨s,n⟩:=x;rw [hx] at hR;have ef:F6 [o0,.s [],o0] [(0,1,iV (k:Int)),(1,2,.a [.s s,cI n])]=A4 [cI (k:Int),.s s,cI n]:=rfl;have h1':rd (h++[rT [.s s,cI n]]) r1=rT [.s nm]:=B6 (hlow.rd hB1);by_cases ce:s=nm
   ·subst ce;have hF:=D9a (k:=(k:Int)) (n:=n) h1' (B6 h2) kF (B6 h3) h23;simp only [E8t,E89,E8I] at hF;rw [zJ hx];refine ⟨((h++[rT [.s s,cI n],rT [cI (k:Int),.s s,cI n]]).set r2 (rT [cI (k:Int),.s s,cI n])).set r3 (rT [.b A5]),?_,((hlow.new [rT [.s s,cI n],rT [cI (k:Int),.s s,cI n]]).set hr2 _).set hr3 _,?_,?_⟩
    ·generalize B4 b=y at *;simp only [esc,esh,Nat.reduceAdd,c0,s1,hR,W8,E87,ef,hcv,hF]<;>rfl
    ·rw [B7 (Ne.symm h23)];exact D3 (E1 (B6 h2))
    ·exact D3 (by rw [E80];exact E1 (B6 h3))
   ·have hF:=E1C (k:=(k:Int)) (n:=n) (r2:=r2) h1' (B6 h3) ce;simp only [E8t,E89,E8I] at hF;rw [lJ hx ce];obtain ⟨h',f1,f2⟩:=C2Q (q:=q) hb hB1 hr2 hr3 h23 h02 h03 e (k+1) m (h++[rT [.s s,cI n],rT [cI (k:Int),.s s,cI n]]) (by omega) (by omega) (hlow.new _) (B6 h2) (B6 h3) (B6 h0);refine ⟨h',?_,f2⟩;generalize B4 b=y at *;simp only [esc,esh,Nat.reduceAdd,c0,s1,hR,W8,E87,ef,hcv,hF,w1];exact f1
def yW{nm:List UInt8}(hb:l_ b=256):lE [.a (B4 b),.c (.s nm)] h=A4 (.t [.a (slC (U3 b nm)),.c (.b (U3 b nm).isSome)],h):=by
 have key:∀ g,∃ g',A7x 0 [.a (B4 b),.c (.s nm)] g=A4 (.t [.a (slC (U3 b nm)),.c (.b (U3 b nm).isSome)],g'):=by
  intro g;have hbl:(B4 b).length=256:=by rw [B5,hb]
  have emk:A32 106 [pV (l_ g+1) 0,pV (l_ g+3) 0,pV (l_ g+4) 0]=A4 (.c (.f 106 [(l_ g+1,0),(l_ g+3,0),(l_ g+4,0)])):=rfl;obtain ⟨h',f1,f2,f3,f4⟩:=C2Q (b:=b) (nm:=nm) (r0:=l_ g+5) (r1:=l_ g+1) (r2:=l_ g+3) (r3:=l_ g+4) (q:=8) (B:=g++[rT (B4 b),rT [.s nm],rT (slC A7)]) hb (by simp) (by simp) (by simp) (by omega) (by omega) (by omega) 7 0 8 (g++[rT (B4 b),rT [.s nm],rT (slC A7),rT (slC A7),rT [.b A6],rT (B4 b)]) (by omega) (by omega)
   (by have:=(Low.refl (h:=g++[rT (B4 b),rT [.s nm],rT (slC A7)]) (E8m _)).new [rT (slC A7),rT [.b A6],rT (B4 b)];simpa using this) (by simp) (by simp) (by simp)
  have hS:lY [.a (B4 b),.c (.f 106 [(l_ g+1,0),(l_ g+3,0),(l_ g+4,0)])] (g++[rT (B4 b),rT [.s nm],rT (slC A7),rT (slC A7),rT [.b A6]])=A4 (.t [],h'):=by
   refine A7V (n:=8) ?_;rw [A7y];simp only [esc,esh,Nat.reduceAdd];exact f1
  have hr:rd h' (l_ g+2)=rT (slC A7):=by rw [f2.2.2 _ (by simp)];simp
  change rd h' (l_ g+3)=rT (slC (U3 b nm)) at f3;change rd h' (l_ g+4)=rT [.b (U3 b nm).isSome] at f4;have t1:=C8 (n:=3) f3 kF;have t2:B9 h' (pV (l_ g+4) 0)=A4 (bV (U3 b nm).isSome):=B8 (cs:=[.b (U3 b nm).isSome]) f4 rfl rfl;have t3:=storeAll (n:=3) (xs:=slC (U3 b nm)) hr kF kF;have f4':rd (h'.set (l_ g+2) (rT (slC (U3 b nm)))) (l_ g+4)=rT [.b (U3 b nm).isSome]:=by rw [B7 (by omega)];exact f4
  have t4:B9 (h'.set (l_ g+2) (rT (slC (U3 b nm)))) (pV (l_ g+4) 0)=A4 (bV (U3 b nm).isSome):=B8 (cs:=[.b (U3 b nm).isSome]) f4' rfl rfl;have t5:=C8 (n:=3) (D3 (x:=rT (slC (U3 b nm))) (E1 hr)) kF;have z0:[o0,.s [],o0]=slC A7:=rfl;rw [C1A,z0];generalize slC (U3 b nm)=Y at *;generalize slC A7=Z at *;generalize (U3 b nm).isSome=S at *;generalize B4 b=y at *;exact ⟨_,by simp only [esc,esh,Nat.reduceAdd,Nat.reduceLT,hbl,emk,hS,t1,t2,t3,t4,t5]<;>rfl⟩
 obtain ⟨g',e⟩:=key (ro h);exact B7U e (by simp [Val.flat,D5G,Cell.flat])
section
variable (n m m2:Nat) (a0 a1 a2 a3 a4 a5 x2 x3 x6 x7 x12 x13 x14 x16 x17 x18 x21 x22 x23:Val) (h:A9)
def A1x:FD A8:=⟨px 0X11b13cf1238f6004401482d14a53c13a38060196181a001e32ff1b006223201134e12e492c1c30192f2b00001b301311116032e383a00001f22403f282a024f4221329f128f24961f191b11a28018282c1ff1c0042032c1b182c41d1c192d2b111a2311116063a632e519751c2,[],[],[.tmp 6,.tmp 7,.tmp 8],[D8 jW xH,D8 B3Z B9e,D8 A1N A7v]⟩
def A7D:=A1x.R
def C1F:=mR A7D A1x (tT []) n [a0,a1,a2] h
def B6K:=A1x.K Tryz.func53
def A7Y:=A1x.S
def B7Y:G0 A7D A7Y:=B6K.flat
def wU:FD A8:=⟨px 0X11b7026f3601218111c1032b3b04105118c5040188518a5a019020137026f3602b3b31f1110722403f6e4f021a9423134ef14df2362c1b1b11e2801c4d2c4cf3f0042332f1042236817a4481c1b392f2b11d2013702683602b3b35c11001722401b1c1905e4d04215e2f4a5e7035e3c05a5e1f0103f2e2d0197b424132cf12bf12af18021e2811c2801a2a2c29f1d00463033c12e1b182e41e1c1b2d2b2192312b61b63a632e41d1975282,[],[],[.cellN 6 3,.tmp 7],[D8 A7Y B6K,D8 X1 Z7,D8 D9 E5,D8 lE sP]⟩
def A4P:=wU.R
def B9k:=mR A4P wU (tT []) n [a0,a1,a2] h
def A4y:=wU.K Tryz.func16
def yD:=wU.S
def B6s:G0 A4P yD:=A4y.flat
def wS:FD A8:=⟨px 0X16f0425e56e15c451825c2a0613901013113e5e14e4531222430181904d4e3c34d3c2e34d3c012829065d446228f11ff2362b181b11c2801a1f2c1ef1a00463033812a1b182a41b1c1a2b29111a2762e11d1b19753382,[],[.eqA A6 ([.i .i64,.i .i64,.i .i64]) (.t 19) (.t 20),.mput A7 (.t 27) (.t 28) (.t 30)],[],[D8 yD A4y]⟩
def B3k:=wS.R
def xN:=mR B3k wS (tT []) n [a0,a1,a2,a3,a4,a5] h
def B2Z:=wS.K Tryz.func134
def yB:=wS.Q
def yC:OfT B3k yB:=B2Z.of
def N6:FD A8:=⟨px 0X58f1e056c058492184ff2f05480221801822e5f0400516c501218111c1032b3b0410515c50405855a16a3b01c183af2362c191b031841831d43e42350327024191340121694201625110290123042133813e42a1c65f5d5b1c229f700441811d32842150307024513401213f420060511029042031e1b181e41a1c53d3b3921d263a632e219751c2,[],[],[],[D8 oC xE,D8 D9 E5,D8 gE sQ,gG yB B2Z]⟩
def A16:=N6.R
def nP:K7:=N6.E
def A0x:AtH:=N6.lj 0 n [m] [x2,x3,x12,x13,x14]
def A0y:AtH:=N6.lj 1 n [m,m2] [x2,x3,x7,x12,x13,x14,x21,x22,x23]
def oH:TT:=⟨nP,[⟨2,5,A0x⟩,⟨3,9,A0y⟩]⟩
def A8P:=mR A16 N6 oH n [a0,a1,a2] h
def A8n:=mL N6 oH 0 n [m] [x2,x3,x12,x13,x14] h
def A8o:=mL N6 oH 1 n [m,m2] [x2,x3,x7,x12,x13,x14,x21,x22,x23] h
def A1Y:=N6.K Tryz.func133
def oB:=N6.Q
def A8Y:OfT A16 oB:=A1Y.of
def pX:FD A8:=⟨px 0X13ff40683f023c0000003723ef2a053803e492183df7001e239020129123e01118102293b1384814c43c13e2e019182df1900441811d32c42150307024513401214f42006051102901132c1f5944d4b4922820023274811e420463031e282c2e428e5e2a1b182a41b1c400221af22a561b01a7d31d4224c11b4224a43a422e375182,[],[.mkMap,.look A7 (.c o0) A6 (.t 24) (.t 25)],[.tmp 4],[gG oB A1Y,D8 A6K B26]⟩
def B0D:=pX.R
def B7i:AtH:=pX.lj 0 n [m] [x6,x7,x16,x17,x18]
def B92:=tT [⟨2,5,B7i⟩]
def C4I:=mR B0D pX B92 n [a0,a1] h
def A9C:=mL pX B92 0 n [m] [x6,x7,x16,x17,x18] h
def B0m:=pX.K Tryz.func91
def yA:=pX.S
def C18:A3Q B0D yA:=B0m.out
def tX:FD A8:=⟨px 0X25c2a0633903012b133e4e3184e45182401b181904c4e3e34c3c3834c3c0103f2828075d22621ff11ef2362b71b11c2801a1e2c1df1900463032e1281b182841a1c1a291f00001b2752e11b197532c2,[],[.eqA A5 ([.i .i64,.i .i64,.i .i64]) (.t 19) (.t 20)],[],[D8 yD A4y]⟩
def B16:=tX.R
def A4Q:=mR B16 tX (tT []) n [a0,a1,a2,a3,a4] h
def B12:=tX.K Tryz.func160
def uC:=tX.Q
def A48:OfT B16 uC:=B12.of
def M5:FD A8:=⟨px 0X58f1e056c058492184ff2f05480221801822e5f0400516c501218111c1032b3b0410515c50405855a16a3b01c183af2362c191b031841831d43e42350327024191340121694201625110290123042133813e42a1c65f5d5b1c229f700441811d32842150307024513401213f420060511029042031e1b181e41a1c53d3b3921d263a632e219751c2,[],[],[],[D8 oC xE,D8 D9 E5,D8 gE sQ,gG uC B12]⟩
def A0m:=M5.R
def lW:K7:=M5.E
def zD:AtH:=M5.lj 0 n [m] [x2,x3,x12,x13,x14]
def zF:AtH:=M5.lj 1 n [m,m2] [x2,x3,x7,x12,x13,x14,x21,x22,x23]
def mC:TT:=⟨lW,[⟨2,5,zD⟩,⟨3,9,zF⟩]⟩
def A7E:=mR A0m M5 mC n [a0,a1,a2] h
def A56:=mL M5 mC 0 n [m] [x2,x3,x12,x13,x14] h
def A57:=mL M5 mC 1 n [m,m2] [x2,x3,x7,x12,x13,x14,x21,x22,x23] h
def A0h:=M5.K Tryz.func133
def mA:=M5.Q
def A7Z:OfT A0m mA:=A0h.of
def A1y:FD A8:=⟨px 0X11af401a421a05204630361a1c32c85e181b18184184002224c11b4234a43a422e375182,[],[],[.tmp 4],[gG mA A0h]⟩
def sR:=A1y.R
def C1G:=mR sR A1y (tT []) n [a0,a1] h
def A7t:=A1y.K Tryz.func136
def sW:=A1y.S
def B9G:E3b sR sW:=A7t.low
def B9H:A3Q sR sW:=A7t.out
end
def A2u(X:List Int)(nm:List UInt8):Nat:=C5r nm%C6 (X.headD 0)
def R8(X:List Int)(nm:List UInt8):Int:=X.tail.getD (A2u X nm) 0
def D4w(X:List Int)(nm:List UInt8):A2u X nm<32:=by
 have h1:=T5 (X.headD 0);have h2:0<C6 (X.headD 0):=by unfold C6;exact Nat.two_pow_pos _
 have:=Nat.mod_lt (C5r nm) h2;unfold A2u;omega
def D5s(D:Dev)(n k:Int)(d:List Int)(nm:List UInt8):List Part :=
 bif Z5 D n k d then [.c (cI (A2u (uY D n k d) nm:Nat)),.c (cI (R8 (uY D n k d) nm)),.c (.b A5)] else [.c o0,.c o0,.c (.b A6)]
def C7o{k s:Int}{d:List Int}{nm:List UInt8}(hD:okD D)(hd:l_ d=7)(hv:IsView h f D)(hs:nm.length<9223372036854775807) :
  A7Y [.a (vwC (l_ D) n m f),.a (D1 k l s p d),.c (.s nm)] h=A4 (.t (D5s D n k d nm),h):=by
 have key:∀ g,IsView g f D->∃ g',A7D 0 [.a (vwC (l_ D) n m f),.a (D1 k l s p d),.c (.s nm)] g=A4 (.t (D5s D n k d nm),g'):=by
  intro g hv;have hIl:(D1 k l s p d).length=11:=by simp [D1,C1,hd]
  have l11:ldN (rT (D1 k l s p d)) 0 11=A4 (.a (D1 k l s p d)):=K9 hIl;have l4:=B5A (b:=l_ D) (n:=n) (m:=m) (f:=f);have hz:(encI (0::zI 32)).length=33:=G5 (d:=0) N5;have hX:=A7b D n k d;have hI:=A1Q (n:=n) (m:=m) (k:=k) (l:=l) (s:=s) (p:=p) (h:=g++[rT (vwC (l_ D) n m f),rT (D1 k l s p d)]) hD hd (hv.more _);rw [C1F,B5D];unfold D5s;cases c:Z5 D n k d with
  | false =>
   rw [c] at hI;generalize encI (uY D n k d)=x at *;generalize encI (0::zI 32)=z at *;generalize vwC (l_ D) n m f=V at *;generalize D1 k l s p d=I at *;exact ⟨_,by simp only [esc,esh,Nat.reduceAdd,l4,l11,hI,hz,hX]<;>rfl⟩
  | true =>
   rw [c] at hI;have hM:=λh=>C26 (s:=nm) hs (h:=h)
   obtain ⟨x,t,e,ht⟩:=D05 D n k d;rw [e] at hI hX ⊢;have hP:=λh=>B4T (d:=x) (h:=h) ht (D2N (s:=nm))
   have W4:=D4w (x::t) nm;have eP:C5r nm%C6 x=A2u (x::t) nm:=rfl;rw [eP] at hP;have ad:∀ q,K2 32 1 (pV q 1) (iV (A2u (x::t) nm:Nat))=A4 (pV q (1+A2u (x::t) nm)):=λq=>by
    rw [E0G (by omega) (by omega)];simp
   have l1:ld1 (rT (encI (x::t))) (1+A2u (x::t) nm)=A4 (iV (R8 (x::t) nm)):=by
    rw [zN];have:(encI (x::t))[1+A2u (x::t) nm]?=A4 (cI (R8 (x::t) nm)):=by
     rw [G6,Nat.add_comm,E8F,E8h (by omega)];unfold R8;rw [List.tail_cons,E8k,E8h (by omega)];rfl
    rw [this];rfl
   generalize R8 (x::t) nm=B at *;generalize A2u (x::t) nm=P at *;generalize encI (x::t)=X at *;generalize encI (0::zI 32)=z at *;generalize vwC (l_ D) n m f=V at *;generalize D1 k l s p d=I at *;exact ⟨_,by simp only [esc,P7,H6,Z4,J0,S5,I3,K9,fZ,Nat.reduceAdd,l4,l11,hI,hz,hX,hM,hP,ad,l1]<;>rfl⟩
 obtain ⟨g',e⟩:=key (ro h) hv.ro;exact B7Y e (by unfold D5s;cases Z5 D n k d<;>rfl)
abbrev Plc:=Int × Nat × Int
def rD:Option Plc->List Cell
 | none=>[o0,o0,o0]
 | some p=>[cI p.1,cI (p.2.1:Int),cI p.2.2]
def A9Y(D:Dev)(n k:Int)(d:List Int)(nm:List UInt8):Option Plc :=
 if Z5 D n k d=A5/\G7 (l_ D) n (R8 (uY D n k d) nm)=A5 then (U3 (blk D (R8 (uY D n k d) nm)) nm).map λs=>(R8 (uY D n k d) nm,s.1,s.2.2) else A7
def B2c{k s:Int}{d:List Int}{nm:List UInt8}(hD:okD D)(hd:l_ d=7)(hv:IsView h f D)(hs:nm.length<9223372036854775807) :
  yD [.a (vwC (l_ D) n m f),.a (D1 k l s p d),.c (.s nm)] h=A4 (.t [.a (rD (A9Y D n k d nm)),.c (.b (A9Y D n k d nm).isSome)],h):=by
 have key:∀ g,IsView g f D->∃ g',A4P 0 [.a (vwC (l_ D) n m f),.a (D1 k l s p d),.c (.s nm)] g=A4 (.t [.a (rD (A9Y D n k d nm)),.c (.b (A9Y D n k d nm).isSome)],g'):=by
  intro g hv;have hIl:(D1 k l s p d).length=11:=by simp [D1,C1,hd]
  have l11:ldN (rT (D1 k l s p d)) 0 11=A4 (.a (D1 k l s p d)):=K9 hIl;have l4:=B5A (b:=l_ D) (n:=n) (m:=m) (f:=f);have l3:=C1w (b:=l_ D) (n:=n) (m:=m) (f:=f);have ef:F6 [o0,o0,o0] []=A4 [o0,o0,o0]:=rfl;have l3z:ldN (rT [o0,o0,o0]) 0 3=A4 (.a [o0,o0,o0]):=rfl;have s3z:∀ x,stN (rT [o0,o0,o0]) 0 3 [cI x,o0,o0]=rT [cI x,o0,o0]:=λ_=>rfl
  have hR:=C7o (n:=n) (m:=m) (k:=k) (l:=l) (s:=s) (p:=p) (nm:=nm) (h:=g++[rT (vwC (l_ D) n m f),rT (D1 k l s p d),rT [o0,o0,o0]]) hD hd (hv.more _) hs;rw [B9k];unfold A9Y;unfold D5s at hR;cases c:Z5 D n k d with
  | false =>
   rw [c,bZ] at hR;rw [C5 (by simp)];generalize vwC (l_ D) n m f=V at *;generalize D1 k l s p d=I at *;exact ⟨_,by simp only [esc,esh,Nat.reduceAdd,l4,l11,hR,ef,l3z,s3z,rD,E9o]<;>rfl⟩
  | true =>
   rw [c,S8] at hR;generalize A2u (uY D n k d) nm=P at *;generalize R8 (uY D n k d) nm=B at *;have hG:=λh=>X8 (b:=l_ D) (n:=n) (m:=m) (i:=B) (h:=h)
   cases c2:G7 (l_ D) n B with
   | false =>
    simp only [c2] at hG;rw [C5 (by simp)];generalize vwC (l_ D) n m f=V at *;generalize D1 k l s p d=I at *;exact ⟨_,by simp only [esc,esh,Nat.reduceAdd,l4,l11,l3,hR,hG,ef,l3z,s3z,rD,E9o]<;>rfl⟩
   | true =>
    simp only [c2] at hG;rw [C4 ⟨rfl,rfl⟩];have hB:=K8 (n:=n) (m:=m) (no:=B) (h:=g++[rT (vwC (l_ D) n m f),rT (D1 k l s p d),rT [o0,o0,o0]]) hD (hv.more _);have hF:=λh=>yW (b:=blk D B) (nm:=nm) (h:=h) (J6 hD)
    cases c3:U3 (blk D B) nm with
    | none =>
     simp only [c3] at hF;generalize B4 (blk D B)=y at *;generalize vwC (l_ D) n m f=V at *;generalize D1 k l s p d=I at *;have s3:stN (rT [o0,.s [],o0]) 0 3 (slC A7)=rT (slC A7):=rfl;exact ⟨_,by simp only [esc,esh,Nat.reduceAdd,l4,l11,l3,hR,hG,hB,hF,ef,l3z,s3z,s3,rD,E9o,Option.map_none]<;>rfl⟩
    | some sl =>
     obtain ⟨kk,s',i'⟩:=sl;simp only [c3] at hF;generalize B4 (blk D B)=y at *;generalize vwC (l_ D) n m f=V at *;generalize D1 k l s p d=I at *;have s3:stN (rT [o0,.s [],o0]) 0 3 (slC (A4 (kk,s',i')))=rT (slC (A4 (kk,s',i'))):=rfl;have g0:ld1 (rT (slC (A4 (kk,s',i')))) 0=A4 (iV (kk:Int)):=rfl;have g2:ld1 (rT (slC (A4 (kk,s',i')))) 2=A4 (iV i'):=rfl;have ef3:F6 [o0,o0,o0] [(0,1,iV B),(1,1,iV (kk:Int)),(2,1,iV i')]=A4 [cI B,cI (kk:Int),cI i']:=rfl;have s33:stN (rT [o0,o0,o0]) 0 3 [cI B,cI (kk:Int),cI i']=rT [cI B,cI (kk:Int),cI i']:=rfl;have l33:ldN (rT [cI B,cI (kk:Int),cI i']) 0 3=A4 (.a [cI B,cI (kk:Int),cI i']):=rfl;exact ⟨_,by simp only [esc,P7,H6,Z4,J0,S5,I3,K9,fZ,Nat.reduceAdd,l4,l11,l3,hR,hG,hB,hF,ef,s3,g0,g2,ef3,s33,l33,rD,E87]<;>rfl⟩
 obtain ⟨g',e⟩:=key (ro h) hv.ro;exact B6s e (by cases A9Y D n k d nm<;>rfl)
def rF(l:List Slt):List Cell:=(l.map λx=>slC (A4 x)).flatten
def wD{l:List Slt}:(rF l).length=l_ l*3:=by
 induction l with
 | nil=>rfl
 | cons x l ih=>simp only [rF,E9c,E9v,E8o,kF,E8w] at ih ⊢;omega
def E0g{l:List Slt}{x:Slt}:rF (l++[x])=rF l++slC (A4 x):=by simp [rF]
def E0f{l:List Slt}:M9 (rF l)=A5:=by
 induction l with
 | nil=>rfl
 | cons x l ih =>
  have:rF (x::l)=slC (A4 x)++rF l:=rfl;rw [this,kD,D5G,ih];rfl
def E2h{l:List Slt}:noX (rF l)=A5:=by
 induction l with
 | nil=>rfl
 | cons x l ih =>
  have:rF (x::l)=[cI (x.1:Int),.s x.2.1,cI x.2.2]++rF l:=rfl;rw [this];simp [noX,Cell.isX] at ih ⊢;exact ih
def Q5(b:List UInt8):Nat->Nat->List Slt
 | 0,_=>[]
 | e+1,k=>match O3 b k with
  | some x=>(k,x)::Q5 b e (k+1)
  | none=>Q5 b e (k+1)
def J2(b:List UInt8):List Slt:=Q5 b 7 0
def Z9(hx:O3 b k=A7):Q5 b (e+1) k=Q5 b e (k+1):=by rw [Q5,hx]
def aA{x:Ent}(hx:O3 b k=A4 x):Q5 b (e+1) k=(k,x)::Q5 b e (k+1):=by rw [Q5,hx]
def E5c{jd m:Nat}(hy:rd h jd=rT ys)(hyl:l_ ys=m*sz)(hsz:0<sz)(hn:m<=1073741824) :
  uR h sz (.c .ns) (sV jd 0 m sz)=A4 (sV (l_ h) 0 m sz,h++[rT ys]):=by
 have h2:V0 h sz (sV jd 0 m sz)=A4 ys:=by
  simp only [V0,if_true,rJ,hy,E8z,E8y,E8A];rw [<-hyl,List.take_length,C4 ⟨E8m _,rfl⟩]
 have e1:l_ ys/sz=m:=by rw [hyl];exact Nat.mul_div_cancel _ hsz
 simp only [uR,h2,E8z];rw [e1,C4 hn]
def Held(h:A9)(x:Cell)(l:List Slt)(b r0 r:Nat):Prop:=(l=[]/\x=.ns)\/∃ id,x=.sl id 0 (l_ l) 3/\rd h id=rT (rF l)/\b<=id/\id≠r0/\id≠r
def Held.more{x:Cell}{l:List Slt}{b:Nat}(hd:Held h x l b r0 r)(t:A9):Held (h++t) x l b r0 r:=by
 rcases hd with hd | ⟨id,h1,h2,h3⟩
 ·exact .inl hd
 ·exact .inr ⟨id,h1,B6 h2,h3⟩
def E15{x:Cell}{l:List Slt}(hlow:Low (l_ B) B h)(hr:rd h r=rT [x])(h0:rd h r0=rT c0)(h0r:r0≠r)(hBr:l_ B<=r)(hB0:l_ B<=r0)(hd:Held h x l (l_ B) r0 r)(hl:l_ l<=7) :
  ∃ x' h',uA [.a [cI (k:Int),.s s,cI n],pV r 0] h=A4 (bV A5,h')/\Low (l_ B) B h'/\rd h' r=rT [x']/\rd h' r0=rT c0/\Held h' x' (l++[(k,(s,n))]) (l_ B) r0 r:=by
 have W4:=E1 hr;have E7A:=E1 h0;have l1:B9 (h++[rT [cI (k:Int),.s s,cI n]]) (pV r 0)=A4 (.c x):=B8 (cs:=[x]) (B6 hr) rfl (by simp);have ef:F6 [o0,.s [],o0] [(0,3,.a [cI (k:Int),.s s,cI n])]=A4 [cI (k:Int),.s s,cI n]:=rfl;have hBh:=hlow.2.1;rcases hd with ⟨rfl,rfl⟩ | ⟨id,rfl,hi,hbi,hi0,hir⟩
 ·have hA:=E5c (h:=h++[rT [cI (k:Int),.s s,cI n],rT [cI (k:Int),.s s,cI n]]) (jd:=l_ h+1) (m:=1) (sz:=3) (ys:=[cI (k:Int),.s s,cI n]) (by simp) rfl (by omega) (by omega);simp only [E8o,E8w,E8X,E8A,E8t,E89,E8I,Nat.reduceAdd] at hA;have hr2:rd (h++[rT [cI (k:Int),.s s,cI n],rT [cI (k:Int),.s s,cI n],rT [cI (k:Int),.s s,cI n]]) r=rT [.ns]:=B6 hr;have t1:=I9 (x:=.sl (l_ h+2) 0 1 3) (off:=0) hr2 (by simp);refine ⟨.sl (l_ h+2) 0 1 3,_,A44 (n:=0) (by rw [A4L];simp only [esc,esh,Nat.reduceAdd,l1,ef,hA,t1]<;>rfl),(hlow.new _).set hBr _,?_,?_,.inr ⟨l_ h+2,rfl,?_,by omega,by omega,by omega⟩⟩
  ·exact D3 (E1 hr2)
  ·rw [B7 (Ne.symm h0r)];exact B6 h0
  ·rw [B7 (by omega)];simp [rF,slC]
 ·have hA:=A8h (h:=h++[rT [cI (k:Int),.s s,cI n],rT [cI (k:Int),.s s,cI n]]) (id:=id) (jd:=l_ h+1) (n:=l_ l) (m:=1) (sz:=3) (cs:=rF l) (ys:=[cI (k:Int),.s s,cI n]) (rw:=A5) (B6 hi) wD (by simp) rfl rfl (by omega) (by omega);have hli:=E1 hi;have es:(h++[rT [cI (k:Int),.s s,cI n],rT [cI (k:Int),.s s,cI n]]).length=l_ h+2:=by simp
  rw [es] at hA;have hr2:rd ((h++[rT [cI (k:Int),.s s,cI n],rT [cI (k:Int),.s s,cI n]]).set id A7++[rT (rF l++[cI (k:Int),.s s,cI n])]) r=rT [.sl id 0 (l_ l) 3]:=by
   refine B6 ?_;rw [B7 hir];exact B6 hr
  have t1:=I9 (x:=.sl (l_ h+2) 0 (l_ l+1) 3) (off:=0) hr2 (by simp);refine ⟨.sl (l_ h+2) 0 (l_ l+1) 3,_,A44 (n:=0) (by rw [A4L];simp only [esc,esh,Nat.reduceAdd,l1,ef,hA,t1]<;>rfl),(((hlow.new _).set hbi _).new _).set hBr _,?_,?_,.inr ⟨l_ h+2,by simp,?_,by omega,by omega,by omega⟩⟩
  ·exact D3 (E1 hr2)
  ·rw [B7 (Ne.symm h0r)];refine B6 ?_;rw [B7 hi0];exact B6 h0
  ·rw [B7 (by omega),E0g];have:((h++[rT [cI (k:Int),.s s,cI n],rT [cI (k:Int),.s s,cI n]]).set id A7).length=l_ h+2:=by simp
   rw [<-this];exact N8
def C2R{q:Nat}(hb:l_ b=256)(h0r:r0≠r)(hBr:l_ B<=r)(hB0:l_ B<=r0):∀ (e k m:Nat) (h:A9) (x:Cell) (l:List Slt),k+e=7->e<m->l_ l<=k->Low (l_ B) B h ->
  rd h r=rT [x]->rd h r0=rT (B4 b)->Held h x l (l_ B) r0 r ->
  ∃ x' h',yY q m (.c (.f 152 [(r,0)])) (pV r0 0) (iV (k:Int)) h=A4 (.t [],h')/\Low (l_ B) B h'/\rd h' r=rT [x']/\Held h' x' (l++Q5 b e k) (l_ B) r0 r
 | e,k,0,h,x,l,_,hm,_,_,_,_,_=>by omega
 | 0,k,m+1,h,x,l,hk,hm,hl,hlow,hr,h0,hd=>by
  have e0:k=7:=by omega
  subst e0;have c0:¬ ((7:Nat):Int)<7:=by omega
  refine ⟨x,h,?_,hlow,hr,by rw [Q5,E8C];exact hd⟩;rw [rS];simp only [esc,c0]<;>rfl
 | e+1,k,m+1,h,x,l,hk,hm,hl,hlow,hr,h0,hd=>by
  have c0:(k:Int)<7:=by omega
  have hbl:(B4 b).length=256:=by rw [B5,hb]
  have s1:=C8 (h:=h) (id:=r0) h0 hbl;have hR:=A5o (h:=h) (k:=k) hb (by omega);have w1:=E2 (a:=k) (by omega);have hcv:∀ (x:Val) (h:A9),aQ A0c (.c (.f 152 [(r,0)])) [x] h=uA [x,pV r 0] h:=λ_ _=>Eq.trans rfl rfl
  rw [rS];cases hx:O3 b k with
  | none =>
   rw [hx] at hR;rw [Z9 hx];obtain ⟨x',h',f1,f2⟩:=C2R (q:=q) hb h0r hBr hB0 e (k+1) m (h++[rT ([.s [],o0])]) x l (by omega) (by omega) (by omega) (hlow.new _) (B6 hr) (B6 h0) (hd.more _);refine ⟨x',h',?_,f2⟩;generalize B4 b=y at *;simp only [esc,esh,Nat.reduceAdd,c0,s1,hR,W8,E9o,w1];exact f1
  | some en =>
   obtain ⟨s,n⟩:=en;rw [hx] at hR;rw [aA hx];have ef:F6 [o0,.s [],o0] [(0,1,iV (k:Int)),(1,2,.a [.s s,cI n])]=A4 [cI (k:Int),.s s,cI n]:=rfl;obtain ⟨x1,h1,g1,g2,g3,g4,g5⟩:=E15 (k:=k) (n:=n) (s:=s) (hlow.new [rT [.s s,cI n]]) (B6 hr) (B6 h0) h0r hBr hB0 (hd.more _) (by omega);obtain ⟨x',h',f1,f2,f3,f4⟩:=C2R (q:=q) hb h0r hBr hB0 e (k+1) m h1 x1 (l++[(k,(s,n))]) (by omega) (by omega) (by simp;omega) g2 g3 g4 g5;rw [E8t,List.singleton_append] at f4;refine ⟨x',h',?_,f2,f3,f4⟩;generalize B4 b=y at *;simp only [esc,esh,Nat.reduceAdd,c0,s1,hR,W8,E87,ef,hcv,g1,w1];exact f1
def A2W(hb:l_ b=256):∃ v t,gE [.a (B4 b)] h=A4 (v,h++t)/\Has (h++t) v 3 (J2 b).length (rF (J2 b))/\(t=[]/\v=.c .ns/\J2 b=[]\/t=[rT (rF (J2 b))]/\v=sV (l_ h) 0 (J2 b).length 3):=by
 have key:∀ g,∃ x g',A1L 8 [.a (B4 b)] g=A4 (.c x,g')/\Held g' x (J2 b) (l_ g) (l_ g+3) (l_ g+2):=by
  intro g;have hbl:(B4 b).length=256:=by rw [B5,hb]
  have emk:A32 152 [pV (l_ g+2) 0]=A4 (.c (.f 152 [(l_ g+2,0)])):=rfl;obtain ⟨x,h',f1,f2,f3,f4⟩:=C2R (b:=b) (r0:=l_ g+3) (r:=l_ g+2) (q:=8) (B:=g) hb (by omega) (by omega) (by omega) 7 0 8 (g++[rT (B4 b),rT [],rT [.ns],rT (B4 b)]) .ns [] (by omega) (by omega) (by simp)
   ((Low.refl (E8m _)).new _) (by simp) (by simp) (.inl ⟨rfl,rfl⟩)
  have hS:lZ [.a (B4 b),.c (.f 152 [(l_ g+2,0)])] (g++[rT (B4 b),rT [],rT [.ns]])=A4 (.t [],h'):=by
   refine A7W (n:=8) ?_;rw [A7z];simp only [esc,esh,Nat.reduceAdd];exact f1
  have t1:B9 h' (pV (l_ g+2) 0)=A4 (.c x):=B8 (cs:=[x]) f3 rfl (by simp);rw [C1B];generalize B4 b=y at *;exact ⟨x,h',by simp only [esc,esh,Nat.reduceAdd,hbl,emk,hS,t1],f4⟩
 obtain ⟨x,g',e,hd⟩:=key (ro h);rcases hd with ⟨hl,rfl⟩ | ⟨id,rfl,hr,hbi,_⟩
 ·refine ⟨.c .ns,[],?_,?_,.inl ⟨rfl,rfl,hl⟩⟩
  ·rw [E8C];exact B9x e (by simp [Val.low,Cell.low,Cell.flat])
  ·rw [hl];exact .inl ⟨rfl,rfl,rfl⟩
 ·rw [G8] at hbi;refine ⟨sV (l_ h) 0 (J2 b).length 3,[rT (rF (J2 b))],B9y e ⟨wD,id,rfl,hbi,hr⟩ E0f,Has.row (rw:=A5) (by simp) wD E2h,.inr ⟨rfl,rfl⟩⟩
def E0w(h:A9)(x:Cell)(cs:List Cell)(n sz b:Nat)(rs:List Nat):Prop:=(n=0/\cs=[]/\x=.ns)\/∃ id,x=.sl id 0 n sz/\rd h id=rT cs/\(l_ cs)=n*sz/\b<=id/\id ∉ rs
def VarC(h:A9)(r:Nat)(cs:List Cell)(n sz b:Nat)(rs:List Nat):Prop:=∃ x,rd h r=rT [x]/\E0w h x cs n sz b rs
def VarC.nil{b:Nat}(hr:rd h r=rT [.ns]):VarC h r [] 0 sz b rs:=⟨.ns,hr,.inl ⟨rfl,rfl,rfl⟩⟩
def VarC.keep{h':A9}{n b:Nat}(hv:VarC h r cs n sz b rs)(h1:rd h' r=rd h r)(h2:∀ id,id ∉ rs->∀ x,rd h id=A4 x->rd h' id=A4 x):VarC h' r cs n sz b rs:=by
 obtain ⟨x,hx,hd⟩:=hv;refine ⟨x,by rw [h1];exact hx,?_⟩;rcases hd with hd | ⟨id,e,hr,hl,hb,hn⟩
 ·exact .inl hd
 ·exact .inr ⟨id,e,h2 id hn _ hr,hl,hb,hn⟩
def VarC.more{n b:Nat}{rs':List Nat}(hv:VarC h r cs n sz b rs)(t:A9)(hrs:∀ j∈rs',j∈rs\/(l_ h)<=j):VarC (h++t) r cs n sz b rs':=by
 obtain ⟨x,hx,hd⟩:=hv;refine ⟨x,B6 hx,?_⟩;rcases hd with hd | ⟨id,e,hr,hl,hb,hn⟩
 ·exact .inl hd
 ·refine .inr ⟨id,e,B6 hr,hl,hb,λhm=>?_⟩;have:=E1 hr;rcases hrs id hm with h1 | h1
  ·exact hn h1
  ·omega
def VarC.fewer{n b:Nat}{rs':List Nat}(hv:VarC h r cs n sz b rs)(hrs:∀ j∈rs',j∈rs):VarC h r cs n sz b rs':=by
 have:=hv.more (rs':=rs') [] (λj hj=>.inl (hrs j hj))
 rwa [E8C] at this
def VarC.push{n b:Nat}(hv:VarC h r cs n sz b rs)(hr:r∈rs)(hbr:b<=r)(hbh:b<=l_ h)(W4:∀ j∈rs,j<l_ h)(hl:n<=100000)(hy:l_ ys=sz)(hsz:0<sz) :
  ∃ x v h2 h3,B9 h (pV r 0)=A4 (.c x)/\uR (h++[rT ys]) sz (.c x) (sV (l_ h) 0 1 sz)=A4 (.c v,h2)/\I8 h2 (pV r 0) (.c v)=A4 h3 /\
   VarC h3 r (cs++ys) (n+1) sz b rs/\Low b h h3/\(∀ j∈rs,j≠r->rd h3 j=rd h j)/\(l_ h)<=h3.length:=by
 obtain ⟨x,hx,hd⟩:=hv;have hrl:=E1 hx;have l1:B9 h (pV r 0)=A4 (.c x):=B8 hx rfl (by simp);rcases hd with ⟨rfl,rfl,rfl⟩ | ⟨id,rfl,hi,pE,hb,hn⟩
 ·have hA:=C5D (h:=h++[rT ys]) (jd:=l_ h) (m:=1) (sz:=sz) (ys:=ys) (by simp) (by omega) hsz (by omega);have e1:(h++[rT ys]).length=l_ h+1:=by simp
  rw [e1] at hA;have hr2:rd (h++[rT ys]++[rT ys]) r=rT [.ns]:=B6 (B6 hx);have s1:=I9 (x:=.sl (l_ h+1) 0 1 sz) (off:=0) hr2 (by simp);refine ⟨.ns,_,_,_,l1,hA,s1,⟨.sl (l_ h+1) 0 1 sz,D3 (E1 hr2),.inr ⟨l_ h+1,rfl,?_,by simp [hy],by omega,λh1=>by have:=W4 _ h1;omega⟩⟩,(((Low.refl hbh).new _).new _).set hbr _,λj hj hjr=>?_,by simp⟩
  ·rw [B7 (by omega)];have:=N8 (h:=h++[rT ys]) (r:=⟨ys,A5⟩);rw [e1] at this;exact this
  ·rw [B7 (Ne.symm hjr)];have:=W4 j hj;rw [D5 (by simp;omega),D5 this]
 ·have K6:=E1 hi;have aZ:id≠r:=λe=>hn (e ▸ hr)
  have hA:=A8h (h:=h++[rT ys]) (id:=id) (jd:=l_ h) (n:=n) (m:=1) (sz:=sz) (cs:=cs) (ys:=ys) (rw:=A5) (B6 hi) pE (by simp) (by omega) rfl hsz (by omega);have e1:(h++[rT ys]).length=l_ h+1:=by simp
  rw [e1] at hA;have hr2:rd ((h++[rT ys]).set id A7++[rT (cs++ys)]) r=rT [.sl id 0 n sz]:=by
   refine B6 ?_;rw [B7 aZ];exact B6 hx
  have s1:=I9 (x:=.sl (l_ h+1) 0 (n+1) sz) (off:=0) hr2 (by simp);refine ⟨_,_,_,_,l1,hA,s1,⟨.sl (l_ h+1) 0 (n+1) sz,D3 (E1 hr2),.inr ⟨l_ h+1,by simp,?_,by simp [pE,hy,Nat.add_mul],by omega,λh1=>by have:=W4 _ h1;omega⟩⟩,((((Low.refl hbh).new _).set hb _).new _).set hbr _,λj hj hjr=>?_,by simp;omega⟩
  ·rw [B7 (by omega)];have:=N8 (h:=(h++[rT ys]).set id A7) (r:=⟨cs++ys,A5⟩);rw [E80,e1] at this;exact this
  ·have hji:j≠id:=λe=>hn (e ▸ hj)
   have:=W4 j hj;rw [B7 (Ne.symm hjr),D5 (by simp;omega),B7 (Ne.symm hji),D5 this]
def E6i(h:A9)(o:zW)(cs:List Cell)(n sz:Nat):Prop:=∃ v t,o=A4 (v,h++t)/\Has (h++t) v sz n cs/\(t=[]/\v=.c .ns/\n=0/\cs=[]\/t=[rT cs]/\v=sV (l_ h) 0 n sz)
def E3o{S:Fun}{R:Nat->Fun}{args:List Val}{g':A9}{N:Nat}{x:Cell}{n:Nat}
  (hlow:∀ {n:Nat} {args:List Val} {h h2:A9} {v:Val},R n args (ro h)=A4 (v,h2)->v.low (l_ h)=A5->S args h=A4 (v,h))
  (hout:∀ {n:Nat} {args:List Val} {h h2:A9} {v:Val} {sz k:Nat} {cs:List Cell},R n args (ro h)=A4 (v,h2)->Out (l_ h) h2 v sz k cs->M9 cs=A5->S args h=A4 (sV (l_ h) 0 k sz,h++[rT cs]))
  (he:R N args (ro h)=A4 (.c x,g')) (hd:E0w g' x cs n sz (l_ h) rs) (hf:M9 cs=A5) (hx:noX cs=A5):E6i h (S args h) cs n sz:=by
 rcases hd with ⟨hn,hl,rfl⟩ | ⟨id,rfl,hr,hl,hbi,_⟩
 ·refine ⟨.c .ns,[],?_,?_,.inl ⟨rfl,rfl,hn,hl⟩⟩
  ·rw [E8C];exact hlow he (by simp [Val.low,Cell.low,Cell.flat])
  ·exact .inl ⟨rfl,hn,hl⟩
 ·exact ⟨sV (l_ h) 0 n sz,[rT cs],hout he ⟨hl,id,rfl,hbi,hr⟩ hf,Has.row (rw:=A5) (by simp) hl hx,.inr ⟨rfl,rfl⟩⟩
abbrev Tld:=Plc × List UInt8
def C1s(no:Int)(l:List Slt):List Tld:=l.map λs=>((no,s.1,s.2.2),s.2.1)
def C6Q(D:Dev)(L:List Int):List Tld:=L.flatMap λno=>C1s no (J2 (blk D no))
def D29{l:List Slt}:∀ {i:Nat} {x:Slt},l[i]?=A4 x->((rF l).drop (i*3)).take 3=slC (A4 x):=by
 induction l with
 | nil=>intro i x h;simp at h
 | cons y l ih =>
  intro i x h;have e:rF (y::l)=slC (A4 y)++rF l:=rfl;cases i with
  | zero=>simp at h;subst h;rw [e];rfl
  | succ i =>
   simp at h;rw [e,show (i+1)*3=3+i*3 by omega,<-List.drop_drop,List.drop_left' (by rw [kF])];exact ih h
def D1B{σ:Type}{L1:Nat->Val->A9->zW}{L0:A9->zW}{C:Val->Val->A9->zW}{id c0:Nat}{l:List Slt}(P:Nat -> σ -> A9->Prop)(step:σ -> Tld -> σ)
  (hL:∀ m x h,L1 (m+1) x h=bnd (N4 .lss x (iV (l_ l:Nat))) λv14=>cnd v14 (bnd (F0 3 (sV id 0 (l_ l) 3) x) λv15=>bnd (C9 h 3 v15) λv16=>bnd (F7 ((h++[rT ([o0,.s [],o0])])) 3 ((pV (l_ h) 0)) v16) λh17=>bnd (U2 ((pV (l_ h) 0)) 0) λv18=>bnd (B9 h17 v18) λv19=>bnd (U2 ((pV (l_ h) 0)) 1) λv20=>bnd (U2 v20 1) λv21=>bnd (B9 h17 v21) λv22=>bnd (F6 ([o0,o0,o0]) [(0,1,iV no),(1,1,v19),(2,1,v22)]) λc23=>bnd (U2 ((pV (l_ h) 0)) 1) λv24=>bnd (U2 v24 0) λv25=>bnd (B9 h17 v25) λv26=>bnd (C (.a c23) v26 h17) λp27=>bnd (N4 .add x (iV 1)) λv28=>L1 m v28 p27.2) (L0 h))
  (hI:∀ c s h,P c s h->rd h id=rT (rF l))
  (hM:∀ c s h t,P c s h->P c s (h++t))
  (hC:∀ c s h x,P c s h->c<c0+7->x∈l->∃ h',C (.a (rD (A4 (no,x.1,x.2.2)))) (.c (.s x.2.1)) h=A4 (.t [],h')/\P (c+1) (step s ((no,x.1,x.2.2),x.2.1)) h') (h62:l_ l<=7) :
  ∀ (e i M:Nat) (s:σ) (h:A9),i+e=l_ l->e<M->P (c0+i) s h->∃ h',L1 M (iV (i:Int)) h=L0 h'/\P (c0+l_ l) ((C1s no (l.drop i)).foldl step s) h'
 | e,i,0,s,h,_,hm,_=>by omega
 | 0,i,M+1,s,h,hi,hm,hP=>by
  have c1:¬ (i:Int)<(l_ l:Nat):=by omega
  refine ⟨h,?_,by rw [E8x (by omega),show (l_ l)=i by omega];exact hP⟩;rw [hL];simp only [C7,G4,c1,decide_false,Y6]
 | e+1,i,M+1,s,h,hi,hm,hP=>by
  have K6:i<(l_ l):=by omega
  have c1:(i:Int)<(l_ l:Nat):=by omega
  have hx:l[i]?=A4 l[i]:=E8h K6;have hr:=hI _ s h hP;have ad:F0 3 (sV id 0 (l_ l) 3) (iV (i:Int))=A4 (pV id (i*3)):=by rw [E4 K6];simp
  have mK:l[i]∈l:=E8M K6;obtain ⟨⟨kk,s',i'⟩,ex⟩:=xEq (l[i]);rw [<-ex] at hx mK;have hsl:=D29 hx;have hlen:=wD (l:=l);have l3:C9 h 3 (pV id (i*3))=A4 (.a (slC (A4 (kk,s',i')))):=by rw [S7 hr (by rw [hlen];omega) rfl,hsl]
  have s3:F7 (h++[rT [o0,.s [],o0]]) 3 (pV (l_ h) 0) (.a (slC (A4 (kk,s',i'))))=A4 (h++[rT (slC (A4 (kk,s',i')))]):=by rw [I3];rfl
  have g0:B9 (h++[rT (slC (A4 (kk,s',i')))]) (pV (l_ h) 0)=A4 (iV (kk:Int)):=by rw [J0];rfl
  have g1:B9 (h++[rT (slC (A4 (kk,s',i')))]) (pV (l_ h) 1)=A4 (.c (.s s')):=by rw [J0];rfl
  have g2:B9 (h++[rT (slC (A4 (kk,s',i')))]) (pV (l_ h) 2)=A4 (iV i'):=by rw [J0];rfl
  have ef:F6 [o0,o0,o0] [(0,1,iV no),(1,1,iV (kk:Int)),(2,1,iV i')]=A4 (rD (A4 (no,kk,i'))):=rfl;obtain ⟨h',f1,f2⟩:=hC _ s (h++[rT (slC (A4 (kk,s',i')))]) (kk,s',i') (hM _ _ _ _ hP) (by omega) mK;obtain ⟨h'',e1,e2⟩:=D1B P step hL hI hM hC h62 e (i+1) M _ h' (by omega) (by omega) f2;have w1:=E2 (a:=i) (by omega);rw [hL,E8s K6,<-ex];refine ⟨h'',?_,e2⟩;simp only [C7,G4,c1,decide_true,X6,ad,l3,s3,R1,E9y,E8A,Nat.reduceAdd,g0,g1,g2,ef,f1,L8,w1];exact e1
def D0u:C6Q D (no::L)=C1s no (J2 (blk D no))++C6Q D L:=by simp [C6Q]
def lO(b:List UInt8):(J2 b).length<=7:=by
 have:∀ e k,(Q5 b e k).length<=e:=by
  intro e
  induction e with
  | zero=>intro k;simp [Q5]
  | succ e ih =>
   intro k;have:=ih (k+1);rw [Q5];split<;>simp<;>omega
 exact this 7 0
def B4i{σ:Type}{L0:Nat->Val->A9->zW}{L1:Nat->Nat->Val->Val->Val->Val->Val->A9->zW}{C:Val->Val->A9->zW}{N:Nat}{x3:Val}{n m:Int}{sid:Nat}(hD:okD D)(P:List Nat->Nat -> σ -> A9->Prop)(step:σ -> Tld -> σ)(hN:8<=N)
  (hL0:∀ m x h,L0 (m+1) x h=bnd (N4 .lss x (iV (l_ L:Nat))) λv7=>cnd v7 (bnd (F0 1 (sV sid 0 (l_ L) 1) x) λv8=>bnd (B9 h v8) λv9=>bnd (C9 h 4 x3) λv10=>bnd (D9 [v10,v9] h) λp11=>bnd (gE [p11.1] p11.2) λp12=>bnd (B6y p12.1) λv13=>L1 m N v9 x p12.1 v13 (iV 0) p12.2) (C3t [] h))
  (hL1:∀ m0 v9 x v w m y h,L1 m0 (m+1) v9 x v w y h=bnd (N4 .lss y w) λv14=>cnd v14 (bnd (F0 3 v y) λv15=>bnd (C9 h 3 v15) λv16=>bnd (F7 ((h++[rT ([o0,.s [],o0])])) 3 ((pV (l_ h) 0)) v16) λh17=>bnd (U2 ((pV (l_ h) 0)) 0) λv18=>bnd (B9 h17 v18) λv19=>bnd (U2 ((pV (l_ h) 0)) 1) λv20=>bnd (U2 v20 1) λv21=>bnd (B9 h17 v21) λv22=>bnd (F6 ([o0,o0,o0]) [(0,1,v9),(1,1,v19),(2,1,v22)]) λc23=>bnd (U2 ((pV (l_ h) 0)) 1) λv24=>bnd (U2 v24 0) λv25=>bnd (B9 h17 v25) λv26=>bnd (C (.a c23) v26 h17) λp27=>bnd (N4 .add y (iV 1)) λv28=>L1 m0 m v9 x v w v28 p27.2) (bnd (N4 .add x (iV 1)) λv29=>L0 m0 v29 h))
  (hI:∀ rs c s h,P rs c s h->C9 h 4 x3=A4 (.a (vwC (l_ D) n m f))/\IsView h f D/\rd h sid=rT (encI L))
  (hR:∀ rs c s h t,P rs c s h->P rs c s (h++t))
  (hN1:∀ rs c s h r,P rs c s h->P (l_ h::rs) c s (h++[A4 r]))
  (hF:∀ i rs c s h,P (i::rs) c s h->P rs c s h)
  (hW:∀ rs c c' s h,P rs c s h->c<=c'->P rs c' s h)
  (hC:∀ rs c s h no x,P rs c s h->c<7*l_ L->no∈L->x∈J2 (blk D no)->∃ h',C (.a (rD (A4 (no,x.1,x.2.2)))) (.c (.s x.2.1)) h=A4 (.t [],h')/\P rs (c+1) (step s ((no,x.1,x.2.2),x.2.1)) h'/\∀ j∈rs,rd h' j=rd h j)
  (h62:l_ L<1000) :
  ∀ (e i M:Nat) (rs:List Nat) (s:σ) (h:A9),i+e=l_ L->e<M->P rs (7*i) s h->∃ h',L0 M (iV (i:Int)) h=A4 (.t [],h')/\P rs (7*l_ L) ((C6Q D (L.drop i)).foldl step s) h'
 | e,i,0,rs,s,h,_,hm,_=>by omega
 | 0,i,M+1,rs,s,h,hi,hm,hP=>by
  have c0:¬ (i:Int)<(l_ L:Nat):=by omega
  refine ⟨h,?_,by rw [E8x (by omega),show (l_ L)=i by omega];exact hP⟩;rw [hL0];simp only [C7,G4,c0,decide_false,Y6];rfl
 | e+1,i,M+1,rs,s,h,hi,hm,hP=>by
  have K6:i<(l_ L):=by omega
  have c0:(i:Int)<(l_ L:Nat):=by omega
  obtain ⟨i1,i2,i3⟩:=hI rs _ s h hP;have mK:L[i]∈L:=E8M K6;have ad:F0 1 (sV sid 0 (l_ L) 1) (iV (i:Int))=A4 (pV sid i):=by rw [E4 K6];simp
  have l1:B9 h (pV sid i)=A4 (iV L[i]):=B8 i3 (by rw [G6,E8h K6];rfl) rfl;have hB:=K8 (n:=n) (m:=m) (no:=L[i]) hD i2;obtain ⟨v,t,b1,b2,b3⟩:=A2W (b:=blk D L[i]) (h:=h) (J6 hD);have hlen:=b2.len;have w1:=E2 (a:=i) (by omega);have h7:=lO (blk D L[i]);have main:∃ h',L1 M N (iV L[i]) (iV (i:Int)) v (iV ((J2 (blk D L[i])).length:Nat)) (iV ((0:Nat):Int)) (h++t)=bnd (N4 .add (iV (i:Int)) (iV 1)) (λv29=>L0 M v29 h')/\P rs (7*(i+1)) ((C1s L[i] (J2 (blk D L[i]))).foldl step s) h':=by
   rcases b3 with ⟨rfl,rfl,b3⟩ | ⟨rfl,rfl⟩
   ·refine ⟨h,?_,by rw [b3];exact hW _ _ _ _ _ hP (by omega)⟩;obtain ⟨N',rfl⟩:∃ N',N=N'+1:=⟨N-1,by omega⟩;rw [hL1,b3,E8C];rfl
   ·have hl0:(h++[rT (rF (J2 (blk D L[i])))])=h++[rT (rF (J2 (blk D L[i])))]:=rfl;obtain ⟨h',f1,f2⟩:=D1B (L1:=λm y h'=>L1 M m (iV L[i]) (iV (i:Int)) (sV (l_ h) 0 (J2 (blk D L[i])).length 3) (iV ((J2 (blk D L[i])).length:Nat)) y h') (L0:=λh'=>bnd (N4 .add (iV (i:Int)) (iV 1)) (λv29=>L0 M v29 h')) (C:=C) (no:=L[i]) (id:=l_ h) (c0:=7*i) (l:=J2 (blk D L[i]))
     (λc s' h'=>P (l_ h::rs) c s' h'/\rd h' (l_ h)=rT (rF (J2 (blk D L[i])))) step (λm y h'=>hL1 M _ _ _ _ m y h') (λc s' h' hp=>hp.2) (λc s' h' t hp=>⟨hR _ _ _ _ _ hp.1,B6 hp.2⟩)
     (λc s' h' x hp hc hx=>by
      obtain ⟨h2,c1,c2,c3⟩:=hC _ _ _ _ L[i] x hp.1 (by omega) mK hx;exact ⟨h2,c1,c2,by rw [c3 (l_ h) (by simp)];exact hp.2⟩) (by omega) (J2 (blk D L[i])).length 0 N s (h++[rT (rF (J2 (blk D L[i])))]) (by omega) (by omega) ⟨hN1 _ _ _ _ _ hP,by simp⟩
    rw [E8y] at f2;exact ⟨h',f1,hW _ _ _ _ _ (hF _ _ _ _ _ f2.1) (by omega)⟩
  obtain ⟨h1,m1,m2⟩:=main;obtain ⟨h',f1,f2⟩:=B4i hD P step hN hL0 hL1 hI hR hN1 hF hW hC h62 e (i+1) M rs _ h1 (by omega) (by omega) m2;rw [hL0,E8s K6,D0u,List.foldl_append];refine ⟨h',?_,f2⟩;simp only [C7,G4,c0,decide_true,X6,ad,l1,i1,hB,b1,hlen];refine m1.trans ?_;simp only [L8,C7,w1];exact f1
def D2Q{a:List UInt8}:B30 [.c (.s a),.c (.s b)] h=A4 (bV (Y5 a b),h) :=
 C2k (n:=0) (h2:=ro h) (by rw [C6b];simp only [esc]) rfl
section
variable {α:Type} {lt:α -> α -> Prop}
def D5q(irr:∀ a,¬ lt a a)(tr:∀ a b c,lt a b->lt b c->lt a c):∀ {l m:List α},l.Pairwise lt->m.Pairwise lt->(∀ x,x∈l↔x∈m)->l=m
 | [],[],_,_,_=>rfl
 | [],y::m,_,_,h=>absurd ((h y).2 (E8u ..)) (by simp)
 | x::l,[],_,_,h=>absurd ((h x).1 (E8u ..)) (by simp)
 | x::l,y::m,hl,hm,h=>by
  rw [List.pairwise_cons] at hl hm;have e:x=y:=by
   rcases E8J.1 ((h x).1 (E8u ..)) with e | h1
   ·exact e
   ·rcases E8J.1 ((h y).2 (E8u ..)) with e | h2
    ·exact e.symm
    ·exact absurd (tr _ _ _ (hm.1 x h1) (hl.1 y h2)) (irr y)
  subst e;rw [D5q irr tr hl.2 hm.2 λz=>?_];constructor
  ·intro hz;rcases E8J.1 ((h z).1 (E8q _ hz)) with e | h1
   ·subst e;exact absurd (hl.1 z hz) (irr z)
   ·exact h1
  ·intro hz;rcases E8J.1 ((h z).2 (E8q _ hz)) with e | h1
   ·subst e;exact absurd (hm.1 z hz) (irr z)
   ·exact h1
def D5r(tr:∀ a b c,lt a b->lt b c->lt a c)(tot:∀ a b,lt a b\/a=b\/lt b a){l:List α}{x:α}{p:Nat}(hl:l.Pairwise lt)(hx:x ∉ l)(h1:∀ y∈l.take p,lt y x)(h2:∀ y∈l.drop p,¬ lt y x) :
  (l.take p++x::l.drop p).Pairwise lt:=by
 have hl':=hl;rw [<-List.take_append_drop p l] at hl';rw [List.pairwise_append] at hl';obtain ⟨k1,k2,k3⟩:=hl';rw [List.pairwise_append];refine ⟨k1,?_,?_⟩
 ·rw [List.pairwise_cons];refine ⟨λy hy=>?_,k2⟩;rcases tot x y with h | h | h
  ·exact h
  ·subst h;exact absurd (List.mem_of_mem_drop hy) hx
  ·exact absurd h (h2 y hy)
 ·intro a ha b hb;rcases E8J.1 hb with e | hb
  ·subst e;exact h1 a ha
  ·exact k3 a ha b hb
def mem_insert{l:List α}{x y:α}{p:Nat}:y∈l.take p++x::l.drop p↔y=x\/y∈l:=by
 have e:y∈l↔y∈l.take p\/y∈l.drop p:=by rw [<-E8U,List.take_append_drop]
 rw [E8U,E8J,e];constructor
 ·rintro (h | h | h)
  ·exact .inr (.inl h)
  ·exact .inl h
  ·exact .inr (.inr h)
 ·rintro (h | h | h)
  ·exact .inr (.inl h)
  ·exact .inl h
  ·exact .inr (.inr h)
end
def A9k:∀ a:List UInt8,Y5 a a=A6
 | []=>rfl
 | x::a=>by simp [Y5,A9k a,UInt8.lt_irrefl]
def B4d:∀ {a b c:List UInt8},Y5 a b=A5->Y5 b c=A5->Y5 a c=A5
 | [],[],_,h,_=>by simp [Y5] at h
 | [],_::_,[],_,h=>by simp [Y5] at h
 | [],_::_,_::_,_,_=>rfl
 | _::_,[],_,h,_=>by simp [Y5] at h
 | _::_,_::_,[],_,h=>by simp [Y5] at h
 | x::a,y::b,z::c,h1,h2=>by
  simp only [Y5,Bool.or_eq_true,E8j,decide_eq_true_eq,beq_iff_eq] at h1 h2 ⊢;rcases h1 with h1 | ⟨rfl,h1⟩
  ·rcases h2 with h2 | ⟨rfl,h2⟩
   ·exact .inl (UInt8.lt_trans h1 h2)
   ·exact .inl h1
  ·rcases h2 with h2 | ⟨rfl,h2⟩
   ·exact .inl h2
   ·exact .inr ⟨rfl,B4d h1 h2⟩
def D0E:∀ a b:List UInt8,Y5 a b=A5\/a=b\/Y5 b a=A5
 | [],[]=>.inr (.inl rfl)
 | [],_::_=>.inl rfl
 | _::_,[]=>.inr (.inr rfl)
 | x::a,y::b=>by
  simp only [Y5,Bool.or_eq_true,E8j,decide_eq_true_eq,beq_iff_eq,List.cons.injEq];rcases Nat.lt_trichotomy x.toNat y.toNat with h | h | h
  ·exact .inl (.inl (UInt8.lt_iff_toNat_lt.2 h))
  ·have e:=UInt8.toNat_inj.1 h;subst e;rcases D0E a b with h | h | h
   ·exact .inl (.inr ⟨rfl,h⟩)
   ·exact .inr (.inl ⟨rfl,h⟩)
   ·exact .inr (.inr (.inr ⟨rfl,h⟩))
  ·exact .inr (.inr (.inl (UInt8.lt_iff_toNat_lt.2 h)))
def plc(l:List (List UInt8))(s:List UInt8):Nat->Nat->Nat->Nat
 | 0,lo,_=>lo
 | f+1,lo,hi=>if lo<hi then (if Y5 (l.getD (lo+(hi-lo)/2) []) s then plc l s f (lo+(hi-lo)/2+1) hi else plc l s f lo (lo+(hi-lo)/2)) else lo
def D7b(l:List (List UInt8))(s:List UInt8):∀ f lo hi,lo<=hi->plc l s f lo hi<=hi
 | 0,lo,hi,h=>h
 | f+1,lo,hi,h=>by
  unfold plc;split
  ·split
   ·exact D7b l s f _ hi (by omega)
   ·exact E83 (D7b l s f lo _ (by omega)) (by omega)
  ·exact h
def C8C{l:List (List UInt8)}(hl:l.Pairwise λa b=>Y5 a b=A5):∀ f lo hi,lo<=hi->hi<=l_ l->hi-lo<=f->(∀ i x,i<lo->l[i]?=A4 x->Y5 x s=A5)->(∀ i x,hi<=i->l[i]?=A4 x->Y5 x s=A6) ->
  (∀ i x,i<plc l s f lo hi->l[i]?=A4 x->Y5 x s=A5)/\(∀ i x,plc l s f lo hi<=i->l[i]?=A4 x->Y5 x s=A6)
 | 0,lo,hi,h,_,hf,h1,h2=>by
  have:hi=lo:=by omega
  subst this;exact ⟨h1,h2⟩
 | f+1,lo,hi,h,hh,hf,h1,h2=>by
  unfold plc;by_cases c:lo<hi
  ·rw [C4 c];have hm:lo+(hi-lo)/2<hi:=by omega
   have hlo:lo<=lo+(hi-lo)/2:=by omega
   generalize lo+(hi-lo)/2=mid at *;have hg:l[mid]?=A4 (l.getD mid []):=by rw [E8k,E8h (by omega)];rfl
   have mono:∀ (i j:Nat) (x y:List UInt8),i<j->l[i]?=A4 x->l[j]?=A4 y->Y5 x y=A5:=by
    intro i j x y hij hi hj;rw [List.pairwise_iff_getElem] at hl;obtain ⟨a,rfl⟩:=E8p.1 hi;obtain ⟨b,rfl⟩:=E8p.1 hj;exact hl i j a b hij
   cases cb:Y5 (l.getD mid []) s with
   | true =>
    rw [C4 rfl];refine C8C hl f (mid+1) hi (by omega) hh (by omega) (λi x hi hx=>?_) h2;by_cases e:i=mid
    ·subst e;rw [hg] at hx;rw [<-Option.some.inj hx];exact cb
    ·exact B4d (mono i mid x _ (by omega) hx hg) cb
   | false =>
    rw [C5 (by simp)];refine C8C hl f lo mid (by omega) (by omega) (by omega) h1 (λi x hi hx=>?_);by_cases e:i=mid
    ·subst e;rw [hg] at hx;rw [<-Option.some.inj hx];exact cb
    ·cases cx:Y5 x s with
     | false=>rfl
     | true=>rw [B4d (mono mid i _ x (by omega) hg hx) cx] at cb;exact cb
  ·rw [C5 c];have:hi=lo:=by omega
   subst this;exact ⟨h1,h2⟩
def C5p(l:List (List UInt8))(s:List UInt8)(n:Nat):Bool:=decide (l[n]?=A4 s)
def B4C(l:List (List UInt8))(i:Nat):(encS l)[i]?=(l[i]?).map λx=>.s x:=by simp [encS]
def B8P{q:Nat}{l:List (List UInt8)}{s:List UInt8}{h:A9}(hv:Has h v 1 nv (encS l))(hn:l_ l=nv)(h62:nv<4611686018427387904):∀ f m lo hi:Nat,lo<=hi->hi<=nv->hi-lo<=f->f<m ->
  A8u q m v (.c (.s s)) (iV lo) (iV hi) h=A4 (.t [.c (cI (plc l s f lo hi:Nat)),.c (.b (C5p l s (plc l s f lo hi)))],h)
 | f,0,lo,hi,_,_,_,hm=>by omega
 | f,m+1,lo,hi,h1,h2,hf,hm=>by
  have hlen:=hv.len;have fin:lo=hi->A8u q (m+1) v (.c (.s s)) (iV lo) (iV hi) h=A4 (.t [.c (cI lo),.c (.b (C5p l s lo))],h):=by
   intro e;subst e;have c0:¬ (lo:Int)<lo:=by omega
   rw [A95];unfold C5p;by_cases c1:lo<nv
   ·have c1':(lo:Int)<nv:=by omega
    obtain ⟨id,off,ev,hid,k1,k2⟩:=hv.sl (by omega);have hx:=k1 lo (.s l[lo]) (by rw [B4C,E8h (by omega)];rfl);have eb:F0 1 v (iV (lo:Int))=A4 (pV id (off+lo)):=by rw [ev,E4 (by omega)];simp
    have e2:l[lo]?=A4 l[lo]:=E8h (by omega);rw [e2];simp only [esc,hlen,c0,c1',eb,hx]
   ·have c1':¬ (lo:Int)<nv:=by omega
    have e2:l[lo]?=A7:=E8P (by omega);rw [e2];simp only [esc,hlen,c0,c1',reduceCtorEq]
  cases f with
  | zero =>
   have e:lo=hi:=by omega
   exact fin e
  | succ f =>
   unfold plc;by_cases c:lo<hi
   ·rw [C4 c];have c':(lo:Int)<hi:=by omega
    obtain ⟨id,off,ev,hid,k1,k2⟩:=hv.sl (by omega);have w1:E8r .i64 ((hi:Int)-lo)=((hi-lo:Nat):Int):=by rw [wrap_i64 (by omega) (by omega)];omega
    have w2:=B1M (a:=((hi-lo:Nat):Int)) (b:=2) (by omega) (by omega) (by omega);have w3:((hi-lo:Nat):Int)/2=(((hi-lo)/2:Nat):Int):=by omega
    rw [w3] at w2;have w4:E8r .i64 ((lo:Int)+(((hi-lo)/2:Nat):Int))=((lo+(hi-lo)/2:Nat):Int):=A50 (by omega);have hm1:lo+(hi-lo)/2<hi:=by omega
    have hm2:lo<=lo+(hi-lo)/2:=by omega
    generalize (hi-lo)/2=d at *;generalize lo+d=mid at *;have hx:=k1 mid (.s l[mid]) (by rw [B4C,E8h (by omega)];rfl);have eb:F0 1 v (iV (mid:Int))=A4 (pV id (off+mid)):=by rw [ev,E4 (by omega)];simp
    have eg:l.getD mid []=l[mid]:=by rw [E8k,E8h (by omega)];rfl
    rw [eg];have hL:=λh=>D2Q (a:=l[mid]) (b:=s) (h:=h)
    rw [A95];cases cb:Y5 l[mid] s with
    | true =>
     rw [cb] at hL;have ih:=B8P (q:=q) (s:=s) hv hn h62 f m (mid+1) hi (by omega) h2 (by omega) (by omega);rw [C4 rfl];simp only [esc,hlen,c',w1,w2,w4,eb,hx,hL,E2 (a:=mid) (by omega)];exact ih
    | false =>
     rw [cb] at hL;have ih:=B8P (q:=q) (s:=s) hv hn h62 f m lo mid hm2 (by omega) (by omega) (by omega);rw [C5 (by simp)];simp only [esc,hlen,c',w1,w2,w4,eb,hx,hL];exact ih
   ·rw [C5 c];exact fin (by omega)
def C90{l:List (List UInt8)}(hv:Has h v 1 nv (encS l))(h62:nv<4611686018427387904) :
  A3Z [v,.c (.s s)] h=A4 (.t [.c (cI (plc l s nv 0 nv:Nat)),.c (.b (C5p l s (plc l s nv 0 nv)))],h):=by
 have hn:l_ l=nv:=by simpa [cO] using hv.length
 have key:∀ N,nv<N->∀ g,Has g v 1 nv (encS l)->∃ g',B0P N [v,.c (.s s)] g=A4 (.t [.c (cI (plc l s nv 0 nv:Nat)),.c (.b (C5p l s (plc l s nv 0 nv)))],g'):=by
  intro N hN g hv;have e:=B8P (q:=N) (s:=s) hv hn h62 nv N 0 nv (by omega) (by omega) (by omega) hN;rw [C4W];exact ⟨_,by simp only [esc,hv.len];exact e⟩
 obtain ⟨g',e⟩:=key (nv+1) (by omega) (ro h) hv.ro;exact B9T e rfl
def D5H{id n a:Nat}(ha:a<=n):D8M 1 (sV id 0 n 1) (A4 (iV (a:Int))) A7=A4 (sV id a (n-a) 1):=by
 simp only [D8M,bound];rw [C4 (by omega)];simp only [E8z,E8D];rw [C4 ⟨ha,E8m _,trivial⟩];simp
def E08{H:A9}{id p:Nat}{out:List (List UInt8)}(hr:rd H id=rT (encS (out++[[]])))(hk:out.length=k)(hp:p<=k) :
  ∃ c,C6J H 1 (sV id (p+1) (k-p) 1) (sV id p (k+1-p) 1)=A4 (c,H.set id (rT (encS ((out++[[]]).take (p+1)++out.drop p)))):=by
 have hl:(encS (out++[[]])).length=k+1:=by rw [cO];simp [hk]
 have h1:((encS (out++[[]])).drop p).take (k+1-p)=(encS (out++[[]])).drop p:=E8B (by rw [E9u];omega);have h2:V0 H 1 (sV id p (k+1-p) 1)=A4 ((encS (out++[[]])).drop p):=by
  simp only [V0,if_true,rJ,hr,E8z,E9w,h1];rw [C4 ⟨by omega,by simp⟩]
 have h3:((encS (out++[[]])).drop p).length=k+1-p:=by rw [E9u];omega
 have h4:Nat.min (k+1-p) (k-p)=k-p:=Nat.min_eq_right (by omega);have h5:lay (encS (out++[[]])) (p+1) (((encS (out++[[]])).drop p).take (k-p))=encS ((out++[[]]).take (p+1)++out.drop p):=by
  unfold lay;have e1:((encS (out++[[]])).drop p).take (k-p)=encS (out.drop p):=by
   unfold encS;rw [E9e,List.drop_append_of_le_length (by simp;omega),List.take_append_of_le_length (by simp;omega),E8B (by simp;omega),List.map_drop]
  have e2:(encS (out++[[]])).drop (p+1+(encS (out.drop p)).length)=[]:=E8x (by rw [hl,cO,E9u];omega);rw [e1,e2];simp only [E8C,encS,E9e,List.map_take,List.map_drop]
 refine ⟨iV ((k-p:Nat):Int),?_⟩;simp only [C6J,h2,E8z,hr,h3,Nat.div_one,h4,E9w,h5];rw [C4 ⟨trivial,by omega,trivial⟩]
abbrev sY:=List (List UInt8)
def atS(o:sY)(s:List UInt8):Nat:=plc o s o.length 0 o.length
def A9T(o:sY)(s:List UInt8):sY:=bif C5p o s (atS o s) then o else o.take (atS o s)++s::o.drop (atS o s)
def fY(l:sY):sY:=l.foldl A9T []
def E0T(o:sY)(s:List UInt8):atS o s<=o.length:=D7b o s _ _ _ (Nat.zero_le _)
def C4j(o:sY)(s:List UInt8):(A9T o s).length<=o.length+1:=by
 have:=E0T o s;unfold A9T;cases C5p o s (atS o s)<;>simp<;>omega
def D2k(l:sY):∀ o:sY,(l.foldl A9T o).length<=o.length+(l_ l):=by
 induction l with
 | nil=>intro o;simp
 | cons x l ih =>
  intro o;have h1:=ih (A9T o x);have h2:=C4j o x;simp only [E9q,E8w] at h1 ⊢;omega
def B1S(l:sY):(fY l).length<=(l_ l):=by
 have:=D2k l [];simpa [fY] using this
abbrev Up(l:sY):Prop:=l.Pairwise λa b=>Y5 a b=A5
def D3H{o:sY}(ho:Up o):(∀ i x,i<atS o s->o[i]?=A4 x->Y5 x s=A5)/\(∀ i x,atS o s<=i->o[i]?=A4 x->Y5 x s=A6) :=
 C8C ho o.length 0 o.length (Nat.zero_le _) (E8m _) (by omega) (λi x hi=>by omega) (λi x hi hx=>by
  have:=(E8p.1 hx).1;omega)
def D4A{o:sY}(ho:Up o):C5p o s (atS o s)=A5↔s∈o:=by
 unfold C5p;rw [decide_eq_true_eq];constructor
 ·intro h;exact List.mem_of_getElem? h
 ·intro h;obtain ⟨i,hi⟩:=E9g.1 h;obtain ⟨h1,h2⟩:=D3H (s:=s) ho;have hge:atS o s<=i:=by
   false_or_by_contra
   have:=h1 i s (by omega) hi;rw [A9k] at this;cases this
  by_cases e:atS o s=i
  ·rw [e];exact hi
  ·have K6:=(E8p.1 hi).1;have hg:o[atS o s]?=A4 o[atS o s]:=E8h (by omega);have k1:=h2 _ _ (E8m _) hg;have k2:Y5 o[atS o s] s=A5:=by
    obtain ⟨a,ha⟩:=E8p.1 hi;have:=List.pairwise_iff_getElem.1 ho (atS o s) i (by omega) a (by omega);rw [ha] at this;exact this
   rw [k1] at k2;cases k2
def E3W{o:sY}(ho:Up o):Up (A9T o s)/\∀ x,x∈A9T o s↔x=s\/x∈o:=by
 unfold A9T;cases c:C5p o s (atS o s) with
 | true =>
  have hm:=(D4A ho).1 c;rw [S8];exact ⟨ho,λx=>⟨λh=>.inr h,λh=>by rcases h with h | h;subst h;exact hm;exact h⟩⟩
 | false =>
  have hm:s ∉ o:=λh=>by rw [(D4A ho).2 h] at c;cases c
  obtain ⟨h1,h2⟩:=D3H (s:=s) ho;rw [bZ];refine ⟨D5r (lt:=λa b=>Y5 a b=A5) (λa b c=>B4d) (λa b=>D0E a b) ho hm (λy hy=>?_) (λy hy=>?_),λx=>mem_insert⟩
  ·obtain ⟨i,hi⟩:=E9g.1 hy;have hl:=(E8p.1 hi).1;rw [E8Y] at hl;rw [E86 (by omega)] at hi;exact h1 i y (by omega) hi
  ·obtain ⟨i,hi⟩:=E9g.1 hy;rw [List.getElem?_drop] at hi;have:=h2 _ y (by omega) hi;rw [this];simp
def D4o(l:sY):∀ o:sY,Up o->Up (l.foldl A9T o)/\∀ x,x∈l.foldl A9T o↔x∈o\/x∈l:=by
 induction l with
 | nil=>intro o ho;exact ⟨ho,λx=>by simp⟩
 | cons y l ih =>
  intro o ho;obtain ⟨h1,h2⟩:=E3W (s:=y) ho;obtain ⟨h3,h4⟩:=ih _ h1;refine ⟨h3,λx=>?_⟩;rw [E9q,h4,h2,E8J];constructor
  ·rintro ((h | h) | h)
   ·exact .inr (.inl h)
   ·exact .inl h
   ·exact .inr (.inr h)
  ·rintro (h | h | h)
   ·exact .inl (.inr h)
   ·exact .inl (.inl h)
   ·exact .inr h
def C1l(l:sY):Up (fY l):=(D4o l [] List.Pairwise.nil).1
def fB(l:sY)(x:List UInt8):x∈fY l↔x∈l:=by
 have:=(D4o l [] List.Pairwise.nil).2 x;simpa [fY] using this
def E6f{l m:sY}(hl:Up l)(hm:Up m)(h:∀ x,x∈l↔x∈m):l=m :=
 D5q (lt:=λa b=>Y5 a b=A5) (λa=>by rw [A9k];simp) (λa b c=>B4d) hl hm h
def C3m{q:Nat}{l:sY}(hv:Has g v 1 nv (encS l))(hn:l_ l=nv)(h62:nv<1073741824):∀ (e i m:Nat) (o:sY) (h:A9) (id:Nat),i+e=nv->e<m->o.length<=i->Low (l_ g) g h->l_ g<=id->rd h id=rT (encS o) ->
  ∃ v2 h2,C0W q m (sV id 0 o.length 1) v (iV nv) (iV i) h=A4 (v2,h2)/\Out (l_ g) h2 v2 1 ((l.drop i).foldl A9T o).length (encS ((l.drop i).foldl A9T o))
 | e,i,0,o,h,id,_,hm,_,_,_,_=>by omega
 | 0,i,m+1,o,h,id,hi,hm,hol,hlow,hid,hr=>by
  have e0:i=nv:=by omega
  subst e0;have c0:¬ (i:Int)<i:=by omega
  rw [B2t,E8x (by omega),List.foldl_nil];exact ⟨_,_,by simp only [esc,c0]<;>rfl,by rw [cO];omega,_,rfl,hid,hr⟩
 | e+1,i,m+1,o,h,id,hi,hm,hol,hlow,hid,hr=>by
  have c0:(i:Int)<nv:=by omega
  obtain ⟨jd,off,ev,hjd,k1,k2⟩:=(hv.since hlow).sl (by omega);have hx:=k1 i (.s l[i]) (by rw [B4C,E8h (by omega)];rfl);have eb:F0 1 v (iV (i:Int))=A4 (pV jd (off+i)):=by rw [ev,E4 (by omega)];simp
  have hP:=C90 (s:=l[i]) (Has.row (sz:=1) (n:=o.length) hr (by rw [cO];omega) (C8l o)) (by omega);rw [E8s (by omega:i<l_ l),E9q];change A3Z _ h=A4 (.t [.c (cI (atS o l[i]:Nat)),.c (.b (C5p o l[i] (atS o l[i])))],h) at hP;have hat:=E0T o l[i];rw [B2t];generalize hs:l[i]=s at *;cases c:C5p o s (atS o s) with
  | true =>
   have ei:A9T o s=o:=by unfold A9T;rw [c,S8]
   rw [c] at hP;obtain ⟨v2,h2,f1,f2⟩:=C3m (q:=q) hv hn h62 e (i+1) m o h id (by omega) (by omega) (by omega) hlow hid hr;rw [ei];refine ⟨v2,h2,?_,f2⟩;simp only [esc,c0,eb,hx,hP,B2s,E2 (a:=i) (by omega)];exact f1
  | false =>
   have ei:A9T o s=o.take (atS o s)++s::o.drop (atS o s):=by unfold A9T;rw [c,bZ]
   rw [c] at hP;have il:=C4j o s;generalize hp:atS o s=p at *;obtain ⟨h1,a1,a2,a3,a4,a5⟩:=push (ys:=[.s []]) (sz:=1) (n:=o.length) hlow hr (by rw [cO];omega) hid rfl (by omega) (by omega);have he:encS o++[.s []]=encS (o++[[]]):=by simp [encS]
   rw [he] at a2;have ef:F6 [Cell.s []] [(0,1,.c (.s []))]=A4 [.s []]:=rfl;have w1:E8r .i64 ((p:Int)+1)=((p+1:Nat):Int):=E2 (by omega);have t1:=D5H (id:=l_ h+1) (n:=o.length+1) (a:=p+1) (by omega);have t2:=D5H (id:=l_ h+1) (n:=o.length+1) (a:=p) (by omega);rw [show o.length+1-(p+1)=o.length-p by omega] at t1;obtain ⟨cc,t3⟩:=E08 (H:=h1) (id:=l_ h+1) (k:=o.length) (p:=p) a2 rfl hat;have t4:F0 1 (sV (l_ h+1) 0 (o.length+1) 1) (iV (p:Int))=A4 (pV (l_ h+1) p):=by rw [E4 (by omega)];simp
   have W4:=E1 a2;have t5:rd (h1.set (l_ h+1) (rT (encS ((o++[[]]).take (p+1)++o.drop p)))) (l_ h+1)=rT (encS ((o++[[]]).take (p+1)++o.drop p)):=D3 W4;have t6:=I9 (x:=.s s) (off:=p) t5 (by rw [cO,E8o,E8Y,E8o];simp;omega);have t7:(encS ((o++[[]]).take (p+1)++o.drop p)).set p (.s s)=encS (A9T o s):=by
    rw [ei];have e1:(o++[[]]).take (p+1)=o.take p++[(o++[[]])[p]'(by simp;omega)]:=by
     rw [E8R (by simp;omega),List.take_append_of_le_length hat]
    rw [e1];unfold encS;rw [<-List.map_set]
    congr 1
    rw [E8t,E9a _ _ (by simp;omega),E8Y,Nat.min_eq_left hat,E9t];rfl
   rw [List.set_set,t7] at t6;obtain ⟨v2,h2,f1,f2⟩:=C3m (q:=q) hv hn h62 e (i+1) m (A9T o s) (h1.set (l_ h+1) (rT (encS (A9T o s)))) (l_ h+1) (by omega) (by omega) (by omega) (a3.set a4 _) a4 (D3 W4);have el:(A9T o s).length=o.length+1:=by rw [ei];simp;omega
   rw [el] at f1;refine ⟨v2,h2,?_,f2⟩;simp only [esc,c0,eb,hx,hP,ef,a1,w1,t1,t2,t3,t4,t6,B2s,E2 (a:=i) (by omega)];exact f1
def C0V{l:sY}(hv:Has h v 1 nv (encS l))(h62:nv<1073741824) :
  A6K [v] h=A4 (sV (l_ h) 0 (fY l).length 1,h++[rT (encS (fY l))]):=by
 have hn:l_ l=nv:=by simpa [cO] using hv.length
 have key:∀ N,nv<N->∀ g,Has g v 1 nv (encS l)->∃ v2 g',B3v N [v] g=A4 (v2,g')/\Out (l_ g) g' v2 1 (fY l).length (encS (fY l)):=by
  intro N hN g hv;obtain ⟨v2,g',f1,f2⟩:=C3m (q:=N) hv hn h62 nv 0 N [] ((g++[rT []])++[rT []]) (l_ g+1) (by omega) hN (E8m _) (((Low.refl (E8m _)).new _).new _) (by omega) (by simp [encS]);rw [E8y] at f2;rw [C6d];refine ⟨v2,g',?_,f2⟩;rw [hv.len,C7];simpa using f1
 obtain ⟨v2,g',e,ho⟩:=key (nv+1) (by omega) (ro h) hv.ro;exact C5c e (by simpa [G8] using ho) (by simp)
def K0(l:List Ent):List Cell:=(l.map λx=>W8 (A4 x)).flatten
def B1t{l:List Ent}:(K0 l).length=l_ l*2:=by
 induction l with
 | nil=>rfl
 | cons x l ih=>simp only [K0,E9c,E9v,E8o,W8,E8w,E8X] at ih ⊢;omega
def E1u{x:Ent}{r:List Cell}:List.drop ((k+1)*2) (W8 (A4 x)++r)=List.drop (k*2) r:=by
 rw [show (k+1)*2=k*2+2 by omega];rfl
def C0j:∀ (l:List Ent) (k:Nat) (hk:k<l_ l),((K0 l).drop (k*2)).take 2=W8 (A4 l[k])
 | [],k,hk=>by simp at hk
 | x::l,0,_=>rfl
 | x::l,k+1,hk=>by
  have e:K0 (x::l)=W8 (A4 x)++K0 l:=rfl;rw [e,E1u,List.getElem_cons_succ];exact C0j l k (by simpa using hk)
def jC(l:List Ent)(k:Nat):Ent:=l.getD k ([],0)
def C0i{l:List Ent}(hk:k<l_ l):jC l k=l[k]:=by simp [jC,List.getD,hk]
def mM(l:List Ent):Nat->List UInt8
 | 0=>hdB
 | k+1=>H7 (mM l k) (I1 k) (U0 (jC l k).1 (jC l k).2)
def jO{l:List Ent}:∀ k,k<=7->(mM l k).length=256
 | 0,_=>pF
 | k+1,hk=>by rw [mM,O6 (by rw [jO k (by omega),U8];unfold I1;omega)];exact jO k (by omega)
def atX(b nm:List UInt8):Nat:=match U3 b nm with
 | some x=>x.1
 | none=>0
def E6a{o:Option Slt}:(slC o)[0]?=A4 (cI ((match o with | some x=>x.1 | none=>0:Nat):Int)):=by cases o<;>rfl
def D1j(l:List Ent)(k:Nat):Bool:=decide (atX (mM l (l_ l)) (jC l k).1=k)
def C07(l:List Ent):Bool:=(E8Q 0 (l_ l)).all (D1j l)
def C9U(l:List Ent):Bool:=l.all λx=>B6E x.1 x.2
def E2f{q:Nat}{l:List Ent}{g:Nat}(hv:Has B v 2 nv (K0 l))(hn:l_ l=nv)(h7:nv<=7)(hg:rd B g=rT (B4 (zeros 256))):∀ (e k m:Nat) (h:A9),k+e=nv->e<m->Low (l_ B) B h->rd h (l_ B)=rT (B4 (mM l nv)) ->
  ∃ h',B7e q m (.c (.p g 0)) (.c (.p (l_ B) 0)) v (.c (cI (nv:Int))) (.c (cI (k:Int))) h=A4 (.t [.a (B4 (bif (E8Q k e).all (D1j l) then mM l nv else zeros 256)),.c (cI (bif (E8Q k e).all (D1j l) then 0 else 5))],h')
 | e,k,0,h,_,hm,_,_=>by omega
 | 0,k,m+1,h,hk,hm,hlow,hr=>by
  have e0:k=nv:=by omega
  subst e0;have c0:¬ (k:Int)<k:=by omega
  have hL:(B4 (mM l k)).length=256:=by rw [B5];exact jO k h7
  have hz:(B4 (zeros 256)).length=256:=by rw [B5];exact zeros_length
  have hrg:=hlow.rd hg;have s1:=C8 hr hL;have s2:=storeAll (xs:=B4 (mM l k)) hrg hz hL;have s3:=C8 (h:=h.set g (rT (B4 (mM l k)))) (id:=g) (D3 (E1 hrg)) hL;rw [A9o,List.range'_zero,List.all_nil,S8,S8];generalize B4 (mM l k)=y at *;exact ⟨_,by simp only [esc,c0,s1,s2,s3]<;>rfl⟩
 | e+1,k,m+1,h,hk,hm,hlow,hr=>by
  have c0:(k:Int)<nv:=by omega
  have hL:(B4 (mM l nv)).length=256:=by rw [B5];exact jO nv h7
  have hvB:Has h v 2 nv (K0 l):=by
   refine hv.low hlow λid off m he=>?_
   rcases hv with ⟨rfl,_⟩ | ⟨cP,off',r',rfl,hrd,_⟩
   ·cases he
   ·cases he;exact E1 hrd
  obtain ⟨id,off,ev,hid,k1,k2⟩:=hvB.sl (by omega);have eb:F0 2 v (.c (cI (k:Int)))=A4 (.c (.p id (off+k*2))):=by rw [ev,E4 (by omega)]
  have hld:=k2 (k*2) 2 (by rw [B1t];omega);rw [C0j l k (by omega),<-C0i (by omega)] at hld;have w1:=E2 (a:=k) (by omega);have hF:=λh=>yW (b:=mM l nv) (nm:=(jC l k).1) (h:=h) (jO nv h7)
  have s1:=λt=>C8 (h:=h++t) (B6 hr) hL
  have hat:(slC (U3 (mM l nv) (jC l k).1))[0]?=A4 (cI (atX (mM l nv) (jC l k).1:Nat)):=E6a;have hSl:=kF (o:=U3 (mM l nv) (jC l k).1);rw [A9o,List.range'_succ,E9p];have hon:D1j l k=decide (atX (mM l nv) (jC l k).1=k):=by unfold D1j;rw [hn]
  rw [hon];generalize slC (U3 (mM l nv) (jC l k).1)=S at *;generalize atX (mM l nv) (jC l k).1=A at *;obtain ⟨h',ih⟩:=E2f (q:=q) hv hn h7 hg e (k+1) m (h++[rT (W8 (A4 (jC l k))),rT S]) (by omega) (by omega) (hlow.new _) (B6 hr);simp only [W8] at *;by_cases c:A=k
  ·subst c;rw [O4 rfl,E8K];refine ⟨h',?_⟩;generalize B4 (mM l nv)=y at *;simp only [esc,esh,Nat.reduceAdd,c0,eb,hld,s1,hF,hat,hSl,w1];exact ih
  ·rw [W3 c,E8E,bZ,bZ];have c':¬ (A:Int)=k:=by omega
   have hz:(B4 (zeros 256)).length=256:=by rw [B5];exact zeros_length
   have hrg:=λt:A9=>B6 (g:=t) (hlow.rd hg)
   have haf:F6 (E8l 256 (Cell.i .u8 0)) []=A4 (E8l 256 (Cell.i .u8 0)):=rfl;rw [G9] at haf;have s2:=λt=>storeAll (xs:=B4 (zeros 256)) (hrg t) hz hz
   have s3:=λt=>C8 (h:=(h++t).set g (rT (B4 (zeros 256)))) (id:=g) (D3 (E1 (hrg t))) hz
   rw [G9];generalize zeros 256=z at *;generalize B4 (mM l nv)=y at *;exact ⟨_,by simp only [esc,esh,Nat.reduceAdd,c0,eb,hld,s1,hF,hat,hSl,c',haf,s2,s3]<;>rfl⟩
def E2e{v:Val}{nv q:Nat}{l:List Ent}{g:Nat}(hv:Has B v 2 nv (K0 l))(hn:l_ l=nv)(h7:nv<=7)(hs:∀ x∈l,x.1.length<=60)(hg:rd B g=rT (B4 (zeros 256)))(hq:nv<q):∀ (e k m:Nat) (h:A9),k+e=nv->e<m->Low (l_ B) B h->rd h (l_ B)=rT (B4 (mM l k)) ->
  ∃ h',B7d q m v (.c (.p g 0)) (.c (.p (l_ B) 0)) v (.c (cI (nv:Int))) (.c (cI (k:Int))) h=A4 (.t [.a (B4 (bif C9U (l.drop k)&&C07 l then mM l nv else zeros 256)),.c (cI (bif C9U (l.drop k) then (bif C07 l then 0 else 5) else 1))],h')
 | e,k,0,h,_,hm,_,_=>by omega
 | 0,k,m+1,h,hk,hm,hlow,hr=>by
  have e0:k=nv:=by omega
  subst e0;have c0:¬ (k:Int)<k:=by omega
  have hvB:Has h v 2 k (K0 l):=by
   refine hv.low hlow λid off m he=>?_
   rcases hv with ⟨rfl,_⟩ | ⟨cP,off',r',rfl,hrd,_⟩
   ·cases he
   ·cases he;exact E1 hrd
  obtain ⟨h',e⟩:=E2f (q:=q) hv hn h7 hg k 0 q h (by omega) hq hlow hr;have em:C9U (l.drop k)=A5:=by rw [E8x (by omega)];rfl
  have eo:(E8Q 0 k).all (D1j l)=C07 l:=by unfold C07;rw [hn]
  rw [eo] at e;rw [A9n,em,E8K,S8];exact ⟨h',by simp only [esc,c0,hvB.len];exact e⟩
 | e+1,k,m+1,h,hk,hm,hlow,hr=>by
  have c0:(k:Int)<nv:=by omega
  have hNl:=jO (l:=l) k (by omega);have hL:(B4 (mM l k)).length=256:=by rw [B5];exact hNl
  have hvB:Has h v 2 nv (K0 l):=by
   refine hv.low hlow λid off m he=>?_
   rcases hv with ⟨rfl,_⟩ | ⟨cP,off',r',rfl,hrd,_⟩
   ·cases he
   ·cases he;exact E1 hrd
  obtain ⟨id,off,ev,hid,k1,k2⟩:=hvB.sl (by omega);have eb:F0 2 v (.c (cI (k:Int)))=A4 (.c (.p id (off+k*2))):=by rw [ev,E4 (by omega)]
  have hld:=k2 (k*2) 2 (by rw [B1t];omega);rw [C0j l k (by omega),<-C0i (by omega)] at hld;have w1:=E2 (a:=k) (by omega);have hsk:(jC l k).1.length<=60:=by rw [C0i (by omega)];exact hs _ (E8M _)
  have hM:=λh=>A8j (s:=(jC l k).1) (n:=(jC l k).2) (h:=h) (by omega)
  have hW:=λh=>nE (s:=(jC l k).1) (n:=(jC l k).2) (h:=h) (by omega)
  have hF:=λh=>kP (k:=k) (h:=h) (by omega)
  have hmd:C9U (l.drop k)=(B6E (jC l k).1 (jC l k).2&&C9U (l.drop (k+1))):=by
   rw [E8s (by omega:k<l_ l),C0i (by omega)];rfl
  have hEl:(U0 (jC l k).1 (jC l k).2).length=32:=U8;have hLy:=B1H (v:=.c (.sl (l_ h+1) 0 32 1)) (nv:=32) (data:=U0 (jC l k).1 (jC l k).2) (l:=mM l k) (h:=h++[rT (W8 (A4 (jC l k))),rT (B4 (U0 (jC l k).1 (jC l k).2))]) (Has.row (rw:=A5) (by simp) (by rw [B5,U8]) (V6 _)) hNl (by rw [hEl];omega) (a:=(I1 k:Nat));have elay:B1F (mM l k) (I1 k:Nat) (U0 (jC l k).1 (jC l k).2)=mM l (k+1):=by
   unfold B1F;have:I1 k<256:=by unfold I1;omega
   rw [C4 ⟨by omega,by omega⟩,E8D,E8B (by rw [hEl];unfold I1;omega)];rfl
  rw [elay] at hLy;have hq2:quiet (h++[rT (W8 (A4 (jC l k)))]) (A4 (.c (.sl (l_ h+1) 0 32 1),h++[rT (W8 (A4 (jC l k))),rT (B4 (U0 (jC l k).1 (jC l k).2))]))=_:=E54;have hrk:∀ t:A9,rd (h++t) (l_ B)=rT (B4 (mM l k)):=λt=>B6 hr
  have s1:=λt=>C8 (h:=h++t) (hrk t) hL
  have hN1:(B4 (mM l (k+1))).length=256:=by rw [B5];exact jO (k+1) (by omega)
  have s2:=λt=>storeAll (h:=h++t) (xs:=B4 (mM l (k+1))) (hrk t) hL hN1
  obtain ⟨h',ih⟩:=E2e (q:=q) hv hn h7 hs hg hq e (k+1) m ((h++[rT (W8 (A4 (jC l k))),rT (B4 (U0 (jC l k).1 (jC l k).2))]).set (l_ B) (rT (B4 (mM l (k+1))))) (by omega) (by omega) ((hlow.new _).set (E8m _) _) (D3 (E1 (hrk _)));rw [A9n,hmd];generalize U0 (jC l k).1 (jC l k).2=E at *;simp only [W8] at *;cases cm:B6E (jC l k).1 (jC l k).2 with
  | true =>
   rw [cm] at hM;rw [E8K];refine ⟨h',?_⟩;generalize B4 (mM l (k+1))=y1 at *;generalize B4 (mM l k)=y at *;simp only [esc,esh,Nat.reduceAdd,c0,eb,hld,hM,hF,hW,hq2,s1,hLy,s2,w1];exact ih
  | false =>
   rw [cm] at hM;rw [E8E,E8E,bZ,bZ];have hz:(B4 (zeros 256)).length=256:=by rw [B5];exact zeros_length
   have hrg:=λt:A9=>B6 (g:=t) (hlow.rd hg)
   have haf:F6 (E8l 256 (Cell.i .u8 0)) []=A4 (E8l 256 (Cell.i .u8 0)):=rfl;rw [G9] at haf;have s2:=λt=>storeAll (xs:=B4 (zeros 256)) (hrg t) hz hz
   have s3:=λt=>C8 (h:=(h++t).set g (rT (B4 (zeros 256)))) (id:=g) (D3 (E1 (hrg t))) hz
   rw [G9];generalize zeros 256=z at *;exact ⟨_,by simp only [esc,esh,Nat.reduceAdd,c0,eb,hld,hM,haf,s2,s3]<;>rfl⟩
def D2S(l:List Ent):Int:=if 7<(l_ l) then 11 else if C9U l=A5 then (if C07 l=A5 then 0 else 5) else 1
def dX(l:List Ent):List UInt8:=if D2S l=0 then mM l (l_ l) else zeros 256
def A7i{l:List Ent}:(dX l).length=256:=by
 unfold dX;split
 ·rename_i h;refine jO _ ?_
  false_or_by_contra
  unfold D2S at h;rw [C4 (by omega)] at h;omega
 ·exact zeros_length
def C9y{l:List Ent}(hv:Has h v 2 nv (K0 l))(hs:∀ x∈l,x.1.length<=60):B0X [v] h=A4 (.t [.a (B4 (dX l)),.c (cI (D2S l))],h):=by
 have hn:l_ l=nv:=by have:=hv.length;rw [B1t] at this;omega
 have key:∀ g,Has g v 2 nv (K0 l)->∃ g',B0w 8 [v] g=A4 (.t [.a (B4 (dX l)),.c (cI (D2S l))],g'):=by
  intro g hv;have hz:(B4 (zeros 256)).length=256:=by rw [B5];exact zeros_length
  have hd:(B4 hdB).length=256:=by rw [B5];exact pF
  have hl:=hv.len;have hH:=λh=>B4g (h:=h)
  rw [C4C,G9];by_cases c:7<nv
  ·have c0:(7:Int)<nv:=by omega
   have e1:D2S l=11:=by unfold D2S;rw [C4 (by omega)]
   have e2:dX l=zeros 256:=by unfold dX;rw [e1,C5 (by omega)]
   have haf:F6 (E8l 256 (Cell.i .u8 0)) []=A4 (E8l 256 (Cell.i .u8 0)):=rfl;rw [G9] at haf;rw [e1,e2];generalize zeros 256=z at *;exact ⟨_,by simp only [esc,esh,hl,c0,haf,hz]<;>rfl⟩
  ·have c0:¬ (7:Int)<nv:=by omega
   obtain ⟨h',e⟩:=E2e (q:=8) (B:=g++[rT (B4 (zeros 256))]) (g:=l_ g) (hv.more _) hn (by omega) hs (by simp) (by omega) nv 0 8 (g++[rT (B4 (zeros 256)),rT (B4 (mM l 0))]) (by omega) (by omega)
    (by have:=(Low.refl (h:=g++[rT (B4 (zeros 256))]) (E8m _)).new [rT (B4 (mM l 0))];simpa using this) (by simp)
   have e1:D2S l=(bif C9U l then (bif C07 l then 0 else 5) else 1):=by
    unfold D2S;rw [C5 (by omega)];cases C9U l<;>cases C07 l<;>simp
   have e2:dX l=(bif C9U l&&C07 l then mM l nv else zeros 256):=by
    unfold dX;rw [e1,<-hn];cases C9U l<;>cases C07 l<;>simp
   rw [E8y,<-e1,<-e2] at e;rw [show mM l 0=hdB from rfl] at e;simp only [E8o,E8w,E8X,E8A] at e;refine ⟨h',?_⟩;generalize dX l=R at *;generalize hdB=H at *;generalize zeros 256=z at *;simp only [esc,esh,hl,c0,hH,hz,hd];exact e
 obtain ⟨g',e⟩:=key (ro h) hv.ro;exact B9z e (by simp)
def isL(D:Dev)(n k:Int)(d:List Int)(t:Tld):Bool:=decide (A9Y D n k d t.2=A4 t.1)
def sJ(D:Dev)(n k:Int)(d:List Int):List Tld:=C6Q D (T1 D n k d)
def T6(D:Dev)(n k:Int)(d:List Int)(l:List Tld):sY:=(l.filter (isL D n k d)).map (·.2)
def D6P(D:Dev)(n k:Int)(d:List Int)(s:List UInt8):Int:=((A9Y D n k d s).getD (0,0,0)).2.2
def iQ(D:Dev)(n k:Int)(d:List Int):List Ent:=(fY (T6 D n k d (sJ D n k d))).map λs=>(s,D6P D n k d s)
def eR(D:Dev)(n k:Int)(d:List Int)(l:List Tld):List Plc:=(l.filter λt=>!isL D n k d t).map (·.1)
def B2v(l:List Plc):List Cell:=(l.map λp=>rD (A4 p)).flatten
def A60{k:Int}{d:List Int}:(T1 D n k d).length<=32:=by
 have hml:=T5 (getD (blk D (d.getD 0 0)));have hBl:=jL (O5 (blk D (d.getD 0 0)) 32) (C6 (getD (blk D (d.getD 0 0))));unfold T1;cases Z5 D n k d with
 | false=>simp
 | true=>exact E83 (E9f _ _) (by omega)
def MapN(es:V8)(f:List UInt8->Int)(l:sY):Prop:=(∀ e∈es,∃ s,e.1=.s s)/\∀ s∈l,∃ i,A90 (.s s) es=A4 (i,.c (cI (f s)))
def D77(h:∀ e∈es,∃ s,e.1=Cell.s s):A20 A7 (.s s) es=A5:=by
 simp only [A20,vY,E8K,E8O];intro e he;obtain ⟨x,hx⟩:=h e he;rw [hx]
def D8e{k:Cell}{p:Part}:∀ {es:V8} {i j:Nat} {q:Part},mgo k es i=A4 (j,q)->(es.set (j-i) (k,p)).length=es.length/\mgo k (es.set (j-i) (k,p)) i=A4 (j,p)/\i<=j/\∀ k'≠k,((mgo k' (es.set (j-i) (k,p)) i)=mgo k' es i)
 | [],i,j,q,h=>by simp [mgo] at h
 | e::es,i,j,q,h=>by
  unfold mgo at h;by_cases c:e.1=k
  ·rw [C4 c] at h;cases h;simp only [E9t,E9A];refine ⟨rfl,by simp [mgo],E8m _,λk' hk'=>?_⟩;have:¬ e.1=k':=λh=>hk' (by rw [<-h,c])
   simp [mgo,this,Ne.symm hk']
  ·rw [C5 c] at h;obtain ⟨h1,h2,h3,h4⟩:=D8e (p:=p) h;have e1:j-i=(j-(i+1))+1:=by omega
   rw [e1,List.set_cons_succ];refine ⟨by simp,?_,by omega,λk' hk'=>?_⟩
   ·simp only [mgo];rw [C5 c];exact h2
   ·simp only [mgo];rw [h4 k' hk']
def D4P{k k':Cell}{p:Part}:∀ {es:V8} {i:Nat},mgo k es i=A7->mgo k' (es++[(k,p)]) i=if k'=k then A4 (i+es.length,p) else mgo k' es i
 | [],i,_=>by
  by_cases c:k'=k
  ·subst c;simp [mgo]
  ·simp [mgo,c,Ne.symm c]
 | e::es,i,h=>by
  unfold mgo at h;by_cases c:e.1=k
  ·rw [C4 c] at h;cases h
  ·rw [C5 c] at h;have ih:=D4P (k':=k') (p:=p) h;simp only [E89,mgo,ih];by_cases c2:k'=k
   ·subst c2;rw [C5 c,C4 rfl,C4 rfl,E8w]
    congr 2;omega
   ·simp only [C5 c2]
def A4u{k k':Cell}{p:Part}:A90 k (A91 k p es)=A4 (((A90 k es).map (·.1)).getD es.length,p)/\(k'≠k->A90 k' (A91 k p es)=A90 k' es):=by
 unfold A91 A90;cases c:mgo k es 0 with
 | none =>
  simp only [D4P c];exact ⟨by simp,λh=>by rw [C5 h]⟩
 | some jq =>
  obtain ⟨j,q⟩:=jq;obtain ⟨_,h2,_,h4⟩:=D8e (p:=p) c;simp only [Nat.sub_zero] at h2 h4;exact ⟨by simp [h2],λh=>h4 k' h⟩
def C25{k:Cell}{p:Part}{Q:Cell->Prop}(hk:Q k)(h:∀ e∈es,Q e.1):∀ e∈A91 k p es,Q e.1:=by
 intro e he;unfold A91 at he;split at he
 ·rcases List.mem_or_eq_of_mem_set he with he | rfl
  ·exact h e he
  ·exact hk
 ·rcases E8U.1 he with he | he
  ·exact h e he
  ·simp at he;subst he;exact hk
def MapN.nil(f:List UInt8->Int):MapN [] f []:=⟨λe he=>by simp at he,λs hs=>by simp at hs⟩
def MapN.put{f:List UInt8->Int}{l:sY}(hm:MapN es f l)(s:List UInt8):MapN (A91 (.s s) (.c (cI (f s))) es) f (l++[s]):=by
 refine ⟨C25 (Q:=λc=>∃ s,c=.s s) ⟨s,rfl⟩ hm.1,λx hx=>?_⟩;by_cases c:x=s
 ·subst c;exact ⟨_,(A4u (k':=.mh)).1⟩
 ·rcases E8U.1 hx with hx | hx
  ·obtain ⟨i,hi⟩:=hm.2 x hx;refine ⟨i,?_⟩;rw [(A4u (k:=.s s) (k':=.s x)).2 (by simpa using c)];exact hi
  ·simp at hx;exact absurd hx c
def D4I{mid:Nat}{f:List UInt8->Int}{l:sY}(hr:rd h mid=A4 (Q1 es))(hm:MapN es f l)(hs:s∈l):yS h A7 (.c o0) A6 (.c (.m mid)) (.c (.s s))=A4 (.c (cI (f s))):=by
 obtain ⟨i,hi⟩:=hm.2 s hs;simp only [yS,C0K,D2H,hr,E8z,qW];rw [C4 (D77 hm.1),hi];rfl
def D8m{mid:Nat}{f:List UInt8->Int}{l:sY}(hr:rd h mid=A4 (Q1 es))(hm:MapN es f l):A3k h A7 (.c (.m mid)) (.c (.s s)) (.c (cI x))=A4 (h.set mid (A4 (Q1 (A91 (.s s) (.c (cI x)) es)))):=by
 simp only [A3k,C0K,C4s,hr,E8z,qW];rw [C4 (D77 hm.1)]
def D22{neg:Bool}(p q:Plc):aeq neg [.i .i64,.i .i64,.i .i64] (.a (rD (A4 p))) (.a (rD (A4 q)))=A4 (bV (bif neg then !(decide (A4 p=A4 q)) else decide (A4 p=A4 q))):=by
 simp only [aeq];rw [C4 ⟨rfl,rfl⟩];have:decide (rD (A4 p)=rD (A4 q))=decide (A4 p=A4 q):=by
  apply Bool.eq_iff_iff.2;simp only [decide_eq_true_eq,rD,List.cons.injEq,Cell.i.injEq,true_and,and_true,E8n];obtain ⟨p1,p2,p3⟩:=p;obtain ⟨q1,q2,q3⟩:=q;simp only [Prod.mk.injEq];constructor
  ·rintro ⟨h1,h2,h3⟩;exact ⟨h1,by omega,h3⟩
  ·rintro ⟨h1,h2,h3⟩;exact ⟨h1,by omega,h3⟩
 rw [this]
def B6a{x:Ent}(h:O3 b k=A4 x):x.1.length<=24:=by
 unfold O3 at h;cases hu:gY (nameB b k) with
 | none=>rw [hu] at h;cases h
 | some s =>
  rw [hu,E8z] at h;split at h
  ·cases h;exact (bL (A4i hu)).2
  ·cases h
def A4c:∀ {e k:Nat} {x:Slt},x∈Q5 b e k->O3 b x.1=A4 x.2/\k<=x.1/\x.1<k+e
 | 0,k,x,h=>by simp [Q5] at h
 | e+1,k,x,h=>by
  cases hr:O3 b k with
  | none =>
   rw [Z9 hr] at h;have:=A4c h;exact ⟨this.1,by omega,by omega⟩
  | some y =>
   rw [aA hr] at h;rcases E8J.1 h with rfl | h
   ·exact ⟨hr,E8m _,by dsimp only;omega⟩
   ·have:=A4c h;exact ⟨this.1,by omega,by omega⟩
def A9X{x:Slt}(h:x∈J2 b):O3 b x.1=A4 x.2/\x.1<7:=by
 have:=A4c h;exact ⟨this.1,by omega⟩
def C4m{k:Int}{d:List Int}{s:List Tld}{t:Tld}:T6 D n k d (s++[t])=T6 D n k d s++(if isL D n k d t=A5 then [t.2] else []):=by
 unfold T6;rw [E9x,E9e];by_cases c:isL D n k d t=A5
 ·rw [C4 c,E9l c];rfl
 ·rw [C5 c,E9k c];rfl
def C8g{k:Int}{d:List Int}{s:List Tld}:(T6 D n k d s).length<=(l_ s):=by
 unfold T6;rw [List.length_map];exact E9f _ _
def RDs(b:Nat):List Nat:=[b,b+1,b+3,b+4,b+5,b+6,b+8]
structure ListP(D:Dev)(n k:Int)(d:List Int)(V I:List Cell)(L:List Int)(g:A9)(rs:List Nat)(c:Nat)(s:List Tld)(h:A9):Prop where
 var:VarC h (l_ g+3) (encS (T6 D n k d s)) (T6 D n k d s).length 1 (l_ g) (rs++RDs (l_ g))
 len:l_ s<=c
 low:Low (l_ g) g h
 r0:rd h (l_ g)=rT V
 r1:rd h (l_ g+1)=rT I
 r6:rd h (l_ g+6)=rT V
 r8:rd h (l_ g+8)=rT (encI L)
 r5:rd h (l_ g+5)=rT [.m (l_ g+4)]
 r4:∃ es,rd h (l_ g+4)=A4 (Q1 es)/\MapN es (D6P D n k d) (T6 D n k d s)
 rs:∀ j∈rs,l_ g+9<=j/\j<(l_ h)
section
variable {D:Dev} {n k:Int} {d:List Int} {V I:List Cell} {L:List Int} {g h:A9} {rs:List Nat} {c:Nat} {s:List Tld}
def ListP.more(P:ListP D n k d V I L g rs c s h)(t:A9):ListP D n k d V I L g rs c s (h++t) where
 var:=P.var.more t λj hj=>.inl hj
 len:=P.len
 low:=P.low.new _
 r0:=B6 P.r0
 r1:=B6 P.r1
 r6:=B6 P.r6
 r8:=B6 P.r8
 r5:=B6 P.r5
 r4:=by obtain ⟨es,h1,h2⟩:=P.r4;exact ⟨es,B6 h1,h2⟩
 rs:=λj hj=>by have:=P.rs j hj;simp;omega
def ListP.one(P:ListP D n k d V I L g rs c s h)(r:Option Row):ListP D n k d V I L g (l_ h::rs) c s (h++[r]) where
 var:=P.var.more _ λj hj=>by
  rcases E8J.1 hj with rfl | hj
  ·exact .inr (E8m _)
  ·exact .inl hj
 len:=P.len
 low:=P.low.new _
 r0:=B6 P.r0
 r1:=B6 P.r1
 r6:=B6 P.r6
 r8:=B6 P.r8
 r5:=B6 P.r5
 r4:=by obtain ⟨es,h1,h2⟩:=P.r4;exact ⟨es,B6 h1,h2⟩
 rs:=λj hj=>by
  have h8:=E1 P.r8;rcases E8J.1 hj with rfl | hj
  ·simp;omega
  ·have:=P.rs j hj;simp;omega
def ListP.less(P:ListP D n k d V I L g (i::rs) c s h):ListP D n k d V I L g rs c s h :=
 { P with var:=P.var.fewer λj hj=>E8q _ hj,rs:=λj hj=>P.rs j (E8q _ hj) }
def ListP.wide{c':Nat}(P:ListP D n k d V I L g rs c s h)(hc:c<=c'):ListP D n k d V I L g rs c' s h :=
 { P with len:=E83 P.len hc }
end
def E5R{k s0:Int}{d:List Int}{s:List Tld}{t:Tld}(hD:okD D)(hd:l_ d=7)(hv:IsView g f D)(hc:c<=90000)(ht:t.2.length<=24)
  (P:ListP D n k d (vwC (l_ D) n m f) (D1 k l s0 p d) L g rs c s h) :
  ∃ h',yB [.a (rD (A4 t.1)),.c (.s t.2),.c (.p (l_ g) 0),.c (.p (l_ g+1) 0),.c (.p (l_ g+3) 0),.c (.p (l_ g+5) 0)] h=A4 (.t [],h')/\ListP D n k d (vwC (l_ D) n m f) (D1 k l s0 p d) L g rs (c+1) (s++[t]) h'/\∀ j∈rs,rd h' j=rd h j:=by
 obtain ⟨⟨p1,p2,p3⟩,nm⟩:=t;have hIl:(D1 k l s0 p d).length=11:=by simp [D1,C1,hd]
 obtain ⟨h1,e1⟩:=xEq (h++[rT (rD (A4 (p1,p2,p3)))]);have n1:h1.length=l_ h+1:=by rw [e1];simp
 have P1:ListP D n k d (vwC (l_ D) n m f) (D1 k l s0 p d) L g (l_ h::rs) c s h1:=e1 ▸ P.one _;have l4:C9 h1 4 (.c (.p (l_ g) 0))=A4 (.a (vwC (l_ D) n m f)):=C8 P1.r0 rfl;have l11:C9 h1 11 (.c (.p (l_ g+1) 0))=A4 (.a (D1 k l s0 p d)):=C8 P1.r1 hIl;have hL:=B2c (n:=n) (m:=m) (k:=k) (l:=l) (s:=s0) (p:=p) (nm:=nm) (h:=h1) hD hd (hv.since P1.low) (by dsimp only at ht;omega);have hl:=E1 P.r8;have keep:∀ (h':A9),(∀ j∈(l_ h)::rs,rd h' j=rd h1 j)->∀ j∈rs,rd h' j=rd h j:=by
  intro h' hk j hj;rw [hk j (E8q _ hj),e1,D5 (P.rs j hj).2]
 obtain ⟨o,eo⟩:=xEq (A9Y D n k d nm);rw [<-eo] at hL;obtain ⟨h2,e2⟩:=xEq (h1++[rT (rD o)]);have s3:F7 (h1++[rT [o0,o0,o0]]) 3 (.c (.p h1.length 0)) (.a (rD o))=A4 h2:=by
  rw [I3,e2];cases o<;>rfl
 have P2:ListP D n k d (vwC (l_ D) n m f) (D1 k l s0 p d) L g (l_ h::rs) c s h2:=e2 ▸ P1.more _;have q1:C9 h2 3 (.c (.p h1.length 0))=A4 (.a (rD o)):=by rw [e2,H6];cases o<;>rfl
 have rp:rd h2 (l_ h)=rT (rD (A4 (p1,p2,p3))):=by rw [e2,e1];simp
 have q2:C9 h2 3 (.c (.p (l_ h) 0))=A4 (.a (rD (A4 (p1,p2,p3)))):=C8 rp rfl;have no:isL D n k d ((p1,p2,p3),nm)=A6->T6 D n k d (s++[((p1,p2,p3),nm)])=T6 D n k d s:=λhn=>by
  rw [C4m,hn];simp
 have stay:T6 D n k d (s++[((p1,p2,p3),nm)])=T6 D n k d s->ListP D n k d (vwC (l_ D) n m f) (D1 k l s0 p d) L g rs (c+1) (s++[((p1,p2,p3),nm)]) h2:=λhn=>by
  have:=P2.less;exact { this with var:=by rw [hn];exact this.var,len:=by have:=P.len;simp;omega,r4:=by rw [hn];exact this.r4 }
 have k2:∀ j∈(l_ h)::rs,rd h2 j=rd h1 j:=λj hj=>by
  rw [e2,D5];rcases E8J.1 hj with rfl | hj
  ·omega
  ·have:=P.rs j hj;omega
 cases o with
 | none =>
  have hn:isL D n k d ((p1,p2,p3),nm)=A6:=by unfold isL;rw [<-eo];simp
  refine ⟨h2,yC (n:=0) ?_,stay (no hn),keep h2 k2⟩;rw [xN];generalize hV:vwC (l_ D) n m f=V at *;generalize hI:D1 k l s0 p d=I at *;simp only [bQ,C7,<-e1,l4,l11,hL,uS,E84,E8F,E85,dQ,dP,s3,E9o,E1F,qQ,bZ,Y6];rfl
 | some q =>
  have ea:=D22 (neg:=A6) q (p1,p2,p3);by_cases c1:q=(p1,p2,p3)
  ·have hn:isL D n k d ((p1,p2,p3),nm)=A5:=by unfold isL;rw [<-eo,c1];simp
   have hns:T6 D n k d (s++[((p1,p2,p3),nm)])=T6 D n k d s++[nm]:=by rw [C4m,C4 hn]
   have hin:D6P D n k d nm=p3:=by unfold D6P;rw [<-eo,c1];rfl
   subst c1;have h2l:h2.length=l_ h+2:=by rw [e2];simp;omega
   obtain ⟨x,v,h3,h4,a1,a2,a3,a4,a5,a6,a7⟩:=P2.var.push (ys:=[.s nm]) (by simp [RDs]) (by omega) (by omega) (by
    intro j hj;rcases E8U.1 hj with hj | hj
    ·exact (P2.rs j hj).2
    ·simp only [RDs,E8J,List.not_mem_nil,or_false] at hj;omega) (by have:=C8g (D:=D) (n:=n) (k:=k) (d:=d) (s:=s);have:=P.len;omega) rfl (by omega)
   have ef:F6 [Cell.s []] [(0,1,.c (.s nm))]=A4 [.s nm]:=rfl;have mem:∀ j,j∈RDs (l_ g)->j≠(l_ g)+3->rd h4 j=rd h2 j:=λj hj aZ=>a6 j (E8V _ hj) aZ
   have m5:B9 h4 (.c (.p (l_ g+5) 0))=A4 (.c (.m (l_ g+4))):=B8 (by rw [mem _ (by simp [RDs]) (by omega)];exact P2.r5) rfl rfl;have m2:B9 h4 (.c (.p (l_ h) 2))=A4 (.c (cI p3)):=B8 (by rw [a6 (l_ h) (by simp) (by omega)];exact rp) rfl rfl;obtain ⟨es,r4,hm⟩:=P2.r4;have r4':rd h4 (l_ g+4)=A4 (Q1 es):=by rw [mem _ (by simp [RDs]) (by omega)];exact r4
   have mp:=D8m (s:=nm) (x:=p3) r4' hm;have hm':=hm.put nm;rw [hin] at hm';have lt4:=E1 r4';obtain ⟨h5,e5⟩:=xEq (h4.set (l_ g+4) (A4 (Q1 (A91 (.s nm) (.c (cI p3)) es))));rw [<-e5] at mp;have oth:∀ j,j≠(l_ g)+4->rd h5 j=rd h4 j:=λj hj=>by rw [e5,B7 (Ne.symm hj)]
   have back:∀ j∈RDs (l_ g),j≠(l_ g)+3->j≠(l_ g)+4->rd h5 j=rd h2 j:=λj hj h3 h4=>by rw [oth j h4,mem j hj h3]
   refine ⟨h5,yC (n:=0) ?_,⟨?_,?_,?_,?_,?_,?_,?_,?_,?_,?_⟩,keep h5 λj hj=>?_⟩
   ·rw [xN];rw [O4 rfl] at ea;generalize hV:vwC (l_ D) n m f=V at *;generalize hI:D1 k l s0 p d=I at *;simp only [bQ,C7,<-e1,l4,l11,hL,uS,E84,E8F,E85,dQ,dP,s3,E87,D03,q1,q2,ea,qQ,S8,bZ,X6,a1,ef,a2,a3,m5,R1,E8A,m2,mp];rfl
   ·rw [hns];have e6:encS (T6 D n k d s++[nm])=encS (T6 D n k d s)++[.s nm]:=by simp [encS]
    rw [e6,E8o];have:=a4.keep (h':=h5) (oth _ (by omega)) (λid hid y hy=>by
     rw [oth id (λe=>hid (E8V _ (by rw [e];simp [RDs])))];exact hy)
    exact this.fewer λj hj=>by
     rcases E8U.1 hj with hj | hj
     ·exact E8W _ (E8q _ hj)
     ·exact E8V _ hj
   ·have:=P.len;simp;omega
   ·rw [e5];exact (P2.low.trans a5).set (by omega) _
   ·rw [back _ (by simp [RDs]) (by omega) (by omega)];exact P2.r0
   ·rw [back _ (by simp [RDs]) (by omega) (by omega)];exact P2.r1
   ·rw [back _ (by simp [RDs]) (by omega) (by omega)];exact P2.r6
   ·rw [back _ (by simp [RDs]) (by omega) (by omega)];exact P2.r8
   ·rw [back _ (by simp [RDs]) (by omega) (by omega)];exact P2.r5
   ·exact ⟨_,by rw [e5];exact D3 lt4,by rw [hns];exact hm'⟩
   ·intro j hj;have:=P.rs j hj;have e6:h5.length=h4.length:=by rw [e5];simp
    omega
   ·have hj9:l_ g+9<=j:=by
     rcases E8J.1 hj with rfl | hj
     ·omega
     ·exact (P.rs j hj).1
    rw [oth j (by omega),a6 j (E8W _ hj) (by omega),k2 j hj]
  ·have hn:isL D n k d ((p1,p2,p3),nm)=A6:=by unfold isL;rw [<-eo];simpa using c1
   refine ⟨h2,yC (n:=0) ?_,stay (no hn),keep h2 k2⟩;rw [xN];rw [W3 (by simpa using c1)] at ea;generalize hV:vwC (l_ D) n m f=V at *;generalize hI:D1 k l s0 p d=I at *;simp only [bQ,C7,<-e1,l4,l11,hL,uS,E84,E8F,E85,dQ,dP,s3,E87,D03,q1,q2,ea,qQ,S8,bZ,Y6];rfl
def D7a{l:List Plc}{x:Plc}:B2v (l++[x])=B2v l++rD (A4 x):=by simp [B2v]
def D69{l:List Plc}:M9 (B2v l)=A5:=by
 induction l with
 | nil=>rfl
 | cons x l ih =>
  have:B2v (x::l)=rD (A4 x)++B2v l:=rfl;rw [this,kD,ih];rfl
def D90{l:List Plc}:noX (B2v l)=A5:=by
 induction l with
 | nil=>rfl
 | cons x l ih =>
  have:B2v (x::l)=[cI x.1,cI (x.2.1:Int),cI x.2.2]++B2v l:=rfl;rw [this];simp [noX,Cell.isX] at ih ⊢;exact ih
def C4w{k:Int}{d:List Int}{s:List Tld}{t:Tld}:eR D n k d (s++[t])=eR D n k d s++(if isL D n k d t=A5 then [] else [t.1]):=by
 unfold eR;rw [E9x,E9e];by_cases c:isL D n k d t=A5
 ·rw [C4 c,E9k (by simp [c])];rfl
 ·rw [C5 c,E9l (by simp [c])];rfl
def D7v{k:Int}{d:List Int}{s:List Tld}:(eR D n k d s).length<=(l_ s):=by
 unfold eR;rw [List.length_map];exact E9f _ _
def RSs(b:Nat):List Nat:=[b,b+1,b+3,b+4,b+6]
structure StrP(D:Dev)(n k:Int)(d:List Int)(V I:List Cell)(L:List Int)(g:A9)(rs:List Nat)(c:Nat)(s:List Tld)(h:A9):Prop where
 var:VarC h (l_ g+3) (B2v (eR D n k d s)) (eR D n k d s).length 3 (l_ g) (rs++RSs (l_ g))
 len:l_ s<=c
 low:Low (l_ g) g h
 r0:rd h (l_ g)=rT V
 r1:rd h (l_ g+1)=rT I
 r4:rd h (l_ g+4)=rT V
 r6:rd h (l_ g+6)=rT (encI L)
 rs:∀ j∈rs,l_ g+7<=j/\j<(l_ h)
section
variable {D:Dev} {n k:Int} {d:List Int} {V I:List Cell} {L:List Int} {g h:A9} {rs:List Nat} {c:Nat} {s:List Tld}
def StrP.more(P:StrP D n k d V I L g rs c s h)(t:A9):StrP D n k d V I L g rs c s (h++t) where
 var:=P.var.more t λj hj=>.inl hj
 len:=P.len
 low:=P.low.new _
 r0:=B6 P.r0
 r1:=B6 P.r1
 r4:=B6 P.r4
 r6:=B6 P.r6
 rs:=λj hj=>by have:=P.rs j hj;simp;omega
def StrP.one(P:StrP D n k d V I L g rs c s h)(r:Option Row):StrP D n k d V I L g (l_ h::rs) c s (h++[r]) where
 var:=P.var.more _ λj hj=>by
  rcases E8J.1 hj with rfl | hj
  ·exact .inr (E8m _)
  ·exact .inl hj
 len:=P.len
 low:=P.low.new _
 r0:=B6 P.r0
 r1:=B6 P.r1
 r4:=B6 P.r4
 r6:=B6 P.r6
 rs:=λj hj=>by
  have h8:=E1 P.r6;rcases E8J.1 hj with rfl | hj
  ·simp;omega
  ·have:=P.rs j hj;simp;omega
def StrP.less(P:StrP D n k d V I L g (i::rs) c s h):StrP D n k d V I L g rs c s h :=
 { P with var:=P.var.fewer λj hj=>E8q _ hj,rs:=λj hj=>P.rs j (E8q _ hj) }
def StrP.wide{c':Nat}(P:StrP D n k d V I L g rs c s h)(hc:c<=c'):StrP D n k d V I L g rs c' s h :=
 { P with len:=E83 P.len hc }
end
def E4z{k s0:Int}{d:List Int}{s:List Tld}{t:Tld}(hD:okD D)(hd:l_ d=7)(hv:IsView g f D)(hc:c<=90000)(ht:t.2.length<=24)
  (P:StrP D n k d (vwC (l_ D) n m f) (D1 k l s0 p d) L g rs c s h) :
  ∃ h',uC [.a (rD (A4 t.1)),.c (.s t.2),pV (l_ g) 0,pV (l_ g+1) 0,pV (l_ g+3) 0] h=A4 (.t [],h')/\StrP D n k d (vwC (l_ D) n m f) (D1 k l s0 p d) L g rs (c+1) (s++[t]) h'/\∀ j∈rs,rd h' j=rd h j:=by
 obtain ⟨⟨p1,p2,p3⟩,nm⟩:=t;have hIl:(D1 k l s0 p d).length=11:=by simp [D1,C1,hd]
 obtain ⟨h1,e1⟩:=xEq (h++[rT (rD (A4 (p1,p2,p3)))]);have n1:h1.length=l_ h+1:=by rw [e1];simp
 have P1:StrP D n k d (vwC (l_ D) n m f) (D1 k l s0 p d) L g (l_ h::rs) c s h1:=e1 ▸ P.one _;have l4:C9 h1 4 (pV (l_ g) 0)=A4 (.a (vwC (l_ D) n m f)):=C8 P1.r0 rfl;have l11:C9 h1 11 (pV (l_ g+1) 0)=A4 (.a (D1 k l s0 p d)):=C8 P1.r1 hIl;have hL:=B2c (n:=n) (m:=m) (k:=k) (l:=l) (s:=s0) (p:=p) (nm:=nm) (h:=h1) hD hd (hv.since P1.low) (by dsimp only at ht;omega);have hl:=E1 P.r6;have keep:∀ (h':A9),(∀ j∈(l_ h)::rs,rd h' j=rd h1 j)->∀ j∈rs,rd h' j=rd h j:=by
  intro h' hk j hj;rw [hk j (E8q _ hj),e1,D5 (P.rs j hj).2]
 obtain ⟨o,eo⟩:=xEq (A9Y D n k d nm);rw [<-eo] at hL;obtain ⟨h2,e2⟩:=xEq (h1++[rT (rD o)]);have s3:F7 (h1++[rT [o0,o0,o0]]) 3 (pV h1.length 0) (.a (rD o))=A4 h2:=by
  rw [I3,e2];cases o<;>rfl
 have P2:StrP D n k d (vwC (l_ D) n m f) (D1 k l s0 p d) L g (l_ h::rs) c s h2:=e2 ▸ P1.more _;have q1:C9 h2 3 (pV h1.length 0)=A4 (.a (rD o)):=by rw [e2,H6];cases o<;>rfl
 have rp:rd h2 (l_ h)=rT (rD (A4 (p1,p2,p3))):=by rw [e2,e1];simp
 have q2:C9 h2 3 (pV (l_ h) 0)=A4 (.a (rD (A4 (p1,p2,p3)))):=C8 rp rfl;have k2:∀ j∈(l_ h)::rs,rd h2 j=rd h1 j:=λj hj=>by
  rw [e2,D5];rcases E8J.1 hj with rfl | hj
  ·omega
  ·have:=P.rs j hj;omega
 by_cases hn:isL D n k d ((p1,p2,p3),nm)=A5
 ·have ho:o=A4 (p1,p2,p3):=by
   have:=hn;unfold isL at this;rw [<-eo] at this;simpa using this
  subst ho;have nJ:eR D n k d (s++[((p1,p2,p3),nm)])=eR D n k d s:=by rw [C4w,C4 hn];simp
  have ea:=D22 (neg:=A5) (p1,p2,p3) (p1,p2,p3);rw [O4 rfl] at ea;have P3:=P2.less;refine ⟨h2,A48 (n:=0) ?_,{ P3 with var:=by rw [nJ];exact P3.var,len:=by have:=P.len;simp;omega },keep h2 k2⟩;rw [A4Q];generalize hV:vwC (l_ D) n m f=V at *;generalize hI:D1 k l s0 p d=I at *;simp only [bQ,C7,<-e1,l4,l11,hL,uS,E84,E8F,E85,dQ,dP,s3,E87,yT,Bool.not_true,D4p,q1,q2,ea,qQ,S8,bZ,Y6];rfl
 ·have nJ:eR D n k d (s++[((p1,p2,p3),nm)])=eR D n k d s++[(p1,p2,p3)]:=by rw [C4w,C5 hn]
  have h2l:h2.length=l_ h+2:=by rw [e2];simp;omega
  obtain ⟨x,v,h3,h4,a1,a2,a3,a4,a5,a6,a7⟩:=P2.var.push (ys:=rD (A4 (p1,p2,p3))) (by simp [RSs]) (by omega) (by omega) (by
   intro j hj;rcases E8U.1 hj with hj | hj
   ·exact (P2.rs j hj).2
   ·simp only [RSs,E8J,List.not_mem_nil,or_false] at hj;omega) (by have:=D7v (D:=D) (n:=n) (k:=k) (d:=d) (s:=s);have:=P.len;omega) rfl (by omega)
  have ef:F6 [o0,o0,o0] [(0,3,.a (rD (A4 (p1,p2,p3))))]=A4 (rD (A4 (p1,p2,p3))):=rfl;have mem:∀ j,j∈RSs (l_ g)->j≠(l_ g)+3->rd h4 j=rd h2 j:=λj hj aZ=>a6 j (E8V _ hj) aZ
  have fin:StrP D n k d (vwC (l_ D) n m f) (D1 k l s0 p d) L g rs (c+1) (s++[((p1,p2,p3),nm)]) h4:=by
   refine ⟨?_,?_,P2.low.trans a5,?_,?_,?_,?_,?_⟩
   ·rw [nJ,D7a,E8o];exact a4.fewer λj hj=>by
     rcases E8U.1 hj with hj | hj
     ·exact E8W _ (E8q _ hj)
     ·exact E8V _ hj
   ·have:=P.len;simp;omega
   ·rw [mem _ (by simp [RSs]) (by omega)];exact P2.r0
   ·rw [mem _ (by simp [RSs]) (by omega)];exact P2.r1
   ·rw [mem _ (by simp [RSs]) (by omega)];exact P2.r4
   ·rw [mem _ (by simp [RSs]) (by omega)];exact P2.r6
   ·intro j hj;have:=P.rs j hj;omega
  have kp:∀ j∈rs,rd h4 j=rd h j:=keep h4 λj hj=>by
   have hj9:l_ g+7<=j:=by
    rcases E8J.1 hj with rfl | hj
    ·omega
    ·exact (P.rs j hj).1
   rw [a6 j (E8W _ hj) (by omega),k2 j hj]
  refine ⟨h4,A48 (n:=0) ?_,fin,kp⟩;rw [A4Q];cases o with
  | none =>
   generalize hV:vwC (l_ D) n m f=V at *;generalize hI:D1 k l s0 p d=I at *;simp only [bQ,C7,<-e1,l4,l11,hL,uS,E84,E8F,E85,dQ,dP,s3,E9o,yT,Bool.not_false,E1G,E4M,qQ,S8,bZ,X6,a1,q2,ef,a2,a3];rfl
  | some q =>
   have hq:q≠(p1,p2,p3):=by
    intro e;apply hn;unfold isL;rw [<-eo,e];simp
   have ea:=D22 (neg:=A5) q (p1,p2,p3);rw [W3 (by simpa using hq)] at ea;generalize hV:vwC (l_ D) n m f=V at *;generalize hI:D1 k l s0 p d=I at *;simp only [bQ,C7,<-e1,l4,l11,hL,uS,E84,E8F,E85,dQ,dP,s3,E87,yT,Bool.not_true,Bool.not_false,D4p,q1,q2,ea,qQ,S8,bZ,X6,a1,ef,a2,a3];rfl
def C7p{k s:Int}{d:List Int}(hD:okD D)(hd:l_ d=7)(hv:IsView h f D) :
  E6i h (sW [.a (vwC (l_ D) n m f),.a (D1 k l s p d)] h) (B2v (eR D n k d (sJ D n k d))) (eR D n k d (sJ D n k d)).length 3:=by
 have key:∀ g,IsView g f D->∃ x g',sR 0 [.a (vwC (l_ D) n m f),.a (D1 k l s p d)] g=A4 (.c x,g')/\E0w g' x (B2v (eR D n k d (sJ D n k d))) (eR D n k d (sJ D n k d)).length 3 (l_ g) ([]++RSs (l_ g)):=by
  intro g hv;have hIl:(D1 k l s p d).length=11:=by simp [D1,C1,hd]
  have hbl:=A60 (D:=D) (n:=n) (k:=k) (d:=d);obtain ⟨V,hV⟩:=xEq (vwC (l_ D) n m f);obtain ⟨I,hI⟩:=xEq (D1 k l s p d);have hVl:l_ V=4:=by rw [hV];rfl
  have E1L:l_ I=11:=by rw [hI];exact hIl
  obtain ⟨G,hG⟩:=xEq (g++[rT V,rT I,rT [],rT [.ns]]);obtain ⟨G2,hG2⟩:=xEq (G++[rT V,rT I,rT (encI (T1 D n k d))]);have lG:l_ G=l_ g+4:=by rw [hG];simp
  have lG2:G2.length=l_ g+7:=by rw [hG2];simp [lG]
  have hB:=A2Z (n:=n) (m:=m) (k:=k) (l:=l) (s:=s) (p:=p) (h:=G++[rT V,rT I]) hD hd (by rw [hG];exact (hv.more _).more _);rw [<-hV,<-hI] at hB;have hB2:(G++[rT V,rT I])++[rT (encI (T1 D n k d))]=G2:=by rw [hG2];simp
  rw [hB2] at hB;have lB:(G++[rT V,rT I]).length=l_ g+6:=by simp [lG]
  rw [lB] at hB;have emk:A32 160 [pV (l_ g) 0,pV (l_ g+1) 0,pV (l_ g+3) 0]=A4 (.c (.f 160 [(l_ g,0),(l_ g+1,0),(l_ g+3,0)])):=rfl;have hcv:∀ (x y:Val) (h:A9),aQ lW (.c (.f 160 [(l_ g,0),(l_ g+1,0),(l_ g+3,0)])) [x,y] h=uC [x,y,pV (l_ g) 0,pV (l_ g+1) 0,pV (l_ g+3) 0] h:=λ_ _ _=>Eq.trans rfl rfl
  have P0:StrP D n k d V I (T1 D n k d) g [] 0 [] G2:=by
   refine ⟨VarC.nil ?_,E8m _,?_,?_,?_,?_,?_,λj hj=>by simp at hj⟩
   ·rw [hG2,hG];simp
   ·rw [hG2,hG];exact ((Low.refl (E8m _)).new _).new _
   ·rw [hG2,hG];simp
   ·rw [hG2,hG];simp
   ·rw [hG2,<-lG];simp
   ·rw [hG2,show (l_ g)+6=l_ G+2 by omega];simp
  obtain ⟨h',f1,f2⟩:=B4i (σ:=List Tld) (L0:=λM x h=>zD 300 M (.c (.f 160 [(l_ g,0),(l_ g+1,0),(l_ g+3,0)])) (pV (l_ g+4) 0) (sV (l_ g+6) 0 (T1 D n k d).length 1) (iV ((T1 D n k d).length:Nat)) x h)
   (L1:=λM m2 x7 x14 x21 x22 x23 h=>zF 300 M m2 (.c (.f 160 [(l_ g,0),(l_ g+1,0),(l_ g+3,0)])) (pV (l_ g+4) 0) x7 (sV (l_ g+6) 0 (T1 D n k d).length 1) (iV ((T1 D n k d).length:Nat)) x14 x21 x22 x23 h)
   (C:=λx y h=>aQ lW (.c (.f 160 [(l_ g,0),(l_ g+1,0),(l_ g+3,0)])) [x,y] h)
   (N:=300) (x3:=pV (l_ g+4) 0) (n:=n) (m:=m) (f:=f) (sid:=l_ g+6) (L:=T1 D n k d) hD (λrs c s h=>StrP D n k d V I (T1 D n k d) g rs c s h) (λs t=>s++[t]) (by omega)
   (λM x h=>by rw [A56])
   (λM v9 x v w M2 y h=>by rw [A57])
   (λrs c s h P=>⟨by rw [<-hV];exact C8 P.r4 hVl,hv.since P.low,P.r6⟩)
   (λrs c s h t P=>P.more t) (λrs c s h r P=>P.one r) (λi rs c s h P=>P.less) (λrs c c' s h P hc=>P.wide hc)
   (λrs c st h1 no x P hc Y8 hx=>by
    obtain ⟨h2,e1,e2,e3⟩:=E4z (t:=((no,x.1,x.2.2),x.2.1)) (n:=n) (m:=m) (k:=k) (l:=l) (s0:=s) (p:=p) (c:=c) hD hd hv (by omega) (by have:=B6a (A9X hx).1;exact this) (by rw [<-hV,<-hI];exact P);rw [<-hV,<-hI] at e2;exact ⟨h2,by rw [hcv];exact e1,e2,e3⟩)
   (by omega) (T1 D n k d).length 0 300 [] [] G2 (by omega) (by omega) P0
  rw [E8y] at f2;have efold:∀ (L:List Tld) (s0:List Tld),L.foldl (λs t=>s++[t]) s0=s0++L:=by
   intro L
   induction L with
   | nil=>intro s0;simp
   | cons t L ih=>intro s0;rw [E9q,ih];simp
  rw [efold,E8I] at f2;change StrP D n k d V I (T1 D n k d) g [] (7*(T1 D n k d).length) (sJ D n k d) h' at f2;have hS:mA [.a V,.a I,.c (.f 160 [(l_ g,0),(l_ g+1,0),(l_ g+3,0)])] G=A4 (.t [],h'):=by
   refine A7Z (n:=300) ?_;rw [A7E];have g4:C9 (G++[rT V,rT I]) 4 (pV (l_ G) 0)=A4 (.a V):=by rw [H6];exact K9 hVl
   have g11:C9 (G++[rT V,rT I]) 11 (pV (l_ G+1) 0)=A4 (.a I):=by rw [P7];exact K9 E1L
   simp only [bQ,C7,E8t,E89,E8I,E8o,E8w,E8X,E8A,g4,g11,hB,A6U];rw [lG];exact f1
  obtain ⟨x,hx,hdx⟩:=f2.var;refine ⟨x,h',?_,hdx⟩;have t1:B9 h' (pV (l_ g+3) 0)=A4 (.c x):=B8 hx rfl (by
   rcases hdx with ⟨_,_,rfl⟩ | ⟨id,rfl,_⟩<;>rfl)
  have g4:C9 G 4 (pV (l_ g) 0)=A4 (.a V):=by rw [hG,H6];exact K9 hVl
  have g11:C9 G 11 (pV (l_ g+1) 0)=A4 (.a I):=by rw [hG,P7];exact K9 E1L
  rw [C1G,<-hV,<-hI];simp only [bQ,C7,E8t,E89,E8I,E8o,E8w,E8X,E8A,Nat.reduceAdd,<-hG,g4,g11,emk,hS,t1]
 obtain ⟨x,g',e,hdx⟩:=key (ro h) hv.ro;rw [G8] at hdx;exact E3o (S:=sW) (R:=sR) B9G B9H e hdx D69 D90
def A5U{n:Nat}(hn:n<=32):toX (nL d t n) i=if i<n then zZ d t i else 0:=by
 unfold toX nL;rw [E8k];by_cases c:i<n
 ·rw [C4 c,List.getElem?_append_left (by simpa using c),List.getElem?_map,List.getElem?_range c];rfl
 ·rw [C5 c,List.getElem?_append_right (by simp;omega)];unfold zI;rw [List.getElem?_replicate];split<;>rfl
def D4l{u:List Int}{n:Nat}(hn:n<=32)(h:∀ i,i<n->zZ d t i=toX u i)(hu:u.length=32)(h0:∀ i,n<=i->toX u i=0):nL d t n=u:=by
 apply List.ext_getElem?;intro i;by_cases c:i<32
 ·have h1:=pB (d:=d) (t:=t) hn;rw [C5R (by omega),C5R (by omega),A5U hn];by_cases c2:i<n
  ·rw [C4 c2,h i c2]
  ·rw [C5 c2,h0 i (by omega)]
 ·have h1:=pB (d:=d) (t:=t) hn;rw [E8P (by omega),E8P (by omega)]
def A5k{n:Nat}{p b:Nat}:A9h n t p b=A5↔toX t p≠0/\∀ k,k<n->k%2 ^ b=p%2 ^ b->toX t k=toX t p:=by
 unfold A9h B1W Y9;simp only [E8j,E9b,decide_eq_false_iff_not,E8O,E8Z,List.mem_range,beq_iff_eq,decide_eq_true_eq];constructor
 ·rintro ⟨h1,h2⟩;exact ⟨h1,λk hk hm=>h2 k ⟨hk,hm⟩⟩
 ·rintro ⟨h1,h2⟩;exact ⟨h1,λk hk=>h2 k hk.1 hk.2⟩
def tA{n:Nat}{t:List Int}{p:Nat}:∀ e b,b<=aP n t p b e/\aP n t p b e<=b+e/\(∀ c,b<=c->c<aP n t p b e->A9h n t p c=A6)/\(aP n t p b e<b+e->A9h n t p (aP n t p b e)=A5)
 | 0,b=>⟨E8m _,E8m _,λc h1 h2=>by unfold aP at h2;omega,λh=>by unfold aP at h;omega⟩
 | e+1,b=>by
  unfold aP;cases ca:A9h n t p b with
  | true=>exact ⟨E8m _,by rw [S8];omega,λc h1 h2=>by rw [S8] at h2;omega,λ_=>by rw [S8];exact ca⟩
  | false =>
   obtain ⟨h1,h2,h3,h4⟩:=tA (n:=n) (t:=t) (p:=p) e (b+1);rw [bZ];refine ⟨by omega,by omega,λc k1 k2=>?_,λk=>h4 (by omega)⟩;by_cases e1:c=b
   ·subst e1;exact ca
   ·exact h3 c (by omega) k2
def C5i{n:Nat}{p b x:Nat}(h1:b<=x)(h2:x<=b+e)(h3:∀ c,b<=c->c<x->A9h n t p c=A6)(h4:x<b+e->A9h n t p x=A5):aP n t p b e=x:=by
 obtain ⟨k1,k2,k3,k4⟩:=tA (n:=n) (t:=t) (p:=p) e b;rcases Nat.lt_trichotomy (aP n t p b e) x with h | h | h
 ·have:=h3 _ k1 h;rw [k4 (by omega)] at this;cases this
 ·exact h
 ·have:=k3 x h1 h;rw [h4 (by omega)] at this;cases this
def B99{p:Nat}:Y4 d t p<=fP d:=by
 have:=(tA (n:=C6 d) (t:=t) (p:=p) (fP d) 0).2.1;unfold Y4;omega
def B4c{p:Nat}(h:c<Y4 d t p):A9h (C6 d) t p c=A6:=(tA (n:=C6 d) (t:=t) (p:=p) (fP d) 0).2.2.1 c (Nat.zero_le _) h
def B5P{p:Nat}(h:Y4 d t p<fP d):A9h (C6 d) t p (Y4 d t p)=A5:=(tA (n:=C6 d) (t:=t) (p:=p) (fP d) 0).2.2.2 (by unfold Y4 at h;omega)
def C0a{p x:Nat}(h2:x<=fP d)(h3:∀ c,c<x->A9h (C6 d) t p c=A6)(h4:x<fP d->A9h (C6 d) t p x=A5):Y4 d t p=x :=
 C5i (Nat.zero_le _) (by omega) (λc _=>h3 c) (λh=>h4 (by omega))
def C7d{p:Nat}(hp:p<C6 d)(hk:k<C6 d)(hm:k%2 ^ Y4 d t p=p%2 ^ Y4 d t p):toX t k=toX t p:=by
 by_cases c:Y4 d t p<fP d
 ·exact (A5k.1 (B5P c)).2 k hk hm
 ·have e:Y4 d t p=fP d:=by have:=B99 (d:=d) (t:=t) (p:=p);omega
  rw [e] at hm;unfold C6 at hp hk;rw [Nat.mod_eq_of_lt hp,Nat.mod_eq_of_lt hk] at hm;rw [hm]
def C8e{a b x:Nat}(h:c<=x)(hm:a%2 ^ x=b%2 ^ x):a%2 ^ c=b%2 ^ c:=by
 have hd:2 ^ c ∣ 2 ^ x:=Nat.pow_dvd_pow 2 h;rw [<-Nat.mod_mod_of_dvd a hd,<-Nat.mod_mod_of_dvd b hd,hm]
def D3A{n:Nat}{p:Nat}(hs:toX t k=toX t p)(hm:k%2 ^ c=p%2 ^ c):A9h n t k c=A9h n t p c:=by
 rw [Bool.eq_iff_iff,A5k,A5k,hs,hm]
def D3M{p:Nat}(hp:p<C6 d)(hk:k<C6 d)(hm:k%2 ^ Y4 d t p=p%2 ^ Y4 d t p):Y4 d t k=Y4 d t p:=by
 have hs:=C7d hp hk hm;refine C0a B99 (λc hc=>?_) (λh=>?_)
 ·rw [D3A hs (C8e (by omega) hm)];exact B4c hc
 ·rw [D3A hs hm];exact B5P h
def D70{α:Type}{p r:α -> Bool}:∀ {l:List α},(∀ x∈l,p x=A5->r x=A5)->(l.filter p).length<=(l.filter r).length
 | [],_=>by simp
 | y::l,h=>by
  have h1:=D70 (l:=l) λx hx=>h x (E8q _ hx)
  have h2:=h y (E8u ..);simp only [List.filter_cons];cases hy:p y with
  | true=>rw [h2 hy];simpa using h1
  | false=>cases r y<;>simp<;>omega
def D7Z{α:Type}{p r:α -> Bool}:∀ {l:List α},(∀ x∈l,p x=A5->r x=A5)->(l.filter p).length=(l.filter r).length->∀ x∈l,r x=p x
 | [],_,_,x,hx=>by cases hx
 | y::l,h,he,x,hx=>by
  have h':∀ x∈l,p x=A5->r x=A5:=λx hx=>h x (E8q _ hx)
  have h1:=D70 h';have h2:=h y (E8u ..);simp only [List.filter_cons] at he;have key:r y=p y/\(l.filter p).length=(l.filter r).length:=by
   cases hy:p y with
   | true =>
    rw [h2 hy];rw [hy,h2 hy] at he;exact ⟨rfl,by simpa using he⟩
   | false =>
    rw [hy] at he;cases hr:r y with
    | true=>rw [hr] at he;simp at he;omega
    | false=>rw [hr] at he;exact ⟨rfl,by simpa using he⟩
  rcases E8J.1 hx with e | hx
  ·subst e;exact key.1
  ·exact D7Z h' key.2 x hx
def A1p{p:Nat}(hp:p<C6 d):B7J d t p=A5↔∀ k,k<C6 d->toX t k=toX t p->k%2 ^ Y4 d t p=p%2 ^ Y4 d t p:=by
 unfold B7J;rw [decide_eq_true_eq];unfold Y9 zC;constructor
 ·intro he k hk hs;have:=D7Z (p:=λk=>k%2 ^ Y4 d t p==p%2 ^ Y4 d t p) (r:=λk=>decide (toX t k=toX t p)) (l:=E8T (C6 d)) (λx hx h=>by
   rw [decide_eq_true_eq];exact C7d hp (List.mem_range.1 hx) (by simpa using h)) he k (List.mem_range.2 hk)
  rw [O4 hs] at this;simpa using this.symm
 ·intro h
  congr 1
  refine List.filter_congr λk hk=>?_
  have hk:=List.mem_range.1 hk;rw [Bool.eq_iff_iff,decide_eq_true_eq,beq_iff_eq];exact ⟨λhm=>C7d hp hk hm,λhs=>h k hk hs⟩
def gM:A1a t i=A5↔∀ k,k<i->toX t k≠toX t i:=by
 unfold A1a;simp only [E8O,List.mem_range,E9b,decide_eq_false_iff_not]
def A1d:zM d t i=A5↔toX t i≠0/\B8B (toX t i)=A5/\(A1a t i=A5\/B7J d t i=A5):=by
 unfold zM;simp only [E8j,E9b,decide_eq_false_iff_not,Bool.or_eq_true]
def D6S(hi:i<C6 d)(hk:zM d t i=A5):zM d (nL d t (C6 d)) i=A5:=by
 have hm:=T5 d;have hg:∀ k,toX (nL d t (C6 d)) k=if k<C6 d then zZ d t k else 0:=λk=>A5U hm
 have hgi:toX (nL d t (C6 d)) i=toX t i:=by rw [hg,C4 hi];unfold zZ;rw [hk];rfl
 obtain ⟨h1,h2,h3⟩:=A1d.1 hk;have A58:∀ k,toX (nL d t (C6 d)) k=toX t i->k<C6 d/\toX t k=toX t i:=by
  intro k he;rw [hg] at he;by_cases c:k<C6 d
  ·rw [C4 c] at he;unfold zZ at he;cases ck:zM d t k with
   | true=>rw [ck] at he;exact ⟨c,he⟩
   | false=>rw [ck] at he;exact absurd he.symm h1
  ·rw [C5 c] at he;exact absurd he.symm h1
 rw [A1d,hgi];refine ⟨h1,h2,?_⟩;rcases h3 with h3 | h3
 ·left
  rw [gM,hgi];intro k hki he;exact gM.1 h3 k hki (A58 k he).2
 ·right
  have hw:=(A1p hi).1 h3;have hsame:∀ k,k<C6 d->(toX (nL d t (C6 d)) k=toX t i↔toX t k=toX t i):=by
   intro k hkm;refine ⟨λhe=>(A58 k he).2,λhe=>?_⟩;have pE:=hw k hkm he;have hb:=D3M hi hkm pE;have:zM d t k=A5:=by
    rw [A1d,he];refine ⟨h1,h2,.inr ((A1p hkm).2 λj hj hs=>?_)⟩;rw [hb,pE];exact hw j hj (hs.trans he)
   rw [hg,C4 hkm];unfold zZ;rw [this];exact he
  have kR:∀ c,A9h (C6 d) (nL d t (C6 d)) i c=A9h (C6 d) t i c:=by
   intro c;rw [Bool.eq_iff_iff,A5k,A5k,hgi];exact ⟨λh=>⟨h.1,λk k1 k2=>(hsame k k1).1 (h.2 k k1 k2)⟩,λh=>⟨h.1,λk k1 k2=>(hsame k k1).2 (h.2 k k1 k2)⟩⟩
  have hb:Y4 d (nL d t (C6 d)) i=Y4 d t i :=
   C0a B99 (λc hc=>by rw [kR];exact B4c hc) (λh=>by rw [kR];exact B5P h)
  rw [A1p hi,hb,hgi];intro k hkm he;exact hw k hkm ((hsame k hkm).1 he)
def D9e(h:0<=d/\d<=5):A9H d (nL d t (C6 d))=d::nL d t (C6 d):=by
 have hm:=T5 d;unfold A9H;rw [C4 h]
 congr 1
 refine D4l hm (λi hi=>?_) (pB hm) (λi hi=>by rw [A5U hm,C5 (by omega)]);cases ck:zM d t i with
 | true =>
  have:=D6S hi ck;unfold zZ;rw [this];rfl
 | false =>
  have e:toX (nL d t (C6 d)) i=0:=by rw [A5U hm,C4 hi];unfold zZ;rw [ck];rfl
  unfold zZ zM;rw [e];rfl
def D9f(d:Int)(t:List Int):∃ e u,A9H d t=e::u/\u.length=32/\A9H e u=e::u/\0<=e/\e<=5/\∀ i,toX u i=0\/toX u i=toX t i:=by
 have hm:=T5 d;by_cases h:0<=d/\d<=5
 ·refine ⟨d,nL d t (C6 d),by unfold A9H;rw [C4 h],pB hm,D9e h,h.1,h.2,λi=>?_⟩;rw [A5U hm];by_cases c:i<C6 d
  ·rw [C4 c];unfold zZ;cases zM d t i
   ·exact .inl rfl
   ·exact .inr rfl
  ·rw [C5 c];exact .inl rfl
 ·refine ⟨0,zI 32,by unfold A9H;rw [C5 h],N5,by decide +kernel,by omega,by omega,λi=>.inl ?_⟩;unfold toX zI;rw [E8k,List.getElem?_replicate];split<;>rfl
def C4u(h0:0<=d)(h5:d<=5)(h:A9H d t=d::t):A1j d t=A5:=by
 unfold A1j;rw [O4 h0,O4 h5,O4 h];rfl
def D1r:A1j d t=A5↔0<=d/\d<=5/\A9H d t=d::t:=by
 unfold A1j;simp only [E8j,decide_eq_true_eq]
def C0P(hx:x≠0):∀ k,x∈J3 t k↔∃ j,j<k/\toX t j=x
 | 0=>by simp [J3]
 | k+1=>by
  rw [B5Q,E8U,C0P hx k];constructor
  ·rintro (⟨j,h1,h2⟩ | h)
   ·exact ⟨j,by omega,h2⟩
   ·split at h
    ·simp at h;exact ⟨k,by omega,h.symm⟩
    ·cases h
  ·rintro ⟨j,h1,h2⟩;by_cases c:∃ j,j<k/\toX t j=x
   ·exact .inl c
   ·right
    have:j=k:=by
     by_cases e:j=k
     ·exact e
     ·exact absurd ⟨j,by omega,h2⟩ c
    subst this;have hb:yV t j=A5:=by
     unfold yV;rw [E8j];refine ⟨by rw [h2];simp [hx],?_⟩;rw [gM];intro k hk he;exact c ⟨k,hk,he.trans h2⟩
    rw [C4 hb,h2];simp
def E3U(h:toX t i≠0):decide (toX t i∈J3 t i) = !A1a t i:=by
 cases c:A1a t i with
 | true =>
  rw [Bool.not_true,W3];rw [C0P h];rintro ⟨j,h1,h2⟩;exact gM.1 c j h1 h2
 | false =>
  rw [Bool.not_false,O4];rw [C0P h]
  false_or_by_contra
  rename_i hn;have:A1a t i=A5:=gM.2 λk hk he=>hn ⟨k,hk,he⟩
  rw [c] at this;cases this
def bT(at':Int->Int):Nat->Nat->List (Nat × Int)
 | 0,_=>[]
 | e+1,j=>if at' j=0 then bT at' e (j+1) else (j,at' j)::bT at' e (j+1)
def B1r(at':Int->Int):∀ e j,(bT at' e j).length<=e
 | 0,j=>by simp [bT]
 | e+1,j=>by
  have:=B1r at' e (j+1);unfold bT;split<;>simp<;>omega
def A9D{at':Int->Int}:∀ (e j:Nat) (p:Nat × Int),p∈bT at' e j->j<=p.1/\p.1<j+e/\p.2=at' p.1/\p.2≠0
 | 0,j,p,h=>by simp [bT] at h
 | e+1,j,p,h=>by
  rw [bT] at h;by_cases c:at' (j:Int)=0
  ·rw [C4 c] at h;have:=A9D e (j+1) p h;omega
  ·rw [C5 c] at h;rcases E8J.1 h with rfl | h
   ·exact ⟨E8m _,by dsimp only;omega,rfl,c⟩
   ·have:=A9D e (j+1) p h;omega
def C7r{σ:Type}{L:Nat->Val->A9->zW}{C:Val->Val->A9->zW}{x3 x4:Val}{n m k l s p:Int}{d:List Int}(hD:okD D)(hd:l_ d=7)(P:Nat -> σ -> A9->Prop)(step:σ -> Nat × Int -> σ)
  (hL:∀ m x h,L (m+1) x h=bnd (N4 .lss x (iV 134)) λv3=>cnd v3 (bnd (C9 h 4 x3) λv4=>bnd (C9 h 11 x4) λv5=>bnd (A8Z [v4,v5,x] h) λp6=>bnd (N4 .neq p6.1 (iV 0)) λv7=>cnd v7 (bnd (C x p6.1 p6.2) λp8=>bnd (N4 .add x (iV 1)) λv9=>L m v9 p8.2) (bnd (N4 .add x (iV 1)) λv9=>L m v9 p6.2)) (C3t [] h))
  (hM:∀ j s' h,P j s' h->P (j+1) s' h)
  (hI:∀ j s' h,P j s' h->C9 h 4 x3=A4 (.a (vwC (l_ D) n m f))/\C9 h 11 x4=A4 (.a (D1 k l s p d))/\IsView h f D)
  (hC:∀ j s' h no,P j s' h->j<134->no≠0->no=atF D n k d (j:Nat)->∃ h',C (iV ((j:Nat):Int)) (iV no) h=A4 (.t [],h')/\P (j+1) (step s' (j,no)) h') :
  ∀ (e j M:Nat) (s':σ) (h:A9),j+e=134->e<M->P j s' h->∃ h',L M (iV (j:Int)) h=A4 (.t [],h')/\P 134 ((bT (atF D n k d) e j).foldl step s') h'
 | e,j,0,s',h,_,hm,_=>by omega
 | 0,j,M+1,s',h,hj,hm,hP=>by
  have c0:¬ (j:Int)<134:=by omega
  have e0:j=134:=by omega
  refine ⟨h,?_,e0 ▸ hP⟩;rw [hL];simp only [C7,G4,c0,decide_false,Y6];rfl
 | e+1,j,M+1,s',h,hj,hm,hP=>by
  have c0:(j:Int)<134:=by omega
  obtain ⟨i1,i2,i3⟩:=hI j s' h hP;have hA:=C7G (n:=n) (m:=m) (k:=k) (l:=l) (s:=s) (p:=p) (j:=(j:Int)) hD hd i3;have w1:=E2 (a:=j) (by omega);rw [hL,bT];by_cases c:atF D n k d j=0
  ·obtain ⟨h',f1,f2⟩:=C7r hD hd P step hL hM hI hC e (j+1) M s' h (by omega) (by omega) (hM _ _ _ hP);rw [C4 c];refine ⟨h',?_,f2⟩;simp only [C7,G4,c0,decide_true,X6,i1,i2,hA,c,A9g,ne_eq,eq_self,not_true_eq_false,decide_false,Y6,L8,w1];exact f1
  ·obtain ⟨h1,g1,g2⟩:=hC j s' h (atF D n k d j) hP (by omega) c rfl;obtain ⟨h',f1,f2⟩:=C7r hD hd P step hL hM hI hC e (j+1) M (step s' (j,atF D n k d j)) h1 (by omega) (by omega) g2;rw [C5 c];refine ⟨h',?_,f2⟩;simp only [C7,G4,c0,decide_true,X6,i1,i2,hA,c,A9g,ne_eq,not_false_eq_true,g1,L8,w1];exact f1
def E41(h:A9)(o:zW)(l:List Int):Prop:=∃ v t,o=A4 (v,h++t)/\Has (h++t) v 1 (l_ l) (encI l)/\(t=[]/\v=.c .ns/\l=[]\/t=[rT (encI l)]/\v=sV (l_ h) 0 (l_ l) 1)
def E3p{S:Fun}{R:Nat->Fun}{args:List Val}{g':A9}{N:Nat}{x:Cell}{l:List Int}
  (hlow:∀ {n:Nat} {args:List Val} {h h2:A9} {v:Val},R n args (ro h)=A4 (v,h2)->v.low (l_ h)=A5->S args h=A4 (v,h))
  (hout:∀ {n:Nat} {args:List Val} {h h2:A9} {v:Val} {sz k:Nat} {cs:List Cell},R n args (ro h)=A4 (v,h2)->Out (l_ h) h2 v sz k cs->M9 cs=A5->S args h=A4 (sV (l_ h) 0 k sz,h++[rT cs]))
  (he:R N args (ro h)=A4 (.c x,g')) (hd:D0e g' x l (l_ h) rs):E41 h (S args h) l:=by
 rcases hd with ⟨hl,rfl⟩ | ⟨id,rfl,hr,hbi,_⟩
 ·refine ⟨.c .ns,[],?_,?_,.inl ⟨rfl,rfl,hl⟩⟩
  ·rw [E8C];exact hlow he (by simp [Val.low,Cell.low,Cell.flat])
  ·rw [hl];exact .inl ⟨rfl,rfl,rfl⟩
 ·exact ⟨sV (l_ h) 0 (l_ l) 1,[rT (encI l)],hout he ⟨by rw [C1,E9w],id,rfl,hbi,hr⟩ (by simp),Has.row (rw:=A5) (by simp) (by rw [C1,E9w]) (A5K _),.inr ⟨rfl,rfl⟩⟩
def T9(s:Int):Int:=if s<1 then 0 else if 34304<s then 134 else (s+255)/256
end Go.Proofs.YtbipebfdappanaaGreat
