/- What the proof of this claim leans on, part 3. -/
import Derived.Test.YtbipebfdappanaaGreatFClaimRightp2
set_option linter.all false
set_option maxRecDepth 100000
open Go Go.Esc
noncomputable section
open List renaming length→l_,all_cons→E62,all_eq_true→E6X,append_assoc→E6d,append_nil→E6k,cons_append→E6Y,drop_drop→E7e,drop_eq_getElem_cons→E6b,drop_of_length_le→E6f,drop_zero→E6i,ext_getElem?→E7b,filter_append→E66,filter_cons_of_neg→E6V,filter_cons_of_pos→E6W,flatten_cons→E65,foldl_cons→E64,getD_eq_getElem?_getD→E54,getElem?_append_left→E6H,getElem?_append_right→E6r,getElem?_cons_succ→E6o,getElem?_cons_zero→E6K,getElem?_eq_getElem→E51,getElem?_eq_none→E6u,getElem?_take_of_lt→E6L,getElem_mem→E6w,length_append→E58,length_cons→E6g,length_filter_le→E6R,length_nil→E6E,length_replicate→E6y,length_set→E6F,length_take→E6A,map_append→E6Q,map_cons→E6N,mem_append_left→E6C,mem_append_right→E6B,mem_cons→E68,mem_cons_of_mem→E59,mem_cons_self→E6e,mem_of_getElem?→E6n,nil_append→E6s,range→E6z,range'→E6v,replicate→E55,replicate_succ→E6D,set_append_right→E6O,set_cons_zero→E7c,take_of_length_le→E6l,take_succ_eq_append_getElem→E6x,take_zero→E6S
open Bool renaming and_eq_true→E53,false_and→E6p,not_eq_true'→E6M,true_and→E6t,true_or→E6P,false→A6,true→A5
open Int renaming cast_ofNat_Int→E7d,toNat_natCast→E6q
open IntKind renaming wrap→E6a
open Nat renaming add_mul→E7f,add_zero→E7a,le_refl→E56,le_trans→E6J,mul_one→E69,sub_self→E67,zero_add→E6j
open Option renaming bind_some→E6h,isSome_none→E6Z,isSome_some→E6G,map_some→E6I,none→A7,some→A4
open Option.some renaming injEq→E57
open Prod.mk renaming injEq→E6c
open Go.Proofs.Tryz renaming prog→A8
namespace Go.Proofs.YtbipebfdappanaaGreat
variable {h g:A9}{t:List Int}{d n p l m no:Int}{b s nm:List UInt8}{k i r sz e x c:Nat}{D:Dev}{f:Cell}{rs:List Nat}{v:Val}{cs ys:List Cell}{es:V3}
section
variable (n m m2:Nat) (a0 a1 x1 x3 x5 x14 x15:Val) (h:A9)
def B4p:FD A8:=⟨px 0X113027e4601343022e3b6c13b5e6e33f1c5611623ef22a261b0448839710004883c5d51d191192016d3026a4602e3b371100722401b1c19063581a0584b75870581e04a581f0110323a2a0196d4231329f128f2362a41b11c2801a282c1ff1b00103048818104881d71c01a1b19611d2016d302284602e3b37106224102202977032b4203112e21b250182,[],[],[.cellN 2 4,.tmp 3],[D7 A5V B13]⟩
def C8z:=B4p.R
def A26:=mR C8z B4p (tT []) n [a0] h
def B4s:=B4p.K Tryz.func7
def uE:=B4p.Q
def A3d:OfT C8z uE:=B4s.of
def lM:FD A8:=⟨px 0X12af40301c190181391a0391e00391f038391f383970130619104291a2829701038043651f00062340422e253182,[],[.eqN A5 A5 (.t 6)],[.tmp 4],[]⟩
def vY:=lM.R
def B2y:=mR vY lM (tT []) n [a0,a1] h
def A5C:=lM.K Tryz.func101
def wW:=lM.S
def A94:G0 vY wW:=A5C.flat
def A5u:FD A8:=⟨px 0X12184886048818044881d7164500221c31b17301c2,[],[],[.cellN 3 256],[]⟩
def B2w:=A5u.R
def C4P:=mR B2w A5u (tT []) n [a0,a1] h
def C2a:=A5u.K Tryz.func27
def A5Z:=A5u.S
def C03:G0 B2w A5Z:=C2a.flat
def V7:FD A8:=⟨px 0X122a48860145f2e10432855020121a488601c3b21000322403f042031a1641842942031c41b422e219531c2,[],[],[.cellN 4 256],[D7 wW A5C,D7 A5Z C2a]⟩
def gE:=V7.R
def tR:K6:=V7.E
def A8i:TT:=⟨tR,[]⟩
def A36:=mR gE V7 A8i n [a0,a1] h
def E7:=V7.K Tryz.func52
def D8:=V7.S
def A2d:G0 gE D8:=E7.flat
def lJ:FD A8:=⟨px 0X126a1b65a1b3d1c21123cf13bf21b63b181b11e2801c3b2c3af2d0042234e1042134c15842e1c1b3842012481b603b3b211101322403f2e2a024f4241329f128f11ff5021e2811c2801a1f2c1ef1a004203381031802a1b2b1b1f1d1b01d23b41b422e219531c2,[],[],[.cellN 4 11],[D7 A29 A9l,D7 D8 E7,D7 A5X B15]⟩
def lW:=lJ.R
def A1r:=mR lW lJ (tT []) n [a0,a1] h
def K1:=lJ.K Tryz.func15
def F8:=lJ.S
def wV:G0 lW F8:=K1.flat
def aU:FD A8:=⟨px 0X139f205c390250000027238f1f052a02218024886181a4881d042134a14e4183e13e2a071829f40412384215030702441340121494200605110292c1d033f3d41c20131cf30004881c6b04005028192b5720192014882481500622410320103031801852b42942034884a03a2342,[],[],[.tmp 2],[D7 fJ jZ,D7 D8 E7]⟩
def vX:=aU.R
def A45:AtH:=aU.lj 0 n [m] [x1,x3,x14,x15]
def A52:=tT [⟨2,4,A45⟩]
def B2x:=mR vX aU A52 n [a0] h
def zU:=mL aU A52 0 n [m] [x1,x3,x14,x15] h
def A5B:=aU.K Tryz.func28
def wU:=aU.S
def B1H:A3T vX wU:=A5B.out
def S9:FD A8:=⟨px 0X12cf204a2c026000002722bf5053c02b4921802af3001813901011113e50022e12e161824103200790620350021a11e4181c63b427f4041244215011a07024313188901211d420060515011b418201314a174214a03a2342,[],[],[.tmp 2],[D7 F8 K1]⟩
def sU:=S9.R
def A2K:AtH:=S9.lj 0 n [m] [x1,x3,x5]
def B5p:AtH:=S9.lj 1 n [m] [x1,x3,x5]
def tI:=tT [⟨2,3,A2K⟩,⟨2,3,B5p⟩]
def B1x:=mR sU S9 tI n [a0] h
def yG:=mL S9 tI 0 n [m] [x1,x3,x5] h
def yF:=mJ S9 tI 1 n [m] [x1,x3,x5] h
def A3L:=S9.K Tryz.func85
def iZ:=S9.S
def A93:A3T sU iZ:=A3L.out
end
def IsView(h:A9)(f:Cell)(D:Dev):Prop:=∃ r q rw rw',f=.f 27 [(r,0)]/\rd h r=A4 ⟨[.sl q 0 (l_ D) 256],rw⟩/\rd h q=A4 ⟨E8 D,rw'⟩
def IsView.ro{h:A9}{f:Cell}{D:Dev}(hv:IsView h f D):IsView (ro h) f D:=by
 obtain ⟨r,q,rw,rw',e,h1,h2⟩:=hv;exact ⟨r,q,A6,A6,e,sR h1 rfl,sR h2 (cV D)⟩
def IsView.more(hv:IsView h f D)(l:A9):IsView (h++l) f D:=by
 obtain ⟨r,q,rw,rw',e,h1,h2⟩:=hv;exact ⟨r,q,rw,rw',e,B7 h1,B7 h2⟩
def IsView.since(hv:IsView g f D)(h1:Low (l_ g) g h):IsView h f D:=by
 obtain ⟨r,q,rw,rw',e,h2,h3⟩:=hv;exact ⟨r,q,rw,rw',e,h1.rd h2,h1.rd h3⟩
def IsView.get(hv:IsView h f D):∃ id cs,f=.f id cs:=by
 obtain ⟨r,q,rw,rw',e,_⟩:=hv;exact ⟨_,_,e⟩
def vwC(b n m:Int)(f:Cell):List Cell:=[cI b,cI n,.i .u64 m,f]
section
variable {D:Dev} {n m:Int} {f:Cell}
def C27{b:Int}:ldN (rT (vwC b n m f)) 0 3=A4 (.a (K9 b n m)):=rfl
def B6m{b:Int}:ldN (rT (vwC b n m f)) 0 4=A4 (.a (vwC b n m f)):=rfl
end
def D1m{q:Nat}{rw rw':Bool}{no:Nat}(hD:okD D)(Y3:no<l_ D)(h1:rd h r=A4 ⟨[.sl q 0 (l_ D) 256],rw⟩)(h2:rd h q=A4 ⟨E8 D,rw'⟩) :
  A5Z [iV (no:Int),pV r 0] h=A4 (.a (B5 D[no]),h):=by
 have key:∀ g rw rw',rd g r=A4 ⟨[.sl q 0 (l_ D) 256],rw⟩->rd g q=A4 ⟨E8 D,rw'⟩->∃ g',B2w 0 [iV (no:Int),pV r 0] g=A4 (.a (B5 D[no]),g'):=by
  intro g rw rw' h1 h2;have hz:(E55 256 (Cell.i .u8 0)).length=256:=E6y;have hB:(B5 D[no]).length=256:=by rw [B6,hD.at Y3]
  have l1:B9 (g++[rT (E55 256 (.i .u8 0))]) (pV r 0)=A4 (sV q 0 (l_ D) 256):=C4 (cs:=[.sl q 0 (l_ D) 256]) (B7 h1) rfl (by cases rw<;>rfl);have a1:E9 256 (sV q 0 (l_ D) 256) (iV (no:Int))=A4 (pV q (0+no*256)):=E3 Y3;have l2:D1 (g++[rT (E55 256 (.i .u8 0))]) 256 (pV q (0+no*256))=A4 (.a (B5 D[no])):=by
   rw [T1 (cs:=E8 D) (rw:=rw') (B7 h2) (by rw [I6 hD];omega) (by
    rw [E6j,pL hD Y3,W1];simp),E6j,pL hD Y3]
  rw [E6j] at a1 l2;rw [C4P];generalize E55 256 (Cell.i .u8 0)=z at *;generalize B5 D[no]=y at *;exact ⟨_,by simp only [esc,esh,l1,a1,l2,hz,hB]<;>rfl⟩
 obtain ⟨g',e⟩:=key (ro h) A6 A6 (sR h1 rfl) (sR h2 (cV D));exact C03 e (by simp [Val.flat])
def C8o{b:Int}{f:Nat}{cs:List (Nat × Nat)}:wW [.a (vwC b n m (.f f cs)),iV no] h=A4 (bV (decide (0<=no)&&decide (no<b)),h):=by
 have key:∀ g,∃ g',vY 0 [.a (vwC b n m (.f f cs)),iV no] g=A4 (bV (decide (0<=no)&&decide (no<b)),g'):=by
  intro g;rw [B2y];unfold vwC;by_cases c1:0<=no
  ·exact ⟨_,by simp only [esc,esh,c1]<;>rfl⟩
  ·exact ⟨_,by simp only [esc,esh,c1,E6p]<;>rfl⟩
 obtain ⟨g',e⟩:=key (ro h);exact A94 e rfl
def M7(hD:okD D)(hv:IsView h f D):D8 [.a (vwC (l_ D) n m f),iV no] h=A4 (.a (B5 (blk D no)),h):=by
 have key:∀ g,IsView g f D->∃ g',gE 0 [.a (vwC (l_ D) n m f),iV no] g=A4 (.a (B5 (blk D no)),g'):=by
  intro g hv;have hz:(B5 (zeros 256)).length=256:=by rw [B6];exact zeros_length
  have hB:(B5 (blk D no)).length=256:=by rw [B6,J9 hD]
  obtain ⟨r,q,rw',rw'',rfl,h1,h2⟩:=hv;have hT:=λh=>C8o (b:=l_ D) (n:=n) (m:=m) (no:=no) (f:=27) (cs:=[(r,0)]) (h:=h)
  have hcv:∀ (x:Val) (h:A9),aD tR (.c (.f 27 [(r,0)])) [x] h=A5Z [x,pV r 0] h:=λ_ _=>Eq.trans rfl rfl
  rw [A36,J3];by_cases c1:0<=no/\no<(l_ D)
  ·have c2:=c1.1;have c3:=c1.2;obtain ⟨k,rfl⟩:∃ k:Nat,no=k:=⟨no.toNat,by omega⟩;have e1:=B26 (D:=D) (i:=k) (by omega);have hO:=D1m (h:=g++[rT (vwC (l_ D) n m (.f 27 [(r,0)])),rT (B5 (zeros 256))]) hD (show k<(l_ D) by omega) (B7 h1) (B7 h2);rw [<-e1] at hO;simp only [c2,c3,decide_true,Bool.and_self] at hT;generalize B5 (zeros 256)=z at *;generalize B5 (blk D k)=y at *;unfold vwC at *;exact ⟨_,by simp only [esc,esh,Nat.reduceAdd,hT,hcv,hO,hz,hB]<;>rfl⟩
  ·have e1:=D8T (D:=D) (i:=no) (by omega);have ht:(decide (0<=no)&&decide (no<(l_ D:Int)))=A6:=by
    rw [Bool.and_eq_false_iff,decide_eq_false_iff_not,decide_eq_false_iff_not];omega
   simp only [ht] at hT;rw [e1] at hB ⊢;have ef:F5 (B5 (zeros 256)) []=A4 (B5 (zeros 256)):=rfl;generalize B5 (zeros 256)=z at *;unfold vwC at *;exact ⟨_,by simp only [esc,esh,Nat.reduceAdd,hT,ef,hz]<;>rfl⟩
 obtain ⟨g',e⟩:=key (ro h) hv.ro;exact A2d e (by simp [Val.flat])
def D0j{id m:Nat}{y:Val}(hr:rd h id=rT [])(hy:Has h y sz m ys)(hsz:0<sz)(hn:m<=1073741824) :
  tJ h sz (sV id 0 0 sz) y=A4 (sV (l_ h) 0 m sz,h.set id A7++[rT ys]):=by
 have h1:=hy.add;have h2:l_ ys/sz=m:=by rw [hy.length];exact Nat.mul_div_cancel m hsz
 simp only [tJ,h1,hr,E6h,h2,E6s,E6j];rw [if_pos ⟨trivial,trivial,by simp,trivial,hn⟩]
def B7e(D:Dev):Bool:=okS (D.headD [])&&decide (fieldN (D.headD []) 8 2=l_ D)
def B5l(D:Dev):Int:=fieldN (D.headD []) 10 2
def C3Q(D:Dev):Int:=fieldN (D.headD []) 12 8
def D3V(hv:Has h v 256 0 []):∃ t,uE [v] h=A4 (.t [.a (vwC 0 0 0 .nf),.c (cI 13)],h++t):=by
 have ef:F5 [o0,o0,.i .u64 0,.nf] []=A4 [o0,o0,.i .u64 0,.nf]:=rfl;have hl:=hv.len;rw [show ((0:Nat):Int)=0 from rfl] at hl;exact ⟨_,A3d (n:=0) (by rw [A26];simp only [esc,esh,Nat.reduceAdd,hl,ef,vwC]<;>rfl)⟩
def E1M(h:okS b=A6):D0K b=K9 0 0 0:=by unfold D0K;rw [h];rfl
def D58(h:okS b=A5):D0K b=K9 (fieldN b 8 2) (fieldN b 10 2) (fieldN b 12 8):=by unfold D0K;rw [h];rfl
def D5E(hv:Has h v 256 (l_ D) (E8 D))(hD:okD D)(h0:0<l_ D)(hn:B7e D=A6):∃ t,uE [v] h=A4 (.t [.a (vwC 0 0 0 .nf),.c (cI 13)],h++t):=by
 have ef:F5 [o0,o0,.i .u64 0,.nf] []=A4 [o0,o0,.i .u64 0,.nf]:=rfl;have hl:=hv.len;have hv2:=hv.more [rT [o0,o0,.i .u64 0,.nf]];obtain ⟨b,E,rfl⟩:∃ b E,D=b::E:=by cases D with | nil=>simp at h0 | cons b E=>exact ⟨b,E,rfl⟩
 obtain ⟨id,off,rfl,hid,_,hB⟩:=hv2.sl h0;have hBl:(B5 b).length=256:=by rw [B6,hD.cons.1]
 have l2:=hB 0 256 (by rw [I6 hD];omega);have ec:((E8 (b::E)).drop 0).take 256=B5 b:=by
  have:=pL (i:=0) hD h0
  rwa [Nat.zero_mul] at this
 rw [ec,E7a] at l2;have a1:E9 256 (sV id off (b::E).length 256) (iV 0)=A4 (pV id off):=by
  have:=E3 (k:=.i64) (id:=id) (off:=off) (sz:=256) (j:=0) (len:=(b::E).length) h0
  rwa [Nat.zero_mul,E7a] at this
 have hG:=λh=>B0N (h:=h) hD.cons.1
 have c0:¬ (((b::E).length:Nat):Int)=0:=by omega
 have n13:¬ (13:Int)=0:=by decide
 unfold B7e at hn;simp only [List.headD_cons] at hn;cases ho:okS b with
 | false =>
  simp only [ho,E1M ho,cond_false] at hG;refine ⟨[rT [o0,o0,.i .u64 0,.nf],rT [o0,o0,.i .u64 0]],A3d (n:=0) ?_⟩;rw [A26];generalize (b::E).length=N at *;generalize B5 b=y at *;unfold K9 at *;simp only [esc,esh,Nat.reduceAdd,ef,vwC,l2,a1,hG,n13,eq_self,c0]<;>rfl
 | true =>
  rw [ho,E6t] at hn
  replace hn:=of_decide_eq_false hn
  simp only [ho,D58 ho,cond_true] at hG;refine ⟨[rT [o0,o0,.i .u64 0,.nf],rT [cI (fieldN b 8 2),cI (fieldN b 10 2),.i .u64 (fieldN b 12 8)]],A3d (n:=0) ?_⟩;rw [A26];generalize (b::E).length=N at *;generalize B5 b=y at *;generalize fieldN b 8 2=n1 at *;unfold K9 at *;simp only [esc,esh,Nat.reduceAdd,ef,vwC,l2,a1,hG,eq_self,c0,hn]<;>rfl
def D3U(hv:Has h v 256 (l_ D) (E8 D))(hD:okD D)(hn:B7e D=A6):∃ t,uE [v] h=A4 (.t [.a (vwC 0 0 0 .nf),.c (cI 13)],h++t):=by
 by_cases h0:D=[]
 ·subst h0;exact D3V hv
 ·exact D5E hv hD (List.length_pos_iff.2 h0) hn
def B0O(hv:Has h v 256 (l_ D) (E8 D))(hD:okD D)(hn:B7e D=A5)(h60:l_ D<=1073741824) :
  ∃ f t,uE [v] h=A4 (.t [.a (vwC (l_ D) (B5l D) (C3Q D) f),.c o0],h++t)/\IsView (h++t) f D:=by
 obtain ⟨b,E,rfl⟩:∃ b E,D=b::E:=by
  cases D with
  | nil=>simp only [B7e,List.headD_nil,E6E,E53] at hn;exact absurd hn.1 (by decide)
  | cons b E=>exact ⟨b,E,rfl⟩
 have h0:0<(b::E).length:=by simp
 have hv2:=hv.more [rT [o0,o0,.i .u64 0,.nf]];unfold B7e at hn;simp only [List.headD_cons,E53] at hn;have ho:=hn.1;have hn2:=of_decide_eq_true hn.2;have hv3:=hv.more [rT [o0,o0,.i .u64 0,.nf],rT (K9 (b::E).length (fieldN b 10 2) (fieldN b 12 8)),rT []];obtain ⟨id,off,rfl,hid,_,hB⟩:=hv2.sl h0;have hBl:(B5 b).length=256:=by rw [B6,hD.cons.1]
 have l2:=hB 0 256 (by rw [I6 hD];omega);have ec:((E8 (b::E)).drop 0).take 256=B5 b:=by
  have:=pL (i:=0) hD h0
  rwa [Nat.zero_mul] at this
 rw [ec,E7a] at l2;have a1:E9 256 (sV id off (b::E).length 256) (iV 0)=A4 (pV id off):=by
  have:=E3 (k:=.i64) (id:=id) (off:=off) (sz:=256) (j:=0) (len:=(b::E).length) h0
  rwa [Nat.zero_mul,E7a] at this
 have hG:=λh=>B0N (h:=h) hD.cons.1
 have c0:¬ (((b::E).length:Nat):Int)=0:=by omega
 have n13:¬ (13:Int)=0:=by decide
 simp only [ho,D58 ho,cond_true,hn2] at hG;have eN:B5l (b::E)=fieldN b 10 2:=rfl;have eM:C3Q (b::E)=fieldN b 12 8:=rfl;have hA:=D0j (id:=l_ h+2) (by simp) hv3 (by omega) h60;have ef1:F5 ([]:List Cell) []=A4 []:=rfl;have W5:id<(l_ h):=by
  rcases hv with ⟨e,_⟩ | ⟨i,o,r,e,hr,_⟩
  ·cases e
  ·cases e;exact E1 hr
 rw [eN,eM];unfold IsView;generalize E8 (b::E)=C at *;have emk:A3f 27 [pV (l_ h+4) 0]=A4 (.c (.f 27 [(l_ h+4,0)])):=rfl;refine ⟨.f 27 [(l_ h+4,0)],[rT (vwC (b::E).length (fieldN b 10 2) (fieldN b 12 8) (.f 27 [(l_ h+4,0)])),rT (K9 (b::E).length (fieldN b 10 2) (fieldN b 12 8)),A7,rT C,rT [.sl (l_ h+3) 0 (b::E).length 256]],A3d (n:=0) ?_,l_ h+4,l_ h+3,A5,A5,rfl,qK,qK⟩;rw [A26];generalize (b::E).length=N at *;generalize B5 b=y at *;generalize fieldN b 10 2=n1 at *;generalize fieldN b 12 8=n2 at *;have ef2:∀ x,F5 [o0,o0,.i .u64 0,.nf] [(0,3,.a [cI (N:Int),cI n1,.i .u64 n2]),(3,1,.c x)]=A4 [cI (N:Int),cI n1,.i .u64 n2,x]:=λ_=>rfl
 unfold K9 vwC at *;simp only [esc,esh,Nat.reduceAdd] at hA;simp only [esc,esh,Nat.reduceAdd,Nat.reduceLT,l2,a1,hG,eq_self,c0,hA,ef1,ef2,emk]<;>rfl
section
variable (n m m2:Nat) (a0 a1:Val) (h:A9)
def vK:FD A8:=⟨px 0X118f20306191889011b1a71b701104261700523201042,[],[],[.tmp 2],[]⟩
def A34:=vK.R
def B73:=mR A34 vK (tT []) n [a0] h
def B11:=vK.K Tryz.func138
def A4l:=vK.S
def B5h:G0 A34 A4l:=B11.flat
def A20:FD A8:=⟨px 0X11bf401906313019622811c488181c50201140160000722403f010318131f4203140422e253182,[],[],[.tmp 4],[D7 A4l B11,D7 A1x A7N]⟩
def A9I:=A20.R
def C3t:=mR A9I A20 (tT []) n [a0,a1] h
def A25:=A20.K Tryz.func96
def pI:=A20.S
def C3J:SOk A8 96 pI:=A25.sok
def B8v:G0 A9I pI:=A25.flat
end
def ptP(b:List UInt8)(i:Nat):Int:=fieldN b (2*i) 2
def C3Z(hk:k<128):A4l [iV k] h=A4 (bV A5,h):=by
 have key:∀ g,∃ g',A34 0 [iV k] g=A4 (bV A5,g'):=by
  intro g;have c1:(0:Int)<=k:=by omega
  have c2:(k:Int)<128:=by omega
  rw [B73];exact ⟨_,by simp only [esc,c1,c2]<;>rfl⟩
 obtain ⟨g',e⟩:=key (ro h);exact B5h e rfl
def E36(hb:l_ b=256)(hi:i<128):((atN b ((2*i:Nat):Int) 2:Nat):Int)=ptP b i:=by
 unfold atN ptP fieldN;rw [if_pos ⟨by omega,Y1.2 (by omega)⟩];simp only [E6q];rfl
def E0W(hi:i<128):E6a .i64 (2*(i:Int))=((2*i:Nat):Int):=by rw [wrap_i64 (by omega) (by omega)];omega
def A7C(hb:l_ b=256)(hk:k<128):pI [.a (B5 b),iV k] h=A4 (iV (ptP b k),h):=by
 have key:∀ g,∃ g',A9I 0 [.a (B5 b),iV k] g=A4 (iV (ptP b k),g'):=by
  intro g;have hB:(B5 b).length=256:=by rw [B6,hb]
  have hT:=λh=>C3Z (h:=h) hk
  have hA:=λh=>pQ (h:=h) hb (a:=((2*k:Nat):Int)) (w:=2)
  rw [E36 hb hk] at hA;rw [C3t];exact ⟨_,by simp only [esc,esh,hB,hT,E0W hk,hA]<;>rfl⟩
 obtain ⟨g',e⟩:=key (ro h);exact B8v e rfl
def zI(n:Nat):List Int:=E55 n 0
def N2{n:Nat}:(zI n).length=n:=by simp [zI]
abbrev C8(k l s p:Int)(d:List Int):List Cell:=cI k::cI l::cI s::cI p::encI d
def V0(n:Int):Bool:=decide (0<=n)&&decide (n<=65535)
def A6t:V0 n=A5↔0<=n/\n<=65535:=by unfold V0;simp
def aH:A7e [iV n] h=A4 (bV (V0 n),h):=by
 refine B6P (n:=0) (h2:=ro h) ?_ rfl;rw [C0r];unfold V0;by_cases c:0<=n
 ·simp only [esc,c,E6t]
 ·simp only [esc,c,E6p]
def B1f:wR [iV n] h=A4 (iV (if n<1 then 0 else if 34304<n then 134 else (n+255)/256),h):=by
 refine B5g (n:=0) (h2:=ro h) ?_ rfl;rw [B71];by_cases c1:n<1
 ·rw [if_pos c1];simp only [esc,c1]
 ·rw [if_neg c1];by_cases c2:34304<n
  ·rw [if_pos c2];simp only [esc,c1,c2]
  ·rw [if_neg c2];have e1:E6a .i64 (n+256)=n+256:=wrap_i64 (by omega) (by omega);have e2:E6a .i64 (n+256-1)=n+255:=by rw [wrap_i64 (by omega) (by omega)];omega
   simp only [esc,c1,c2,e1,e2,B0F (a:=n+255) (b:=256) (by omega) (by omega) (by omega)]
def B9C{g:A9}{k l s p:Int}{d:List Int}{z:List Cell}{q:Nat}(hd:l_ d=7)(hz:z.length=7):∀ e i m:Nat,i+e=6->e<m ->
  A8T q m (pV (l_ g) 0) (pV (l_ g+1) 0) (pV (l_ g+2) 0) (.a (encI (d.take 6))) (iV i) (g++[rT (C8 k l s p d),rT z,rT (encI (d.take i++zI (7-i)))]) =
   A4 (.a (encI d),g++[rT (C8 k l s p d),rT (encI d),rT (encI d)])
 | e,i,0,_,hm=>by omega
 | 0,i,m+1,hi,hm=>by
  have e0:i=6:=by omega
  subst e0;have h1':¬ ((6:Nat):Int)<6:=by omega
  have l1:(C8 k l s p d)[10]?=A4 (cI d[6]):=by
   have:(encI d)[6]?=A4 (cI d[6]):=by rw [G6,E51 (by omega)];rfl
   exact this
  have a1:K5 7 1 (pV (l_ g+2) 0) (iV 6)=A4 (pV (l_ g+2) 6):=rfl;have ho:6<(encI (d.take 6++zI (7-6))).length:=by rw [C1,E58,N2,E6A];omega
  have es:(encI (d.take 6++zI (7-6))).set 6 (cI d[6])=encI d:=by
   rw [A1H]
   congr 1
   have h6:(d.take 6).length=6:=by simp;omega
   rw [E6O _ _ (by omega),h6];have:d=d.take 6++[d[6]]:=by
    rw [<-E6x (by omega),E6l (by omega)]
   conv=>rhs;rw [this]
   rfl
  have hl:(encI d).length=7:=by rw [C1,hd]
  rw [A2E];simp only [esc,esh,h1',l1,a1,ho,es,hl,hz]
 | e+1,i,m+1,hi,hm=>by
  have ih:=B9C (g:=g) (k:=k) (l:=l) (s:=s) (p:=p) (q:=q) hd hz e (i+1) m (by omega) (by omega);have h1':(i:Int)<6:=by omega
  have hx:A4t 6 (.a (encI (d.take 6))) (iV (i:Int))=A4 (iV d[i]):=by
   rw [B3I (by omega),G6,E6L (by omega),E51 (by omega)];rfl
  have a1:K5 7 1 (pV (l_ g+2) 0) (iV (i:Int))=A4 (pV (l_ g+2) i):=by rw [Q1 (by omega)];simp
  have ho:i<(encI (d.take i++zI (7-i))).length:=by rw [C1,E58,N2,E6A];omega
  have es:(encI (d.take i++zI (7-i))).set i (cI d[i])=encI (d.take (i+1)++zI (7-(i+1))):=by
   rw [A1H];refine congrArg encI ?_;have h6:(d.take i).length=i:=by simp;omega
   rw [E6O _ _ (by omega),h6,E67,E6x (by omega),E6d];refine congrArg (d.take i ++ ·) ?_;rw [show 7-i=7-(i+1)+1 by omega];unfold zI;rw [E6D,E7c];rfl
  rw [A2E];simp only [esc,esh,h1',hx,a1,ho,es,D9 (a:=i) (by omega)];exact ih
def E1J{k s:Int}{d:List Int}(hd:l_ d=7):ldN (rT (C8 k l s p d)) 4 6=A4 (.a (encI (d.take 6))):=by
 have h1:(C8 k l s p d).length=11:=by simp [C1,hd]
 simp only [ldN,E6h];rw [if_pos ⟨by omega,by simp⟩];simp only [List.drop_succ_cons,E6i];unfold encI;rw [List.map_take]
def A0y{k s:Int}{d:List Int}(hd:l_ d=7):sQ [.a (C8 k l s p d)] h=A4 (.a (encI d),h):=by
 have key:∀ N,7<N->∀ g,∃ g',A2b N [.a (C8 k l s p d)] g=A4 (.a (encI d),g'):=by
  intro N hN g;have:=B9C (g:=g) (k:=k) (l:=l) (s:=s) (p:=p) (z:=encI (zI 7)) (q:=N) hd (by rw [C1,N2]) 6 0 N (by omega) (by omega);have e0:encI (d.take 0++zI (7-0))=[o0,o0,o0,o0,o0,o0,o0]:=rfl;have e1:encI (zI 7)=[o0,o0,o0,o0,o0,o0,o0]:=rfl;rw [e0,e1] at this;rw [B6v];exact ⟨_,by simp only [esc,esh,Nat.reduceAdd,E1J hd];exact this⟩
 obtain ⟨g',e⟩:=key (l_ h+8) (by omega) (ro h);exact B2Q e (by simp)
def D3Z(l s p:Int)(d:List Int):Bool:=decide (l=0/\s=0/\p=0/\d=zI 7)
def B9O(k l s p:Int)(d:List Int):Bool:=decide (0<=k/\k<=2)&&(V0 l&&(V0 p&&(decide (0<=s/\s<=34304)&&d.all V0)))
def A5k(k l s p:Int)(d:List Int):Bool:=if k=0 then D3Z l s p d else B9O k l s p d
def C2x{h:A9}{d:List Int}{q:Nat}(hd:l_ d=7):∀ e i m:Nat,i+e=7->e<m ->
  B3Q q m (.a (encI d)) (iV i) h=A4 (iV (bif (d.drop i).all V0 then 0 else 1),h)
 | e,i,0,_,hm=>by omega
 | 0,i,m+1,hi,hm=>by
  have c0:¬ (i:Int)<7:=by omega
  rw [A6q,E6f (by omega)];simp only [esc,c0]
 | e+1,i,m+1,hi,hm=>by
  have ih:=C2x (h:=h) (q:=q) hd e (i+1) m (by omega) (by omega);have c0:(i:Int)<7:=by omega
  have hx:A4t 7 (.a (encI d)) (iV (i:Int))=A4 (iV d[i]):=by
   rw [B3I (by omega),G6,E51 (by omega)];rfl
  rw [A6q,E6b (by omega),E62];cases c1:V0 d[i] with
  | true =>
   simp only [esc,c0,hx,aH,c1,E6t,D9 (a:=i) (by omega)];exact ih
  | false=>simp only [esc,c0,hx,aH,c1,E6p]
def E05{k s k' l' s' p':Int}{d d':List Int}{neg:Bool}(hd:l_ d=7)(hd':d'.length=7) :
  aeq neg [Sh.i .i64,.i .i64,.i .i64,.i .i64,.i .i64,.i .i64,.i .i64,.i .i64,.i .i64,.i .i64,.i .i64] (.a (C8 k l s p d)) (.a (C8 k' l' s' p' d'))=A4 (bV (bif neg then !decide (k::l::s::p::d=k'::l'::s'::p'::d') else decide (k::l::s::p::d=k'::l'::s'::p'::d'))):=by
 have h1:=D8C (l:=k::l::s::p::d) (m:=k'::l'::s'::p'::d') (n:=11) (by simp [hd]) (by simp [hd']);have h2:=D8B (l:=k::l::s::p::d) (m:=k'::l'::s'::p'::d') (n:=11) (by simp [hd]) (by simp [hd']);cases neg
 ·exact h2
 ·exact h1
def E0Y{s:Int}{d:List Int}:decide ((0:Int)::l::s::p::d=0::0::0::0::zI 7)=D3Z l s p d:=by
 unfold D3Z;simp
def C05:F5 [o0,o0,o0,o0,o0,o0,o0,o0,o0,o0,o0] []=A4 (C8 0 0 0 0 (zI 7)):=rfl
def B3P{k s:Int}{d:List Int}(hd:l_ d=7):A7c [.a (C8 k l s p d)] h=A4 (iV (bif A5k k l s p d then 0 else 1),h):=by
 have hlen:(C8 k l s p d).length=11:=by simp [C1,hd]
 have key:∀ N,8<N->∀ g,∃ g',A6V N [.a (C8 k l s p d)] g=A4 (iV (bif A5k k l s p d then 0 else 1),g'):=by
  intro N hN g;have lp:=λg=>C2x (h:=g) (q:=N) hd 7 0 N (by omega) (by omega)
  simp only [E6i,E7d] at lp;rw [C0p];unfold A5k;by_cases k0:k=0
  ·subst k0;rw [if_pos rfl];have c1:¬ (0:Int)<0:=by omega
   have c2:¬ (2:Int)<0:=by omega
   have hq:=E05 (k:=0) (l:=l) (s:=s) (p:=p) (k':=0) (l':=0) (s':=0) (p':=0) (neg:=A5) hd (N2 (n:=7));simp only [cond_true,E0Y] at hq;cases hz:D3Z l s p d with
   | false =>
    rw [hz] at hq;exact ⟨_,by simp only [esc,esh,c1,c2,hlen,C05,hq]<;>rfl⟩
   | true =>
    rw [hz] at hq;have hz':=of_decide_eq_true hz;obtain ⟨rfl,rfl,rfl,rfl⟩:=hz';have sm:V0 0=A5:=by decide
    have al:(zI 7).all V0=A5:=by decide
    have c3:¬ (34304:Int)<0:=by omega
    rw [al] at lp;exact ⟨_,by simp only [esc,esh,c1,c2,c3,hlen,C05,hq,aH,sm,A0y hd,lp]<;>rfl⟩
  ·rw [if_neg k0];unfold B9O;by_cases c1:k<0
   ·rw [decide_eq_false (show ¬ (0<=k/\k<=2) by omega)];exact ⟨_,by simp only [esc,esh,c1,E6p]<;>rfl⟩
   ·by_cases c2:2<k
    ·rw [decide_eq_false (show ¬ (0<=k/\k<=2) by omega)];exact ⟨_,by simp only [esc,esh,c1,c2,E6p]<;>rfl⟩
    ·rw [decide_eq_true (show 0<=k/\k<=2 by omega),E6t];cases sl:V0 l with
     | false=>exact ⟨_,by simp only [esc,esh,c1,c2,k0,aH,sl,E6p]<;>rfl⟩
     | true =>
      cases sp:V0 p with
      | false=>exact ⟨_,by simp only [esc,esh,c1,c2,k0,aH,sl,sp,E6t,E6p]<;>rfl⟩
      | true =>
       by_cases c3:s<0
       ·rw [decide_eq_false (show ¬ (0<=s/\s<=34304) by omega)];exact ⟨_,by simp only [esc,esh,c1,c2,k0,aH,sl,sp,c3,E6t,E6p]<;>rfl⟩
       ·by_cases c4:34304<s
        ·rw [decide_eq_false (show ¬ (0<=s/\s<=34304) by omega)];exact ⟨_,by simp only [esc,esh,c1,c2,k0,aH,sl,sp,c3,c4,E6t,E6p]<;>rfl⟩
        ·rw [decide_eq_true (show 0<=s/\s<=34304 by omega)];exact ⟨_,by simp only [esc,esh,c1,c2,k0,aH,sl,sp,c3,c4,E6t,hlen,A0y hd,lp]<;>rfl⟩
 obtain ⟨g',e⟩:=key (l_ h+9) (by omega) (ro h);exact B6N e rfl
def A5j(k l s p:Int):List UInt8:=D4 1 k++zeros 1++D4 2 l++D4 4 s++D4 2 p
def rY(d:List Int):List UInt8:=(d.map (D4 2)).flatten
def cF(k l s p:Int)(d:List Int):List UInt8:=A5j k l s p++rY d++zeros 8
def oK{k s:Int}:(A5j k l s p).length=10:=by simp [A5j]
def uN{d:List Int}:(rY d).length=2*(l_ d):=by
 unfold rY
 induction d with
 | nil=>rfl
 | cons x d ih=>simp only [E6N,E65,E58,R2,E6g,ih];omega
def A1S{k s:Int}{d:List Int}(hd:l_ d=7):(cF k l s p d).length=32:=by
 unfold cF;rw [E58,E58,oK,uN,zeros_length,hd]
def D7l{d:List Int}{x:Int}:rY (d++[x])=rY d++D4 2 x:=by simp [rY]
def D7m{k s:Int}:jR (jR (jR (jR (zeros 256) 0 1 k) 2 2 l) 4 4 s) 8 2 p=R0 256 (A5j k l s p):=by
 rw [<-E0g];have h1:=kF (l:=[]) (a:=0) (w:=1) (v:=k) (by simp) (by omega) (by omega) (by omega);have h2:=kF (l:=[]++zeros (0-0)++D4 1 k) (a:=2) (w:=2) (v:=l) (by simp) (by omega) (by omega) (by omega);have h3:=kF (l:=[]++zeros (0-0)++D4 1 k++zeros 1++D4 2 l) (a:=4) (w:=4) (v:=s) (by simp) (by omega) (by omega) (by omega);have h4:=kF (l:=[]++zeros (0-0)++D4 1 k++zeros 1++D4 2 l++zeros 0++D4 4 s) (a:=8) (w:=2) (v:=p) (by simp) (by omega) (by omega) (by omega);simp only [E58,E6E,zeros_length,R2,E67,Nat.reduceAdd,Nat.reduceSub] at h1 h2 h3 h4;simp only [E7d] at h1 h2 h3 h4;rw [h1,h2,h3,h4]
 congr 1
def D3i{g:A9}{c0:List Cell}{B:List UInt8}{z:List Cell}{q:Nat}(hB:l_ B=256)(hz:z.length=32):∀ e i m:Nat,i+e=32->e<m ->
  B9f q m (pV (l_ g+1) 0) (pV (l_ g+2) 0) (pV (l_ g+3) 0) (iV i) (g++[rT c0,rT z,rT (B5 (B.take i++zeros (32-i))),rT (B5 B)]) =
   A4 (.t [.a (B5 (B.take 32)),.c o0],g++[rT c0,rT (B5 (B.take 32)),rT (B5 (B.take 32)),rT (B5 B)])
 | e,i,0,_,hm=>by omega
 | 0,i,m+1,hi,hm=>by
  have e0:i=32:=by omega
  subst e0;have h1':¬ ((32:Nat):Int)<32:=by omega
  have hl:(B5 (B.take 32)).length=32:=by rw [B6,E6A];omega
  have e1:B5 (B.take 32++zeros (32-32))=B5 (B.take 32):=by simp [zeros]
  rw [B1i,e1];simp only [esc,esh,h1',hl,hz]
 | e+1,i,m+1,hi,hm=>by
  have ih:=D3i (g:=g) (c0:=c0) (q:=q) hB hz e (i+1) m (by omega) (by omega);have h1':(i:Int)<32:=by omega
  have a1:K5 256 1 (pV (l_ g+3) 0) (iV (i:Int))=A4 (pV (l_ g+3) i):=by rw [Q1 (by omega)];simp
  have a2:K5 32 1 (pV (l_ g+2) 0) (iV (i:Int))=A4 (pV (l_ g+2) i):=by rw [Q1 (by omega)];simp
  have l1:(B5 B)[i]?=A4 (.i .u8 B[i].toNat):=by rw [A1G,E51 (by omega)];rfl
  have ho:i<(B5 (B.take i++zeros (32-i))).length:=by rw [B6,E58,zeros_length,E6A];omega
  have es:(B5 (B.take i++zeros (32-i))).set i (.i .u8 B[i].toNat)=B5 (B.take (i+1)++zeros (32-(i+1))):=by
   rw [oC];refine congrArg B5 ?_;have h6:(B.take i).length=i:=by simp;omega
   rw [E6O _ _ (by omega),h6,E67,E6x (by omega),E6d];refine congrArg (B.take i ++ ·) ?_;rw [show 32-i=32-(i+1)+1 by omega];unfold zeros;rw [E6D,E7c];rfl
  rw [B1i];simp only [esc,esh,h1',a1,a2,l1,ho,es,D9 (a:=i) (by omega)];exact ih
def D3j{g:A9}{k l s p:Int}{d:List Int}{c0 z:List Cell}{q:Nat}(hd:l_ d=7)(hz:z.length=32)(hq:33<q):∀ e i m:Nat,i+e=7->e<m ->
  B9e q m (pV (l_ g+1) 0) (pV (l_ g+2) 0) (pV (l_ g+3) 0) (.a (encI d)) (iV i) (g++[rT c0,rT z,rT (B5 (zeros 32)),rT (B5 (R0 256 (A5j k l s p++rY (d.take i))))]) =
   A4 (.t [.a (B5 (cF k l s p d)),.c o0],g++[rT c0,rT (B5 (cF k l s p d)),rT (B5 (cF k l s p d)),rT (B5 (R0 256 (A5j k l s p++rY d)))])
 | e,i,0,_,hm=>by omega
 | 0,i,m+1,hi,hm=>by
  have e0:i=7:=by omega
  subst e0;have h1':¬ ((7:Nat):Int)<7:=by omega
  rw [E6l (by omega)];have hlen:(A5j k l s p++rY d).length=24:=by rw [E58,oK,uN,hd]
  have:=D3i (g:=g) (c0:=c0) (z:=z) (q:=q) (B:=R0 256 (A5j k l s p++rY d)) (I3 (by omega)) hz 32 0 q (by omega) (by omega);have e1:(R0 256 (A5j k l s p++rY d)).take 32=cF k l s p d:=by
   unfold R0 cF;rw [List.take_append,E6l (by omega),hlen];refine congrArg (A5j k l s p++rY d ++ ·) ?_;unfold zeros;rw [List.take_replicate];rfl
  rw [e1] at this;simp only [E6S,E6s,Nat.sub_zero] at this;rw [B1h];simp only [esc,h1'];exact this
 | e+1,i,m+1,hi,hm=>by
  have ih:=D3j (g:=g) (k:=k) (l:=l) (s:=s) (p:=p) (c0:=c0) hd hz hq e (i+1) m (by omega) (by omega);have h1':(i:Int)<7:=by omega
  have hx:A4t 7 (.a (encI d)) (iV (i:Int))=A4 (iV d[i]):=by
   rw [B3I (by omega),G6,E51 (by omega)];rfl
  have hlen:(A5j k l s p++rY (d.take i)).length=10+2*i:=by rw [E58,oK,uN,E6A];omega
  have hL:(B5 (R0 256 (A5j k l s p++rY (d.take i)))).length=256:=by rw [B6,I3 (by omega)]
  have e2:E6a .i64 (2*(i:Int))=((2*i:Nat):Int):=by rw [wrap_i64 (by omega) (by omega)];omega
  have e3:E6a .i64 (10+((2*i:Nat):Int))=((10+2*i:Nat):Int):=by rw [wrap_i64 (by omega) (by omega)];omega
  have hw:=aK (l:=R0 256 (A5j k l s p++rY (d.take i))) (h:=g++[rT c0,rT z,rT (B5 (zeros 32)),rT (B5 (R0 256 (A5j k l s p++rY (d.take i))))]) (I3 (by omega)) (a:=((10+2*i:Nat):Int)) (w:=2) (v:=d[i]);have e4:=kF (l:=A5j k l s p++rY (d.take i)) (a:=10+2*i) (w:=2) (v:=d[i]) (by omega) (by omega) (by omega) (by omega);rw [show ((2:Nat):Int)=2 from rfl,hlen,E67,show zeros 0=[] from rfl,E6k,E6d,<-D7l,<-E6x (by omega)] at e4;rw [e4] at hw;have hL':(B5 (R0 256 (A5j k l s p++rY (d.take (i+1))))).length=256:=by
   rw [B6,I3 (by rw [E58,oK,uN,E6A];omega)]
  rw [B1h];simp only [esc,esh,h1',hx,hL,e2,e3,hw,hL',D9 (a:=i) (by omega)];exact ih
def B9d{k s:Int}{d:List Int}(hd:l_ d=7) :
  A5R [.a (C8 k l s p d)] h=A4 (.t [.a (B5 (bif A5k k l s p d then cF k l s p d else zeros 32)),.c (cI (bif A5k k l s p d then 0 else 1))],h):=by
 have hlen:(C8 k l s p d).length=11:=by simp [C1,hd]
 have key:∀ N,33<N->∀ g,∃ g',B2k N [.a (C8 k l s p d)] g=A4 (.t [.a (B5 (bif A5k k l s p d then cF k l s p d else zeros 32)),.c (cI (bif A5k k l s p d then 0 else 1))],g'):=by
  intro N hN g;have hz:(B5 (zeros 32)).length=32:=by rw [B6];exact zeros_length
  have hz2:(B5 (zeros 256)).length=256:=by rw [B6];exact zeros_length
  rw [C4C,J3,J3];cases c:A5k k l s p d with
  | false =>
   generalize zeros 32=z at *;generalize zeros 256=y at *;exact ⟨_,by simp only [esc,esh,Nat.reduceAdd,hlen,B3P hd,c,hz,Int.reduceEq]<;>rfl⟩
  | true =>
   have:=D3j (g:=g) (k:=k) (l:=l) (s:=s) (p:=p) (c0:=C8 k l s p d) (z:=B5 (zeros 32)) (q:=N) hd hz hN 7 0 N (by omega) (by omega);simp only [E6S,show rY []=[] from rfl,E6k] at this;have w1:=λh=>aK (h:=h) (l:=zeros 256) zeros_length (a:=0) (w:=1) (v:=k)
   have w2:=λh=>aK (h:=h) (l:=jR (zeros 256) 0 1 k) (V5 zeros_length) (a:=2) (w:=2) (v:=l)
   have w3:=λh=>aK (h:=h) (l:=jR (jR (zeros 256) 0 1 k) 2 2 l) (V5 (V5 zeros_length)) (a:=4) (w:=4) (v:=s)
   have w4:=λh=>aK (h:=h) (l:=jR (jR (jR (zeros 256) 0 1 k) 2 2 l) 4 4 s) (V5 (V5 (V5 zeros_length))) (a:=8) (w:=2) (v:=p)
   have l1:(B5 (jR (zeros 256) 0 1 k)).length=256:=by rw [B6,V5 zeros_length]
   have l2:(B5 (jR (jR (zeros 256) 0 1 k) 2 2 l)).length=256:=by rw [B6,V5 (V5 zeros_length)]
   have l3:(B5 (jR (jR (jR (zeros 256) 0 1 k) 2 2 l) 4 4 s)).length=256:=by rw [B6,V5 (V5 (V5 zeros_length))]
   have l4:(B5 (R0 256 (A5j k l s p))).length=256:=by rw [B6,I3 (by rw [oK];omega)]
   simp only [D7m] at w4;generalize zeros 32=z at *;generalize zeros 256=y at *;exact ⟨_,by simp only [esc,esh,Nat.reduceAdd,hlen,B3P hd,c,hz,hz2,w1,w2,w3,w4,l1,l2,l3,l4,A0y hd];exact this⟩
 obtain ⟨g',e⟩:=key (l_ h+34) (by omega) (ro h);exact C0N e (by simp)
def B1M(b:List UInt8):Int:=fieldN b 0 1
def B3D(b:List UInt8):Int:=fieldN b 2 2
def B3F(b:List UInt8):Int:=fieldN b 4 4
def B3E(b:List UInt8):Int:=fieldN b 8 2
def bM(b:List UInt8):List Int:=(E6z 7).map λj=>fieldN b (10+2*j) 2
def M6:(bM b).length=7:=by simp [bM]
def C1t(hi:i<7):(bM b)[i]?=A4 (fieldN b (10+2*i) 2):=by simp [bM,hi]
def C6o{k s x:Int}{d:List Int}:(C8 k l s p d).set (4+i) (cI x)=C8 k l s p (d.set i x):=by
 rw [show 4+i=i+1+1+1+1 by omega];simp only [C8,List.set_cons_succ,A1H]
def B9Y{D:List Int}(hD:l_ D=7)(hi:i<7):(D.take i++zI (7-i)).set i D[i]=D.take (i+1)++zI (7-(i+1)):=by
 have h6:(D.take i).length=i:=by simp;omega
 rw [E6O _ _ (by omega),h6,E67,E6x (by omega),E6d];refine congrArg (D.take i ++ ·) ?_;rw [show 7-i=7-(i+1)+1 by omega];unfold zI;rw [E6D,E7c];rfl
def C9g{g:A9}{b:List UInt8}{k l s p:Int}{c0 z:List Cell}{q:Nat}(hb:l_ b=32)(hz:z.length=11):∀ e i m:Nat,i+e=6->e<m ->
  B9c q m (pV (l_ g+1) 0) (pV (l_ g+2) 0) (pV (l_ g+3) 0) (iV i) (g++[rT c0,rT z,rT (B5 (R0 256 b)),rT (C8 k l s p ((bM b).take i++zI (7-i)))]) =
   A4 (.a (C8 k l s p (bM b)),g++[rT c0,rT (C8 k l s p (bM b)),rT (B5 (R0 256 b)),rT (C8 k l s p (bM b))])
 | e,i,0,_,hm=>by omega
 | 0,i,m+1,hi,hm=>by
  have e0:i=6:=by omega
  subst e0;have h1':¬ ((6:Nat):Int)<6:=by omega
  have hX:(B5 (R0 256 b)).length=256:=by rw [B6,I3 (by omega)]
  have ha:=λh=>pQ (h:=h) (l:=R0 256 b) (I3 (by omega)) (a:=22) (w:=2)
  have e1:=D39 (b:=b) (a:=22) (w:=2) (by omega) (by omega) (by omega) (by omega);simp only [E7d] at e1;simp only [e1] at ha;have ho:(encI ((bM b).take 6++zI (7-6))).length=7:=by simp [C1,M6,N2]
  have hg6:(bM b)[6]'(by rw [M6];omega)=fieldN b 22 2:=by
   have:=C1t (b:=b) (i:=6) (by omega);rw [E51 (by rw [M6];omega)] at this;exact Option.some.inj this
  have es:(C8 k l s p ((bM b).take 6++zI (7-6))).set 10 (cI (fieldN b 22 2))=C8 k l s p (bM b):=by
   have h1:=C6o (k:=k) (l:=l) (s:=s) (p:=p) (x:=fieldN b 22 2) (d:=(bM b).take 6++zI (7-6)) (i:=6);rw [show 4+6=10 from rfl] at h1;rw [h1,<-hg6,B9Y M6 (by omega)];have:(bM b).take (6+1)++zI (7-(6+1))=bM b:=by rw [E6l (by rw [M6];omega)];simp [zI]
   rw [this]
  have hl1:(C8 k l s p (bM b)).length=11:=by simp [C1,M6]
  rw [B1g];simp only [esc,esh,Nat.reduceAdd,Nat.reduceLT,h1',hX,ha,ho,es,hl1,hz]
 | e+1,i,m+1,hi,hm=>by
  have ih:=C9g (g:=g) (k:=k) (l:=l) (s:=s) (p:=p) (c0:=c0) (q:=q) hb hz e (i+1) m (by omega) (by omega);have h1':(i:Int)<6:=by omega
  have hX:(B5 (R0 256 b)).length=256:=by rw [B6,I3 (by omega)]
  have e2:E6a .i64 (2*(i:Int))=((2*i:Nat):Int):=by rw [wrap_i64 (by omega) (by omega)];omega
  have e3:E6a .i64 (10+((2*i:Nat):Int))=((10+2*i:Nat):Int):=by rw [wrap_i64 (by omega) (by omega)];omega
  have ha:=λh=>pQ (h:=h) (l:=R0 256 b) (I3 (by omega)) (a:=((10+2*i:Nat):Int)) (w:=2)
  have e1:=D39 (b:=b) (a:=10+2*i) (w:=2) (by omega) (by omega) (by omega) (by omega);rw [show ((2:Nat):Int)=2 from rfl] at e1;simp only [e1] at ha;have a1:K5 6 1 (pV (l_ g+3) 4) (iV (i:Int))=A4 (pV (l_ g+3) (4+i)):=by rw [Q1 (by omega)];simp
  have ho:(encI ((bM b).take i++zI (7-i))).length=7:=by simp [C1,M6,N2];omega
  have ho2:4+i<11:=by omega
  have hgi:(bM b)[i]'(by rw [M6];omega)=fieldN b (10+2*i) 2:=by
   have:=C1t (b:=b) (i:=i) (by omega);rw [E51 (by rw [M6];omega)] at this;exact Option.some.inj this
  have es:(C8 k l s p ((bM b).take i++zI (7-i))).set (4+i) (cI (fieldN b (10+2*i) 2))=C8 k l s p ((bM b).take (i+1)++zI (7-(i+1))):=by
   rw [C6o,<-hgi,B9Y M6 (by omega)]
  rw [B1g];simp only [esc,esh,Nat.reduceAdd,h1',hX,e2,e3,ha,a1,ho,ho2,es,D9 (a:=i) (by omega)];exact ih
def B0u(hb:l_ b=32):B2P [.a (B5 b)] h=A4 (.a (C8 (B1M b) (B3D b) (B3F b) (B3E b) (bM b)),h):=by
 have key:∀ N,7<N->∀ g,∃ g',B2j N [.a (B5 b)] g=A4 (.a (C8 (B1M b) (B3D b) (B3F b) (B3E b) (bM b)),g'):=by
  intro N hN g;have hl:(B5 b).length=32:=by rw [B6,hb]
  have hX:(B5 (R0 256 b)).length=256:=by rw [B6,I3 (by omega)]
  have hz:(E55 256 (Cell.i .u8 0)).length=256:=E6y;have z11:[o0,o0,o0,o0,o0,o0,o0,o0,o0,o0,o0]=C8 0 0 0 0 (zI 7):=rfl;have l11:(C8 0 0 0 0 (zI 7)).length=11:=rfl;have ho:=B4R (h:=g++[rT (B5 b),rT (C8 0 0 0 0 (zI 7))]) (v:=sV (l_ g) 0 32 1) (nv:=32) (data:=b) (Has.tr (by simp) (by omega) (W1 _)) (by omega);rw [D03 (by omega)] at ho;have at_:∀ (a w:Nat),a+w<=32->1<=w->w<=4->∀ h,A1x [.a (B5 (R0 256 b)),iV a,iV w] h=A4 (iV (fieldN b a w),h):=λa w h1 h2 h3 h=>by
   rw [pQ (I3 (by omega)),D39 (by omega) (by omega) h2 h3]
  have a1:=at_ 0 1 (by omega) (by omega) (by omega);have a2:=at_ 2 2 (by omega) (by omega) (by omega);have a3:=at_ 4 4 (by omega) (by omega) (by omega);have a4:=at_ 8 2 (by omega) (by omega) (by omega);simp only [E7d] at a1 a2 a3 a4;have ef:F5 (C8 0 0 0 0 (zI 7)) [(0,1,iV (fieldN b 0 1)),(1,1,iV (fieldN b 2 2)),(2,1,iV (fieldN b 4 4)),(3,1,iV (fieldN b 8 2))]=A4 (C8 (B1M b) (B3D b) (B3F b) (B3E b) (zI 7)):=rfl;have lf:(C8 (B1M b) (B3D b) (B3F b) (B3E b) (zI 7)).length=11:=rfl;have:=C9g (g:=g) (b:=b) (k:=B1M b) (l:=B3D b) (s:=B3F b) (p:=B3E b) (c0:=B5 b) (z:=C8 0 0 0 0 (zI 7)) (q:=N) hb l11 6 0 N (by omega) (by omega);simp only [E6S,E6s,Nat.sub_zero] at this;rw [C4B,z11];generalize E55 256 (Cell.i .u8 0)=z at *;generalize C8 0 0 0 0 (zI 7)=y at *;exact ⟨_,by simp only [esc,esh,Nat.reduceAdd,hl,ho,hz,hX,a1,a2,a3,a4,ef,l11,lf];exact this⟩
 obtain ⟨g',e⟩:=key (l_ h+8) (by omega) (ro h);exact C0M e (by simp)
def cQ(b:List UInt8):Bool:=A5k (B1M b) (B3D b) (B3F b) (B3E b) (bM b)&&decide (cF (B1M b) (B3D b) (B3F b) (B3E b) (bM b)=b)
def nX(b:List UInt8):List Cell:=bif cQ b then C8 (B1M b) (B3D b) (B3F b) (B3E b) (bM b) else C8 0 0 0 0 (zI 7)
def A7u:(nX b).length=11:=by
 unfold nX;cases cQ b<;>simp [C1,M6,N2]
def B8Z:N8 (nX b)=A5:=by
 unfold nX;cases cQ b<;>simp
def C6p(hb:l_ b=32):A7d [.a (B5 b)] h=A4 (.t [.a (nX b),.c (.b (cQ b))],h):=by
 have key:∀ g,∃ g',A6W 0 [.a (B5 b)] g=A4 (.t [.a (nX b),.c (.b (cQ b))],g'):=by
  intro g;have hl:(B5 b).length=32:=by rw [B6,hb]
  have hI:(C8 (B1M b) (B3D b) (B3F b) (B3E b) (bM b)).length=11:=by simp [C1,M6]
  have z11:[o0,o0,o0,o0,o0,o0,o0,o0,o0,o0,o0]=C8 0 0 0 0 (zI 7):=rfl;have l11:(C8 0 0 0 0 (zI 7)).length=11:=rfl;have af:=C05;rw [z11] at af;have hz:(E55 32 (Cell.i .u8 0)).length=32:=E6y;have hp:=λh=>B9d (h:=h) (k:=B1M b) (l:=B3D b) (s:=B3F b) (p:=B3E b) (d:=bM b) M6
  have hB:(B5 (cF (B1M b) (B3D b) (B3F b) (B3E b) (bM b))).length=32:=by rw [B6,A1S M6]
  have hZ:(B5 (zeros 32)).length=32:=by rw [B6];exact zeros_length
  have hq:=C8G (l:=cF (B1M b) (B3D b) (B3F b) (B3E b) (bM b)) (m:=b) (n:=32) (A1S M6) hb;rw [C0q,z11];unfold nX cQ;generalize E55 32 (Cell.i .u8 0)=z at *;generalize C8 0 0 0 0 (zI 7)=y at *;cases c:A5k (B1M b) (B3D b) (B3F b) (B3E b) (bM b) with
  | false =>
   simp only [c,cond_false] at hp;exact ⟨_,by simp only [esc,esh,Nat.reduceAdd,hl,B0u hb,hI,l11,hp,hz,hZ,Int.reduceEq,af,E6p]<;>rfl⟩
  | true =>
   simp only [c,cond_true] at hp;cases c2:decide (cF (B1M b) (B3D b) (B3F b) (B3E b) (bM b)=b) with
   | false =>
    rw [c2] at hq;exact ⟨_,by simp only [esc,esh,Nat.reduceAdd,hl,B0u hb,hI,l11,hp,hz,hB,hq,af,Bool.and_false]<;>rfl⟩
   | true =>
    rw [c2] at hq;exact ⟨_,by simp only [esc,esh,Nat.reduceAdd,hl,B0u hb,hI,l11,hp,hz,hB,hq]<;>rfl⟩
 obtain ⟨g',e⟩:=key (ro h);exact B6O e (by simp [B8Z])
section
variable (n m m2:Nat) (a0 a1 a2 x1 x2 x3 x4 x5 x6 x7 x8 x9 x10 x11 x12 x15 x16 x17 x20 x21:Val) (h:A9)
def A0X:FD A8:=⟨px 0X16f2013803804045500521103a2342,[],[.min (.t 4) (.v (.c (cI 5))),.max (.v (.c o0)) (.t 5)],[.tmp 2],[]⟩
def A6S:=A0X.R
def C0m:=mR A6S A0X (tT []) n [a0] h
def fH:=A0X.K Tryz.func127
def bU:=A0X.S
def B6K:G0 A6S bU:=fH.flat
def A2Y:FD A8:=⟨px 0X118f20306197ffffd0191b1a71b701104261700523201042,[],[],[.tmp 2],[]⟩
def B70:=A2Y.R
def C3p:=mR B70 A2Y (tT []) n [a0] h
def A9m:=A2Y.K Tryz.func128
def A3a:=A2Y.S
def B8q:G0 B70 A3a:=A9m.flat
def tU:FD A8:=⟨px 0X113022f48864f4884c1c3024bf2d053c0221827c488601941a4236e1028902019626a16a4883d1c7180153026c488601c3b371111113722403f01334e39036f420338f12ff50618487a414484a18215030702441328901215d4200605110481814c2b2b35b591820132af2488611c145a052964230403e501130785b134b123b112b104194101d18d721919411930153022c488601c3b371062240632101032849180401c72b40192f4303111c4c03a353182,[.c (.i .u8 105),.c (.i .u8 100),.c (.i .u8 120),.c (.i .u8 33)],[],[.cellN 2 256,.tmp 3],[D7 bU fH,D7 A79 B1Z,D7 sZ A3K,D7 A3a A9m]⟩
def B2h:=tU.R
def B9b:AtH:=tU.lj 0 n [m] [x2,x4,x20,x21]
def C2h:=tT [⟨2,4,B9b⟩]
def C4A:=mR B2h tU C2h n [a0] h
def B1e:=mL tU C2h 0 n [m] [x2,x4,x20,x21] h
def B1V:=tU.K Tryz.func81
def A5Q:=tU.S
def C4X:SOk A8 81 A5Q:=B1V.sok
def C0L:G0 B2h A5Q:=B1V.flat
def A2Z:FD A8:=⟨px 0X16f20051b2058010344918500521103a2342,[],[],[.tmp 2],[D7 bU fH]⟩
def A9G:=A2Z.R
def C3q:=mR A9G A2Z (tT []) n [a0] h
def iU:=A2Z.K Tryz.func122
def dY:=A2Z.S
def B8r:G0 A9G dY:=iU.flat
def iG:FD A8:=⟨px 0X113022f4964f49691c3025af180500218a59031801793022f49601f3b3711107224103204401482d14f518e5b051bf4235313270242890127e4f021a94203016254ef18001234f494d1c329421915301793022f49601f3b3711622401b181907e4e1f4887e3c6c4887e3c0110325c3d0718f422200333cf13bf248861c61b11828063b2c3af38001135a49391c181a1c331a22ff1c052e02218422a1e01482d14a519018303028902019623813e488182c1f019181ef50412284215030702441328901213b420060511c013942031bf24961f41b01011f3b529030328488191c51942111f4c03a353182,[],[.eqA A5 (E55 256 (.i .u8)) (.t 32) (.t 33)],[.cellN 2 33,.tmp 3],[D7 A1x A7N,D7 A5Q B1V,D7 dY iU]⟩
def B2g:=iG.R
def B88:AtH:=iG.lj 0 n [m] [x1,x2,x4,x12]
def B89:AtH:=iG.lj 1 n [m] [x2,x4,x8]
def B2X:=tT [⟨2,4,B88⟩,⟨2,3,B89⟩]
def C4z:=mR B2g iG B2X n [a0] h
def B1a:=mL iG B2X 0 n [m] [x1,x2,x4,x12] h
def B1b:=mL iG B2X 1 n [m] [x2,x4,x8] h
def B1U:=iG.K Tryz.func77
def A5P:=iG.S
def C4W:SOk A8 77 A5P:=B1U.sok
def C0J:G0 B2g A5P:=B1U.flat
def jV:FD A8:=⟨px 0X11b401022bf7053802b492180134013c000002722401a22104401482d13a53a104401482d12a51a1a0180194d25319f5041264215030702441340121294200605111a6021f1d462820023340422e253182,[],[],[.tmp 4],[]⟩
def A6T:=jV.R
def B3M:AtH:=jV.lj 0 n [m] [x1,x2,x6,x7]
def B5N:=tT [⟨2,4,B3M⟩]
def C0n:=mR A6T jV B5N n [a0,a1] h
def A6n:=mL jV B5N 0 n [m] [x1,x2,x6,x7] h
def A6E:=jV.K Tryz.func129
def A09:=jV.S
def B6L:G0 A6T A09:=A6E.flat
def gC:FD A8:=⟨px 0X14ff607e4f02600001724af19004026c15e4804184ef1800613901011113e6e16e4b05181541307024061201036c49184e3c047f4203006053bf190041824e16839042b271c200003314a1294238f70051b20581380380113484918482a0181f6301d201164812e00001722401b1a19064381a010382f2e49383c383870110122a1a0184b42031648632e27531c2,[],[.min (.t 18) (.t 20),.max (.v (.c o0)) (.t 21)],[.tmp 6],[D7 dY iU,D7 bU fH]⟩
def A33:=gC.R
def B1d:AtH:=gC.lj 0 n [m] [x3,x7,x8,x9]
def B2Y:=tT [⟨2,4,B1d⟩]
def B7Z:=mR A33 gC B2Y n [a0,a1,a2] h
def B7i:=mL gC B2Y 0 n [m] [x3,x7,x8,x9] h
def A3I:=gC.K Tryz.func149
def wQ:=gC.S
def B6H:A3T A33 wQ:=A3I.out
def jW:FD A8:=⟨px 0X11b601022df1b052c02d492180136013c0000003722404324a104401482d13a51e1f06592521ef1800441811d3184215030702451340121394200605110292819032f2d2b652c2000033360632e27531c2,[],[],[.tmp 6],[]⟩
def A6U:=jW.R
def B3N:AtH:=jW.lj 0 n [m] [x2,x3,x9,x10,x11]
def B5O:=tT [⟨2,5,B3N⟩]
def C0o:=mR A6U jW B5O n [a0,a1,a2] h
def A6o:=mL jW B5O 0 n [m] [x2,x3,x9,x10,x11] h
def B5x:=jW.K Tryz.func170
def A7b:=jW.S
def B6M:G0 A6U A7b:=B5x.flat
def oZ:FD A8:=⟨px 0X14ff4001132f494e1c3024df28055a04d49218014cf407e127e00000037224302e1901a2a33692f20691e40148696a17a691f7a69704632692f5e6976c6976849693c5e49693c01103204401482d14c54c2b01f01918f432af504123842150307024413401214b420060511011338491e1c3493f61c240530114012a0000722401b1a19064281a010282f2849283c282870110121a60183b4203140422e253182,[],[],[.tmp 4],[D7 dY iU,D7 bU fH,D7 wQ A3I,D7 A7b B5x]⟩
def A9F:=oZ.R
def B58:AtH:=oZ.lj 0 n [m] [x1,x2,x15,x16]
def B8D:=tT [⟨2,4,B58⟩]
def C3o:=mR A9F oZ B8D n [a0,a1] h
def A8S:=mL oZ B8D 0 n [m] [x1,x2,x15,x16] h
def B7O:=oZ.K Tryz.func150
def A91:=oZ.S
def B8p:G0 A9F A91:=B7O.flat
def bS:FD A8:=⟨px 0X12df40482d021a0000003722cf19052e02c4921802bf5050023a13182404223e104401482d12e51c1c064b3521bf60412184215011a07024513401212d42006051101031a4971c32b296328200231111b42140422e253182,[],[],[.tmp 4],[D7 dY iU]⟩
def A6R:=bS.R
def B3K:AtH:=bS.lj 0 n [m] [x1,x2,x5,x8,x9]
def C6m:AtH:=bS.lj 1 n [m] [x1,x2,x5,x8,x9]
def A7n:=tT [⟨2,5,B3K⟩,⟨2,5,C6m⟩]
def C0l:=mR A6R bS A7n n [a0,a1] h
def A6m:=mL bS A7n 0 n [m] [x1,x2,x5,x8,x9] h
def A6l:=mJ bS A7n 1 n [m] [x1,x2,x5,x8,x9] h
def B5w:=bS.K Tryz.func151
def A7a:=bS.S
def B6J:G0 A6R A7a:=B5w.flat
def iE:FD A8:=⟨px 0X122f4963f496c1c211111104326bf290518c022180422a601482d13f55f14f15182401b3819018218c1a2042618c2f5f18c71f4918c3c018c4b0181a3518c2f042418c2f4f18c71f4918c3c4f18c71f4918c3c01042337817c49181e0191bd7530172401b181906c4d0126c2f5c6c70110224e38077d42032ff5004401482d1585482c051b422bf404123c4215011a07024513401214d42006051101133c491f1c34b4941c20131ef24961f31b01011f3b0402e55731820122a49601f3b21022240632101031e49180401a62b40192d43031f4c03a253182,[],[],[.cellN 2 33],[D7 bU fH,D7 dY iU,D7 A3a A9m,D7 A09 A6E,D7 A91 B7O,D7 wQ A3I,D7 A7a B5w]⟩
def B2f:=iE.R
def A3m:AtH:=iE.lj 0 n [m] [x1,x2,x3,x16,x17]
def D0D:AtH:=iE.lj 1 n [m] [x1,x2,x3,x16,x17]
def B2W:=tT [⟨2,5,A3m⟩,⟨2,5,D0D⟩]
def C4y:=mR B2f iE B2W n [a0] h
def B09:=mL iE B2W 0 n [m] [x1,x2,x3,x16,x17] h
def jQ:=mJ iE B2W 1 n [m] [x1,x2,x3,x16,x17] h
def B1T:=iE.K Tryz.func123
def A5O:=iE.S
def C4V:SOk A8 123 A5O:=B1T.sok
def C0I:G0 B2f A5O:=B1T.flat
def X7:FD A8:=⟨px 0X13cf206a3c0250000003723bf7055803b4921803af3001c13901011113e04401482d15a54a14a118182430181904213f2f3a3f73e493f3c01103204401482d12c51c1a01a4f4219f40412184215011a0702441340121294200605110103184951c31f1d41c201314a174214a03a2342,[],[],[.tmp 2],[D7 dY iU,D7 A09 A6E]⟩
def A2a:=X7.R
def A0x:AtH:=X7.lj 0 n [m] [x1,x3,x6,x7]
def C1v:AtH:=X7.lj 1 n [m] [x1,x3,x6,x7]
def A2e:=tT [⟨2,4,A0x⟩,⟨2,4,C1v⟩]
def B6u:=mR A2a X7 A2e n [a0] h
def A2D:=mL X7 A2e 0 n [m] [x1,x3,x6,x7] h
def qW:=mJ X7 A2e 1 n [m] [x1,x3,x6,x7] h
def sL:=X7.K Tryz.func82
def jM:=X7.S
def sY:SOk A8 82 jM:=sL.sok
def B5f:A3T A2a jM:=sL.out
def A0V:FD A8:=⟨px 0X118f40062130103184918181500062140422e253182,[],[],[.tmp 4],[D7 bU fH,D7 C0O C8v]⟩
def A6P:=A0V.R
def C0j:=mR A6P A0V (tT []) n [a0,a1] h
def A6D:=A0V.K Tryz.func103
def A07:=A0V.S
def C0K:SOk A8 103 A07:=A6D.sok
def B6G:G0 A6P A07:=A6D.flat
def A0W:FD A8:=⟨px 0X128f20301a1902f4e33a492f3c0102f2f2e492f3c013018192d0191d1a01d1e01c1d1f011042040451c01900533103a2342,[],[.eqA A6 ([.i .i64]++E55 32 (.i .i64)) (.t 13) (.t 14)],[.tmp 2],[D7 A5O B1T]⟩
def A6Q:=A0W.R
def C0k:=mR A6Q A0W (tT []) n [a0] h
def B5v:=A0W.K Tryz.func135
def A08:=A0W.S
def B6I:G0 A6Q A08:=B5v.flat
end
section
variable (n m m2:Nat) (a0 a1 a2 a3 x0 x1 x2 x3 x4 x5 x7 x8 x19 x20 x21:Val) (h:A9)
def A3v:FD A8:=⟨px 0X15cf607f5c02020116011d00622403f042037f1031803f4f2b51af42100013304ef7006223390722f106213041a7a57a4481c1818243ff3a006203041a6a503180683b2b66d45239f700440162d44e5582e0518242df2b0390124c2c034f651c20510201a1111f46502920116013800001722401b61918b9043e1a3c3e70101b6191012e1a2c2e701503204018182b1b4d420316063a632e319751c2,[],[],[.tmp 6],[D7 W4 Z2,D7 D8 E7,D7 pI A25]⟩
def C0f:=A3v.R
def C57:AtH:=A3v.lj 0 n [] [x3,x7]
def C8B:=tT [⟨1,2,C57⟩]
def C93:=mR C0f A3v C8B n [a0,a1,a2] h
def C74:=mJ A3v C8B 0 n [] [x3,x7] h
def B95:=A3v.K Tryz.func108
def A74:=A3v.S
def D0a:SOk A8 108 A74:=B95.sok
def C4S:G0 C0f A74:=B95.flat
def A2U:FD A8:=⟨px 0X148f50478496102268168493e1c5411623df13cf24961f61b1282801e3c2c3bf2d001230182130410162d45855842e1c1c1f1d11920135024849601f3b33c1000722401b281902e4d018202e2f02e1e10162e6a42e2e1f032e3c02c2e1f01190320401a182b1c4f4203311f4c43a422e419751c2,[],[],[.cellN 4 33,.tmp 5],[D7 W4 Z2,D7 D8 E7,D7 A5P B1U]⟩
def A9z:=A2U.R
def C3j:=mR A9z A2U (tT []) n [a0,a1] h
def vO:=A2U.K Tryz.func102
def iY:=A2U.S
def B8k:G0 A9z iY:=vO.flat
def Z6:FD A8:=⟨px 0X14af406e4a024a000000047249f2d053804949218048f700613901011113e5a15c151824042234c1031805e392b4794238f1900441811d33a4215011a07024513401215d42006051102901133a492a1c45b594f52820023174811f1b401d201144813a0000722403f2c28024b422131ff11ef24961f51b11a280181e2c1df1a0042032a1b182a41b1c191d1b119214a43a422e375182,[],[],[.tmp 4],[D7 iY vO,D7 jM sL,D7 W4 Z2]⟩
def A31:=Z6.R
def B07:AtH:=Z6.lj 0 n [m] [x2,x7,x19,x20,x21]
def C3S:AtH:=Z6.lj 1 n [m] [x2,x7,x19,x20,x21]
def A4o:=tT [⟨2,5,B07⟩,⟨2,5,C3S⟩]
def B7X:=mR A31 Z6 A4o n [a0,a1] h
def A4K:=mL Z6 A4o 0 n [m] [x2,x7,x19,x20,x21] h
def A4J:=mJ Z6 A4o 1 n [m] [x2,x7,x19,x20,x21] h
def vN:=Z6.K Tryz.func159
def nF:=Z6.S
def B6E:A3T A31 nF:=vN.out
def jT:FD A8:=⟨px 0X1b72a118024e2a01813901011113e041a4c53e461824301c1906202f2f02f1e1a3a2f1f032f3c02c2f1f013018195021d1a01d1e01c1d1f0103f74591e4b731c20401a,[],[],[],[D7 W4 Z2]⟩
def B5H:=jT.R
def A4L:AtH:=jT.lj 0 n [] [x0]
def B5L:=tT [⟨1,1,A4L⟩]
def pC:=mR B5H jT B5L n [a0,a1,a2,a3] h
def A6f:=mJ jT B5L 0 n [] [x0] h
def A6C:=jT.K Tryz.func162
def kB:=jT.Q
def pG:OfT B5H kB:=A6C.of
def R9:FD A8:=⟨px 0X22c2a0613901011113e2c11e45180005f1c4218243904276021f5182731801a,[],[],[],[fU kB A6C]⟩
def zD:=R9.R
def yT:K6:=R9.E
def B0o:AtH:=R9.lj 0 n [] [x1,x3]
def zJ:TT:=⟨yT,[⟨1,2,B0o⟩]⟩
def rE:=mR zD R9 zJ n [a0,a1,a2,a3] h
def qH:=mJ R9 zJ 0 n [] [x1,x3] h
def yY:=R9.K Tryz.func164
def dA:=R9.Q
def rM:OfT zD dA:=yY.of
def O4:FD A8:=⟨px 0X2df18053a02218004265f3813813e1418241032281f0249421ef700463031e1281b182841b1c51f421af6041264215011a0702441318b901212b420060511801294263a632e219751c2,[],[],[],[D7 A74 B95,fU dA yY]⟩
def A2w:=O4.R
def qL:K6:=O4.E
def A1M:AtH:=O4.lj 0 n [m] [x2,x3,x4,x8]
def B3y:AtH:=O4.lj 1 n [m] [x2,x3,x4,x8]
def qS:TT:=⟨qL,[⟨2,4,A1M⟩,⟨2,4,B3y⟩]⟩
def A9A:=mR A2w O4 qS n [a0,a1,a2] h
def A8M:=mL O4 qS 0 n [m] [x2,x3,x4,x8] h
def A8L:=mJ O4 qS 1 n [m] [x2,x3,x4,x8] h
def A2q:=O4.K Tryz.func163
def qP:=O4.Q
def A9Z:OfT A2w qP:=A2q.of
def U1:FD A8:=⟨px 0X14ef405f4219052005f6e421120463237a6a22cc5e7c1b187c4481c400223ff22a6191b6c7a785e42ca3f18932b352322a4181b2291b240292013ef400181392042136a1b186a4185a440195a000017302582a01a13901011113e0410162d44c53e471824382b014f3522af129f24961f61b11a28018292c28f1d004203381b183841e1c191a423101a24190220401e1a2b339420324c11b4214a43a422e375182,[],[],[.tmp 4],[D7 iY vO,D7 nF vN,fU qP A2q,fU kB A6C]⟩
def U2:=U1.R
def A2o:K6:=U1.E
def A1L:AtH:=U1.lj 0 n [] [x2,x3,x5]
def A2z:TT:=⟨A2o,[⟨1,3,A1L⟩]⟩
def vW:=mR U2 U1 A2z n [a0,a1] h
def A8K:=mJ U1 A2z 0 n [] [x2,x3,x5] h
def qN:=U1.K Tryz.func139
def X5:=U1.S
def A75:E00 U2 X5:=qN.low
def A76:A3T U2 X5:=qN.out
end
def D1b(D:Dev)(n:Int)(d:List Int)(j:Nat):Int :=
 if j<6 then d.getD j 0 else bif G5 (l_ D) n (d.getD 6 0) then ptP (blk D (d.getD 6 0)) (j-6) else 0
def uJ(D:Dev)(n:Int)(d:List Int)(j:Nat):Int:=bif G5 (l_ D) n (D1b D n d j) then D1b D n d j else 0
def atF(D:Dev)(n k:Int)(d:List Int)(j:Int):Int:=if k=1/\0<=j/\j<134 then uJ D n d j.toNat else 0
def C75{q:Nat}{r:Option Row}:C57 q (pV (l_ g) 0) (iV no) (g++[rT (vwC (l_ D) n m f),r])=A4 (iV (bif G5 (l_ D) n no then no else 0),g++[rT (vwC (l_ D) n m f),r]):=by
 have l3:=C27 (b:=l_ D) (n:=n) (m:=m) (f:=f);have hI:=λh=>X3 (b:=l_ D) (n:=n) (m:=m) (i:=no) (h:=h)
 rw [C74];generalize vwC (l_ D) n m f=V at *;cases c:G5 (l_ D) n no with
 | false =>
  simp only [c] at hI;simp only [esc,esh,Nat.reduceAdd,Nat.reduceMul,Nat.reduceLT,l3,hI]
 | true =>
  simp only [c] at hI;simp only [esc,esh,Nat.reduceAdd,Nat.reduceMul,Nat.reduceLT,l3,hI]
def C56{k s j:Int}{d:List Int}(hD:okD D)(hd:l_ d=7)(hv:IsView h f D) :
  A74 [.a (vwC (l_ D) n m f),.a (C8 k l s p d),iV j] h=A4 (iV (atF D n k d j),h):=by
 have key:∀ g,IsView g f D->∃ g',C0f 0 [.a (vwC (l_ D) n m f),.a (C8 k l s p d),iV j] g=A4 (iV (atF D n k d j),g'):=by
  intro g hv;have l3:=C27 (b:=l_ D) (n:=n) (m:=m) (f:=f);have l4:=B6m (b:=l_ D) (n:=n) (m:=m) (f:=f);have i0:(C8 k l s p d)[0]?=A4 (cI k):=rfl;have i10:(C8 k l s p d)[10]?=A4 (cI (d.getD 6 0)):=by
   have:(C8 k l s p d)[10]?=(encI d)[6]? := rfl;rw [this,G6,E51 (by omega),E54,E51 (by omega)];rfl
  have hJ:=λno=>C75 (D:=D) (n:=n) (m:=m) (no:=no) (f:=f) (q:=0) (g:=g) (r:=rT (C8 k l s p d))
  rw [C93];by_cases c1:k=1
  ·by_cases c2:j<0
   ·have e:atF D n k d j=0:=by unfold atF;rw [if_neg (by omega)]
    rw [e];generalize vwC (l_ D) n m f=V at *;generalize C8 k l s p d=I at *;exact ⟨_,by simp only [esc,esh,Nat.reduceAdd,Nat.reduceMul,Nat.reduceLT,eq_self,i0,c1,c2]<;>rfl⟩
   ·by_cases c3:134<=j
    ·have e:atF D n k d j=0:=by unfold atF;rw [if_neg (by omega)]
     rw [e];generalize vwC (l_ D) n m f=V at *;generalize C8 k l s p d=I at *;exact ⟨_,by simp only [esc,esh,Nat.reduceAdd,Nat.reduceMul,Nat.reduceLT,eq_self,i0,c1,c2,c3]<;>rfl⟩
    ·obtain ⟨i,rfl⟩:∃ i:Nat,j=i:=⟨j.toNat,by omega⟩;have e:atF D n k d i=uJ D n d i:=by unfold atF;rw [if_pos (by omega),E6q]
     rw [e];unfold uJ;by_cases c4:(i:Int)<6
     ·have er:D1b D n d i=d.getD i 0:=by unfold D1b;rw [if_pos (by omega)]
      have ia:(C8 k l s p d)[4+i]?=A4 (cI (d.getD i 0)):=by
       have:(C8 k l s p d)[4+i]?=(encI d)[i]? := by
        rw [Nat.add_comm];rfl
       rw [this,G6,E51 (by omega),E54,E51 (by omega)];rfl
      have ad:=Q1 (k:=.i64) (id:=l_ g+1) (off:=4) (sz:=1) (j:=i) (n:=6) (by omega);rw [E69] at ad;rw [er];generalize vwC (l_ D) n m f=V at *;generalize C8 k l s p d=I at *;exact ⟨_,by simp only [esc,esh,Nat.reduceAdd,Nat.reduceMul,Nat.reduceLT,eq_self,i0,c1,c2,c3,c4,ad,ia,hJ]<;>rfl⟩
     ·have er:D1b D n d i=bif G5 (l_ D) n (d.getD 6 0) then ptP (blk D (d.getD 6 0)) (i-6) else 0:=by unfold D1b;rw [if_neg (by omega)]
      have hI:=λh=>X3 (b:=l_ D) (n:=n) (m:=m) (i:=d.getD 6 0) (h:=h)
      rw [er];cases c5:G5 (l_ D) n (d.getD 6 0) with
      | false =>
       simp only [c5] at hI;generalize vwC (l_ D) n m f=V at *;generalize C8 k l s p d=I at *;exact ⟨_,by simp only [esc,esh,Nat.reduceAdd,Nat.reduceMul,Nat.reduceLT,eq_self,i0,i10,c1,c2,c3,c4,l3,hI,hJ]<;>rfl⟩
      | true =>
       simp only [c5] at hI;have hB:=M7 (n:=n) (m:=m) (no:=d.getD 6 0) (h:=g++[rT (vwC (l_ D) n m f),rT (C8 k l s p d)]) hD (hv.more _);have w:E6a .i64 ((i:Int)-6)=((i-6:Nat):Int):=by rw [wrap_i64 (by omega) (by omega)];omega
       have hP:=λh=>A7C (b:=blk D (d.getD 6 0)) (k:=i-6) (h:=h) (J9 hD) (by omega)
       generalize vwC (l_ D) n m f=V at *;generalize C8 k l s p d=I at *;exact ⟨_,by simp only [esc,esh,Nat.reduceAdd,Nat.reduceMul,Nat.reduceLT,eq_self,i0,i10,c1,c2,c3,c4,l3,l4,hI,hB,w,hP,hJ]<;>rfl⟩
  ·have e:atF D n k d j=0:=by unfold atF;rw [if_neg (by omega)]
   rw [e];generalize vwC (l_ D) n m f=V at *;generalize C8 k l s p d=I at *;exact ⟨_,by simp only [esc,esh,Nat.reduceAdd,Nat.reduceMul,Nat.reduceLT,eq_self,i0,c1]<;>rfl⟩
 obtain ⟨g',e⟩:=key (ro h) hv.ro;exact C4S e rfl
def B7t{id n:Nat}(hr:rd h id=rT cs)(hl:l_ cs=n*sz)(hy:l_ ys=sz)(hsz:0<sz)(hn:n+1<=1073741824) :
  ∃ h',tJ (h++[rT ys]) sz (sV id 0 n sz) (sV (l_ h) 0 1 sz)=A4 (sV (l_ h+1) 0 (n+1) sz,h')/\rd h' (l_ h+1)=rT (cs++ys)/\(∀ i r,i≠id->rd h i=A4 r->rd h' i=A4 r)/\(∀ b,b<=id->b<=l_ h->Low b h h'):=by
 refine ⟨(h++[rT ys]).set id A7++[rT (cs++ys)],?_,?_,λi r hi hir=>?_,λb hb hb2=>(((Low.refl hb2).new _).set hb A7).new _⟩
 ·rw [A7p (h:=h++[rT ys]) (m:=1) (B7 hr) hl N6 (by omega) rfl hsz hn];simp
 ·have:=N6 (h:=(h++[rT ys]).set id A7) (r:=Row.mk (cs++ys) A5);rw [E6F] at this;simpa using this
 ·refine B7 ?_;rw [B8 (Ne.symm hi)];exact B7 hir
def C8t(h:A9)(x:Cell)(l:List Int)(b:Nat)(rs:List Nat):Prop:=(l=[]/\x=.ns)\/∃ id,x=.sl id 0 (l_ l) 1/\rd h id=rT (encI l)/\b<=id/\id ∉ rs
def VarI(h:A9)(r:Nat)(l:List Int)(b:Nat)(rs:List Nat):Prop:=∃ x,rd h r=rT [x]/\C8t h x l b rs
def VarI.nil{b:Nat}(hr:rd h r=rT [.ns]):VarI h r [] b rs:=⟨.ns,hr,.inl ⟨rfl,rfl⟩⟩
def VarI.keep{h':A9}{b:Nat}{l:List Int}(hv:VarI h r l b rs)(h1:rd h' r=rd h r)(h2:∀ id,id ∉ rs->∀ x,rd h id=A4 x->rd h' id=A4 x):VarI h' r l b rs:=by
 obtain ⟨x,hx,hd⟩:=hv;refine ⟨x,by rw [h1];exact hx,?_⟩;rcases hd with hd | ⟨id,e,hr,hb,hn⟩
 ·exact .inl hd
 ·exact .inr ⟨id,e,h2 id hn _ hr,hb,hn⟩
def C38{jd m:Nat}(hy:rd h jd=rT ys)(hyl:l_ ys=m*sz)(hsz:0<sz)(hn:m<=1073741824) :
  tJ h sz (.c .ns) (sV jd 0 m sz)=A4 (sV (l_ h) 0 m sz,h++[rT ys]):=by
 have h2:U5 h sz (sV jd 0 m sz)=A4 ys:=by
  simp only [U5,if_true,pW,hy,E6h,E6i,E6j];rw [<-hyl,List.take_length,if_pos ⟨E56 _,rfl⟩]
 have e1:l_ ys/sz=m:=by rw [hyl];exact Nat.mul_div_cancel _ hsz
 simp only [tJ,h2,E6h];rw [e1,if_pos hn]
def VarI.push{b:Nat}{l:List Int}(hv:VarI h r l b rs)(hr:r∈rs)(hbr:b<=r)(hbh:b<=l_ h)(W5:∀ j∈rs,j<l_ h)(hl:l_ l<=100000)(n:Int) :
  ∃ x v h2 h3,B9 h (pV r 0)=A4 (.c x)/\tJ (h++[rT [cI n]]) 1 (.c x) (sV (l_ h) 0 1 1)=A4 (.c v,h2)/\I8 h2 (pV r 0) (.c v)=A4 h3 /\
   VarI h3 r (l++[n]) b rs/\Low b h h3/\(∀ j∈rs,j≠r->rd h3 j=rd h j)/\(l_ h)<=h3.length:=by
 obtain ⟨x,hx,hd⟩:=hv;have hrl:=E1 hx;have l1:B9 h (pV r 0)=A4 (.c x):=C4 hx rfl (by simp);rcases hd with ⟨rfl,rfl⟩ | ⟨id,rfl,hi,hb,hn⟩
 ·have hA:=C38 (h:=h++[rT [cI n]]) (jd:=l_ h) (m:=1) (sz:=1) (ys:=[cI n]) (by simp) rfl (by omega) (by omega);have e1:(h++[rT [cI n]]).length=l_ h+1:=by simp
  rw [e1] at hA;have hr2:rd (h++[rT [cI n]]++[rT [cI n]]) r=rT [.ns]:=B7 (B7 hx);have s1:=I9 (x:=.sl (l_ h+1) 0 1 1) (off:=0) hr2 (by simp);refine ⟨.ns,_,_,_,l1,hA,s1,⟨.sl (l_ h+1) 0 1 1,D6 (E1 hr2),.inr ⟨l_ h+1,rfl,?_,by omega,λh1=>by have:=W5 _ h1;omega⟩⟩,(((Low.refl hbh).new _).new _).set hbr _,λj hj hjr=>?_,by simp⟩
  ·rw [B8 (by omega)];have:=N6 (h:=h++[rT [cI n]]) (r:=⟨[cI n],A5⟩);rw [e1] at this;exact this
  ·rw [B8 (Ne.symm hjr)];have:=W5 j hj;rw [D3 (by simp;omega),D3 this]
 ·have K7:=E1 hi;have aR:id≠r:=λe=>hn (e ▸ hr)
  have hA:=A7p (h:=h++[rT [cI n]]) (id:=id) (jd:=l_ h) (n:=l_ l) (m:=1) (sz:=1) (cs:=encI l) (ys:=[cI n]) (rw:=A5) (B7 hi) (by rw [C1,E69]) (by simp) rfl rfl (by omega) (by omega);have e1:(h++[rT [cI n]]).length=l_ h+1:=by simp
  rw [e1] at hA;have ee:encI l++[cI n]=encI (l++[n]):=by rw [iN];rfl
  rw [ee] at hA;have hr2:rd ((h++[rT [cI n]]).set id A7++[rT (encI (l++[n]))]) r=rT [.sl id 0 (l_ l) 1]:=by
   refine B7 ?_;rw [B8 aR];exact B7 hx
  have s1:=I9 (x:=.sl (l_ h+1) 0 (l_ l+1) 1) (off:=0) hr2 (by simp);refine ⟨_,_,_,_,l1,hA,s1,⟨.sl (l_ h+1) 0 (l_ l+1) 1,D6 (E1 hr2),.inr ⟨l_ h+1,by simp,?_,by omega,λh1=>by have:=W5 _ h1;omega⟩⟩,((((Low.refl hbh).new _).set hb _).new _).set hbr _,λj hj hjr=>?_,by simp;omega⟩
  ·rw [B8 (by omega)];have:=N6 (h:=(h++[rT [cI n]]).set id A7) (r:=⟨encI (l++[n]),A5⟩);rw [E6F,e1] at this;exact this
  ·have hji:j≠id:=λe=>hn (e ▸ hj)
   have:=W5 j hj;rw [B8 (Ne.symm hjr),D3 (by simp;omega),B8 (Ne.symm hji),D3 this]
def eR(d:Int):Nat:=(max 0 (min d 5)).toNat
def B0i(d:Int):eR d<=5:=by unfold eR;omega
def D5T(h0:0<=d)(h5:d<=5):((eR d:Nat):Int)=d:=by unfold eR;omega
def D86(d:Int):(max 0 (min d 5))=((eR d:Nat):Int):=by unfold eR;omega
def C5(d:Int):Nat:=2 ^ eR d
def C60{n:Nat}(h:n<=5):2 ^ n<=32:=by
 have:=Nat.pow_le_pow_right (n:=2) (by omega) h;simpa using this
def T2(d:Int):C5 d<=32:=C60 (B0i d)
def B4m:[o0]++E55 32 o0=encI (0::zI 32):=by
 simp [encI,zI]
def toX(t:List Int)(i:Nat):Int:=t.getD i 0
def C4l(h:i<l_ t):t[i]?=A4 (toX t i):=by
 unfold toX;rw [E54,E51 h];rfl
def B7f(n:Int):Bool:=decide (0<=n)&&decide (n<=65535)
def B59:A3a [iV n] h=A4 (bV (B7f n),h):=by
 refine B8q (n:=0) (h2:=ro h) ?_ rfl;rw [C3p];unfold B7f;by_cases c:0<=n
 ·simp only [esc,c,E6t]
 ·simp only [esc,c,E6p]
def G4(ht:l_ t=32):(encI (d::t)).length=33:=by rw [C1];simp [ht]
def D9n(ht:l_ t=32)(hi:i<32):(encI (d::t))[1+i]?=A4 (cI (toX t i)):=by
 rw [G6,Nat.add_comm 1 i,E6o,C4l (by omega)];rfl
def D2g{v:Int}:(encI (d::t)).set (1+i) (cI v)=encI (d::t.set i v):=by
 rw [A1H,Nat.add_comm 1 i,List.set_cons_succ]
def ldX{id:Nat}{rw:Bool}(hr:rd h id=A4 ⟨encI (d::t),rw⟩)(ht:l_ t=32)(hi:i<32):B9 h (pV id (1+i))=A4 (iV (toX t i)) :=
 C4 hr (D9n ht hi) (by simp [Cell.isX])
def adX{id:Nat}(hi:i<32):K5 32 1 (pV id (0+1)) (iV (i:Int))=A4 (pV id (1+i)):=by rw [Q1 hi];simp
def cS:bU [.a (encI (d::t))] h=A4 (iV (eR d:Nat),h):=by
 have key:∀ g,∃ g',A6S 0 [.a (encI (d::t))] g=A4 (iV (eR d:Nat),g'):=by
  intro g;have e1:B5i (iV d) (iV 5)=A4 (iV (min d 5)):=by
   simp only [B5i];by_cases h:(5:Int)<d
   ·rw [if_pos h,Int.min_eq_right (by omega)]
   ·rw [if_neg h,Int.min_eq_left (by omega)]
  have e2:C3L (iV 0) (iV (min d 5))=A4 (iV (eR d:Nat)):=by
   rw [<-D86];simp only [C3L];by_cases h:(min d 5:Int) > 0
   ·rw [if_pos h,Int.max_eq_right (by omega)]
   ·rw [if_neg h,Int.max_eq_left (by omega)]
  have e3:B9 (g++[rT (encI (d::t))]) (pV (l_ g) 0)=A4 (iV d):=C4 (N6) rfl rfl;rw [C0m];generalize hz:encI (d::t)=z at *;exact ⟨_,by simp only [esc,e3,e1,e2]<;>rfl⟩
 obtain ⟨g',e⟩:=key (ro h);exact B6K e rfl
def D6w(hk:k<=5):N5 .shl (iV 1) (.c (.i .u64 (k:Int)))=A4 (iV ((2 ^ k:Nat):Int)):=by
 rw [B8G (by omega)];have h1:Nat.min (k:Int).toNat (IntKind.i64).bits=k:=by
  have:(IntKind.i64).bits=64:=rfl;rw [this,E6q];exact Nat.min_eq_left (by omega)
 have h2:=C60 hk;rw [h1,Int.one_mul];have e:(2:Int) ^ k=((2 ^ k:Nat):Int):=by simp
 rw [e];generalize 2 ^ k=y at h2 ⊢;rw [wrap_i64 (by omega) (by omega)]
def C10(hk:k<=64):E6a .u64 (k:Int)=(k:Int):=wrap_u64 (by omega) (by omega)
def fR(ht:l_ t=32):dY [.a (encI (d::t))] h=A4 (iV (C5 d:Nat),h):=by
 have key:∀ g,∃ g',A9G 0 [.a (encI (d::t))] g=A4 (iV (C5 d:Nat),g'):=by
  intro g;have hl:=G4 (d:=d) ht;have hd:=λh=>cS (d:=d) (t:=t) (h:=h)
  have e1:=D6w (B0i d);have e2:=C10 (k:=eR d) (by have:=B0i d;omega);rw [C3q];unfold C5;generalize encI (d::t)=z at *;exact ⟨_,by simp only [esc,esh,hl,hd,e1,e2]<;>rfl⟩
 obtain ⟨g',e⟩:=key (ro h);exact B8r e rfl
def A0w(t:List Int)(i:Nat):Bool:=(E6z i).all λk=>!decide (toX t k=toX t i)
def C52{d:Int}{t:List Int}{g:A9}{i q:Nat}(ht:l_ t=32)(hi:i<32):∀ e k m:Nat,k+e=i->e<m ->
  B3M q m (iV (i:Int)) (pV (l_ g) 0) (iV (i:Int)) (iV (k:Int)) (g++[rT (encI (d::t))]) =
   A4 (bV ((E6v k e).all λk=>!decide (toX t k=toX t i)),g++[rT (encI (d::t))])
 | e,k,0,_,hm=>by omega
 | 0,k,m+1,hk,hm=>by
  have c0:¬ (k:Int)<i:=by omega
  rw [A6n];simp only [esc,c0,List.range'_zero]
 | e+1,k,m+1,hk,hm=>by
  have ih:=C52 (d:=d) (g:=g) (q:=q) ht hi e (k+1) m (by omega) (by omega);have c0:(k:Int)<i:=by omega
  have a1:=adX (id:=l_ g) (i:=k) (by omega);have a2:=adX (id:=l_ g) (i:=i) (by omega);have l1:=ldX (h:=g++[rT (encI (d::t))]) (id:=l_ g) N6 ht (i:=k) (by omega);have l2:=ldX (h:=g++[rT (encI (d::t))]) (id:=l_ g) N6 ht (i:=i) (by omega);rw [A6n,List.range'_succ,E62];by_cases c:toX t k=toX t i
  ·rw [decide_eq_true c,Bool.not_true,E6p];rw [c] at l1;simp only [esc,c0,a1,a2,l1,l2]
  ·rw [decide_eq_false c,Bool.not_false,E6t];simp only [esc,c0,a1,a2,l1,l2,c,D9 (a:=k) (by omega)];exact ih
def B3L(ht:l_ t=32)(hi:i<32):A09 [.a (encI (d::t)),iV (i:Int)] h=A4 (bV (A0w t i),h):=by
 have key:∀ N,i<N->∀ g,∃ g',A6T N [.a (encI (d::t)),iV (i:Int)] g=A4 (bV (A0w t i),g'):=by
  intro N hN g;have e:=C52 (d:=d) (g:=g) (q:=N) ht hi i 0 N (by omega) hN;rw [C0n];unfold A0w;rw [List.range_eq_range'];exact ⟨_,by simp only [esc];exact e⟩
 obtain ⟨g',e⟩:=key (i+1) (by omega) (ro h);exact B6L e rfl
def Y4(n p b:Nat):List Nat:=(E6z n).filter λk=>k%2 ^ b==p%2 ^ b
def A3i(l:List Nat):List Int:=l.map λ(n:Nat)=>(n:Int)
def B3r(l:List Nat):(A3i l).length=(l_ l):=by simp [A3i]
def bX(d b:Int):Nat:=(max 0 (min b (eR d:Nat))).toNat
def E37(d b:Int):bX d b<=eR d:=by unfold bX;omega
def plX(d p b:Int):List Nat:=if 0<=p/\p<(C5 d:Nat) then Y4 (C5 d) p.toNat (bX d b) else []
def B5j(n s r i:Nat):List Nat:=(E6z n).filter λk=>decide (k<i)&&(k%s==r)
def D6N{n s:Nat}(hs:0<s)(hi:i<n)(hr:i%s=r):B5j n s r (i+s)=B5j n s r i++[i]:=by
 unfold B5j;have e:E6z n=E6z i++(i::E6v (i+1) (n-i-1)):=by
  have e1:E6z n=E6v 0 (i+(n-i-1+1)):=by
   rw [List.range_eq_range'];congr 1;omega
  rw [e1,<-List.range'_append_1,List.range_eq_range',E6j,List.range'_succ]
 rw [e,E66,E66,List.filter_cons,List.filter_cons];have h1:(E6z i).filter (λk=>decide (k<i+s)&&(k%s==r))=(E6z i).filter (λk=>decide (k<i)&&(k%s==r)):=by
  refine List.filter_congr λk hk=>?_
  have:=List.mem_range.1 hk;rw [decide_eq_true (show k<i+s by omega),decide_eq_true this]
 have h2:(E6v (i+1) (n-i-1)).filter (λk=>decide (k<i+s)&&(k%s==r))=[]:=by
  rw [List.filter_eq_nil_iff];intro k hk;have hk:=List.mem_range'_1.1 hk;by_cases c:k<i+s
  ·have:k%s≠r:=by
    intro e;have e1:=Nat.div_add_mod k s;have e2:=Nat.div_add_mod i s;rw [e] at e1;rw [hr] at e2;have e4:s*(i/s)<s*(k/s):=by omega
    have e5:i/s<k/s:=Nat.lt_of_mul_lt_mul_left e4;have e6:s*(i/s+1)<=s*(k/s):=Nat.mul_le_mul_left _ e5;rw [Nat.mul_add] at e6;omega
   simp [this]
  ·simp [c]
 have h3:(E6v (i+1) (n-i-1)).filter (λk=>decide (k<i)&&(k%s==r))=[]:=by
  rw [List.filter_eq_nil_iff];intro k hk;have hk:=List.mem_range'_1.1 hk;rw [decide_eq_false (by omega)];simp
 rw [h1,h2,h3,hr];simp [hs]
def D8R{n s:Nat}(hi:n<=i):B5j n s r i=(E6z n).filter λk=>k%s==r:=by
 unfold B5j;refine List.filter_congr λk hk=>?_
 have:=List.mem_range.1 hk;rw [decide_eq_true (show k<i by omega),E6t]
def C5l{n s:Nat}:B5j n s r r=[]:=by
 unfold B5j;rw [List.filter_eq_nil_iff];intro k hk;by_cases c:k<r
 ·have:k%s<=k:=Nat.mod_le _ _;have:¬ k%s=r:=by omega
  simp [this]
 ·simp [c]
def D1N(n s r i:Nat):(B5j n s r i).length<=n:=by
 unfold B5j;exact E6J (E6R _ _) (by simp)
def C2W{d:Int}{t:List Int}{g:A9}{s r q:Nat}(ht:l_ t=32)(hs:0<s)(hs2:s<=32):∀ (e i m:Nat) (h:A9) (id:Nat),C5 d<=i+e->i<=64->e<m->i%s=r->Low (g++[rT (encI (d::t))]).length (g++[rT (encI (d::t))]) h->(g++[rT (encI (d::t))]).length<=id->rd h id=rT (encI (A3i (B5j (C5 d) s r i))) ->
  ∃ v h',B1d q m (pV (l_ g) 0) (iV (s:Int)) (sV id 0 (B5j (C5 d) s r i).length 1) (iV (i:Int)) h=A4 (v,h') /\
   Out (l_ g) h' v 1 ((E6z (C5 d)).filter λk=>k%s==r).length (encI (A3i ((E6z (C5 d)).filter λk=>k%s==r)))
 | e,i,0,h,id,_,_,hm,_,_,_,_=>by omega
 | e,i,m+1,h,id,hi,hi2,hm,hr,hlow,hid,hrd=>by
  have hB:=G4 (d:=d) ht;have s1:=C7 (h:=h) (id:=l_ g) (cs:=encI (d::t)) (hlow.rd (by simp)) hB;have hM:=λh=>fR (d:=d) (h:=h) ht
  have D7i:=T2 d;have hbl:=D1N (C5 d) s r i;rw [E58] at hid;rw [B7i];by_cases c:i<C5 d
  ·obtain ⟨e,rfl⟩:=aP e (by omega);have c0:(i:Int)<(C5 d:Nat):=by omega
   have en:=D6N hs c hr;obtain ⟨h1,a1,a2,a3,a4,a5⟩:=push (ys:=[cI (i:Int)]) (sz:=1) (n:=(B5j (C5 d) s r i).length) hlow hrd (by rw [C1,B3r];omega) (by rw [E58];exact hid) rfl (by omega) (by omega);have he:encI (A3i (B5j (C5 d) s r i))++[cI (i:Int)]=encI (A3i (B5j (C5 d) s r (i+s))):=by rw [en];simp [encI,A3i]
   rw [he] at a2;obtain ⟨v,h',f1,f2⟩:=C2W (q:=q) ht hs hs2 e (i+s) m h1 (l_ h+1) (by omega) (by omega) (by omega) (by rw [Nat.add_mod_right];exact hr) a3 a4 a2;have hl1:(B5j (C5 d) s r (i+s)).length=(B5j (C5 d) s r i).length+1:=by rw [en];simp
   rw [hl1] at f1;have ef:F5 [o0] [(0,1,iV (i:Int))]=A4 [cI (i:Int)]:=rfl;refine ⟨v,h',?_,f2⟩;simp only [esc,s1,hM,c0,ef,a1,A5a (show i+s<9223372036854775808 by omega)];exact f1
  ·have c0:¬ (i:Int)<(C5 d:Nat):=by omega
   rw [D8R (by omega)] at hrd ⊢;refine ⟨_,_,by simp only [esc,s1,hM,c0]<;>rfl,by rw [C1,B3r];omega,_,rfl,by omega,hrd⟩
def amm{b:Int}{d:Nat}:∃ w,B5i (iV b) (iV (d:Int))=A4 (iV w)/\C3L (iV 0) (iV w)=A4 (iV ((max 0 (min b d)).toNat:Nat)):=by
 refine ⟨min b d,?_,?_⟩
 ·simp only [B5i];by_cases h:(d:Int)<b
  ·rw [if_pos h,Int.min_eq_right (by omega)]
  ·rw [if_neg h,Int.min_eq_left (by omega)]
 ·simp only [C3L];by_cases h:(min b d:Int) > 0
  ·rw [if_pos h,Int.max_eq_right (by omega),Int.toNat_of_nonneg (by omega)]
  ·rw [if_neg h,Int.max_eq_left (by omega)];rfl
def B1c{b:Int}(ht:l_ t=32) :
  wQ [.a (encI (d::t)),iV p,iV b] h=A4 (sV (l_ h) 0 (plX d p b).length 1,h++[rT (encI (A3i (plX d p b)))]):=by
 have key:∀ N,64<N->∀ g,∃ v g',A33 N [.a (encI (d::t)),iV p,iV b] g=A4 (v,g')/\Out (l_ g) g' v 1 (plX d p b).length (encI (A3i (plX d p b))):=by
  intro N hN g;have hB:=G4 (d:=d) ht;have hM:=λh=>fR (d:=d) (h:=h) ht
  have hD:=λh=>cS (d:=d) (t:=t) (h:=h)
  have D7i:=T2 d;rw [B7Z];unfold plX;by_cases c1:p<0
  ·rw [if_neg (by omega)];refine ⟨sV (l_ g+2) 0 0 1,g++[rT (encI (d::t)),rT [],rT []],?_,rfl,l_ g+2,rfl,by omega,by simp [encI,A3i]⟩;generalize encI (d::t)=z at *;simp only [esc,c1]
  ·by_cases c2:((C5 d:Nat):Int)<=p
   ·rw [if_neg (by omega)];refine ⟨sV (l_ g+2) 0 0 1,g++[rT (encI (d::t)),rT [],rT []],?_,rfl,l_ g+2,rfl,by omega,by simp [encI,A3i]⟩;generalize encI (d::t)=z at *;simp only [esc,esh,Nat.reduceAdd,hB,hM,c1,c2]
   ·rw [if_pos (by omega)];obtain ⟨p,rfl⟩:∃ n:Nat,p=n:=⟨p.toNat,by omega⟩;rw [E6q];obtain ⟨w,m1,m2⟩:=amm (b:=b) (d:=eR d);have hbx:=E37 d b;have hdl:=B0i d;change C3L _ _=A4 (iV ((bX d b:Nat):Int)) at m2;have e1:=D6w (k:=bX d b) (by omega);have e2:=C10 (k:=bX d b) (by omega);have hp0:0<2 ^ bX d b:=Nat.pow_pos (by omega);have hp1:=C60 (show bX d b<=5 by omega);have e3:N5 .rem (iV (p:Int)) (iV ((2 ^ bX d b:Nat):Int))=A4 (iV ((p%2 ^ bX d b:Nat):Int)):=by
     rw [D3o (by omega) (by omega)];simp
    have hpm:p%2 ^ bX d b<2 ^ bX d b:=Nat.mod_lt _ hp0;unfold Y4;generalize 2 ^ bX d b=s at *;obtain ⟨v,g',f1,f2⟩:=C2W (g:=g) (d:=d) (t:=t) (q:=N) (s:=s) (r:=p%s) ht hp0 hp1 (C5 d) (p%s) N (g++[rT (encI (d::t)),rT [],rT []]) (l_ g+2) (by omega) (by omega) (by omega) (Nat.mod_mod _ _)
     (by have:=(Low.refl (h:=g++[rT (encI (d::t))]) (E56 _)).new [rT [],rT []];simpa using this) (by simp) (by rw [C5l];simp [encI,A3i])
    rw [C5l] at f1;refine ⟨v,g',?_,f2⟩;generalize encI (d::t)=z at *;simp only [esc,esh,Nat.reduceAdd,hB,hM,hD,c1,c2,m1,m2,e1,e2,e3] at f1 ⊢;exact f1
 obtain ⟨v,g',e,ho⟩:=key (l_ h+65) (by omega) (ro h);exact B6H e (by simpa [H6] using ho) (by simp)
def C71{l:List Nat}(hi:i<l_ l):(encI (A3i l))[i]?=A4 (cI ((l[i]:Nat):Int)):=by
 rw [G6];unfold A3i;rw [List.getElem?_map,E51 hi];rfl
def B0P(t:List Int)(l:List Nat)(no:Int):Bool:=l.all λk=>decide (toX t k=no)
def C7A{d no:Int}{t:List Int}{g:A9}{v:Val}{l:List Nat}{q:Nat}(ht:l_ t=32)(hl:∀ k∈l,k<32)(hv:Has g v 1 (l_ l) (encI (A3i l)))(hll:l_ l<9223372036854775807):∀ e i m:Nat,i+e=l_ l->e<m ->
  B3N q m (iV no) (pV (l_ g) 0) v (iV (l_ l:Nat)) (iV (i:Int)) (g++[rT (encI (d::t))])=A4 (bV (B0P t (l.drop i) no),g++[rT (encI (d::t))])
 | e,i,0,_,hm=>by omega
 | 0,i,m+1,hi,hm=>by
  have c0:¬ (i:Int)<(l_ l:Nat):=by omega
  rw [A6o,E6f (by omega)];simp only [esc,c0,B0P]
 | e+1,i,m+1,hi,hm=>by
  have ih:=C7A (d:=d) (no:=no) (q:=q) ht hl hv hll e (i+1) m (by omega) (by omega);have c0:(i:Int)<(l_ l:Nat):=by omega
  obtain ⟨id,off,ev,hid,k1,k2⟩:=(hv.more [rT (encI (d::t))]).sl (by omega);have hx:=k1 i _ (C71 (by omega));have eb:E9 1 v (iV (i:Int))=A4 (pV id (off+i)):=by rw [ev,E3 (by omega)];simp
  have hk:=hl l[i] (E6w (by omega));have a1:=adX (id:=l_ g) (i:=l[i]) hk;have l1:=ldX (h:=g++[rT (encI (d::t))]) (id:=l_ g) N6 ht (i:=l[i]) hk;rw [A6o,E6b (by omega:i<l_ l),B0P,E62];rw [B0P] at ih;by_cases c:toX t l[i]=no
  ·rw [decide_eq_true c,E6t];rw [c] at l1;simp only [esc,c0,eb,hx,a1,l1,D9 (a:=i) (by omega)];exact ih
  ·rw [decide_eq_false c,E6p];simp only [esc,c0,eb,hx,a1,l1,c]
def C6n{l:List Nat}(ht:l_ t=32)(hl:∀ k∈l,k<32)(hv:Has h v 1 (l_ l) (encI (A3i l)))(hll:l_ l<9223372036854775807) :
  A7b [.a (encI (d::t)),v,iV no] h=A4 (bV (B0P t l no),h):=by
 have key:∀ N,l_ l<N->∀ g,Has g v 1 (l_ l) (encI (A3i l))->∃ g',A6U N [.a (encI (d::t)),v,iV no] g=A4 (bV (B0P t l no),g'):=by
  intro N hN g hv;have e:=C7A (d:=d) (no:=no) (q:=N) ht hl hv hll (l_ l) 0 N (by omega) hN;rw [E6i] at e;rw [C0o];exact ⟨_,by simp only [esc,hv.len];exact e⟩
 obtain ⟨g',e⟩:=key (l_ l+1) (by omega) (ro h) hv.ro;exact B6M e rfl
def D45{n p b:Nat}(hn:n<=32):∀ k∈Y4 n p b,k<32:=by
 intro k hk;have:=List.mem_range.1 (List.mem_filter.1 hk).1;omega
def C6Y(n p b:Nat):(Y4 n p b).length<=n:=E6J (E6R _ _) (by simp)
def E0k{p b:Nat}(hp:p<C5 d)(hb:b<=eR d):plX d p b=Y4 (C5 d) p b:=by
 unfold plX;have:bX d b=b:=by unfold bX;omega
 rw [if_pos ⟨by omega,by omega⟩,this,E6q]
def A8k(n:Nat)(t:List Int)(p b:Nat):Bool:=!decide (toX t p=0)&&B0P t (Y4 n p b) (toX t p)
def aC(n:Nat)(t:List Int)(p:Nat):Nat->Nat->Nat
 | b,0=>b
 | b,e+1=>bif A8k n t p b then b else aC n t p (b+1) e
def X8(d:Int)(t:List Int)(p:Nat):Nat:=aC (C5 d) t p 0 (eR d)
def C07{d:Int}{t:List Int}{g:A9}{p q:Nat}(ht:l_ t=32)(hp:p<C5 d):∀ (e b m:Nat) (h:A9),b+e=eR d->e<m->Low (g++[rT (encI (d::t))]).length (g++[rT (encI (d::t))]) h ->
  ∃ h',B58 q m (iV (p:Int)) (pV (l_ g) 0) (iV (eR d:Nat)) (iV (b:Int)) h=A4 (iV (aC (C5 d) t p b e:Nat),h')
 | e,b,0,h,_,hm,_=>by omega
 | 0,b,m+1,h,hb,hm,hlow=>by
  have e0:b=eR d:=by omega
  subst e0;have c0:¬ ((eR d:Nat):Int)<(eR d:Nat):=by omega
  have hB:=G4 (d:=d) ht;have s1:=C7 (h:=h) (id:=l_ g) (cs:=encI (d::t)) (hlow.rd (by simp)) hB;have hD:=λh=>cS (d:=d) (t:=t) (h:=h)
  rw [A8S];generalize encI (d::t)=z at *;exact ⟨_,by simp only [esc,c0,s1,hD,aC]<;>rfl⟩
 | e+1,b,m+1,h,hb,hm,hlow=>by
  have D7i:=T2 d;have hdl:=B0i d;have c0:(b:Int)<(eR d:Nat):=by omega
  have hB:=G4 (d:=d) ht;have hrd:rd h (l_ g)=rT (encI (d::t)):=hlow.rd (by simp);have s1:=C7 (h:=h) (id:=l_ g) (cs:=encI (d::t)) hrd hB;have a1:=adX (id:=l_ g) (i:=p) (by omega);have l1:=ldX (h:=h) (id:=l_ g) hrd ht (i:=p) (by omega);have hP:=B1c (d:=d) (p:=p) (b:=b) (h:=h) ht;rw [E0k hp (by omega)] at hP;have hq:=W2 ((Grows.rfl' (h:=h)).new (encI (A3i (Y4 (C5 d) p b)))) (v:=sV (l_ h) 0 (Y4 (C5 d) p b).length 1);have hW:=C6n (d:=d) (no:=toX t p) (h:=h++[rT (encI (A3i (Y4 (C5 d) p b)))]) (v:=sV (l_ h) 0 (Y4 (C5 d) p b).length 1) ht (D45 (p:=p) (b:=b) D7i) (Has.row (rw:=A5) N6 (by rw [C1,B3r];omega) (A4U _)) (by have:=C6Y (C5 d) p b;omega);have l2:=ldX (h:=h++[rT (encI (A3i (Y4 (C5 d) p b)))]) (id:=l_ g) (B7 hrd) ht (i:=p) (by omega);rw [A8S,aC];unfold A8k;by_cases cz:toX t p=0
  ·obtain ⟨h',ih⟩:=C07 (q:=q) ht hp e (b+1) m h (by omega) (by omega) hlow;rw [decide_eq_true cz,Bool.not_true,E6p,cond_false];rw [cz] at l1;refine ⟨h',?_⟩;generalize encI (d::t)=z at *;simp only [esc,c0,a1,l1,D9 (a:=b) (by omega)];exact ih
  ·rw [decide_eq_false cz,Bool.not_false,E6t];cases cw:B0P t (Y4 (C5 d) p b) (toX t p) with
   | true =>
    rw [cw] at hW;rw [cond_true];generalize encI (d::t)=z at *;exact ⟨_,by simp only [esc,c0,a1,l1,cz,s1,hP,hq,hW]<;>rfl⟩
   | false =>
    rw [cw] at hW;obtain ⟨h',ih⟩:=C07 (q:=q) ht hp e (b+1) m (h++[rT (encI (A3i (Y4 (C5 d) p b)))]) (by omega) (by omega) (hlow.new _);rw [cond_false];refine ⟨h',?_⟩;generalize encI (d::t)=z at *;simp only [esc,c0,a1,l1,cz,s1,hP,hq,hW,D9 (a:=b) (by omega)];exact ih
def D8S(d:Int)(t:List Int)(p:Int):Nat:=if 0<=p/\p<(C5 d:Nat) then X8 d t p.toNat else 0
def C8a(ht:l_ t=32):A91 [.a (encI (d::t)),iV p] h=A4 (iV (D8S d t p:Nat),h):=by
 have key:∀ N,5<N->∀ g,∃ g',A9F N [.a (encI (d::t)),iV p] g=A4 (iV (D8S d t p:Nat),g'):=by
  intro N hN g;have hB:=G4 (d:=d) ht;have hM:=λh=>fR (d:=d) (h:=h) ht
  have hD:=λh=>cS (d:=d) (t:=t) (h:=h)
  have hdl:=B0i d;rw [C3o];unfold D8S;by_cases c1:p<0
  ·rw [if_neg (by omega)];generalize encI (d::t)=z at *;exact ⟨_,by simp only [esc,c1]<;>rfl⟩
  ·by_cases c2:((C5 d:Nat):Int)<=p
   ·rw [if_neg (by omega)];generalize encI (d::t)=z at *;exact ⟨_,by simp only [esc,esh,hB,hM,c1,c2]<;>rfl⟩
   ·rw [if_pos (by omega)];obtain ⟨p,rfl⟩:∃ n:Nat,p=n:=⟨p.toNat,by omega⟩;rw [E6q];obtain ⟨h',e⟩:=C07 (g:=g) (q:=N) ht (show p<C5 d by omega) (eR d) 0 N (g++[rT (encI (d::t))]) (by omega) (by omega) (Low.refl (E56 _));unfold X8;refine ⟨h',?_⟩;generalize encI (d::t)=z at *;simp only [esc,esh,hB,hM,hD,c1,c2];exact e
 obtain ⟨g',e⟩:=key (l_ h+6) (by omega) (ro h);exact B8p e rfl
def E1j{p:Nat}(hp:p<C5 d):D8S d t p=X8 d t p:=by
 unfold D8S;rw [if_pos ⟨by omega,by omega⟩,E6q]
def xT(n:Nat)(t:List Int)(no:Int):Nat:=((E6z n).filter λk=>decide (toX t k=no)).length
def D14{n:Nat}:xT (n+1) t no=xT n t no+(if toX t n=no then 1 else 0):=by
 unfold xT;rw [List.range_succ,E66,E58,List.filter_cons];by_cases c:toX t n=no<;>simp [c]
def D6V{n:Nat}:xT n t no<=n:=E6J (E6R _ _) (by simp)
def C5I{d no:Int}{t:List Int}{g:A9}{n q:Nat}(ht:l_ t=32)(hn:n<=32):∀ e i m:Nat,i+e=n->e<m ->
  B3K q m (iV no) (pV (l_ g) 0) (iV (xT i t no:Nat)) (iV (n:Int)) (iV (i:Int)) (g++[rT (encI (d::t))])=A4 (iV (xT n t no:Nat),g++[rT (encI (d::t))])
 | e,i,0,_,hm=>by omega
 | 0,i,m+1,hi,hm=>by
  have e0:i=n:=by omega
  subst e0;have c0:¬ (i:Int)<i:=by omega
  rw [A6m];simp only [esc,c0]
 | e+1,i,m+1,hi,hm=>by
  have ih:=C5I (d:=d) (no:=no) (g:=g) (q:=q) ht hn e (i+1) m (by omega) (by omega);have c0:(i:Int)<n:=by omega
  have a1:=adX (id:=l_ g) (i:=i) (by omega);have l1:=ldX (h:=g++[rT (encI (d::t))]) (id:=l_ g) N6 ht (i:=i) (by omega);have hc:=D6V (n:=i) (t:=t) (no:=no);rw [D14] at ih;rw [A6m];generalize xT i t no=C at *;by_cases c:toX t i=no
  ·rw [if_pos c] at ih;rw [c] at l1;simp only [esc,c0,a1,l1,A6l,D9 (a:=C) (by omega),D9 (a:=i) (by omega)];exact ih
  ·rw [if_neg c,E7a] at ih;simp only [esc,c0,a1,l1,c,A6l,D9 (a:=i) (by omega)];exact ih
def C6l(ht:l_ t=32):A7a [.a (encI (d::t)),iV no] h=A4 (iV (xT (C5 d) t no:Nat),h):=by
 have key:∀ N,32<N->∀ g,∃ g',A6R N [.a (encI (d::t)),iV no] g=A4 (iV (xT (C5 d) t no:Nat),g'):=by
  intro N hN g;have hB:=G4 (d:=d) ht;have hM:=λh=>fR (d:=d) (h:=h) ht
  have hm:=T2 d;have e:=C5I (d:=d) (no:=no) (g:=g) (q:=N) ht hm (C5 d) 0 N (by omega) (by omega);rw [show xT 0 t no=0 from rfl] at e;rw [C0l];generalize encI (d::t)=z at *;exact ⟨_,by simp only [esc,esh,hB,hM];exact e⟩
 obtain ⟨g',e⟩:=key (l_ h+33) (by omega) (ro h);exact B6J e rfl
def B6n(d:Int)(t:List Int)(i:Nat):Bool:=decide ((Y4 (C5 d) i (X8 d t i)).length=xT (C5 d) t (toX t i))
def yA(d:Int)(t:List Int)(i:Nat):Bool:=!decide (toX t i=0)&&(B7f (toX t i)&&(A0w t i||B6n d t i))
def yN(d:Int)(t:List Int)(i:Nat):Int:=bif yA d t i then toX t i else 0
def mN(d:Int)(t:List Int)(k:Nat):List Int:=(E6z k).map (yN d t)++zI (32-k)
def oE(hk:k<=32):(mN d t k).length=32:=by simp [mN,zI];omega
def D7c:mN d t 0=zI 32:=rfl
def D7b(hk:k<32):mN d t (k+1)=(mN d t k).set k (yN d t k):=by
 unfold mN;have e:zI (32-k)=0::zI (32-(k+1)):=by
  unfold zI;rw [show 32-k=(32-(k+1))+1 by omega,E6D]
 rw [e,E6O _ _ (by simp),List.range_succ,E6Q,E6d];simp
def D7a(hk:k<32)(hf:yN d t k=0):mN d t (k+1)=mN d t k:=by
 unfold mN;have e:zI (32-k)=0::zI (32-(k+1)):=by
  unfold zI;rw [show 32-k=(32-(k+1))+1 by omega,E6D]
 rw [e,List.range_succ,E6Q,E6d];simp [hf]
def C53{d:Int}{t:List Int}{g:A9}{q:Nat}(ht:l_ t=32):∀ (e i m:Nat) (h:A9),i+e=C5 d->e<m->Low (g++[rT (encI (d::t)),rT (encI (0::zI 32))]).length (g++[rT (encI (d::t)),rT (encI (0::zI 32))]) h->rd h (l_ g+2)=rT (encI (d::mN d t i)) ->
  ∃ h',A3m q m (pV (l_ g) 0) (pV (l_ g+1) 0) (pV (l_ g+2) 0) (iV (C5 d:Nat)) (iV (i:Int)) h=A4 (.a (encI (d::mN d t (C5 d))),h')
 | e,i,0,h,_,hm,_,_=>by omega
 | 0,i,m+1,h,hi,hm,hlow,hr=>by
  have e0:i=C5 d:=by omega
  subst e0;have c0:¬ ((C5 d:Nat):Int)<(C5 d:Nat):=by omega
  have hF:=G4 (d:=d) (oE (d:=d) (t:=t) (T2 d));have hz:(encI (0::zI 32)).length=33:=G4 (d:=0) N2;have hr1:rd h (l_ g+1)=rT (encI (0::zI 32)):=hlow.rd (by simp);have s1:=C7 (h:=h) (id:=l_ g+2) hr hF;have s2:=storeAll (h:=h) (id:=l_ g+1) (xs:=encI (d::mN d t (C5 d))) hr1 hz hF;have s3:=C7 (h:=h.set (l_ g+1) (rT (encI (d::mN d t (C5 d))))) (id:=l_ g+1) (D6 (E1 hr1)) hF;rw [B09];generalize encI (d::mN d t (C5 d))=z at *;exact ⟨_,by simp only [esc,c0,s1,s2,s3]<;>rfl⟩
 | e+1,i,m+1,h,hi,hm,hlow,hr=>by
  have D7i:=T2 d;have c0:(i:Int)<(C5 d:Nat):=by omega
  have hB:=G4 (d:=d) ht;have hrd:rd h (l_ g)=rT (encI (d::t)):=hlow.rd (by simp);have s1:=C7 (h:=h) (id:=l_ g) (cs:=encI (d::t)) hrd hB;have a1:=adX (id:=l_ g) (i:=i) (by omega);have l1:=ldX (h:=h) (id:=l_ g) hrd ht (i:=i) (by omega);have hFi:=λh=>B59 (n:=toX t i) (h:=h)
  have hFs:=λh=>B3L (d:=d) (t:=t) (i:=i) (h:=h) ht (by omega)
  have w1:=D9 (a:=i) (by omega);have hk:i<32:=by omega
  have skip:yN d t i=0->∀ h2,Low (g++[rT (encI (d::t)),rT (encI (0::zI 32))]).length (g++[rT (encI (d::t)),rT (encI (0::zI 32))]) h2->rd h2 (l_ g+2)=rT (encI (d::mN d t i)) ->
    ∃ h',A3m q m (pV (l_ g) 0) (pV (l_ g+1) 0) (pV (l_ g+2) 0) (iV (C5 d:Nat)) (iV ((i+1:Nat):Int)) h2=A4 (.a (encI (d::mN d t (C5 d))),h'):=by
   intro hf h2 hlow2 hr2;exact C53 (q:=q) ht e (i+1) m h2 (by omega) (by omega) hlow2 (by rw [D7a hk hf];exact hr2)
  have a3:=adX (id:=l_ g+2) (i:=i) hk;have put:yN d t i=toX t i->∀ h2,Low (g++[rT (encI (d::t)),rT (encI (0::zI 32))]).length (g++[rT (encI (d::t)),rT (encI (0::zI 32))]) h2->rd h2 (l_ g+2)=rT (encI (d::mN d t i)) ->
    ∃ h3,I8 h2 (pV (l_ g+2) (1+i)) (iV (toX t i))=A4 h3/\∃ h',A3m q m (pV (l_ g) 0) (pV (l_ g+1) 0) (pV (l_ g+2) 0) (iV (C5 d:Nat)) (iV ((i+1:Nat):Int)) h3=A4 (.a (encI (d::mN d t (C5 d))),h'):=by
   intro hf h2 hlow2 hr2;have hF:=G4 (d:=d) (oE (d:=d) (t:=t) (k:=i) (by omega));have t1:=I9 (x:=cI (toX t i)) (off:=1+i) hr2 (by rw [hF];omega);rw [D2g,<-hf,<-D7b hk,hf] at t1;refine ⟨_,t1,C53 (q:=q) ht e (i+1) m _ (by omega) (by omega) (hlow2.set (by simp) _) (D6 (E1 hr2))⟩
  rw [B09];by_cases cz:toX t i=0
  ·have hf:yN d t i=0:=by unfold yN yA;rw [decide_eq_true cz];rfl
   obtain ⟨h',ih⟩:=skip hf h hlow hr;rw [cz] at l1;refine ⟨h',?_⟩;generalize encI (d::t)=z at *;simp only [esc,c0,a1,l1,jQ,w1];exact ih
  ·cases cf:B7f (toX t i) with
   | false =>
    rw [cf] at hFi;have hf:yN d t i=0:=by unfold yN yA;rw [cf,E6p,Bool.and_false,cond_false]
    obtain ⟨h',ih⟩:=skip hf h hlow hr;refine ⟨h',?_⟩;generalize encI (d::t)=z at *;simp only [esc,c0,a1,l1,cz,hFi,jQ,w1];exact ih
   | true =>
    rw [cf] at hFi;cases cs:A0w t i with
    | true =>
     rw [cs] at hFs;have hf:yN d t i=toX t i:=by unfold yN yA;rw [cf,cs,decide_eq_false cz];rfl
     obtain ⟨h3,st,h',ih⟩:=put hf h hlow hr;refine ⟨h',?_⟩;generalize encI (d::t)=z at *;simp only [esc,c0,a1,l1,cz,hFi,s1,hFs,a3,st,jQ,w1];exact ih
    | false =>
     rw [cs] at hFs;have hBi:=λh=>C8a (d:=d) (t:=t) (p:=(i:Int)) (h:=h) ht
     rw [E1j (by omega)] at hBi;have hbl:X8 d t i<=eR d:=by
      have:∀ e b,aC (C5 d) t i b e<=b+e:=by
       intro e
       induction e with
       | zero=>intro b;exact E56 _
       | succ e ih =>
        intro b;unfold aC;cases A8k (C5 d) t i b
        ·rw [cond_false];have:=ih (b+1);omega
        ·rw [cond_true];omega
      have:=this (eR d) 0;unfold X8;omega
     have hP:=B1c (d:=d) (p:=(i:Int)) (b:=(X8 d t i:Nat)) (h:=h) ht;rw [E0k (by omega) hbl] at hP;have hq:=W2 ((Grows.rfl' (h:=h)).new (encI (A3i (Y4 (C5 d) i (X8 d t i))))) (v:=sV (l_ h) 0 (Y4 (C5 d) i (X8 d t i)).length 1);have hC:=λh=>C6l (d:=d) (no:=toX t i) (h:=h) ht
     have ew:decide (((Y4 (C5 d) i (X8 d t i)).length:Int)=((xT (C5 d) t (toX t i):Nat):Int))=B6n d t i:=by
      unfold B6n;by_cases c:(Y4 (C5 d) i (X8 d t i)).length=xT (C5 d) t (toX t i)
      ·rw [decide_eq_true c,decide_eq_true (by omega)]
      ·rw [decide_eq_false c,decide_eq_false (by omega)]
     have hlow2:=hlow.new [rT (encI (A3i (Y4 (C5 d) i (X8 d t i))))];have hr2:rd (h++[rT (encI (A3i (Y4 (C5 d) i (X8 d t i))))]) (l_ g+2)=rT (encI (d::mN d t i)):=B7 hr;cases cw:B6n d t i with
     | true =>
      rw [cw] at ew;have hf:yN d t i=toX t i:=by unfold yN yA;rw [cf,cs,cw,decide_eq_false cz];rfl
      obtain ⟨h3,st,h',ih⟩:=put hf _ hlow2 hr2;refine ⟨h',?_⟩;generalize encI (d::t)=z at *;simp only [esc,c0,a1,l1,cz,hFi,s1,hFs,hBi,hP,hq,hC,ew,a3,st,jQ,w1];exact ih
     | false =>
      rw [cw] at ew;have hf:yN d t i=0:=by unfold yN yA;rw [cf,cs,cw,decide_eq_false cz];rfl
      obtain ⟨h',ih⟩:=skip hf _ hlow2 hr2;refine ⟨h',?_⟩;generalize encI (d::t)=z at *;simp only [esc,c0,a1,l1,cz,hFi,s1,hFs,hBi,hP,hq,hC,ew,jQ,w1];exact ih
def A8J(d:Int)(t:List Int):List Int:=if 0<=d/\d<=5 then d::mN d t (C5 d) else 0::zI 32
def B86(ht:l_ t=32):A5O [.a (encI (d::t))] h=A4 (.a (encI (A8J d t)),h):=by
 have key:∀ N,32<N->∀ g,∃ g',B2f N [.a (encI (d::t))] g=A4 (.a (encI (A8J d t)),g'):=by
  intro N hN g;have hB:=G4 (d:=d) ht;have hz:(encI (0::zI 32)).length=33:=G4 (d:=0) N2;have hM:=λh=>fR (d:=d) (h:=h) ht
  have hD:=λh=>cS (d:=d) (t:=t) (h:=h)
  have l0:(encI (d::t))[0]?=A4 (cI d):=rfl;have haf:F5 (encI (0::zI 32)) []=A4 (encI (0::zI 32)):=rfl;rw [C4y,B4m];unfold A8J;by_cases c:0<=d/\d<=5
  ·rw [if_pos c];have hd:=D5T c.1 c.2;rw [hd] at hD;have ef:F5 (encI (0::zI 32)) [(0,1,iV d)]=A4 (encI (d::zI 32)):=by
    have e1:(0+1<=(encI (0::zI 32)).length):=by rw [hz];omega
    simp only [F5,cells?];rw [if_pos ⟨rfl,e1⟩];rfl
   have hz2:(encI (d::zI 32)).length=33:=G4 (d:=d) N2;obtain ⟨h',e⟩:=C53 (g:=g) (d:=d) (t:=t) (q:=N) ht (C5 d) 0 N (g++[rT (encI (d::t)),rT (encI (0::zI 32)),rT (encI (d::zI 32))]) (by omega) (by have:=T2 d;omega)
    (by have:=(Low.refl (h:=g++[rT (encI (d::t)),rT (encI (0::zI 32))]) (E56 _)).new [rT (encI (d::zI 32))];simpa using this) (by rw [D7c];simp)
   refine ⟨h',?_⟩;generalize encI (d::zI 32)=z2 at *;generalize encI (0::zI 32)=z at *;generalize encI (d::t)=y at *;simp only [esc,esh,Nat.reduceAdd,hB,hz,l0,hM,hD,ef,hz2];exact e
  ·rw [if_neg c];have cd:¬ d=((eR d:Nat):Int):=by unfold eR;omega
   generalize encI (0::zI 32)=z at *;generalize encI (d::t)=y at *;exact ⟨_,by simp only [esc,esh,Nat.reduceAdd,hB,hz,l0,hD,cd,haf]<;>rfl⟩
 obtain ⟨g',e⟩:=key (l_ h+33) (by omega) (ro h);exact C0I e (by simp)
def E5F:([Sh.i .i64]++E55 32 (Sh.i .i64))=E55 33 (.i .i64):=rfl
def A0F(d:Int)(t:List Int):Bool:=decide (0<=d)&&(decide (d<=5)&&decide (A8J d t=d::t))
def C2L:(A8J d t).length=33:=by
 unfold A8J;split
 ·rw [E6g,oE (T2 d)]
 ·rw [E6g,N2]
def C6k(ht:l_ t=32):A08 [.a (encI (d::t))] h=A4 (bV (A0F d t),h):=by
 have key:∀ g,∃ g',A6Q 0 [.a (encI (d::t))] g=A4 (bV (A0F d t),g'):=by
  intro g;have hB:=G4 (d:=d) ht;have hF:=λh=>B86 (d:=d) (t:=t) (h:=h) ht
  have hE:=D8B (l:=A8J d t) (m:=d::t) (n:=33) C2L (by simp [ht]);have l0:(encI (d::t))[0]?=A4 (cI d):=rfl;rw [C0k,E5F];unfold A0F;generalize A8J d t=F at *;by_cases c1:0<=d
  ·by_cases c2:d<=5
   ·generalize decide (F=d::t)=B at *;generalize encI (d::t)=y at *;exact ⟨_,by simp only [esc,esh,hB,l0,c1,c2,hF,hE,E6t]<;>rfl⟩
   ·generalize encI (d::t)=y at *;exact ⟨_,by simp only [esc,esh,hB,l0,c1,c2,E6t,E6p]<;>rfl⟩
  ·generalize encI (d::t)=y at *;exact ⟨_,by simp only [esc,esh,hB,l0,c1,E6p]<;>rfl⟩
 obtain ⟨g',e⟩:=key (ro h);exact B6I e rfl
def oO(d:List Int):List UInt8:=(d.map (D4 2)).flatten
def A1W{d:List Int}:(oO d).length=2*(l_ d):=by
 induction d with
 | nil=>rfl
 | cons x d ih=>simp only [oO,E6N,E65,E58,R2,E6g] at ih ⊢;omega
def D7J{d:List Int}{x:Int}:oO (d++[x])=oO d++D4 2 x:=by simp [oO]
def magX:List UInt8:=[105,100,120,33]
def A4Q(d:Int):List UInt8:=magX++D4 1 d++zeros 27
def A1Q:(A4Q d).length=32:=by simp [A4Q,magX]
def oJ(d:Int)(t:List Int):List UInt8:=R0 256 (A4Q d++oO t)
def A6j(ht:l_ t=32):(oJ d t).length=256:=I3 (by rw [E58,A1Q,A1W];omega)
def D43{n:Nat}{l:List UInt8}(h:l_ l+k<=n):R0 n (l++zeros k)=R0 n l:=by
 unfold R0 zeros;rw [E6d,List.replicate_append_replicate,E58,E6y]
 congr 2;omega
def okX(d:Int)(t:List Int):Bool:=decide (0<=d)&&(decide (d<=5)&&t.all B7f)
def C9l{d:Int}{t:List Int}{g:A9}{y:List Cell}{q:Nat}(ht:l_ t=32)(hyl:y.length=33):∀ e i m:Nat,i+e=32->e<m ->
  ∃ h',B9b q m (pV (l_ g+1) 0) (pV (l_ g+3) 0) (.a (encI t)) (iV (i:Int)) (g++[rT y,rT (B5 (zeros 256)),rT (B5 magX),rT (B5 (R0 256 (A4Q d++oO (t.take i))))]) =
   A4 (.t [.a (B5 (bif (t.drop i).all B7f then oJ d t else zeros 256)),.c (cI (bif (t.drop i).all B7f then 0 else 1))],h')
 | e,i,0,_,hm=>by omega
 | 0,i,m+1,hi,hm=>by
  have e0:i=32:=by omega
  subst e0;have c0:¬ ((32:Nat):Int)<32:=by omega
  have hz:(B5 (zeros 256)).length=256:=by rw [B6];exact zeros_length
  have hB:(B5 (oJ d t)).length=256:=by rw [B6];exact A6j ht
  have eB:R0 256 (A4Q d++oO t)=oJ d t:=rfl;rw [B1e,E6l (by omega),E6f (by omega),List.all_nil,cond_true,cond_true,eB];generalize oJ d t=B at *;generalize B5 magX=mg at *;generalize zeros 256=z at *;exact ⟨_,by simp only [esc,esh,c0,hz,hB]<;>rfl⟩
 | e+1,i,m+1,hi,hm=>by
  obtain ⟨h',ih⟩:=C9l (d:=d) (g:=g) (q:=q) ht hyl e (i+1) m (by omega) (by omega);have c0:(i:Int)<32:=by omega
  have hz:(B5 (zeros 256)).length=256:=by rw [B6];exact zeros_length
  have haf:F5 (E55 256 (Cell.i .u8 0)) []=A4 (E55 256 (Cell.i .u8 0)):=rfl;rw [J3] at haf;have hx:A4t 32 (.a (encI t)) (iV (i:Int))=A4 (iV t[i]):=by
   rw [B3I (by omega),G6,E51 (by omega)];rfl
  have hF:=λh=>B59 (n:=t[i]) (h:=h)
  have hnl:(A4Q d++oO (t.take i)).length=32+2*i:=by rw [E58,A1Q,A1W,E6A];omega
  have hP0:(R0 256 (A4Q d++oO (t.take i))).length=256:=I3 (by omega);have hp:(B5 (R0 256 (A4Q d++oO (t.take i)))).length=256:=by rw [B6,hP0]
  have hW:=λh=>aK (h:=h) (l:=R0 256 (A4Q d++oO (t.take i))) hP0 (a:=((32+2*i:Nat):Int)) (w:=2) (v:=t[i])
  have ew:=kF (l:=A4Q d++oO (t.take i)) (a:=32+2*i) (w:=2) (v:=t[i]) (by omega) (by omega) (by omega) (by omega);rw [hnl,E67,show zeros 0=[] from rfl,E6k,E6d,<-D7J,<-E6x (by omega)] at ew;rw [show ((2:Nat):Int)=2 from rfl] at ew;rw [ew] at hW;have hp2:(B5 (R0 256 (A4Q d++oO (t.take (i+1))))).length=256:=by rw [B6,I3 (by rw [E58,A1Q,A1W,E6A];omega)]
  have w1:E6a .i64 (2*(i:Int))=((2*i:Nat):Int):=by rw [wrap_i64 (by omega) (by omega)];omega
  have w2:E6a .i64 (32+((2*i:Nat):Int))=((32+2*i:Nat):Int):=by rw [wrap_i64 (by omega) (by omega)];omega
  rw [B1e,J3,E6b (by omega:i<l_ t),E62];generalize R0 256 (A4Q d++oO (t.take (i+1)))=P1 at *;generalize R0 256 (A4Q d++oO (t.take i))=P0 at *;generalize oJ d t=B at *;generalize B5 magX=mg at *;generalize zeros 256=z at *;cases c:B7f t[i] with
  | false =>
   rw [c] at hF;rw [E6p,cond_false,cond_false];exact ⟨_,by simp only [esc,esh,c0,hx,hF,haf,hz]<;>rfl⟩
  | true =>
   rw [c] at hF;rw [E6t];refine ⟨h',?_⟩;simp only [esc,esh,c0,hx,hF,hp,w1,w2,hW,hp2,D9 (a:=i) (by omega)];exact ih
def B9a(ht:l_ t=32):A5Q [.a (encI (d::t))] h=A4 (.t [.a (B5 (bif okX d t then oJ d t else zeros 256)),.c (cI (bif okX d t then 0 else 1))],h):=by
 have key:∀ N,32<N->∀ g,∃ g',B2h N [.a (encI (d::t))] g=A4 (.t [.a (B5 (bif okX d t then oJ d t else zeros 256)),.c (cI (bif okX d t then 0 else 1))],g'):=by
  intro N hN g;have hB:=G4 (d:=d) ht;have hz:(B5 (zeros 256)).length=256:=by rw [B6];exact zeros_length
  have hD:=λh=>cS (d:=d) (t:=t) (h:=h)
  have l0:(encI (d::t))[0]?=A4 (cI d):=rfl;have haf:F5 (E55 256 (Cell.i .u8 0)) []=A4 (E55 256 (Cell.i .u8 0)):=rfl;rw [J3] at haf;rw [C4A,J3];unfold okX;by_cases c:0<=d/\d<=5
  ·rw [decide_eq_true c.1,decide_eq_true c.2,E6t,E6t];have hd:=D5T c.1 c.2;rw [hd] at hD;have ef:F5 [Cell.i .u8 0,.i .u8 0,.i .u8 0,.i .u8 0] [(0,1,.c (.i .u8 105)),(1,1,.c (.i .u8 100)),(2,1,.c (.i .u8 120)),(3,1,.c (.i .u8 33))]=A4 (B5 magX):=rfl;have hO:=B4R (data:=magX) (v:=sV (l_ g+2) 0 4 1) (nv:=4) (h:=g++[rT (encI (d::t)),rT (B5 (zeros 256)),rT (B5 magX),A7]) (Has.row (rw:=A5) (by simp) rfl (W1 _)) (by decide);rw [D03 (by decide)] at hO;have hM:B03 (g++[rT (encI (d::t)),rT (B5 (zeros 256)),rT (B5 magX),A7]) (sV (l_ g+2) 0 4 1)=A4 (sV (l_ g+2) 0 4 1):=by simp [B03]
   have hW:=λh=>aK (h:=h) (l:=R0 256 magX) (I3 (by decide)) (a:=4) (w:=1) (v:=d)
   have ew:=kF (l:=magX) (a:=4) (w:=1) (v:=d) (by decide) (by omega) (by omega) (by omega);have e5:magX++zeros (4-magX.length)++D4 1 d=magX++D4 1 d:=rfl;have e6:R0 256 (magX++D4 1 d)=R0 256 (A4Q d++oO (t.take 0)):=by
    rw [E6S,show oO []=[] from rfl,E6k];exact (D43 (by simp [magX])).symm
   rw [e5,e6] at ew;rw [show ((4:Nat):Int)=4 from rfl,show ((1:Nat):Int)=1 from rfl] at ew;rw [ew] at hW;have hp2:(B5 (R0 256 (A4Q d++oO (t.take 0)))).length=256:=by rw [B6,I3 (by rw [E58,A1Q,A1W,E6A];omega)]
   have e7:D1 (g++[rT (encI (d::t)),rT (B5 (zeros 256)),rT (B5 magX),rT (B5 (R0 256 (A4Q d++oO (t.take 0))))]) 32 (pV (l_ g) 1)=A4 (.a (encI t)):=by
    rw [G8];simp only [E6K,Option.join_some,ldN,E6h];rw [if_pos ⟨by rw [hB];omega,rfl⟩];have:(encI (d::t)).drop 1=encI t:=rfl;rw [this,E6l (by rw [C1];omega)]
   obtain ⟨h',e⟩:=C9l (d:=d) (t:=t) (g:=g) (q:=N) ht hB 32 0 N (by omega) hN;rw [E6i] at e;generalize R0 256 (A4Q d++oO (t.take 0))=P1 at *;generalize R0 256 magX=P2 at *;generalize oJ d t=B at *;generalize B5 magX=mg at *;generalize zeros 256=z at *;generalize encI (d::t)=y at *;refine ⟨h',?_⟩;simp only [esc,esh,Nat.reduceAdd,hB,hz,l0,hD,ef,hM,hO,hW,hp2,e7,show (l_ g)+2+1=l_ g+3 from rfl];exact e
  ·have cd:¬ d=((eR d:Nat):Int):=by unfold eR;omega
   have ec:(decide (0<=d)&&(decide (d<=5)&&t.all B7f))=A6:=by
    by_cases c1:0<=d
    ·rw [decide_eq_false (show ¬ d<=5 by omega)];simp
    ·rw [decide_eq_false c1];rfl
   rw [ec,cond_false,cond_false];generalize zeros 256=z at *;generalize encI (d::t)=y at *;exact ⟨_,by simp only [esc,esh,Nat.reduceAdd,hB,hz,l0,hD,cd,haf]<;>rfl⟩
 obtain ⟨g',e⟩:=key (l_ h+33) (by omega) (ro h);refine C0L e ?_;cases okX d t<;>simp
def getD(b:List UInt8):Int:=fieldN b 4 1
def E29(b:List UInt8)(i:Nat):Int:=fieldN b (32+2*i) 2
def O0(b:List UInt8)(n:Nat):List Int:=(E6z n).map (E29 b)++zI (32-n)
def A1N{n:Nat}(hn:n<=32):(O0 b n).length=32:=by simp [O0,zI];omega
def D7g(hk:k<32):O0 b (k+1)=(O0 b k).set k (E29 b k):=by
 unfold O0;have e:zI (32-k)=0::zI (32-(k+1)):=by
  unfold zI;rw [show 32-k=(32-(k+1))+1 by omega,E6D]
 rw [e,E6O _ _ (by simp),List.range_succ,E6Q,E6d];simp
def D8P{a w:Nat}(h:a+w<=256)(hw:1<=w)(hw4:w<=4):((atN b (a:Int) w:Nat):Int)=fieldN b a w:=by
 unfold atN fieldN;rw [if_pos ⟨by omega,Y1.2 (by omega)⟩];simp only [E6q]
def B9P(t:List Int)(n e:Nat):Bool:=(E6v n e).all λi=>decide (toX t i=0)
def Q6(b:List UInt8):Bool:=okX (getD b) (O0 b 32)&&(decide (oJ (getD b) (O0 b 32)=b)&&B9P (O0 b 32) (C5 (getD b)) (32-C5 (getD b)))
def D9C{b:List UInt8}{d:Int}{t:List Int}{ix iz q:Nat}{h:A9}(ht:l_ t=32)(hx:rd h ix=rT (encI (d::t)))(hz:rd h iz=rT (encI (0::zI 32))):∀ e i m:Nat,i+e=32->e<m ->
  ∃ h',B89 q m (pV iz 0) (pV ix 0) (iV (i:Int)) h=A4 (.t [.a (encI (bif B9P t i e then d::t else 0::zI 32)),.c (cI (bif B9P t i e then 0 else 14))],h')
 | e,i,0,_,hm=>by omega
 | 0,i,m+1,hi,hm=>by
  have e0:i=32:=by omega
  subst e0;have c0:¬ ((32:Nat):Int)<32:=by omega
  have hX:=G4 (d:=d) ht;have hZ:(encI (0::zI 32)).length=33:=G4 (d:=0) N2;have s1:=C7 (h:=h) (id:=ix) hx hX;have s2:=storeAll (h:=h) (id:=iz) (xs:=encI (d::t)) hz hZ hX;have s3:=C7 (h:=h.set iz (rT (encI (d::t)))) (id:=iz) (D6 (E1 hz)) hX;have er:B9P t 32 0=A5:=rfl;rw [B1b,er,cond_true,cond_true];generalize encI (d::t)=y at *;exact ⟨_,by simp only [esc,c0,s1,s2,s3]<;>rfl⟩
 | e+1,i,m+1,hi,hm=>by
  obtain ⟨h',ih⟩:=D9C (b:=b) (q:=q) ht hx hz e (i+1) m (by omega) (by omega);have c0:(i:Int)<32:=by omega
  have hZ:(encI (0::zI 32)).length=33:=G4 (d:=0) N2;have a1:=adX (id:=ix) (i:=i) (by omega);have l1:=ldX (h:=h) (id:=ix) hx ht (i:=i) (by omega);have haf:F5 (encI (0::zI 32)) []=A4 (encI (0::zI 32)):=rfl;have s2:=storeAll (h:=h) (id:=iz) (xs:=encI (0::zI 32)) hz hZ hZ;have s3:=C7 (h:=h.set iz (rT (encI (0::zI 32)))) (id:=iz) (D6 (E1 hz)) hZ;have er:B9P t i (e+1)=(decide (toX t i=0)&&B9P t (i+1) e):=by unfold B9P;rw [List.range'_succ,E62]
  rw [B1b,er,B4m];by_cases c:toX t i=0
  ·rw [decide_eq_true c,E6t];rw [c] at l1;generalize encI (0::zI 32)=z at *;exact ⟨h',by simp only [esc,c0,a1,l1,D9 (a:=i) (by omega)];exact ih⟩
  ·rw [decide_eq_false c,E6p,cond_false,cond_false];generalize encI (0::zI 32)=z at *;exact ⟨_,by simp only [esc,c0,a1,l1,c,haf,s2,s3]<;>rfl⟩
def D9B{b:List UInt8}{g:A9}{q:Nat}(hb:l_ b=256)(hq:32<q):∀ e i m:Nat,i+e=32->e<m ->
  ∃ h',B88 q m (pV (l_ g) 0) (pV (l_ g+1) 0) (pV (l_ g+2) 0) (iV (i:Int)) (g++[rT (B5 b),rT (encI (0::zI 32)),rT (encI (getD b::O0 b i))]) =
   A4 (.t [.a (encI (bif Q6 b then getD b::O0 b 32 else 0::zI 32)),.c (cI (bif Q6 b then 0 else 14))],h')
 | e,i,0,_,hm=>by omega
 | 0,i,m+1,hi,hm=>by
  have e0:i=32:=by omega
  subst e0;have c0:¬ ((32:Nat):Int)<32:=by omega
  have hB:(B5 b).length=256:=by rw [B6,hb]
  have ht:=A1N (b:=b) (n:=32) (E56 _);have hX:=G4 (d:=getD b) ht;have hZ:(encI (0::zI 32)).length=33:=G4 (d:=0) N2;have hz0:(E55 256 (Cell.i .u8 0)).length=256:=E6y;have hP:=λh=>B9a (d:=getD b) (t:=O0 b 32) (h:=h) ht
  have hM:=λh=>fR (d:=getD b) (h:=h) ht
  have D7i:=T2 (getD b);have haf:F5 (encI (0::zI 32)) []=A4 (encI (0::zI 32)):=rfl;unfold Q6;rw [B1a,B4m];cases co:okX (getD b) (O0 b 32) with
  | false =>
   rw [co] at hP;simp only [cond_false] at hP;have hzz:(B5 (zeros 256)).length=256:=by rw [B6];exact zeros_length
   rw [E6p,cond_false,cond_false];generalize encI (0::zI 32)=z at *;generalize encI (getD b::O0 b 32)=y at *;generalize E55 256 (Cell.i .u8 0)=zz at *;generalize zeros 256=zzz at *;exact ⟨_,by simp only [esc,esh,Nat.reduceAdd,c0,hX,hP,hz0,hzz,haf,hZ,show decide ((1:Int)=0)=A6 from rfl]<;>rfl⟩
  | true =>
   rw [co] at hP;simp only [cond_true] at hP;rw [E6t];have K7:=A6j (d:=getD b) ht;have hI:(B5 (oJ (getD b) (O0 b 32))).length=256:=by rw [B6,K7]
   have hE:=C8G (n:=256) K7 hb;by_cases ce:oJ (getD b) (O0 b 32)=b
   ·rw [decide_eq_true ce,E6t];rw [decide_eq_true ce] at hE;obtain ⟨h',e⟩:=D9C (b:=b) (d:=getD b) (t:=O0 b 32) (ix:=l_ g+2) (iz:=l_ g+1) (q:=q) (h:=g++[rT (B5 b),rT (encI (0::zI 32)),rT (encI (getD b::O0 b 32)),rT (B5 (oJ (getD b) (O0 b 32)))]) ht (by simp) (by simp) (32-C5 (getD b)) (C5 (getD b)) q (by omega) (by omega);refine ⟨h',?_⟩;generalize B9P (O0 b 32) (C5 (getD b)) (32-C5 (getD b))=R at *;generalize oJ (getD b) (O0 b 32)=I at *;generalize getD b::O0 b 32=Y at *;generalize encI (0::zI 32)=z at *;generalize E55 256 (Cell.i .u8 0)=zz at *;simp only [esc,esh,Nat.reduceAdd,c0,hX,hP,hz0,hI,hB,hE,hM];exact e
   ·rw [decide_eq_false ce,E6p,cond_false,cond_false];rw [decide_eq_false ce] at hE;generalize oJ (getD b) (O0 b 32)=I at *;generalize encI (0::zI 32)=z at *;generalize encI (getD b::O0 b 32)=y at *;generalize E55 256 (Cell.i .u8 0)=zz at *;exact ⟨_,by simp only [esc,esh,Nat.reduceAdd,c0,hX,hP,hz0,hI,hB,hE,haf,hZ]<;>rfl⟩
 | e+1,i,m+1,hi,hm=>by
  obtain ⟨h',ih⟩:=D9B (g:=g) (q:=q) hb hq e (i+1) m (by omega) (by omega);have c0:(i:Int)<32:=by omega
  have hB:(B5 b).length=256:=by rw [B6,hb]
  have ht:=A1N (b:=b) (n:=i) (by omega);have hX:=G4 (d:=getD b) ht;have hA:=λh=>pQ (h:=h) hb (a:=((32+2*i:Nat):Int)) (w:=2)
  have ea:=D8P (b:=b) (a:=32+2*i) (w:=2) (by omega) (by omega) (by omega);rw [show ((2:Nat):Int)=2 from rfl] at ea;rw [ea] at hA;have w1:E6a .i64 (2*(i:Int))=((2*i:Nat):Int):=by rw [wrap_i64 (by omega) (by omega)];omega
  have w2:E6a .i64 (32+((2*i:Nat):Int))=((32+2*i:Nat):Int):=by rw [wrap_i64 (by omega) (by omega)];omega
  have a1:=adX (id:=l_ g+2) (i:=i) (by omega);have hs:(encI (getD b::O0 b i)).set (1+i) (cI (fieldN b (32+2*i) 2))=encI (getD b::O0 b (i+1)):=by rw [D2g,D7g (by omega)];rfl
  have W5:1+i<(encI (getD b::O0 b i)).length:=by rw [hX];omega
  rw [B1a];generalize Q6 b=G at *;generalize getD b::O0 b 32=Y at *;generalize encI (getD b::O0 b (i+1))=y1 at *;generalize encI (getD b::O0 b i)=y at *;generalize encI (0::zI 32)=z at *;refine ⟨h',?_⟩;simp only [esc,esh,c0,hB,w1,w2,hA,a1,W5,hs,D9 (a:=i) (by omega)];exact ih
def B87(hb:l_ b=256):A5P [.a (B5 b)] h=A4 (.t [.a (encI (bif Q6 b then getD b::O0 b 32 else 0::zI 32)),.c (cI (bif Q6 b then 0 else 14))],h):=by
 have key:∀ N,32<N->∀ g,∃ g',B2g N [.a (B5 b)] g=A4 (.t [.a (encI (bif Q6 b then getD b::O0 b 32 else 0::zI 32)),.c (cI (bif Q6 b then 0 else 14))],g'):=by
  intro N hN g;have hB:(B5 b).length=256:=by rw [B6,hb]
  have hZ:(encI (0::zI 32)).length=33:=G4 (d:=0) N2;have hA:=λh=>pQ (h:=h) hb (a:=4) (w:=1)
  have ea:=D8P (b:=b) (a:=4) (w:=1) (by omega) (by omega) (by omega);rw [show ((4:Nat):Int)=4 from rfl,show ((1:Nat):Int)=1 from rfl] at ea;rw [ea] at hA;have ef:F5 (encI (0::zI 32)) [(0,1,iV (fieldN b 4 1))]=A4 (encI (getD b::O0 b 0)):=by
   have e1:(0+1<=(encI (0::zI 32)).length):=by rw [hZ];omega
   simp only [F5,cells?];rw [if_pos ⟨rfl,e1⟩];rfl
  have hX:=G4 (d:=getD b) (A1N (b:=b) (n:=0) (by omega));obtain ⟨h',e⟩:=D9B (g:=g) (q:=N) hb hN 32 0 N (by omega) hN;rw [C4z,B4m];generalize Q6 b=G at *;generalize getD b::O0 b 32=Y at *;generalize encI (getD b::O0 b 0)=y at *;generalize encI (0::zI 32)=z at *;exact ⟨h',by simp only [esc,esh,Nat.reduceAdd,hB,hZ,hA,ef,hX];exact e⟩
 obtain ⟨g',e⟩:=key (l_ h+33) (by omega) (ro h);refine C0J e ?_;cases Q6 b<;>simp
def xM(t:List Int)(i:Nat):Bool:=!decide (toX t i=0)&&A0w t i
def J4(t:List Int)(k:Nat):List Int:=((E6z k).filter (xM t)).map (toX t)
def B4y:J4 t (k+1)=J4 t k++(if xM t k=A5 then [toX t k] else []):=by
 unfold J4;rw [List.range_succ,E66,E6Q,List.filter_cons];by_cases c:xM t k=A5<;>simp [c]
def iL(t:List Int)(k:Nat):(J4 t k).length<=k:=by
 unfold J4;rw [List.length_map];exact E6J (E6R _ _) (by simp)
def B0d{d:Int}{t:List Int}{g:A9}{n q:Nat}(ht:l_ t=32)(hn:n<=32):∀ (e i m:Nat) (h:A9) (id:Nat),i+e=n->e<m->Low (g++[rT (encI (d::t))]).length (g++[rT (encI (d::t))]) h->(g++[rT (encI (d::t))]).length<=id->rd h id=rT (encI (J4 t i)) ->
  ∃ v h',A0x q m (pV (l_ g) 0) (sV id 0 (J4 t i).length 1) (iV (n:Int)) (iV (i:Int)) h=A4 (v,h')/\Out (l_ g) h' v 1 (J4 t n).length (encI (J4 t n))
 | e,i,0,h,id,_,hm,_,_,_=>by omega
 | 0,i,m+1,h,id,hi,hm,hlow,hid,hr=>by
  have e0:i=n:=by omega
  subst e0;have c0:¬ (i:Int)<i:=by omega
  rw [E58] at hid;rw [A2D];exact ⟨_,_,by simp only [esc,c0]<;>rfl,by rw [C1];omega,_,rfl,by omega,hr⟩
 | e+1,i,m+1,h,id,hi,hm,hlow,hid,hr=>by
  have c0:(i:Int)<n:=by omega
  have hB:=G4 (d:=d) ht;have hrd:rd h (l_ g)=rT (encI (d::t)):=hlow.rd (by simp);have s1:=C7 (h:=h) (id:=l_ g) (cs:=encI (d::t)) hrd hB;have a1:=adX (id:=l_ g) (i:=i) (by omega);have l1:=ldX (h:=h) (id:=l_ g) hrd ht (i:=i) (by omega);have hFs:=λh=>B3L (d:=d) (t:=t) (i:=i) (h:=h) ht (by omega)
  have w1:=D9 (a:=i) (by omega);have hul:=iL t i;rw [A2D];have skip:xM t i=A6->∃ v h',A0x q m (pV (l_ g) 0) (sV id 0 (J4 t i).length 1) (iV (n:Int)) (iV ((i+1:Nat):Int)) h=A4 (v,h')/\Out (l_ g) h' v 1 (J4 t n).length (encI (J4 t n)):=by
   intro c;have hu:J4 t (i+1)=J4 t i:=by rw [B4y,c];simp
   have:=B0d (q:=q) ht hn e (i+1) m h id (by omega) (by omega) hlow hid (by rw [hu];exact hr);rw [hu] at this;exact this
  by_cases cz:toX t i=0
  ·obtain ⟨v,h',f1,f2⟩:=skip (by unfold xM;rw [decide_eq_true cz];rfl);rw [cz] at l1;refine ⟨v,h',?_,f2⟩;generalize encI (d::t)=z at *;simp only [esc,c0,a1,l1,qW,w1];exact f1
  ·cases cs:A0w t i with
   | false =>
    obtain ⟨v,h',f1,f2⟩:=skip (by unfold xM;rw [cs,Bool.and_false]);rw [cs] at hFs;refine ⟨v,h',?_,f2⟩;generalize encI (d::t)=z at *;simp only [esc,c0,a1,l1,cz,s1,hFs,qW,w1];exact f1
   | true =>
    rw [cs] at hFs;have cb:xM t i=A5:=by unfold xM;rw [cs,decide_eq_false cz];rfl
    have hu:J4 t (i+1)=J4 t i++[toX t i]:=by rw [B4y,if_pos cb]
    obtain ⟨h1,b1,b2,b3,b4,b5⟩:=push (ys:=[cI (toX t i)]) (sz:=1) (n:=(J4 t i).length) hlow hr (by rw [C1];omega) hid rfl (by omega) (by omega);have he:encI (J4 t i)++[cI (toX t i)]=encI (J4 t (i+1)):=by rw [hu];simp [encI]
    rw [he] at b2;obtain ⟨v,h',f1,f2⟩:=B0d (q:=q) ht hn e (i+1) m h1 (l_ h+1) (by omega) (by omega) b3 b4 b2;have hl1:(J4 t (i+1)).length=(J4 t i).length+1:=by rw [hu];simp
    rw [hl1] at f1;have ef:F5 [o0] [(0,1,iV (toX t i))]=A4 [cI (toX t i)]:=rfl;refine ⟨v,h',?_,f2⟩;generalize encI (d::t)=z at *;simp only [esc,c0,a1,l1,cz,s1,hFs,ef,b1,qW,w1];exact f1
def gP(ht:l_ t=32):jM [.a (encI (d::t))] h=A4 (sV (l_ h) 0 (J4 t (C5 d)).length 1,h++[rT (encI (J4 t (C5 d)))]):=by
 have key:∀ N,32<N->∀ g,∃ v g',A2a N [.a (encI (d::t))] g=A4 (v,g')/\Out (l_ g) g' v 1 (J4 t (C5 d)).length (encI (J4 t (C5 d))):=by
  intro N hN g;have hB:=G4 (d:=d) ht;have hM:=λh=>fR (d:=d) (h:=h) ht
  have hm:=T2 d;obtain ⟨v,g',f1,f2⟩:=B0d (g:=g) (d:=d) (q:=N) ht hm (C5 d) 0 N (g++[rT (encI (d::t)),rT [],rT []]) (l_ g+2) (by omega) (by omega)
   (by have:=(Low.refl (h:=g++[rT (encI (d::t))]) (E56 _)).new [rT [],rT []];simpa using this) (by simp) (by simp [J4,encI])
  rw [show J4 t 0=[] from rfl] at f1;rw [B6u];refine ⟨v,g',?_,f2⟩;generalize encI (d::t)=z at *;simp only [esc,esh,Nat.reduceAdd,hB,hM] at f1 ⊢;exact f1
 obtain ⟨v,g',e,ho⟩:=key (l_ h+33) (by omega) (ro h);exact B5f e (by simpa [H6] using ho) (by simp)
def D9X(h:Nat)(b:Int):Nat:=if b<1 then 0 else if 32<=b then h else h%2 ^ b.toNat
def D4U{b:Int}(hx:x<4294967296):C0O [.c (.i .u32 (x:Int)),iV b] h=A4 (iV (D9X x b:Nat),h):=by
 have key:∀ g,∃ g',C0s 0 [.c (.i .u32 (x:Int)),iV b] g=A4 (iV (D9X x b:Nat),g'):=by
  intro g;rw [C95];unfold D9X;by_cases c1:b<1
  ·rw [if_pos c1];exact ⟨_,by simp only [esc,c1]<;>rfl⟩
  ·rw [if_neg c1];have w1:E6a .i64 (x:Int)=(x:Int):=wrap_i64 (by omega) (by omega);by_cases c2:32<=b
   ·rw [if_pos c2];exact ⟨_,by simp only [esc,c1,c2,w1]<;>rfl⟩
   ·rw [if_neg c2];obtain ⟨k,rfl⟩:∃ k:Nat,b=k:=⟨b.toNat,by omega⟩;rw [E6q];have w2:=C10 (k:=k) (by omega);have hp:2 ^ k<=2 ^ 31:=Nat.pow_le_pow_right (by omega) (by omega);have hp0:0<2 ^ k:=Nat.pow_pos (by omega);have e1:N5 .shl (.c (.i .u32 1)) (.c (.i .u64 (k:Int)))=A4 (.c (.i .u32 ((2 ^ k:Nat):Int))):=by
     rw [B8G (by omega)];have h1:Nat.min (k:Int).toNat (IntKind.u32).bits=k:=by
      have:(IntKind.u32).bits=32:=rfl;rw [this,E6q];exact Nat.min_eq_left (by omega)
     rw [h1,Int.one_mul];have e:(2:Int) ^ k=((2 ^ k:Nat):Int):=by simp
     rw [e];generalize 2 ^ k=y at hp hp0 ⊢;rw [wrap_u32 (by omega) (by omega)]
    have w3:E6a .u32 (((2 ^ k:Nat):Int)-1)=((2 ^ k-1:Nat):Int):=by rw [wrap_u32 (by omega) (by omega)];omega
    have e2:=E1b (a:=x) (b:=2 ^ k-1) hx (by omega);rw [Nat.and_two_pow_sub_one_eq_mod] at e2;have hm:x%2 ^ k<2 ^ k:=Nat.mod_lt _ hp0;have w4:E6a .i64 ((x%2 ^ k:Nat):Int)=((x%2 ^ k:Nat):Int):=wrap_i64 (by omega) (by omega);generalize 2 ^ k-1=y at *;generalize x%2 ^ k=z at *;exact ⟨_,by simp only [esc,c1,c2,w2,e1,w3,e2,w4]<;>rfl⟩
 obtain ⟨g',e⟩:=key (ro h);exact C4Y e rfl
def B3J(ht:l_ t=32)(hx:x<4294967296):A07 [.a (encI (d::t)),.c (.i .u32 (x:Int))] h=A4 (iV (x%C5 d:Nat),h):=by
 have key:∀ g,∃ g',A6P 0 [.a (encI (d::t)),.c (.i .u32 (x:Int))] g=A4 (iV (x%C5 d:Nat),g'):=by
  intro g;have hB:=G4 (d:=d) ht;have hD:=λh=>cS (d:=d) (t:=t) (h:=h)
  have hL:=λh=>D4U (x:=x) (b:=(eR d:Nat)) (h:=h) hx
  have e:D9X x (eR d:Nat)=x%C5 d:=by
   unfold D9X C5;have:=B0i d;rw [E6q];by_cases c:((eR d:Nat):Int)<1
   ·have:eR d=0:=by omega
    rw [if_pos c,this];simp [Nat.mod_one]
   ·rw [if_neg c,if_neg (by omega)]
  rw [e] at hL;rw [C0j];generalize encI (d::t)=y at *;exact ⟨_,by simp only [esc,esh,hB,hD,hL]<;>rfl⟩
 obtain ⟨g',e⟩:=key (ro h);exact B6G e rfl
def Z0(D:Dev)(n k:Int)(d:List Int):Bool:=decide (k=2)&&G5 (l_ D) n (d.getD 0 0)&&Q6 (blk D (d.getD 0 0))
def tP(D:Dev)(n k:Int)(d:List Int):List Int:=bif Z0 D n k d then getD (blk D (d.getD 0 0))::O0 (blk D (d.getD 0 0)) 32 else 0::zI 32
def A1c(b:List UInt8):(O0 b 32).length=32:=by simp [O0,zI]
def C9f(D:Dev)(n k:Int)(d:List Int):∃ x t,tP D n k d=x::t/\(l_ t)=32:=by
 unfold tP;cases Z0 D n k d with
 | false=>exact ⟨_,_,rfl,N2⟩
 | true=>exact ⟨_,_,rfl,A1c _⟩
def A6k(D:Dev)(n k:Int)(d:List Int):(encI (tP D n k d)).length=33:=by
 obtain ⟨x,t,e,h⟩:=C9f D n k d;rw [e,C1];simp [h]
def A1a{k s:Int}{d:List Int}(hD:okD D)(hd:l_ d=7)(hv:IsView h f D) :
  iY [.a (vwC (l_ D) n m f),.a (C8 k l s p d)] h=A4 (.t [.a (encI (tP D n k d)),.c (.b (Z0 D n k d))],h):=by
 have key:∀ g,IsView g f D->∃ g',A9z 0 [.a (vwC (l_ D) n m f),.a (C8 k l s p d)] g=A4 (.t [.a (encI (tP D n k d)),.c (.b (Z0 D n k d))],g'):=by
  intro g hv;have l3:=C27 (b:=l_ D) (n:=n) (m:=m) (f:=f);have l4:=B6m (b:=l_ D) (n:=n) (m:=m) (f:=f);have i0:(C8 k l s p d)[0]?=A4 (cI k):=rfl;have i4:(C8 k l s p d)[4]?=A4 (cI (d.getD 0 0)):=by
   have:(C8 k l s p d)[4]?=(encI d)[0]? := rfl;rw [this,G6,E51 (by omega),E54,E51 (by omega)];rfl
  have ad:∀ q,K5 6 1 (pV q 4) (iV 0)=A4 (pV q 4):=λq=>rfl
  have hz:(encI (0::zI 32)).length=33:=G4 (d:=0) N2;have ef:F5 (encI (0::zI 32)) []=A4 (encI (0::zI 32)):=rfl;have n12:¬ (14:Int)=0:=by decide
  rw [C3j,B4m];unfold tP Z0;by_cases c1:k=2
  ·have hI:=λh=>X3 (b:=l_ D) (n:=n) (m:=m) (i:=d.getD 0 0) (h:=h)
   cases c2:G5 (l_ D) n (d.getD 0 0) with
   | false =>
    simp only [c2] at hI;simp only [Bool.and_false,E6p,cond_false];generalize vwC (l_ D) n m f=V at *;generalize C8 k l s p d=I at *;generalize encI (0::zI 32)=z at *;exact ⟨_,by simp only [esc,esh,Nat.reduceAdd,eq_self,i0,c1,l3,ad,i4,hI,hz,ef]<;>rfl⟩
   | true =>
    simp only [c2] at hI;have hB:=M7 (n:=n) (m:=m) (no:=d.getD 0 0) (h:=g++[rT (vwC (l_ D) n m f),rT (C8 k l s p d),rT (encI (0::zI 32))]) hD (hv.more _);have hG:=λh=>B87 (h:=h) (J9 hD (i:=d.getD 0 0))
    have hX:(encI (getD (blk D (d.getD 0 0))::O0 (blk D (d.getD 0 0)) 32)).length=33:=G4 (A1c _);rw [decide_eq_true c1,E6t,E6t];cases c3:Q6 (blk D (d.getD 0 0)) with
    | false =>
     simp only [c3,cond_false] at hG;rw [cond_false];generalize encI (getD (blk D (d.getD 0 0))::O0 (blk D (d.getD 0 0)) 32)=x at *;generalize B5 (blk D (d.getD 0 0))=y at *;generalize vwC (l_ D) n m f=V at *;generalize C8 k l s p d=I at *;generalize encI (0::zI 32)=z at *;exact ⟨_,by simp only [esc,esh,Nat.reduceAdd,eq_self,i0,c1,l3,l4,ad,i4,hI,hB,hG,hz,ef,n12]<;>rfl⟩
    | true =>
     simp only [c3,cond_true] at hG;rw [cond_true];generalize encI (getD (blk D (d.getD 0 0))::O0 (blk D (d.getD 0 0)) 32)=x at *;generalize B5 (blk D (d.getD 0 0))=y at *;generalize vwC (l_ D) n m f=V at *;generalize C8 k l s p d=I at *;generalize encI (0::zI 32)=z at *;exact ⟨_,by simp only [esc,esh,Nat.reduceAdd,eq_self,i0,c1,l3,l4,ad,i4,hI,hB,hG,hz,hX,ef]<;>rfl⟩
  ·rw [decide_eq_false c1,E6p,E6p,cond_false];generalize vwC (l_ D) n m f=V at *;generalize C8 k l s p d=I at *;generalize encI (0::zI 32)=z at *;exact ⟨_,by simp only [esc,esh,Nat.reduceAdd,eq_self,i0,c1,hz,ef]<;>rfl⟩
 obtain ⟨g',e⟩:=key (ro h) hv.ro;exact B8k e (by simp [Val.flat,Cell.flat])
def S7(D:Dev)(n k:Int)(d:List Int):List Int:=bif Z0 D n k d then (J4 (O0 (blk D (d.getD 0 0)) 32) (C5 (getD (blk D (d.getD 0 0))))).filter (G5 (l_ D) n) else []
def B64{D:Dev}{n m:Int}{f:Cell}{g:A9}{p q sid:Nat}{L:List Int}(h1:rd g p=rT (vwC (l_ D) n m f))(hL:l_ L<=32):∀ (e i M id:Nat) (h:A9) (l:List Int),i+e=l_ L->e<M->l_ l<=i->Low (l_ g) g h->l_ g<=id->id≠sid->rd h sid=rT (encI L)->rd h id=rT (encI l) ->
  ∃ v' h',B07 q M (pV p 0) (sV id 0 (l_ l) 1) (sV sid 0 (l_ L) 1) (iV (l_ L:Int)) (iV (i:Int)) h=A4 (v',h')/\Out (l_ g) h' v' 1 (l++(L.drop i).filter (G5 (l_ D) n)).length (encI (l++(L.drop i).filter (G5 (l_ D) n)))
 | e,i,0,id,h,l,_,hm,_,_,_,_,_,_=>by omega
 | 0,i,M+1,id,h,l,hi,hm,hl,hlow,hid,aR,hs,hr=>by
  have e0:i=(l_ L):=by omega
  subst e0;have c0:¬ ((l_ L:Nat):Int)<(l_ L:Nat):=by omega
  rw [A4K,E6f (E56 _),List.filter_nil,E6k];exact ⟨_,_,by simp only [esc,c0]<;>rfl,by rw [C1,E69],id,rfl,hid,hr⟩
 | e+1,i,M+1,id,h,l,hi,hm,hl,hlow,hid,aR,hs,hr=>by
  have K7:i<(l_ L):=by omega
  have c0:(i:Int)<(l_ L:Nat):=by omega
  have ad:E9 1 (sV sid 0 (l_ L) 1) (iV (i:Int))=A4 (pV sid i):=by rw [E3 K7];simp
  have l1:B9 h (pV sid i)=A4 (iV L[i]):=C4 hs (by rw [G6,E51 K7];rfl) rfl;have fa:T8 (pV p 0) 0=A4 (pV p 0):=rfl;have l3:D1 h 3 (pV p 0)=A4 (.a (K9 (l_ D) n m)):=by rw [T1 (hlow.rd h1) (by simp [vwC]) rfl];rfl
  have hI:=X3 (b:=l_ D) (n:=n) (m:=m) (i:=L[i]) (h:=h);have w1:=D9 (a:=i) (by omega);rw [A4K,E6b K7];cases c:G5 (l_ D) n L[i] with
  | false =>
   rw [c] at hI;obtain ⟨v',h',f1,f2⟩:=B64 (q:=q) h1 hL e (i+1) M id h l (by omega) (by omega) (by omega) hlow hid aR hs hr;rw [E6V (by rw [c];simp)];refine ⟨v',h',?_,f2⟩;simp only [C6,G3,c0,decide_true,W9,ad,l1,fa,l3,hI,Y0,A4J,L7,w1];exact f1
  | true =>
   rw [c] at hI;have ef:F5 [o0] [(0,1,iV L[i])]=A4 (encI [L[i]]):=rfl;obtain ⟨h2,a1,a2,a3,a4⟩:=B7t (n:=l_ l) (sz:=1) (ys:=encI [L[i]]) hr (by rw [C1,E69]) rfl (by omega) (by omega);rw [<-iN] at a2;have el:(l++[L[i]]).length=l_ l+1:=by simp
   have W5:=E1 hs;obtain ⟨v',h',f1,f2⟩:=B64 (q:=q) h1 hL e (i+1) M (l_ h+1) h2 (l++[L[i]]) (by omega) (by omega) (by rw [el];omega) (hlow.trans (a4 _ hid (by have:=hlow.2.1;omega))) (by have:=hlow.2.1;omega) (by omega) (a3 _ _ (Ne.symm aR) hs) a2;rw [E6W (by rw [c])];rw [E6d,List.singleton_append] at f2;rw [el] at f1;refine ⟨v',h',?_,f2⟩;simp only [C6,G3,c0,decide_true,W9,ad,l1,fa,l3,hI,ef,a1,A4J,L7,w1];exact f1
def A2i{k s:Int}{d:List Int}(hD:okD D)(hd:l_ d=7)(hv:IsView h f D) :
  nF [.a (vwC (l_ D) n m f),.a (C8 k l s p d)] h=A4 (sV (l_ h) 0 (S7 D n k d).length 1,h++[rT (encI (S7 D n k d))]):=by
 have key:∀ g,IsView g f D->∃ v g',A31 33 [.a (vwC (l_ D) n m f),.a (C8 k l s p d)] g=A4 (v,g')/\Out (l_ g) g' v 1 (S7 D n k d).length (encI (S7 D n k d)):=by
  intro g hv;have hIl:(C8 k l s p d).length=11:=by simp [C8,C1,hd]
  have l11:ldN (rT (C8 k l s p d)) 0 11=A4 (.a (C8 k l s p d)):=K8 hIl;have l4:=B6m (b:=l_ D) (n:=n) (m:=m) (f:=f);have hz:(encI (0::zI 32)).length=33:=G4 (d:=0) N2;have hX:=A6k D n k d;have hI:=A1a (n:=n) (m:=m) (k:=k) (l:=l) (s:=s) (p:=p) (h:=g++[rT (vwC (l_ D) n m f),rT (C8 k l s p d),rT []]) hD hd (hv.more _);rw [B7X,B4m];cases c:Z0 D n k d with
  | false =>
   rw [c] at hI;have eb:S7 D n k d=[]:=by unfold S7;rw [c];rfl
   rw [eb];generalize encI (tP D n k d)=x at *;generalize encI (0::zI 32)=z at *;refine ⟨sV (l_ g+4) 0 0 1,g++[rT (vwC (l_ D) n m f),rT (C8 k l s p d),rT [],rT x,rT []],?_,rfl,l_ g+4,rfl,by omega,by simp [encI]⟩;generalize vwC (l_ D) n m f=V at *;generalize C8 k l s p d=I at *;simp only [esc,esh,Nat.reduceAdd,l4,l11,hI,hz,hX]
  | true =>
   rw [c] at hI;have eb:S7 D n k d=(J4 (O0 (blk D (d.getD 0 0)) 32) (C5 (getD (blk D (d.getD 0 0))))).filter (G5 (l_ D) n):=by unfold S7;rw [c];rfl
   have ex:tP D n k d=getD (blk D (d.getD 0 0))::O0 (blk D (d.getD 0 0)) 32:=by unfold tP;rw [c];rfl
   rw [ex] at hI hX;have hB:=λh=>gP (d:=getD (blk D (d.getD 0 0))) (h:=h) (A1c (blk D (d.getD 0 0)))
   have hBl:=iL (O0 (blk D (d.getD 0 0)) 32) (C5 (getD (blk D (d.getD 0 0))));have hml:=T2 (getD (blk D (d.getD 0 0)));rw [eb];generalize J4 (O0 (blk D (d.getD 0 0)) 32) (C5 (getD (blk D (d.getD 0 0))))=L at *;generalize encI (getD (blk D (d.getD 0 0))::O0 (blk D (d.getD 0 0)) 32)=x at *;generalize encI (0::zI 32)=z at *;obtain ⟨v',h',f1,f2⟩:=B64 (D:=D) (n:=n) (m:=m) (f:=f) (g:=g++[rT (vwC (l_ D) n m f),rT (C8 k l s p d),rT [],rT x]) (p:=l_ g) (q:=33) (sid:=l_ g+5) (L:=L) (by simp) (by omega) (l_ L) 0 33 (l_ g+4) (g++[rT (vwC (l_ D) n m f),rT (C8 k l s p d),rT [],rT x,rT [],rT (encI L)]) [] (by omega) (by omega) (by simp)
    (by
     have:=(Low.refl (h:=g++[rT (vwC (l_ D) n m f),rT (C8 k l s p d),rT [],rT x]) (E56 _)).new [rT [],rT (encI L)];simpa using this) (by simp) (by omega) (by simp) (by simp [encI])
   rw [E6s,E6i] at f2;rw [E6E] at f1;refine ⟨v',h',?_,f2.1,?_⟩
   ·generalize vwC (l_ D) n m f=V at *;generalize C8 k l s p d=I at *;simp only [esc,esh,Nat.reduceAdd,l4,l11,hI,hz,hX,hB];exact f1
   ·obtain ⟨id,e,hb,hr⟩:=f2.2;exact ⟨id,e,by simp at hb;omega,hr⟩
 obtain ⟨v,g',e,ho⟩:=key (ro h) hv.ro;exact B6E e (by simpa [H6] using ho) (by simp)
section
variable (n m m2:Nat) (a0 a1 x0 x1 x2 x3 x4 x6 x7 x8 x9 x10 x18 x19 x21 x22:Val) (h:A9)
def pA:FD A8:=⟨px 0X11201024bf2e053a04b49218011d201500001722401b1a195b027a1a17a4e787a777a7014b0220385e173901a18d15238f30412742150307024313401215f42006051105b72c035d5b41c2013011d201500622401b6193b02481a74870101b6192b02381a73870101b18191c9051e1a01e18a71e701501205b740284f42031201042,[.c (.s [46]),.c (.s [46,46]),.c (.i .u8 0),.c (.i .u8 47)],[.idxS (.t 25) (.t 26),.idxS (.t 30) (.t 31)],[.tmp 2],[]⟩
def B72:=pA.R
def B6b:AtH:=pA.lj 0 n [m] [x0,x21,x22]
def B8E:=tT [⟨2,3,B6b⟩]
def C3r:=mR B72 pA B8E n [a0] h
def A83:=mL pA B8E 0 n [m] [x0,x21,x22] h
def A9n:=pA.K Tryz.func172
def A3b:=pA.S
def C3G:SOk A8 172 A3b:=A9n.sok
def B8s:G0 B72 A3b:=A9n.flat
def tW:FD A8:=⟨px 0X113026e3966a393d1c37111102723cf2b052a02218022a185e1392d0384e1710502482e07182df604123c42150307024513401215942006051105b7134f4d11c2013022a1381392d06905b71d051961192011cf3002c3961e11e39184711101722410321819022d4218f50010377031b42031e4c11942111e21b250182,[],[.idxS (.t 24) (.t 25)],[.cellN 2 25,.tmp 3],[D7 A3b A9n]⟩
def B2l:=tW.R
def B9t:AtH:=tW.lj 0 n [m] [x0,x2,x4,x18,x19]
def C2j:=tT [⟨2,5,B9t⟩]
def C4F:=mR B2l tW C2j n [a0] h
def B1k:=mL tW C2j 0 n [m] [x0,x2,x4,x18,x19] h
def B1X:=tW.K Tryz.func173
def A5S:=tW.S
def C4Z:SOk A8 173 A5S:=B1X.sok
def C0Q:G0 B2l A5S:=B1X.flat
def A00:FD A8:=⟨px 0X1113df20683d0302011d12b20275001a22401b18192684e6a39683c4e39683c0110323e2e07791100722df12cf23961e61b11828062c2c2bf29001033a2a0181f1d31c201328f5013803805022a1d051b4001a2011d12b2027500001b2241c90521e1b023942031af400680411e1391818c41942112b103a3342,[.c (.s [])],[.slA 25 1 (.t 1) (A4 (.v (.c (cI 1)))) (A4 (.t 14)),.b2s (.t 15),.eqA A5 (E55 25 (.i .u8)) (.t 25) (.t 26)],[.tmp 2,.tmp 3],[D7 A5S B1X]⟩
def A6X:=A00.R
def C0t:=mR A6X A00 (tT []) n [a0] h
def B5B:=A00.K Tryz.func165
def A7f:=A00.S
def C0R:SOk A8 165 A7f:=B5B.sok
def B6R:G0 A6X A7f:=B5B.flat
def A5o:FD A8:=⟨px 0X17f4004121a171400062340130182,[],[],[.tmp 4],[]⟩
def C2d:=A5o.R
def C4E:=mR C2d A5o (tT []) n [a0,a1] h
def C16:=A5o.K Tryz.func171
def B2S:=A5o.S
def C0P:G0 C2d B2S:=C16.flat
def pB:FD A8:=⟨px 0X159f113df40301e1904218d1a1f18d7018d1e04118d4f7c18d7718d7010612029716815e3d01e0194600000031b33cf70583c02183bf6050024c131824042035e1040411d3a172c066b422bf18001a021901a204722c128128171a452150702404121a11a1b033b42030406053131af1160029719041f1d18231140230182,[],[],[.tmp 4,.tmp 5],[D7 B2S C16]⟩
def A9H:=pB.R
def A7B:AtH:=pB.lj 0 n [m] [x0,x1,x6,x7]
def B8F:=tT [⟨2,4,A7B⟩]
def C3s:=mR A9H pB B8F n [a0,a1] h
def A84:=mL pB B8F 0 n [m] [x0,x1,x6,x7] h
def B7Q:=pB.K Tryz.func153
def A3c:=pB.S
def B8t:G0 A9H A3c:=B7Q.flat
def iI:FD A8:=⟨px 0X14df203f4d0250000003724cf1a056c02218022a4611d7a16e17a151823811385e16a103850024e15a3807019032ff30041392b1013113e4c14612017243a2c0159423132bf12af6011a280182a2c29f1e0042032e1381f0181f1d1821df500441811d31c4215011a07024413401212f420060511029718032d2b291c201314a174212481042,[.c (.s [])],[.slL 1 (.t 24) (A4 (.t 26)) A7,.slL 1 (.t 28) (A4 (.t 29)) A7,.copy 1 (.t 27) (.t 30)],[.tmp 2],[D7 A3c B7Q]⟩
def B2m:=iI.R
def B9v:AtH:=iI.lj 0 n [m] [x3,x8,x9,x10]
def D0X:AtH:=iI.lj 1 n [m] [x3,x8,x9,x10]
def B20:=tT [⟨2,4,B9v⟩,⟨2,4,D0X⟩]
def C4G:=mR B2m iI B20 n [a0] h
def B1m:=mL iI B20 0 n [m] [x3,x8,x9,x10] h
def B1l:=mJ iI B20 1 n [m] [x3,x8,x9,x10] h
def B1Y:=iI.K Tryz.func126
def A5T:=iI.S
def C40:SOk A8 126 A5T:=B1Y.sok
def C3H:A3T B2m A5T:=B1Y.out
end
def A1K(c:UInt8):Bool:=!(decide ((c.toNat:Int)=0)||decide ((c.toNat:Int)=47))
def aE(s:List UInt8):Bool:=!(decide ((l_ s:Int)<1)||decide (24<(l_ s:Int))||decide (s=[46])||decide (s=[46,46]))&&s.all A1K
def bE(h:aE s=A5):1<=l_ s/\(l_ s)<=24:=by
 unfold aE at h;simp at h;omega
def C5s(s:List UInt8)(hs:l_ s<9223372036854775807)(n:Nat)(h:A9):∀ d i m:Nat,i+d=l_ s->d<m ->
  B6b n m (.c (.s s)) (iV (l_ s)) (iV i) h=A4 (iV (bif (s.drop i).all A1K then 0 else 3),h)
 | d,i,0,_,hm=>by omega
 | 0,i,m+1,hi,hm=>by
  have c0:¬ ((i:Int)<l_ s):=by omega
  rw [A83,show s.drop i=[] from E6f (by omega)];simp only [esc,c0]
 | d+1,i,m+1,hi,hm=>by
  have h1:(i:Int)<(l_ s):=by omega
  have h2:i<(l_ s):=by omega
  have ih:=C5s s hs n h d (i+1) m (by omega) (by omega);rw [A83,E6b h2,E62];by_cases c1:(s[i].toNat:Int)=0
  ·have f:A1K s[i]=A6:=by unfold A1K;rw [decide_eq_true c1];rfl
   simp only [esc,h1,B84 h2,c1,f,E6p]
  ·by_cases c2:(s[i].toNat:Int)=47
   ·have f:A1K s[i]=A6:=by unfold A1K;rw [decide_eq_true c2];simp
    simp only [esc,h1,B84 h2,c2,f,E6p,Int.reduceEq]
   ·have f:A1K s[i]=A5:=by unfold A1K;rw [decide_eq_false c1,decide_eq_false c2];rfl
    simp only [esc,h1,B84 h2,c1,c2,f,E6t,D9 (a:=i) (by omega)];exact ih
def C5r(hs:l_ s<9223372036854775807)(h:A9):A3b [.c (.s s)] h=A4 (iV (bif aE s then 0 else 3),h):=by
 refine B8s (n:=l_ s+1) (h2:=ro h) ?_ rfl;rw [C3r];have hl:=C5s s hs (l_ s+1) (ro h) (l_ s) 0 (l_ s+1) (by omega) (by omega);rw [E6i] at hl;unfold aE;by_cases c1:(l_ s:Int)<1
 ·simp only [esc,c1,E6P,E6p]
 ·by_cases c2:(24:Int)<(l_ s)
  ·simp only [esc,c1,c2,E6P,E6p,Bool.or_true]
  ·by_cases c3:s=[46]
   ·subst c3;simp only [esc];rfl
   ·by_cases c4:s=[46,46]
    ·subst c4;simp only [esc];rfl
    ·simp only [esc,c1,c2,c3,c4,Bool.or_self,E6t];exact hl
def A4W(s:List UInt8)(i:Nat):List UInt8:=UInt8.ofNat (l_ s)::(s.take i++zeros (24-i))
def gU(s:List UInt8):List UInt8:=bif aE s then A4W s (l_ s) else zeros 25
def B0C(hi:i<=l_ s)(hs:l_ s<=24):(A4W s i).length=25:=by
 unfold A4W;rw [E6g,E58,zeros_length,E6A];omega
def pR:(gU s).length=25:=by
 unfold gU;cases hf:aE s with
 | false=>exact zeros_length
 | true=>exact B0C (E56 _) (bE hf).2
def D7T(hi:i<l_ s)(hs:l_ s<=24):(A4W s i).set (1+i) s[i]=A4W s (i+1):=by
 unfold A4W;rw [Nat.add_comm 1 i,List.set_cons_succ];refine congrArg (UInt8.ofNat (l_ s) :: ·) ?_;have hlen:(List.take i s).length=i:=by simp;omega
 rw [E6O _ _ (by omega),hlen,E67,E6x hi,E6d];refine congrArg (List.take i s ++ ·) ?_;have e:24-i=(24-(i+1))+1:=by omega
 rw [e];unfold zeros;rw [E6D,E7c];rfl
def C9y(s:List UInt8)(hs:l_ s<=24)(h:A9)(c2:List Cell)(l2:c2.length=25)(n:Nat):∀ d i m:Nat,i+d=l_ s->d<m ->
  B9t n m (.c (.s s)) (pV (l_ h) 0) (pV (l_ h+1) 0) (iV (l_ s)) (iV i) (h++[rT c2,rT (B5 (A4W s i))]) =
   A4 (.t [.a (B5 (A4W s (l_ s))),.c o0],h++[rT (B5 (A4W s (l_ s))),rT (B5 (A4W s (l_ s)))])
 | d,i,0,_,hm=>by omega
 | 0,i,m+1,hi,hm=>by
  have h1:¬ ((i:Int)<l_ s):=by omega
  have e:i=(l_ s):=by omega
  subst e;have hl:(B5 (A4W s (l_ s))).length=25:=by rw [B6];exact B0C (E56 _) hs
  rw [B1k];simp only [esc,esh,h1,hl,l2]
 | d+1,i,m+1,hi,hm=>by
  have h1:(i:Int)<(l_ s):=by omega
  have h3:i<(l_ s):=by omega
  have hl:(B5 (A4W s i)).length=25:=by rw [B6];exact B0C (by omega) hs
  have ih:=C9y s hs h c2 l2 n d (i+1) m (by omega) (by omega);have e1:E6a .i64 (1+(i:Int))=((1+i:Nat):Int):=by rw [wrap_i64 (by omega) (by omega)];omega
  have ea:K5 25 1 (pV (l_ h+1) 0) (iV ((1+i:Nat):Int))=A4 (pV (l_ h+1) (1+i)):=by rw [Q1 (by omega)];simp
  have ho:1+i<(B5 (A4W s i)).length:=by omega
  rw [B1k];simp only [esc,esh,h1,e1,B84 h3,ea,ho,oC,D7T h3 hs,D9 (a:=i) (by omega)];exact ih
def D6l(hs:l_ s<9223372036854775807)(h:A9) :
  A5S [.c (.s s)] h=A4 (.t [.a (B5 (gU s)),.c (cI (bif aE s then 0 else 3))],h):=by
 have key:∀ g,∃ g',B2l (l_ s+1) [.c (.s s)] g=A4 (.t [.a (B5 (gU s)),.c (cI (bif aE s then 0 else 3))],g'):=by
  intro g;have hz:=J3 25;have hl:(B5 (zeros 25)).length=25:=by rw [B6];exact zeros_length
  rw [C4F,hz];unfold gU;cases hf:aE s with
  | false =>
   generalize zeros 25=Z at *;exact ⟨_,by simp only [esc,esh,C5r hs,hf,hl,Int.reduceEq]<;>rfl⟩
  | true =>
   have E5u:=(bE hf).2;have e0:(B5 (zeros 25)).set 0 (.i .u8 (E6a .u8 (l_ s)))=B5 (A4W s 0):=by
    rw [wrap_u8 (by omega) (by omega)];have:((l_ s:Nat):Int)=((UInt8.ofNat (l_ s)).toNat:Int):=by rw [UInt8.toNat_ofNat'];omega
    rw [this,oC];rfl
   have:=C9y s E5u g (B5 (zeros 25)) hl (l_ s+1) (l_ s) 0 (l_ s+1) (by omega) (by omega);rw [<-e0] at this;generalize zeros 25=Z at *;have a0:K5 25 1 (pV (l_ g+1) 0) (iV 0)=A4 (pV (l_ g+1) 0):=rfl;have ho:0<(B5 Z).length:=by omega
   exact ⟨_,by simp only [esc,esh,C5r hs,hf,a0,ho];exact this⟩
 obtain ⟨g',e⟩:=key (ro h);exact C0Q e (by simp)
def gA(l:List UInt8):Option (List UInt8) :=
 if (l.headD 0).toNat<=24 then
  if aE ((l.drop 1).take (l.headD 0).toNat)=A5/\gU ((l.drop 1).take (l.headD 0).toNat)=l then A4 ((l.drop 1).take (l.headD 0).toNat) else A7
 else A7
def D8n{l:List UInt8}(hl:l_ l=25)(h:A9) :
  A7f [.a (B5 l)] h=A4 (.t [.c (.s ((gA l).getD [])),.c (cI (if (gA l).isSome then 0 else 3))],h):=by
 have key:∀ g,∃ g',A6X 0 [.a (B5 l)] g=A4 (.t [.c (.s ((gA l).getD [])),.c (cI (if (gA l).isSome then 0 else 3))],g'):=by
  intro g;obtain ⟨x,r,rfl⟩:∃ x r,l=x::r:=by
   cases l with
   | nil=>simp at hl
   | cons x r=>exact ⟨x,r,rfl⟩
  have hx:=x.toNat_lt;rw [C0t];have a0:K5 25 1 (pV (l_ g) 0) (iV 0)=A4 (pV (l_ g) 0):=rfl;have l0:(B5 (x::r))[0]?=A4 (.i .u8 x.toNat):=rfl;have e1:E6a .i64 (x.toNat:Int)=x.toNat:=wrap_i64 (by omega) (by omega);have kX:(B5 (x::r)).length=25:=by rw [B6,hl]
  unfold gA;simp only [List.headD_cons,List.drop_succ_cons,E6i];by_cases c1:x.toNat<=24
  ·rw [if_pos c1];have c1':¬ (24:Int)<x.toNat:=by omega
   have e2:E6a .i64 (1+(x.toNat:Int))=((1+x.toNat:Nat):Int):=by rw [wrap_i64 (by omega) (by omega)];omega
   have e3:=E3U (h:=g) (l:=[rT (B5 (x::r))]) (k:=0) (n:=25) (a:=1) (b:=1+x.toNat) (cs:=B5 (x::r)) rfl kX (by omega) (by omega);rw [E7a,show 1+x.toNat-1=x.toNat by omega,show ((1:Nat):Int)=1 from rfl] at e3;have hh:Has (g++[rT (B5 (x::r))]) (sV (l_ g) 1 x.toNat 1) 1 x.toNat (B5 (r.take x.toNat)):=Has.part N6 (by omega) (by
    rw [D6Y,D6Z];simp) (W1 _)
   have hs:(r.take x.toNat).length<9223372036854775807:=by simp;omega
   have hp:=D6l hs (g++[rT (B5 (x::r))]);have hpl:(B5 (gU (r.take x.toNat))).length=25:=by rw [B6,pR]
   have hz:(E55 25 (Cell.i .u8 0)).length=25:=E6y;have hq:=C8G (l:=gU (r.take x.toNat)) (m:=x::r) pR hl;generalize E55 25 (Cell.i .u8 0)=z at *;cases hf:aE (r.take x.toNat) with
   | false =>
    rw [hf] at hp;rw [if_neg (by simp)];exact ⟨_,by simp only [esc,esh,a0,l0,e1,c1',e2,e3,hh.str,hp,hpl,hz,Int.reduceEq,Option.getD_none,E6Z,Bool.false_eq_true]<;>rfl⟩
   | true =>
    rw [hf] at hp;by_cases c2:gU (r.take x.toNat)=x::r
    ·rw [if_pos ⟨rfl,c2⟩];exact ⟨_,by simp only [esc,esh,a0,l0,e1,c1',e2,e3,hh.str,hp,hpl,hz,kX,hq,decide_eq_true c2,Option.getD_some,E6G]<;>rfl⟩
    ·rw [if_neg (λh=>c2 h.2)];exact ⟨_,by simp only [esc,esh,a0,l0,e1,c1',e2,e3,hh.str,hp,hpl,hz,kX,hq,decide_eq_false c2,Option.getD_none,E6Z,Bool.false_eq_true]<;>rfl⟩
  ·rw [if_neg c1];have c1':(24:Int)<x.toNat:=by omega
   exact ⟨_,by simp only [esc,esh,a0,l0,e1,c1',Option.getD_none,E6Z,Bool.false_eq_true]<;>rfl⟩
 obtain ⟨g',e⟩:=key (ro h);exact B6R e (by simp)
section
variable (n m m2:Nat) (a0 a1 a2 a3 x0 x1 x2 x3 x4 x6 x7 x11 x16 x17 x18 x34 x35 x36:Val) (h:A9)
def vF:FD A8:=⟨px 0X15f20028962500261400521201042,[],[],[.tmp 2],[]⟩
def A3X:=vF.R
def B7U:=mR A3X vF (tT []) n [a0] h
def mT:=vF.K Tryz.func156
def gF:=vF.S
def B49:G0 A3X gF:=mT.flat
def A2R:FD A8:=⟨px 0X128f203018191889019391a0391e138391f013018195041f1a01f1e11e1f1f0110220103040451f00523103a2342,[],[],[.tmp 2],[cal C3G]⟩
def A9s:=A2R.R
def C3c:=mR A9s A2R (tT []) n [a0] h
def A23:=A2R.K Tryz.func155
def wE:=A2R.S
def B8d:G0 A9s wE:=A23.flat
def oS:FD A8:=⟨px 0X139f20041393b143b133b123b113b1051a513e582f0420522ef30041390384a2c041122bf12af23961e41b11a280182a2c29f1e001030403c1f2b19190521df300111a10218213e0692b01c20412850690411a62b1974214a03a2342,[.c (.i .u64 8),.c (.i .u8 0)],[.slA 25 1 (.t 4) A7 A7],[.tmp 2],[cal C4Z]⟩
def A0f:=oS.R
def B43:=mR A0f oS (tT []) n [a0] h
def gD:=oS.K Tryz.func157
def cD:=oS.S
def B2E:A3T A0f cD:=gD.out
def jS:FD A8:=⟨px 0X11b5024f261b826e1c3020135024f260293b31b11622401b2c1901c31ac1a211ac4e28906351ac2f0101ac2f1f1ac72f4881ac3c01ac4e0141ac2f18a21ac3c0101b1819019a4d01319a2f78219a3c0110326c4b0280191d9431000334af22612901a5a0111a102293b190632301037c178488185a3d071192d3533cf13bf18011828063b2c3af38001134e39391c74633301b22ff1b053802218022a28481392d0404c14882d04022e11900201033c11e1e01a181df704121a421503070245131cd012139420060511b012f42031e4c11d42312941b422e319531c2,[],[.b2sN A7 (.t 44),.b2sN A7 (.t 49)],[.cellN 4 2,.tmp 5],[D7 gF mT,cal C0R,D7 A1x A7N,D7 wE A23,D7 cD gD,D7 A78 B4r]⟩
def A6K:=jS.R
def B29:AtH:=jS.lj 0 n [m] [x1,x2,x4,x6,x11]
def B5K:=tT [⟨2,5,B29⟩]
def C0a:=mR A6K jS B5K n [a0,a1] h
def A58:=mL jS B5K 0 n [m] [x1,x2,x4,x6,x11] h
def A04:=jS.K Tryz.func143
def rF:=jS.S
def B6z:G0 A6K rF:=A04.flat
def sH:FD A8:=⟨px 0X11b30174221c2a0633903012c133e6318645002231422e253182,[],[],[.tmp 3],[]⟩
def B0X:=sH.R
def A3V:=mR B0X sH (tT []) n [a0,a1] h
def B0S:=sH.K Tryz.func152
def sM:=sH.Q
def A4e:OfT B0X sM:=B0S.of
def R8:FD A8:=⟨px 0X39f7054c022180124301e1904b4d01184b6e02141022c4b6d3e24b3c3e4b74a4b7012c28019692220721ff11ef2262951b11a280181e2c1df1a0042032812a4881b1c191d1b18219f4041218421503070243133d012129420060517011f42422e153182,[],[],[],[D7 rF A04,fU sM B0S]⟩
def zB:=R8.R
def yS:K6:=R8.E
def xP:AtH:=R8.lj 0 n [m] [x1,x2,x7]
def zH:TT:=⟨yS,[⟨2,3,xP⟩]⟩
def A6H:=mR zB R8 zH n [a0,a1] h
def qG:=mL R8 zH 0 n [m] [x1,x2,x7] h
def yW:=R8.K Tryz.func105
def kM:=R8.Q
def A64:OfT zB kM:=yW.of
def A0O:FD A8:=⟨px 0X17f201842505204203412b85e648818301224c174234a03a2342,[],[],[.tmp 2],[fU kM yW]⟩
def A05:=A0O.R
def B97:=mR A05 A0O (tT []) n [a0] h
def rB:=A0O.K Tryz.func124
def fI:=A0O.S
def A7Y:SOk A8 124 fI:=rB.sok
def B78:E00 A05 fI:=rB.low
def B79:A3T A05 fI:=rB.out
def dP:FD A8:=⟨px 0X11df5003f2a431c000017201b282a22a361e3183182404222840400514552d261c21000301a31742e219753282,[],[],[.tmp 5],[]⟩
def B0W:=dP.R
def C1b:AtH:=dP.lj 0 n [] [x3]
def B01:=tT [⟨1,1,C1b⟩]
def A3U:=mR B0W dP B01 n [a0,a1,a2,a3] h
def A2B:=mJ dP B01 0 n [] [x3] h
def B0R:=dP.K Tryz.func106
def jL:=dP.Q
def A4d:OfT B0W jL:=B0R.of
def R7:FD A8:=⟨px 0X39f7054c022180124301e1904b4d01184b6e02141022c4b6d3e24b3c3e4b74a4b7012c28019692220721ff11ef2262951b11a280181e2c1df1a0042032812a4881b1c191d1b18219f4041218421503070243133d012129420060517011f42422e153182,[],[],[],[D7 rF A04,fU jL B0R]⟩
def zA:=R7.R
def yR:K6:=R7.E
def xO:AtH:=R7.lj 0 n [m] [x1,x2,x7]
def zG:TT:=⟨yR,[⟨2,3,xO⟩]⟩
def A6G:=mR zA R7 zG n [a0,a1] h
def qF:=mL R7 zG 0 n [m] [x1,x2,x7] h
def yV:=R7.K Tryz.func105
def kJ:=R7.Q
def A63:OfT zA kJ:=yV.of
def A0N:FD A8:=⟨px 0X11cf5011a11c1028361a41a318201b1a116304203461c31da5e1c4881830022322a44c21f422c4c11d42312c4c43a422e419751c2,[],[],[.cellN 4 3,.tmp 5],[fU kJ yV]⟩
def A6F:=A0N.R
def B96:=mR A6F A0N (tT []) n [a0,a1] h
def rA:=A0N.K Tryz.func55
def kA:=A0N.S
def C0C:SOk A8 55 kA:=rA.sok
def B6x:G0 A6F kA:=rA.flat
def A0P:FD A8:=⟨px 0X126488601030785b134b123b112b10419413e4021c01b1042,[.c (.i .u8 98),.c (.i .u8 107),.c (.i .u8 116),.c (.i .u8 33)],[],[.cellN 0 256],[D7 A79 B1Z]⟩
def A6I:=A0P.R
def B98:=mR A6I A0P (tT []) n [] h
def A6A:=A0P.K Tryz.func154
def A06:=A0P.S
def B6y:G0 A6I A06:=A6A.flat
def dU:FD A8:=⟨px 0X113022f48864f4886e1c3026df4c054a06d49218012d3022f488601c3b37111112722404327f104019e682b41cf22625ff15ef2362c191b11c2801a5e2c5df5900625304018e54f4885a1c1a2b35258f18f264ef7029181b021861a21d4167a7c1823503270245134012119b42016251102974a0319918f18d1c23c15349f2a053e022182784886061a343201336821801235e15e4883b1c501901530268488601c3b37111111105722403f01134a22f1c36b42032ef6f262cf502961b021861a21d4163a3c182150307024613401214f420060511029728034d4b491c2031ff248861c41b001f5c31961192015d30238488601c3b371062243d05202971b033b4203111c21b250182,[],[],[.cellN 2 256,.tmp 3],[D7 A06 A6A,D7 wE A23,D7 gF mT,D7 cD gD,D7 A3z A7O,D7 kA rA]⟩
def A9q:=dU.R
def B5U:AtH:=dU.lj 0 n [m] [x0,x2,x4,x16,x17,x18]
def B5V:AtH:=dU.lj 1 n [m] [x2,x4,x34,x35,x36]
def B0a:=tT [⟨2,6,B5U⟩,⟨2,5,B5V⟩]
def C3a:=mR A9q dU B0a n [a0] h
def A8q:=mL dU B0a 0 n [m] [x0,x2,x4,x16,x17,x18] h
def A8r:=mL dU B0a 1 n [m] [x2,x4,x34,x35,x36] h
def B7I:=dU.K Tryz.func130
def A9P:=dU.S
def C3x:SOk A8 130 A9P:=B7I.sok
def B8a:G0 A9q A9P:=B7I.flat
def A0Q:FD A8:=⟨px 0X117023c2601141022d3b4a10402481010371f018020119702282602d3b31c10001722401b6193d042c1a72c70110127163b4203112d61b21d530282,[],[],[.cellN 6 2,.tmp 7],[D7 gF mT]⟩
def A6J:=A0Q.R
def B99:=mR A6J A0Q (tT []) n [a0,a1,a2] h
def B5r:=A0Q.K Tryz.func158
def A65:=A0Q.S
def B8c:E00 A6J A65:=B5r.low
def A2Q:FD A8:=⟨px 0X12ff5004e261428002801632301134821872a018020155023a2602d3b32e100072243018190394d010392f2c2393c01306193d01291a7297011042711b494203112d4c432e319701c2,[],[],[.cellN 4 2,.tmp 5],[D7 wE A23,D7 cD gD,D7 A65 B5r]⟩
def A9r:=A2Q.R
def C3b:=mR A9r A2Q (tT []) n [a0,a1] h
def B7J:=A2Q.K Tryz.func131
def A9Q:=A2Q.S
def C3y:SOk A8 131 A9Q:=B7J.sok
def B8b:C8F A9r A9Q:=B7J.tidy
def gB:FD A8:=⟨px 0X11b4015a000072025e48860181e33320123021814e5011304048548488187019240383a3182c31f1c34b2521ef11df2362c51b11e2801c1d2c1cf700182030400511c51e488181c1b1b241c20000301a31632e27531c2,[],[.eqA A6 ([.i .i64,.s,.i .i64]) (.t 15) (.t 16)],[.tmp 4],[D7 kA rA,D7 gF mT,D7 cD gD,D7 A3z A7O]⟩
def B16:=gB.R
def C3O:AtH:=gB.lj 0 n [] []
def B2V:=tT [⟨1,0,C3O⟩]
def A5G:=mR B16 gB B2V n [a0,a1,a2] h
def A4x:=mJ gB B2V 0 n [] [] h
def B1P:=gB.K Tryz.func174
def wC:=gB.Q
def A5N:OfT B16 wC:=B1P.of
def S8:FD A8:=⟨px 0X39f7054c022180124301e1904b4d01184b6e02141022c4b6d3e24b3c3e4b74a4b7012c28019692220721ff11ef2262951b11a280181e2c1df1a0042032812a4881b1c191d1b18219f4041218421503070243133d012129420060517011f42422e153182,[],[],[],[D7 rF A04,fU wC B1P]⟩
def A1m:=S8.R
def A1d:K6:=S8.E
def zK:AtH:=S8.lj 0 n [m] [x1,x2,x7]
def A1y:TT:=⟨A1d,[⟨2,3,zK⟩]⟩
def A7Q:=mR A1m S8 A1y n [a0,a1] h
def rR:=mL S8 A1y 0 n [m] [x1,x2,x7] h
def A1e:=S8.K Tryz.func105
def nA:=S8.Q
def A7Z:OfT A1m nA:=A1e.of
def A2P:FD A8:=⟨px 0X121c48861a4881821120421361a22de5e1848851c30124f248861c31b0045c37421c4c03a253182,[],[],[.cellN 2 256],[D7 A06 A6A,fU nA A1e]⟩
def A9p:=A2P.R
def C29:=mR A9p A2P (tT []) n [a0] h
def B7H:=A2P.K Tryz.func161
def A9O:=A2P.S
def B77:G0 A9p A9O:=B7H.flat
def vE:FD A8:=⟨px 0X16f20038218488180103448818301900533103a2342,[],[.eqA A6 (E55 256 (.i .u8)) (.t 4) (.t 5)],[.tmp 2],[D7 A9O B7H]⟩
def A3W:=vE.R
def B7T:=mR A3W vE (tT []) n [a0] h
def B1Q:=vE.K Tryz.func137
def wD:=vE.S
def B48:G0 A3W wD:=B1Q.flat
end
def E0o{l l':List (Option Row)}(hl:l'=l++[rT cs]):quiet (g++l) (A4 (v,g++l'))=A4 (v,g++l'):=by
 subst hl;have:=W2 ((Grows.rfl' (h:=g++l)).new cs) (v:=v);rw [E6d] at this;exact this
def E3P{a:Option Row}:quiet (g++[a]) (A4 (v,g++[a,rT cs]))=A4 (v,g++[a,rT cs]):=E0o rfl
def E3Q{a b:Option Row}:quiet (g++[a,b]) (A4 (v,g++[a,b,rT cs]))=A4 (v,g++[a,b,rT cs]):=E0o rfl
def H7(k:Nat):Nat:=32+32*k
def jO(hk:k<7):gF [iV (k:Int)] h=A4 (iV (H7 k:Nat),h):=by
 have key:∀ g,∃ g',A3X 0 [iV (k:Int)] g=A4 (iV (H7 k:Nat),g'):=by
  intro g;have w1:=D9 (a:=k) (by omega);have w2:E6a .i64 (32*((k+1:Nat):Int))=((H7 k:Nat):Int):=by unfold H7;rw [wrap_i64 (by omega) (by omega)];omega
  rw [B7U];exact ⟨_,by simp only [esc,w1,w2]<;>rfl⟩
 obtain ⟨g',e⟩:=key (ro h);exact B49 e rfl
def D4c:List UInt8:=[98,107,116,33]
def hdB:List UInt8:=R0 256 D4c
def oH:hdB.length=256:=I3 (by decide)
def B28:A06 [] h=A4 (.a (B5 hdB),h):=by
 have key:∀ g,∃ g',A6I 0 [] g=A4 (.a (B5 hdB),g'):=by
  intro g;have hz:(B5 (zeros 256)).length=256:=by rw [B6];exact zeros_length
  have hd:(B5 hdB).length=256:=by rw [B6];exact oH
  have ef:F5 [Cell.i .u8 0,.i .u8 0,.i .u8 0,.i .u8 0] [(0,1,.c (.i .u8 98)),(1,1,.c (.i .u8 107)),(2,1,.c (.i .u8 116)),(3,1,.c (.i .u8 33))]=A4 (B5 D4c):=rfl;have hO:=B4R (data:=D4c) (v:=sV (l_ g+1) 0 4 1) (nv:=4) (h:=g++[rT (B5 (zeros 256)),rT (B5 D4c)]) (Has.row (rw:=A5) (by simp) rfl (W1 _)) (by decide);rw [D03 (by decide),show R0 256 D4c=hdB from rfl] at hO;have hM:B03 (g++[rT (B5 (zeros 256)),rT (B5 D4c)]) (sV (l_ g+1) 0 4 1)=A4 (sV (l_ g+1) 0 4 1):=by simp [B03]
  rw [B98,J3];generalize hdB=B at *;generalize B5 D4c=mg at *;generalize zeros 256=z at *;exact ⟨_,by simp only [esc,esh,ef,hM,hO,hz,hd]<;>rfl⟩
 obtain ⟨g',e⟩:=key (ro h);exact B6y e (by simp)
def B5n(s:List UInt8)(n:Int):Bool:=aE s&&(decide (1<=n)&&decide (n<=128))
def A7r(hs:l_ s<9223372036854775807):wE [.a [.s s,cI n]] h=A4 (bV (B5n s n),h):=by
 have key:∀ g,∃ g',A9s 0 [.a [.s s,cI n]] g=A4 (bV (B5n s n),g'):=by
  intro g;have hC:=λh=>C5r hs h
  rw [C3c];unfold B5n;cases hf:aE s with
  | false =>
   rw [hf] at hC;exact ⟨_,by simp only [esc,esh,hC,Int.reduceEq]<;>rfl⟩
  | true =>
   rw [hf] at hC;by_cases c1:1<=n
   ·by_cases c2:n<=128
    ·rw [decide_eq_true c1,decide_eq_true c2];exact ⟨_,by simp only [esc,esh,hC,c1,c2]<;>rfl⟩
    ·rw [decide_eq_true c1,decide_eq_false c2];exact ⟨_,by simp only [esc,esh,hC,c1,c2]<;>rfl⟩
   ·rw [decide_eq_false c1];exact ⟨_,by simp only [esc,esh,hC,c1]<;>rfl⟩
 obtain ⟨g',e⟩:=key (ro h);exact B8d e rfl
def T6(s:List UInt8)(n:Int):List UInt8:=D4 2 n++gU s++[0,0,0,0,0]
def U4:(T6 s n).length=32:=by simp [T6,pR]
def mD(hs:l_ s<9223372036854775807):cD [.a [.s s,cI n]] h=A4 (sV (l_ h) 0 32 1,h++[rT (B5 (T6 s n))]):=by
 have key:∀ g,∃ v g',A0f 0 [.a [.s s,cI n]] g=A4 (v,g')/\Out (l_ g) g' v 1 32 (B5 (T6 s n)):=by
  intro g;have e4:N5 .shr (iV n) (.c (.i .u64 8))=A4 (iV (n/256)):=C5b (by omega);have wm:∀ a:Int,E6a .u8 a=a%256:=λa=>by
   simp only [E6a,IntKind.bits,IntKind.signed,E6p];rfl
  have b0:E6a .u8 n=((byI n 0).toNat:Int):=by rw [wm,C4a];simp
  have b1:E6a .u8 (n/256)=((byI n 1).toNat:Int):=by rw [wm,C4a];simp
  have ef:F5 [Cell.i .u8 0,.i .u8 0] [(0,1,.c (.i .u8 (byI n 0).toNat)),(1,1,.c (.i .u8 (byI n 1).toNat))]=A4 (B5 (D4 2 n)):=rfl;have ef5:F5 [Cell.i .u8 0,.i .u8 0,.i .u8 0,.i .u8 0,.i .u8 0] [(0,1,.c (.i .u8 0)),(1,1,.c (.i .u8 0)),(2,1,.c (.i .u8 0)),(3,1,.c (.i .u8 0)),(4,1,.c (.i .u8 0))]=A4 (B5 [0,0,0,0,0]):=rfl;have hP:=λh=>D6l hs h
  have hpl:(B5 (gU s)).length=25:=by rw [B6];exact pR
  have hz:(B5 (zeros 25)).length=25:=by rw [B6];exact zeros_length
  have hA:=A7p (h:=g++[rT [.s s,cI n],rT [],rT (B5 (D4 2 n)),rT (B5 (gU s))]) (id:=l_ g+2) (jd:=l_ g+3) (n:=2) (m:=25) (sz:=1) (cs:=B5 (D4 2 n)) (ys:=B5 (gU s)) (rw:=A5) (by simp) (by simp [B6]) (by simp) (by rw [hpl]) rfl (by omega) (by omega);simp only [E58,E6g,E6E,E6j,E6d,E6Y,E6s,B7w,List.set_cons_succ,E7c,Nat.reduceAdd,<-A6d] at hA;have E5g:(B5 (D4 2 n++gU s)).length=27*1:=by rw [B6,E58,R2,pR]
  have hA2:=A7p (h:=g++[rT [.s s,cI n],rT [],A7,rT (B5 (gU s)),rT (B5 (D4 2 n++gU s)),rT (B5 [0,0,0,0,0])]) (id:=l_ g+4) (jd:=l_ g+5) (n:=27) (m:=5) (sz:=1) (cs:=B5 (D4 2 n++gU s)) (ys:=B5 [0,0,0,0,0]) (rw:=A5) (by simp) E5g (by simp) rfl rfl (by omega) (by omega);simp only [E58,E6g,E6E,E6j,E6d,E6Y,E6s,B7w,List.set_cons_succ,E7c,Nat.reduceAdd,<-A6d] at hA2;rw [<-E6d (D4 2 n),show D4 2 n++gU s++[0,0,0,0,0]=T6 s n from rfl] at hA2;rw [B43,J3];refine ⟨sV (l_ g+6) 0 32 1,g++[rT [.s s,cI n],rT [],A7,rT (B5 (gU s)),A7,rT (B5 [0,0,0,0,0]),rT (B5 (T6 s n))],?_,by rw [B6,U4],l_ g+6,rfl,by omega,?_⟩
  ·generalize T6 s n=E at *;generalize D4 2 n++gU s=Q at *;generalize B5 [0,0,0,0,0]=F at *;generalize B5 (gU s)=P at *;generalize B5 (D4 2 n)=B2 at *;generalize zeros 25=z at *;simp only [esc,esh,Nat.reduceAdd,b0,e4,b1,ef,hP,hpl,hz,hA,ef5,hA2]
  ·simp
 obtain ⟨v,g',e,ho⟩:=key (ro h);exact B2E e (by simpa [H6] using ho) (by simp)
def gX(b:List UInt8)(k:Nat):List UInt8:=(b.drop (H7 k)).take 32
def nameB(b:List UInt8)(k:Nat):List UInt8:=(b.drop (H7 k+2)).take 25
def xL(b:List UInt8)(k:Nat):Int:=fieldN b (H7 k) 2
abbrev Ent:=List UInt8 × Int
def isE(b:List UInt8)(k:Nat)(s:List UInt8):Bool:=B5n s (xL b k)&&decide (T6 s (xL b k)=gX b k)
def N9(b:List UInt8)(k:Nat):Option Ent:=(gA (nameB b k)).bind λs=>if isE b k s=A5 then A4 (s,xL b k) else A7
def W0:Option Ent->List Cell
 | none=>[.s [],o0]
 | some e=>[.s e.1,cI e.2]
def D1g(hb:l_ b=256)(hk:k<7):(gX b k).length=32:=by simp [gX,H7,hb];omega
def B9s(hb:l_ b=256)(hk:k<7):(nameB b k).length=25:=by simp [nameB,H7,hb];omega
def A3s{l:List UInt8}(h:gA l=A4 s):aE s=A5:=by
 unfold gA at h;split at h
 ·split at h
  ·rename_i hc;cases h;exact hc.1
  ·cases h
 ·cases h
def cpN(l:List UInt8)(i:Nat):List UInt8:=l.take i++zeros (25-i)
def D4p{l:List UInt8}(hl:l_ l=25)(hi:i<=25):(cpN l i).length=25:=by simp [cpN,zeros,hl];omega
def E1p{l:List UInt8}(hl:l_ l=25)(hi:i<25):(cpN l i).set i l[i]=cpN l (i+1):=by
 unfold cpN;have hlen:(List.take i l).length=i:=by simp;omega
 rw [E6O _ _ (by omega),hlen,E67,E6x (by omega),E6d];refine congrArg (List.take i l ++ ·) ?_;have e:25-i=(25-(i+1))+1:=by omega
 rw [e];unfold zeros;rw [E6D,E7c];rfl
def E1o{l:List UInt8}(hl:l_ l=25):cpN l 25=l:=by simp [cpN,zeros,E6l,hl]
def D84:B1L b (H7 k:Nat) 32=gX b k:=by
 unfold B1L gX;rw [if_pos (by omega)];simp
def E1h(hk:k<7):((atN b (H7 k:Nat) 2:Nat):Int)=xL b k:=by
 unfold atN xL fieldN H7;rw [if_pos ⟨by omega,Y1.2 (by omega)⟩];simp only [E6q];rfl
def C5m{b:List UInt8}{k q:Nat}{g:A9}(hb:l_ b=256)(hk:k<7):∀ e i m:Nat,i+e=25->e<m ->
  ∃ h',B29 q m (iV (k:Int)) (pV (l_ g) 0) (pV (l_ g+1) 0) (pV (l_ g+2) 0) (iV (i:Int)) (g++[rT (B5 b),rT [.s [],o0],rT (B5 (cpN (nameB b k) i))]) =
   A4 (.t [.a (W0 (N9 b k)),.c (.b (N9 b k).isSome)],h')
 | e,i,0,_,hm=>by omega
 | 0,i,m+1,hi,hm=>by
  have e0:i=25:=by omega
  subst e0;have hnl:=B9s hb hk;rw [E1o hnl];have c0:¬ ((25:Nat):Int)<25:=by omega
  have hbl:(B5 b).length=256:=by rw [B6,hb]
  have hnc:(B5 (nameB b k)).length=25:=by rw [B6,hnl]
  have hU:=λh=>D8n hnl h
  have hF:=λh=>jO (h:=h) hk
  have hA:=λh=>pQ (h:=h) hb (a:=(H7 k:Nat)) (w:=2)
  rw [E1h hk] at hA;have ef:∀ (s:List UInt8) (n:Int),F5 [Cell.s [],o0] [(0,1,.c (.s s)),(1,1,iV n)]=A4 [.s s,cI n]:=λ_ _=>rfl
  have ef0:F5 [Cell.s [],o0] []=A4 [.s [],o0]:=rfl;rw [A58];unfold N9;cases hu:gA (nameB b k) with
  | none =>
   rw [hu] at hU;simp only [Option.getD_none,E6Z,Bool.false_eq_true,if_false] at hU;generalize xL b k=n at *;generalize B5 (nameB b k)=z at *;generalize B5 b=y at *;exact ⟨_,by simp only [esc,esh,Nat.reduceAdd,c0,hbl,hnc,hU,hF,hA,ef,ef0,Int.reduceEq,Option.bind_none,W0]<;>rfl⟩
  | some s =>
   rw [hu] at hU;simp only [Option.getD_some,E6G,if_true] at hU;have hfs:=(bE (A3s hu)).2;have hM:=λh=>A7r (s:=s) (n:=xL b k) (h:=h) (by omega)
   rw [E6h];unfold isE;cases hm:B5n s (xL b k) with
   | false =>
    rw [hm] at hM;rw [E6p,if_neg (by simp)];generalize xL b k=n at *;generalize B5 (nameB b k)=z at *;generalize B5 b=y at *;exact ⟨_,by simp only [esc,esh,Nat.reduceAdd,c0,hbl,hnc,hU,hF,hA,ef,ef0,hM,W0]<;>rfl⟩
   | true =>
    rw [hm] at hM;rw [E6t];have hW:=λh=>mD (s:=s) (n:=xL b k) (h:=h) (by omega)
    have hsl:=D1g hb hk;have hC:=λh=>B0z (h:=h) hb (a:=(H7 k:Nat)) (n:=32)
    rw [D84,hsl] at hC;have s1:=λ(c0 c1 c2 c3:Option Row)=>Has.str (l:=T6 s (xL b k)) (Has.row (h:=g++[c0,c1,c2,c3,rT (B5 (T6 s (xL b k)))]) (id:=l_ g+4) (sz:=1) (n:=32) (rw:=A5) (by simp) (by rw [B6,U4]) (W1 _))
    have s2:=λ(c0 c1 c2 c3 c4:Option Row)=>Has.str (l:=gX b k) (Has.row (h:=g++[c0,c1,c2,c3,c4,rT (B5 (gX b k))]) (id:=l_ g+5) (sz:=1) (n:=32) (rw:=A5) (by simp) (by rw [B6,hsl]) (W1 _))
    by_cases ce:T6 s (xL b k)=gX b k
    ·rw [if_pos (decide_eq_true ce)];generalize T6 s (xL b k)=E at *;generalize gX b k=L at *;generalize xL b k=n at *;subst ce;generalize B5 (nameB b k)=z at *;generalize B5 b=y at *;exact ⟨_,by simp only [esc,esh,Nat.reduceAdd,c0,hbl,hnc,hU,hF,hA,ef,ef0,hM,hW,s1,hC,s2,eq_self,W0,E6G]<;>rfl⟩
    ·rw [if_neg (by rw [decide_eq_true_eq];exact ce)];generalize T6 s (xL b k)=E at *;generalize gX b k=L at *;generalize xL b k=n at *;generalize B5 (nameB b k)=z at *;generalize B5 b=y at *;exact ⟨_,by simp only [esc,esh,Nat.reduceAdd,c0,hbl,hnc,hU,hF,hA,ef,ef0,hM,hW,s1,hC,s2,ce,W0,E6Z]<;>rfl⟩
 | e+1,i,m+1,hi,hm=>by
  obtain ⟨h',ih⟩:=C5m (q:=q) (g:=g) hb hk e (i+1) m (by omega) (by omega);have hnl:=B9s hb hk;have c0:(i:Int)<25:=by omega
  have hF:=λh=>jO (h:=h) hk
  have hbl:(B5 b).length=256:=by rw [B6,hb]
  have oG:(B5 (cpN (nameB b k) i)).length=25:=by rw [B6];exact D4p hnl (by omega)
  have W5:i<(B5 (cpN (nameB b k) i)).length:=by omega
  have w1:E6a .i64 (((H7 k:Nat):Int)+2)=((H7 k+2:Nat):Int):=by unfold H7;rw [wrap_i64 (by omega) (by omega)];omega
  have w2:E6a .i64 (((H7 k+2:Nat):Int)+(i:Int))=((H7 k+2+i:Nat):Int):=by unfold H7;rw [wrap_i64 (by omega) (by omega)];omega
  have hj:H7 k+2+i<256:=by unfold H7;omega
  have a1:K5 256 1 (pV (l_ g) 0) (iV ((H7 k+2+i:Nat):Int))=A4 (pV (l_ g) (H7 k+2+i)):=by rw [Q1 hj];simp
  have a2:K5 25 1 (pV (l_ g+2) 0) (iV (i:Int))=A4 (pV (l_ g+2) i):=by rw [Q1 (by omega)];simp
  have ei:(nameB b k)[i]'(by omega)=b[H7 k+2+i]'(by omega):=by simp [nameB]
  have l1:(B5 b)[H7 k+2+i]?=A4 (.i .u8 ((nameB b k)[i]'(by omega)).toNat):=by
   rw [ei];simp [B5,hb,hj]
  have hs:(B5 (cpN (nameB b k) i)).set i (.i .u8 ((nameB b k)[i]'(by omega)).toNat)=B5 (cpN (nameB b k) (i+1)):=by rw [oC,E1p hnl (by omega)]
  rw [A58];refine ⟨h',?_⟩;generalize B5 (cpN (nameB b k) (i+1))=z1 at *;generalize B5 (cpN (nameB b k) i)=z at *;generalize B5 b=y at *;simp only [esc,esh,c0,hF,w1,w2,a1,l1,a2,W5,hs,D9 (a:=i) (by omega)];exact ih
def D61{o:Option Ent}:N8 (W0 o)=A5:=by cases o<;>rfl
def A4y(hb:l_ b=256)(hk:k<7):rF [.a (B5 b),iV (k:Int)] h=A4 (.t [.a (W0 (N9 b k)),.c (.b (N9 b k).isSome)],h):=by
 have key:∀ N,25<N->∀ g,∃ g',A6K N [.a (B5 b),iV (k:Int)] g=A4 (.t [.a (W0 (N9 b k)),.c (.b (N9 b k).isSome)],g'):=by
  intro N hN g;obtain ⟨h',e⟩:=C5m (g:=g) (q:=N) hb hk 25 0 N (by omega) hN;have e0:cpN (nameB b k) 0=zeros 25:=by simp [cpN]
  rw [e0] at e;rw [C0a,J3];generalize zeros 25=z at *;generalize B5 b=y at *;exact ⟨h',by simp only [esc,esh,Nat.reduceAdd];exact e⟩
 obtain ⟨g',e⟩:=key (l_ h+26) (by omega) (ro h);exact B6z e (by simp [Val.flat,D61,Cell.flat])
abbrev Slt:=Nat × Ent
def slC:Option Slt->List Cell
 | none=>[o0,.s [],o0]
 | some x=>[cI (x.1:Int),.s x.2.1,cI x.2.2]
def jJ{o:Option Slt}:(slC o).length=3:=by cases o<;>rfl
def D3H{o:Option Slt}:N8 (slC o)=A5:=by cases o<;>rfl
def X0(b nm:List UInt8):Nat->Nat->Option Slt
 | 0,_=>A7
 | e+1,k=>match N9 b k with
  | some x=>if x.1=nm then A4 (k,x) else X0 b nm e (k+1)
  | none=>X0 b nm e (k+1)
def kD(hx:N9 b k=A7):X0 b nm (e+1) k=X0 b nm e (k+1):=by rw [X0,hx]
def xW(hx:N9 b k=A4 (nm,n)):X0 b nm (e+1) k=A4 (k,(nm,n)):=by rw [X0,hx];simp
def kC(hx:N9 b k=A4 (s,n))(aR:s≠nm):X0 b nm (e+1) k=X0 b nm e (k+1):=by rw [X0,hx];simp [aR]
def T9(b nm:List UInt8):Option Slt:=X0 b nm 7 0
def D9u{k:Int}{r1 r2 r3:Nat}(h1:rd h r1=rT [.s nm])(h3:rd h r3=rT [.b A6])(aR:s≠nm) :
  jL [.a [cI k,.s s,cI n],pV r1 0,pV r2 0,pV r3 0] h=A4 (bV A5,h++[rT [cI k,.s s,cI n]]):=by
 refine A4d (n:=0) ?_;have l1:B9 (h++[rT [cI k,.s s,cI n]]) (pV r1 0)=A4 (.c (.s nm)):=C4 (cs:=[.s nm]) (B7 h1) rfl rfl;have l3:B9 (h++[rT [cI k,.s s,cI n]]) (pV r3 0)=A4 (bV A6):=C4 (cs:=[.b A6]) (B7 h3) rfl rfl;rw [A3U];simp only [esc,esh,Nat.reduceAdd,l1,aR,A2B,l3]<;>rfl
def D69{k:Int}{c2:List Cell}{r1 r2 r3:Nat}(h1:rd h r1=rT [.s nm])(h2:rd h r2=rT c2)(hl:c2.length=3)(h3:rd h r3=rT [.b A6])(h23:r2≠r3) :
  jL [.a [cI k,.s nm,cI n],pV r1 0,pV r2 0,pV r3 0] h=A4 (bV A6,((h++[rT [cI k,.s nm,cI n]]).set r2 (rT [cI k,.s nm,cI n])).set r3 (rT [.b A5])):=by
 refine A4d (n:=0) ?_;have l1:B9 (h++[rT [cI k,.s nm,cI n]]) (pV r1 0)=A4 (.c (.s nm)):=C4 (cs:=[.s nm]) (B7 h1) rfl rfl;have s2:=storeAll (h:=h++[rT [cI k,.s nm,cI n]]) (id:=r2) (n:=3) (xs:=[cI k,.s nm,cI n]) (B7 h2) hl rfl;have h3':rd ((h++[rT [cI k,.s nm,cI n]]).set r2 (rT [cI k,.s nm,cI n])) r3=rT [.b A6]:=by rw [B8 h23];exact B7 h3
 have s3:=I9 (x:=.b A5) (off:=0) h3' (by simp);have l4:B9 (((h++[rT [cI k,.s nm,cI n]]).set r2 (rT [cI k,.s nm,cI n])).set r3 (rT [.b A5])) (pV r3 0)=A4 (bV A5):=C4 (cs:=[.b A5]) (D6 (by simpa using E1 h3')) rfl rfl;rw [A3U];have s3:I8 ((h++[rT [cI k,.s nm,cI n]]).set r2 (rT [cI k,.s nm,cI n])) (pV r3 0) (bV A5)=A4 (((h++[rT [cI k,.s nm,cI n]]).set r2 (rT [cI k,.s nm,cI n])).set r3 (rT [.b A5])):=s3;simp only [esc,esh,Nat.reduceAdd,l1,s2,s3,A2B,l4]<;>rfl
def C1l{b nm:List UInt8}{r0 r1 r2 r3 q:Nat}{B:A9}(hb:l_ b=256)(hB1:rd B r1=rT [.s nm])(hr2:l_ B<=r2)(hr3:l_ B<=r3)(h23:r2≠r3)(h02:r0≠r2)(h03:r0≠r3):∀ (e k m:Nat) (h:A9),k+e=7->e<m->Low (l_ B) B h ->
  rd h r2=rT (slC A7)->rd h r3=rT [.b A6]->rd h r0=rT (B5 b) ->
  ∃ h',xO q m (.c (.f 106 [(r1,0),(r2,0),(r3,0)])) (pV r0 0) (iV (k:Int)) h=A4 (.t [],h')/\Low (l_ B) B h'/\rd h' r2=rT (slC (X0 b nm e k))/\rd h' r3=rT [.b (X0 b nm e k).isSome]
 | e,k,0,h,_,hm,_,_,_,_=>by omega
 | 0,k,m+1,h,hk,hm,hlow,h2,h3,h0=>by
  have e0:k=7:=by omega
  subst e0;have c0:¬ ((7:Nat):Int)<7:=by omega
  refine ⟨h,?_,hlow,h2,h3⟩;rw [qF];simp only [esc,c0]<;>rfl
 | e+1,k,m+1,h,hk,hm,hlow,h2,h3,h0=>by
  have c0:(k:Int)<7:=by omega
  have hbl:(B5 b).length=256:=by rw [B6,hb]
  have s1:=C7 (h:=h) (id:=r0) h0 hbl;have hR:=A4y (h:=h) (k:=k) hb (by omega);have w1:=D9 (a:=k) (by omega);have hcv:∀ (x:Val) (h:A9),aD yR (.c (.f 106 [(r1,0),(r2,0),(r3,0)])) [x] h=jL [x,pV r1 0,pV r2 0,pV r3 0] h:=λ_ _=>Eq.trans rfl rfl
  rw [qF];cases hx:N9 b k with
  | none =>
   rw [hx] at hR;rw [kD hx];obtain ⟨h',f1,f2⟩:=C1l (q:=q) hb hB1 hr2 hr3 h23 h02 h03 e (k+1) m (h++[rT ([.s [],o0])]) (by omega) (by omega) (hlow.new _) (B7 h2) (B7 h3) (B7 h0);refine ⟨h',?_,f2⟩;generalize B5 b=y at *;simp only [esc,esh,Nat.reduceAdd,c0,s1,hR,W0,E6Z,w1];exact f1
  | some x =>
   obtain ⟨s,n⟩:=x;rw [hx] at hR;have ef:F5 [o0,.s [],o0] [(0,1,iV (k:Int)),(1,2,.a [.s s,cI n])]=A4 [cI (k:Int),.s s,cI n]:=rfl;have h1':rd (h++[rT [.s s,cI n]]) r1=rT [.s nm]:=B7 (hlow.rd hB1);by_cases ce:s=nm
   ·subst ce;have hF:=D69 (k:=(k:Int)) (n:=n) h1' (B7 h2) jJ (B7 h3) h23;simp only [E6d,E6Y,E6s] at hF;rw [xW hx];refine ⟨((h++[rT [.s s,cI n],rT [cI (k:Int),.s s,cI n]]).set r2 (rT [cI (k:Int),.s s,cI n])).set r3 (rT [.b A5]),?_,((hlow.new [rT [.s s,cI n],rT [cI (k:Int),.s s,cI n]]).set hr2 _).set hr3 _,?_,?_⟩
    ·generalize B5 b=y at *;simp only [esc,esh,Nat.reduceAdd,c0,s1,hR,W0,E6G,ef,hcv,hF]<;>rfl
    ·rw [B8 (Ne.symm h23)];exact D6 (E1 (B7 h2))
    ·exact D6 (by rw [E6F];exact E1 (B7 h3))
   ·have hF:=D9u (k:=(k:Int)) (n:=n) (r2:=r2) h1' (B7 h3) ce;simp only [E6d,E6Y,E6s] at hF;rw [kC hx ce];obtain ⟨h',f1,f2⟩:=C1l (q:=q) hb hB1 hr2 hr3 h23 h02 h03 e (k+1) m (h++[rT [.s s,cI n],rT [cI (k:Int),.s s,cI n]]) (by omega) (by omega) (hlow.new _) (B7 h2) (B7 h3) (B7 h0);refine ⟨h',?_,f2⟩;generalize B5 b=y at *;simp only [esc,esh,Nat.reduceAdd,c0,s1,hR,W0,E6G,ef,hcv,hF,w1];exact f1
def xN(hb:l_ b=256):kA [.a (B5 b),.c (.s nm)] h=A4 (.t [.a (slC (T9 b nm)),.c (.b (T9 b nm).isSome)],h):=by
 have key:∀ g,∃ g',A6F 0 [.a (B5 b),.c (.s nm)] g=A4 (.t [.a (slC (T9 b nm)),.c (.b (T9 b nm).isSome)],g'):=by
  intro g;have hbl:(B5 b).length=256:=by rw [B6,hb]
  have emk:A3f 106 [pV (l_ g+1) 0,pV (l_ g+3) 0,pV (l_ g+4) 0]=A4 (.c (.f 106 [(l_ g+1,0),(l_ g+3,0),(l_ g+4,0)])):=rfl;obtain ⟨h',f1,f2,f3,f4⟩:=C1l (b:=b) (nm:=nm) (r0:=l_ g+5) (r1:=l_ g+1) (r2:=l_ g+3) (r3:=l_ g+4) (q:=8) (B:=g++[rT (B5 b),rT [.s nm],rT (slC A7)]) hb (by simp) (by simp) (by simp) (by omega) (by omega) (by omega) 7 0 8 (g++[rT (B5 b),rT [.s nm],rT (slC A7),rT (slC A7),rT [.b A6],rT (B5 b)]) (by omega) (by omega)
   (by have:=(Low.refl (h:=g++[rT (B5 b),rT [.s nm],rT (slC A7)]) (E56 _)).new [rT (slC A7),rT [.b A6],rT (B5 b)];simpa using this) (by simp) (by simp) (by simp)
  have hS:kJ [.a (B5 b),.c (.f 106 [(l_ g+1,0),(l_ g+3,0),(l_ g+4,0)])] (g++[rT (B5 b),rT [.s nm],rT (slC A7),rT (slC A7),rT [.b A6]])=A4 (.t [],h'):=by
   refine A63 (n:=8) ?_;rw [A6G];simp only [esc,esh,Nat.reduceAdd];exact f1
  have hr:rd h' (l_ g+2)=rT (slC A7):=by rw [f2.2.2 _ (by simp)];simp
  change rd h' (l_ g+3)=rT (slC (T9 b nm)) at f3;change rd h' (l_ g+4)=rT [.b (T9 b nm).isSome] at f4;have t1:=C7 (n:=3) f3 jJ;have t2:B9 h' (pV (l_ g+4) 0)=A4 (bV (T9 b nm).isSome):=C4 (cs:=[.b (T9 b nm).isSome]) f4 rfl rfl;have t3:=storeAll (n:=3) (xs:=slC (T9 b nm)) hr jJ jJ;have f4':rd (h'.set (l_ g+2) (rT (slC (T9 b nm)))) (l_ g+4)=rT [.b (T9 b nm).isSome]:=by rw [B8 (by omega)];exact f4
  have t4:B9 (h'.set (l_ g+2) (rT (slC (T9 b nm)))) (pV (l_ g+4) 0)=A4 (bV (T9 b nm).isSome):=C4 (cs:=[.b (T9 b nm).isSome]) f4' rfl rfl;have t5:=C7 (n:=3) (D6 (x:=rT (slC (T9 b nm))) (E1 hr)) jJ;have z0:[o0,.s [],o0]=slC A7:=rfl;rw [B96,z0];generalize slC (T9 b nm)=Y at *;generalize slC A7=Z at *;generalize (T9 b nm).isSome=S at *;generalize B5 b=y at *;exact ⟨_,by simp only [esc,esh,Nat.reduceAdd,Nat.reduceLT,hbl,emk,hS,t1,t2,t3,t4,t5]<;>rfl⟩
 obtain ⟨g',e⟩:=key (ro h);exact B6x e (by simp [Val.flat,D3H,Cell.flat])
section
variable (n m m2:Nat) (a0 a1 a2 a3 a4 a5 x2 x3 x6 x7 x12 x13 x14 x16 x17 x18 x21 x22 x23:Val) (h:A9)
def A0S:FD A8:=⟨px 0X11b13cf1238f6004401482d14a53c13a38060196181a001e32ff1b006223201134e12e492c1c30192f2b00001b301311116032e383a00001f22403f282a024f4221329f128f24961f191b11a28018282c1ff1c0042032c1b182c41d1c192d2b111a2311116063a632e519751c2,[],[],[.tmp 6,.tmp 7,.tmp 8],[D7 iY vO,D7 B2R B7P,D7 A07 A6D]⟩
def A6L:=A0S.R
def C0c:=mR A6L A0S (tT []) n [a0,a1,a2] h
def B5t:=A0S.K Tryz.func53
def A67:=A0S.S
def B6C:G0 A6L A67:=B5t.flat
def vH:FD A8:=⟨px 0X11b7026f3601218111c1032b3b04105118c5040188518a5a019020137026f3602b3b31f1110722403f6e4f021a9423134ef14df2362c1b1b11e2801c4d2c4cf3f0042332f1042236817a4481c1b392f2b11d2013702683602b3b35c11001722401b1c1905e4d04215e2f4a5e7035e3c05a5e1f0103f2e2d0197b424132cf12bf12af18021e2811c2801a2a2c29f1d00463033c12e1b182e41e1c1b2d2b2192312b61b63a632e41d1975282,[],[],[.cellN 6 3,.tmp 7],[D7 A67 B5t,D7 W4 Z2,D7 D8 E7,D7 kA rA]⟩
def A3Z:=vH.R
def B7V:=mR A3Z vH (tT []) n [a0,a1,a2] h
def A3G:=vH.K Tryz.func16
def wO:=vH.S
def B5d:G0 A3Z wO:=A3G.flat
def vG:FD A8:=⟨px 0X16f0425e56e15c451825c2a0613901013113e5e14e4531222430181904d4e3c34d3c2e34d3c012829065d446228f11ff2362b181b11c2801a1f2c1ef1a00463033812a1b182a41b1c1a2b29111a2762e11d1b19753382,[],[.eqA A6 ([.i .i64,.i .i64,.i .i64]) (.t 19) (.t 20),.mput A7 (.t 27) (.t 28) (.t 30)],[],[D7 wO A3G]⟩
def B2b:=vG.R
def vU:=mR B2b vG (tT []) n [a0,a1,a2,a3,a4,a5] h
def B1R:=vG.K Tryz.func134
def wM:=vG.Q
def wN:OfT B2b wM:=B1R.of
def N3:FD A8:=⟨px 0X58f1e056c058492184ff2f05480221801822e5f0400516c501218111c1032b3b0410515c50405855a16a3b01c183af2362c191b031841831d43e42350327024191340121694201625110290123042133813e42a1c65f5d5b1c229f700441811d32842150307024513401213f420060511029042031e1b181e41a1c53d3b3921d263a632e219751c2,[],[],[],[D7 nF vN,D7 D8 E7,D7 fI rB,fU wM B1R]⟩
def A1p:=N3.R
def mS:K6:=N3.E
def zP:AtH:=N3.lj 0 n [m] [x2,x3,x12,x13,x14]
def zQ:AtH:=N3.lj 1 n [m,m2] [x2,x3,x7,x12,x13,x14,x21,x22,x23]
def nK:TT:=⟨mS,[⟨2,5,zP⟩,⟨3,9,zQ⟩]⟩
def A7U:=mR A1p N3 nK n [a0,a1,a2] h
def A7w:=mL N3 nK 0 n [m] [x2,x3,x12,x13,x14] h
def A7x:=mL N3 nK 1 n [m,m2] [x2,x3,x7,x12,x13,x14,x21,x22,x23] h
def A1h:=N3.K Tryz.func133
def nE:=N3.Q
def A73:OfT A1p nE:=A1h.of
def oX:FD A8:=⟨px 0X13ff40683f023c0000003723ef2a053803e492183df7001e239020129123e01118102293b1384814c43c13e2e019182df1900441811d32c42150307024513401214f42006051102901132c1f5944d4b4922820023274811e420463031e282c2e428e5e2a1b182a41b1c400221af22a561b01a7d31d4224c11b4224a43a422e375182,[],[.mkMap,.look A7 (.c o0) A6 (.t 24) (.t 25)],[.tmp 4],[fU nE A1h,D7 A5T B1Y]⟩
def A9x:=oX.R
def B50:AtH:=oX.lj 0 n [m] [x6,x7,x16,x17,x18]
def B8C:=tT [⟨2,5,B50⟩]
def C3g:=mR A9x oX B8C n [a0,a1] h
def A8E:=mL oX B8C 0 n [m] [x6,x7,x16,x17,x18] h
def A9h:=oX.K Tryz.func91
def wL:=oX.S
def C0D:A3T A9x wL:=A9h.out
def sK:FD A8:=⟨px 0X25c2a0633903012b133e4e3184e45182401b181904c4e3e34c3c3834c3c0103f2828075d22621ff11ef2362b71b11c2801a1e2c1df1900463032e1281b182841a1c1a291f00001b2752e11b197532c2,[],[.eqA A5 ([.i .i64,.i .i64,.i .i64]) (.t 19) (.t 20)],[],[D7 wO A3G]⟩
def B0Z:=sK.R
def A30:=mR B0Z sK (tT []) n [a0,a1,a2,a3,a4] h
def B0V:=sK.K Tryz.func160
def sP:=sK.Q
def A4i:OfT B0Z sP:=B0V.of
def M4:FD A8:=⟨px 0X58f1e056c058492184ff2f05480221801822e5f0400516c501218111c1032b3b0410515c50405855a16a3b01c183af2362c191b031841831d43e42350327024191340121694201625110290123042133813e42a1c65f5d5b1c229f700441811d32842150307024513401213f420060511029042031e1b181e41a1c53d3b3921d263a632e219751c2,[],[],[],[D7 nF vN,D7 D8 E7,D7 fI rB,fU sP B0V]⟩
def zC:=M4.R
def kI:K6:=M4.E
def xU:AtH:=M4.lj 0 n [m] [x2,x3,x12,x13,x14]
def xV:AtH:=M4.lj 1 n [m,m2] [x2,x3,x7,x12,x13,x14,x21,x22,x23]
def kR:TT:=⟨kI,[⟨2,5,xU⟩,⟨3,9,xV⟩]⟩
def A6M:=mR zC M4 kR n [a0,a1,a2] h
def A5g:=mL M4 kR 0 n [m] [x2,x3,x12,x13,x14] h
def A5h:=mL M4 kR 1 n [m,m2] [x2,x3,x7,x12,x13,x14,x21,x22,x23] h
def yX:=M4.K Tryz.func133
def kN:=M4.Q
def A68:OfT zC kN:=yX.of
def A0T:FD A8:=⟨px 0X11af401a421a05204630361a1c32c85e181b18184184002224c11b4234a43a422e375182,[],[],[.tmp 4],[fU kN yX]⟩
def rD:=A0T.R
def C0d:=mR rD A0T (tT []) n [a0,a1] h
def A6B:=A0T.K Tryz.func136
def rJ:=A0T.S
def B8h:E00 rD rJ:=A6B.low
def B8i:A3T rD rJ:=A6B.out
end
def A1P(X:List Int)(nm:List UInt8):Nat:=C3W nm%C5 (X.headD 0)
def R6(X:List Int)(nm:List UInt8):Int:=X.tail.getD (A1P X nm) 0
def D2y(X:List Int)(nm:List UInt8):A1P X nm<32:=by
 have h1:=T2 (X.headD 0);have h2:0<C5 (X.headD 0):=by unfold C5;exact Nat.two_pow_pos _
 have:=Nat.mod_lt (C3W nm) h2;unfold A1P;omega
def D3t(D:Dev)(n k:Int)(d:List Int)(nm:List UInt8):List Part :=
 bif Z0 D n k d then [.c (cI (A1P (tP D n k d) nm:Nat)),.c (cI (R6 (tP D n k d) nm)),.c (.b A5)] else [.c o0,.c o0,.c (.b A6)]
def C5P{k s:Int}{d:List Int}(hD:okD D)(hd:l_ d=7)(hv:IsView h f D)(hs:nm.length<9223372036854775807) :
  A67 [.a (vwC (l_ D) n m f),.a (C8 k l s p d),.c (.s nm)] h=A4 (.t (D3t D n k d nm),h):=by
 have key:∀ g,IsView g f D->∃ g',A6L 0 [.a (vwC (l_ D) n m f),.a (C8 k l s p d),.c (.s nm)] g=A4 (.t (D3t D n k d nm),g'):=by
  intro g hv;have hIl:(C8 k l s p d).length=11:=by simp [C8,C1,hd]
  have l11:ldN (rT (C8 k l s p d)) 0 11=A4 (.a (C8 k l s p d)):=K8 hIl;have l4:=B6m (b:=l_ D) (n:=n) (m:=m) (f:=f);have hz:(encI (0::zI 32)).length=33:=G4 (d:=0) N2;have hX:=A6k D n k d;have hI:=A1a (n:=n) (m:=m) (k:=k) (l:=l) (s:=s) (p:=p) (h:=g++[rT (vwC (l_ D) n m f),rT (C8 k l s p d)]) hD hd (hv.more _);rw [C0c,B4m];unfold D3t;cases c:Z0 D n k d with
  | false =>
   rw [c] at hI;generalize encI (tP D n k d)=x at *;generalize encI (0::zI 32)=z at *;generalize vwC (l_ D) n m f=V at *;generalize C8 k l s p d=I at *;exact ⟨_,by simp only [esc,esh,Nat.reduceAdd,l4,l11,hI,hz,hX]<;>rfl⟩
  | true =>
   rw [c] at hI;have hM:=λh=>C1B (s:=nm) hs (h:=h)
   obtain ⟨x,t,e,ht⟩:=C9f D n k d;rw [e] at hI hX ⊢;have hP:=λh=>B3J (d:=x) (h:=h) ht (D0S (s:=nm))
   have W5:=D2y (x::t) nm;have eP:C3W nm%C5 x=A1P (x::t) nm:=rfl;rw [eP] at hP;have ad:∀ q,K5 32 1 (pV q 1) (iV (A1P (x::t) nm:Nat))=A4 (pV q (1+A1P (x::t) nm)):=λq=>by
    rw [D8A (by omega) (by omega)];simp
   have l1:ld1 (rT (encI (x::t))) (1+A1P (x::t) nm)=A4 (iV (R6 (x::t) nm)):=by
    rw [yB];have:(encI (x::t))[1+A1P (x::t) nm]?=A4 (cI (R6 (x::t) nm)):=by
     rw [G6,Nat.add_comm,E6o,E51 (by omega)];unfold R6;rw [List.tail_cons,E54,E51 (by omega)];rfl
    rw [this];rfl
   generalize R6 (x::t) nm=B at *;generalize A1P (x::t) nm=P at *;generalize encI (x::t)=X at *;generalize encI (0::zI 32)=z at *;generalize vwC (l_ D) n m f=V at *;generalize C8 k l s p d=I at *;exact ⟨_,by simp only [esc,O7,G8,Y9,I7,S3,G9,K8,fD,Nat.reduceAdd,l4,l11,hI,hz,hX,hM,hP,ad,l1]<;>rfl⟩
 obtain ⟨g',e⟩:=key (ro h) hv.ro;exact B6C e (by unfold D3t;cases Z0 D n k d<;>rfl)
abbrev Plc:=Int × Nat × Int
def pS:Option Plc->List Cell
 | none=>[o0,o0,o0]
 | some p=>[cI p.1,cI (p.2.1:Int),cI p.2.2]
def A8Z(D:Dev)(n k:Int)(d:List Int)(nm:List UInt8):Option Plc :=
 if Z0 D n k d=A5/\G5 (l_ D) n (R6 (tP D n k d) nm)=A5 then (T9 (blk D (R6 (tP D n k d) nm)) nm).map λs=>(R6 (tP D n k d) nm,s.1,s.2.2) else A7
def B05{k s:Int}{d:List Int}(hD:okD D)(hd:l_ d=7)(hv:IsView h f D)(hs:nm.length<9223372036854775807) :
  wO [.a (vwC (l_ D) n m f),.a (C8 k l s p d),.c (.s nm)] h=A4 (.t [.a (pS (A8Z D n k d nm)),.c (.b (A8Z D n k d nm).isSome)],h):=by
 have key:∀ g,IsView g f D->∃ g',A3Z 0 [.a (vwC (l_ D) n m f),.a (C8 k l s p d),.c (.s nm)] g=A4 (.t [.a (pS (A8Z D n k d nm)),.c (.b (A8Z D n k d nm).isSome)],g'):=by
  intro g hv;have hIl:(C8 k l s p d).length=11:=by simp [C8,C1,hd]
  have l11:ldN (rT (C8 k l s p d)) 0 11=A4 (.a (C8 k l s p d)):=K8 hIl;have l4:=B6m (b:=l_ D) (n:=n) (m:=m) (f:=f);have l3:=C27 (b:=l_ D) (n:=n) (m:=m) (f:=f);have ef:F5 [o0,o0,o0] []=A4 [o0,o0,o0]:=rfl;have l3z:ldN (rT [o0,o0,o0]) 0 3=A4 (.a [o0,o0,o0]):=rfl;have s3z:∀ x,stN (rT [o0,o0,o0]) 0 3 [cI x,o0,o0]=rT [cI x,o0,o0]:=λ_=>rfl
  have hR:=C5P (n:=n) (m:=m) (k:=k) (l:=l) (s:=s) (p:=p) (nm:=nm) (h:=g++[rT (vwC (l_ D) n m f),rT (C8 k l s p d),rT [o0,o0,o0]]) hD hd (hv.more _) hs;rw [B7V];unfold A8Z;unfold D3t at hR;cases c:Z0 D n k d with
  | false =>
   rw [c,cond_false] at hR;rw [if_neg (by simp)];generalize vwC (l_ D) n m f=V at *;generalize C8 k l s p d=I at *;exact ⟨_,by simp only [esc,esh,Nat.reduceAdd,l4,l11,hR,ef,l3z,s3z,pS,E6Z]<;>rfl⟩
  | true =>
   rw [c,cond_true] at hR;generalize A1P (tP D n k d) nm=P at *;generalize R6 (tP D n k d) nm=B at *;have hG:=λh=>X3 (b:=l_ D) (n:=n) (m:=m) (i:=B) (h:=h)
   cases c2:G5 (l_ D) n B with
   | false =>
    simp only [c2] at hG;rw [if_neg (by simp)];generalize vwC (l_ D) n m f=V at *;generalize C8 k l s p d=I at *;exact ⟨_,by simp only [esc,esh,Nat.reduceAdd,l4,l11,l3,hR,hG,ef,l3z,s3z,pS,E6Z]<;>rfl⟩
   | true =>
    simp only [c2] at hG;rw [if_pos ⟨rfl,rfl⟩];have hB:=M7 (n:=n) (m:=m) (no:=B) (h:=g++[rT (vwC (l_ D) n m f),rT (C8 k l s p d),rT [o0,o0,o0]]) hD (hv.more _);have hF:=λh=>xN (b:=blk D B) (nm:=nm) (h:=h) (J9 hD)
    cases c3:T9 (blk D B) nm with
    | none =>
     simp only [c3] at hF;generalize B5 (blk D B)=y at *;generalize vwC (l_ D) n m f=V at *;generalize C8 k l s p d=I at *;have s3:stN (rT [o0,.s [],o0]) 0 3 (slC A7)=rT (slC A7):=rfl;exact ⟨_,by simp only [esc,esh,Nat.reduceAdd,l4,l11,l3,hR,hG,hB,hF,ef,l3z,s3z,s3,pS,E6Z,Option.map_none]<;>rfl⟩
    | some sl =>
     obtain ⟨kk,s',i'⟩:=sl;simp only [c3] at hF;generalize B5 (blk D B)=y at *;generalize vwC (l_ D) n m f=V at *;generalize C8 k l s p d=I at *;have s3:stN (rT [o0,.s [],o0]) 0 3 (slC (A4 (kk,s',i')))=rT (slC (A4 (kk,s',i'))):=rfl;have g0:ld1 (rT (slC (A4 (kk,s',i')))) 0=A4 (iV (kk:Int)):=rfl;have g2:ld1 (rT (slC (A4 (kk,s',i')))) 2=A4 (iV i'):=rfl;have ef3:F5 [o0,o0,o0] [(0,1,iV B),(1,1,iV (kk:Int)),(2,1,iV i')]=A4 [cI B,cI (kk:Int),cI i']:=rfl;have s33:stN (rT [o0,o0,o0]) 0 3 [cI B,cI (kk:Int),cI i']=rT [cI B,cI (kk:Int),cI i']:=rfl;have l33:ldN (rT [cI B,cI (kk:Int),cI i']) 0 3=A4 (.a [cI B,cI (kk:Int),cI i']):=rfl;exact ⟨_,by simp only [esc,O7,G8,Y9,I7,S3,G9,K8,fD,Nat.reduceAdd,l4,l11,l3,hR,hG,hB,hF,ef,s3,g0,g2,ef3,s33,l33,pS,E6G]<;>rfl⟩
 obtain ⟨g',e⟩:=key (ro h) hv.ro;exact B5d e (by cases A8Z D n k d nm<;>rfl)
def pU(l:List Slt):List Cell:=(l.map λx=>slC (A4 x)).flatten
def uV{l:List Slt}:(pU l).length=l_ l*3:=by
 induction l with
 | nil=>rfl
 | cons x l ih=>simp only [pU,E6N,E65,E58,jJ,E6g] at ih ⊢;omega
def D8b{l:List Slt}{x:Slt}:pU (l++[x])=pU l++slC (A4 x):=by simp [pU]
def D8a{l:List Slt}:N8 (pU l)=A5:=by
 induction l with
 | nil=>rfl
 | cons x l ih =>
  have:pU (x::l)=slC (A4 x)++pU l:=rfl;rw [this,pM,D3H,ih];rfl
def D98{l:List Slt}:noX (pU l)=A5:=by
 induction l with
 | nil=>rfl
 | cons x l ih =>
  have:pU (x::l)=[cI (x.1:Int),.s x.2.1,cI x.2.2]++pU l:=rfl;rw [this];simp [noX,Cell.isX] at ih ⊢;exact ih
def Q0(b:List UInt8):Nat->Nat->List Slt
 | 0,_=>[]
 | e+1,k=>match N9 b k with
  | some x=>(k,x)::Q0 b e (k+1)
  | none=>Q0 b e (k+1)
def J1(b:List UInt8):List Slt:=Q0 b 7 0
def Z3(hx:N9 b k=A7):Q0 b (e+1) k=Q0 b e (k+1):=by rw [Q0,hx]
def Z4{x:Ent}(hx:N9 b k=A4 x):Q0 b (e+1) k=(k,x)::Q0 b e (k+1):=by rw [Q0,hx]
def E2Y{jd m:Nat}(hy:rd h jd=rT ys)(hyl:l_ ys=m*sz)(hsz:0<sz)(hn:m<=1073741824) :
  tJ h sz (.c .ns) (sV jd 0 m sz)=A4 (sV (l_ h) 0 m sz,h++[rT ys]):=by
 have h2:U5 h sz (sV jd 0 m sz)=A4 ys:=by
  simp only [U5,if_true,pW,hy,E6h,E6i,E6j];rw [<-hyl,List.take_length,if_pos ⟨E56 _,rfl⟩]
 have e1:l_ ys/sz=m:=by rw [hyl];exact Nat.mul_div_cancel _ hsz
 simp only [tJ,h2,E6h];rw [e1,if_pos hn]
def Held(h:A9)(x:Cell)(l:List Slt)(b r0 r:Nat):Prop:=(l=[]/\x=.ns)\/∃ id,x=.sl id 0 (l_ l) 3/\rd h id=rT (pU l)/\b<=id/\id≠r0/\id≠r
def Held.more{x:Cell}{l:List Slt}{b r0:Nat}(hd:Held h x l b r0 r)(t:A9):Held (h++t) x l b r0 r:=by
 rcases hd with hd | ⟨id,h1,h2,h3⟩
 ·exact .inl hd
 ·exact .inr ⟨id,h1,B7 h2,h3⟩
def D9W{x:Cell}{l:List Slt}{r0:Nat}{B:A9}{c0:List Cell}(hlow:Low (l_ B) B h)(hr:rd h r=rT [x])(h0:rd h r0=rT c0)(h0r:r0≠r)(hBr:l_ B<=r)(hB0:l_ B<=r0)(hd:Held h x l (l_ B) r0 r)(hl:l_ l<=7) :
  ∃ x' h',sM [.a [cI (k:Int),.s s,cI n],pV r 0] h=A4 (bV A5,h')/\Low (l_ B) B h'/\rd h' r=rT [x']/\rd h' r0=rT c0/\Held h' x' (l++[(k,(s,n))]) (l_ B) r0 r:=by
 have W5:=E1 hr;have E5m:=E1 h0;have l1:B9 (h++[rT [cI (k:Int),.s s,cI n]]) (pV r 0)=A4 (.c x):=C4 (cs:=[x]) (B7 hr) rfl (by simp);have ef:F5 [o0,.s [],o0] [(0,3,.a [cI (k:Int),.s s,cI n])]=A4 [cI (k:Int),.s s,cI n]:=rfl;have hBh:=hlow.2.1;rcases hd with ⟨rfl,rfl⟩ | ⟨id,rfl,hi,hbi,hi0,hir⟩
 ·have hA:=E2Y (h:=h++[rT [cI (k:Int),.s s,cI n],rT [cI (k:Int),.s s,cI n]]) (jd:=l_ h+1) (m:=1) (sz:=3) (ys:=[cI (k:Int),.s s,cI n]) (by simp) rfl (by omega) (by omega);simp only [E58,E6g,E6E,E6j,E6d,E6Y,E6s,Nat.reduceAdd] at hA;have hr2:rd (h++[rT [cI (k:Int),.s s,cI n],rT [cI (k:Int),.s s,cI n],rT [cI (k:Int),.s s,cI n]]) r=rT [.ns]:=B7 hr;have t1:=I9 (x:=.sl (l_ h+2) 0 1 3) (off:=0) hr2 (by simp);refine ⟨.sl (l_ h+2) 0 1 3,_,A4e (n:=0) (by rw [A3V];simp only [esc,esh,Nat.reduceAdd,l1,ef,hA,t1]<;>rfl),(hlow.new _).set hBr _,?_,?_,.inr ⟨l_ h+2,rfl,?_,by omega,by omega,by omega⟩⟩
  ·exact D6 (E1 hr2)
  ·rw [B8 (Ne.symm h0r)];exact B7 h0
  ·rw [B8 (by omega)];simp [pU,slC]
 ·have hA:=A7p (h:=h++[rT [cI (k:Int),.s s,cI n],rT [cI (k:Int),.s s,cI n]]) (id:=id) (jd:=l_ h+1) (n:=l_ l) (m:=1) (sz:=3) (cs:=pU l) (ys:=[cI (k:Int),.s s,cI n]) (rw:=A5) (B7 hi) uV (by simp) rfl rfl (by omega) (by omega);have hli:=E1 hi;have es:(h++[rT [cI (k:Int),.s s,cI n],rT [cI (k:Int),.s s,cI n]]).length=l_ h+2:=by simp
  rw [es] at hA;have hr2:rd ((h++[rT [cI (k:Int),.s s,cI n],rT [cI (k:Int),.s s,cI n]]).set id A7++[rT (pU l++[cI (k:Int),.s s,cI n])]) r=rT [.sl id 0 (l_ l) 3]:=by
   refine B7 ?_;rw [B8 hir];exact B7 hr
  have t1:=I9 (x:=.sl (l_ h+2) 0 (l_ l+1) 3) (off:=0) hr2 (by simp);refine ⟨.sl (l_ h+2) 0 (l_ l+1) 3,_,A4e (n:=0) (by rw [A3V];simp only [esc,esh,Nat.reduceAdd,l1,ef,hA,t1]<;>rfl),(((hlow.new _).set hbi _).new _).set hBr _,?_,?_,.inr ⟨l_ h+2,by simp,?_,by omega,by omega,by omega⟩⟩
  ·exact D6 (E1 hr2)
  ·rw [B8 (Ne.symm h0r)];refine B7 ?_;rw [B8 hi0];exact B7 h0
  ·rw [B8 (by omega),D8b];have:((h++[rT [cI (k:Int),.s s,cI n],rT [cI (k:Int),.s s,cI n]]).set id A7).length=l_ h+2:=by simp
   rw [<-this];exact N6
def C1m{b:List UInt8}{r0 r q:Nat}{B:A9}(hb:l_ b=256)(h0r:r0≠r)(hBr:l_ B<=r)(hB0:l_ B<=r0):∀ (e k m:Nat) (h:A9) (x:Cell) (l:List Slt),k+e=7->e<m->l_ l<=k->Low (l_ B) B h ->
  rd h r=rT [x]->rd h r0=rT (B5 b)->Held h x l (l_ B) r0 r ->
  ∃ x' h',xP q m (.c (.f 152 [(r,0)])) (pV r0 0) (iV (k:Int)) h=A4 (.t [],h')/\Low (l_ B) B h'/\rd h' r=rT [x']/\Held h' x' (l++Q0 b e k) (l_ B) r0 r
 | e,k,0,h,x,l,_,hm,_,_,_,_,_=>by omega
 | 0,k,m+1,h,x,l,hk,hm,hl,hlow,hr,h0,hd=>by
  have e0:k=7:=by omega
  subst e0;have c0:¬ ((7:Nat):Int)<7:=by omega
  refine ⟨x,h,?_,hlow,hr,by rw [Q0,E6k];exact hd⟩;rw [qG];simp only [esc,c0]<;>rfl
 | e+1,k,m+1,h,x,l,hk,hm,hl,hlow,hr,h0,hd=>by
  have c0:(k:Int)<7:=by omega
  have hbl:(B5 b).length=256:=by rw [B6,hb]
  have s1:=C7 (h:=h) (id:=r0) h0 hbl;have hR:=A4y (h:=h) (k:=k) hb (by omega);have w1:=D9 (a:=k) (by omega);have hcv:∀ (x:Val) (h:A9),aD yS (.c (.f 152 [(r,0)])) [x] h=sM [x,pV r 0] h:=λ_ _=>Eq.trans rfl rfl
  rw [qG];cases hx:N9 b k with
  | none =>
   rw [hx] at hR;rw [Z3 hx];obtain ⟨x',h',f1,f2⟩:=C1m (q:=q) hb h0r hBr hB0 e (k+1) m (h++[rT ([.s [],o0])]) x l (by omega) (by omega) (by omega) (hlow.new _) (B7 hr) (B7 h0) (hd.more _);refine ⟨x',h',?_,f2⟩;generalize B5 b=y at *;simp only [esc,esh,Nat.reduceAdd,c0,s1,hR,W0,E6Z,w1];exact f1
  | some en =>
   obtain ⟨s,n⟩:=en;rw [hx] at hR;rw [Z4 hx];have ef:F5 [o0,.s [],o0] [(0,1,iV (k:Int)),(1,2,.a [.s s,cI n])]=A4 [cI (k:Int),.s s,cI n]:=rfl;obtain ⟨x1,h1,g1,g2,g3,g4,g5⟩:=D9W (k:=k) (n:=n) (s:=s) (hlow.new [rT [.s s,cI n]]) (B7 hr) (B7 h0) h0r hBr hB0 (hd.more _) (by omega);obtain ⟨x',h',f1,f2,f3,f4⟩:=C1m (q:=q) hb h0r hBr hB0 e (k+1) m h1 x1 (l++[(k,(s,n))]) (by omega) (by omega) (by simp;omega) g2 g3 g4 g5;rw [E6d,List.singleton_append] at f4;refine ⟨x',h',?_,f2,f3,f4⟩;generalize B5 b=y at *;simp only [esc,esh,Nat.reduceAdd,c0,s1,hR,W0,E6G,ef,hcv,g1,w1];exact f1
def A2f(hb:l_ b=256):∃ v t,fI [.a (B5 b)] h=A4 (v,h++t)/\Has (h++t) v 3 (J1 b).length (pU (J1 b))/\(t=[]/\v=.c .ns/\J1 b=[]\/t=[rT (pU (J1 b))]/\v=sV (l_ h) 0 (J1 b).length 3):=by
 have key:∀ g,∃ x g',A05 8 [.a (B5 b)] g=A4 (.c x,g')/\Held g' x (J1 b) (l_ g) (l_ g+3) (l_ g+2):=by
  intro g;have hbl:(B5 b).length=256:=by rw [B6,hb]
  have emk:A3f 152 [pV (l_ g+2) 0]=A4 (.c (.f 152 [(l_ g+2,0)])):=rfl;obtain ⟨x,h',f1,f2,f3,f4⟩:=C1m (b:=b) (r0:=l_ g+3) (r:=l_ g+2) (q:=8) (B:=g) hb (by omega) (by omega) (by omega) 7 0 8 (g++[rT (B5 b),rT [],rT [.ns],rT (B5 b)]) .ns [] (by omega) (by omega) (by simp)
   ((Low.refl (E56 _)).new _) (by simp) (by simp) (.inl ⟨rfl,rfl⟩)
  have hS:kM [.a (B5 b),.c (.f 152 [(l_ g+2,0)])] (g++[rT (B5 b),rT [],rT [.ns]])=A4 (.t [],h'):=by
   refine A64 (n:=8) ?_;rw [A6H];simp only [esc,esh,Nat.reduceAdd];exact f1
  have t1:B9 h' (pV (l_ g+2) 0)=A4 (.c x):=C4 (cs:=[x]) f3 rfl (by simp);rw [B97];generalize B5 b=y at *;exact ⟨x,h',by simp only [esc,esh,Nat.reduceAdd,hbl,emk,hS,t1],f4⟩
 obtain ⟨x,g',e,hd⟩:=key (ro h);rcases hd with ⟨hl,rfl⟩ | ⟨id,rfl,hr,hbi,_⟩
 ·refine ⟨.c .ns,[],?_,?_,.inl ⟨rfl,rfl,hl⟩⟩
  ·rw [E6k];exact B78 e (by simp [Val.low,Cell.low,Cell.flat])
  ·rw [hl];exact .inl ⟨rfl,rfl,rfl⟩
 ·rw [H6] at hbi;refine ⟨sV (l_ h) 0 (J1 b).length 3,[rT (pU (J1 b))],B79 e ⟨uV,id,rfl,hbi,hr⟩ D8a,Has.row (rw:=A5) (by simp) uV D98,.inr ⟨rfl,rfl⟩⟩
def D8p(h:A9)(x:Cell)(cs:List Cell)(n sz b:Nat)(rs:List Nat):Prop:=(n=0/\cs=[]/\x=.ns)\/∃ id,x=.sl id 0 n sz/\rd h id=rT cs/\(l_ cs)=n*sz/\b<=id/\id ∉ rs
def VarC(h:A9)(r:Nat)(cs:List Cell)(n sz b:Nat)(rs:List Nat):Prop:=∃ x,rd h r=rT [x]/\D8p h x cs n sz b rs
def VarC.nil{b:Nat}(hr:rd h r=rT [.ns]):VarC h r [] 0 sz b rs:=⟨.ns,hr,.inl ⟨rfl,rfl,rfl⟩⟩
def VarC.keep{h':A9}{n b:Nat}(hv:VarC h r cs n sz b rs)(h1:rd h' r=rd h r)(h2:∀ id,id ∉ rs->∀ x,rd h id=A4 x->rd h' id=A4 x):VarC h' r cs n sz b rs:=by
 obtain ⟨x,hx,hd⟩:=hv;refine ⟨x,by rw [h1];exact hx,?_⟩;rcases hd with hd | ⟨id,e,hr,hl,hb,hn⟩
 ·exact .inl hd
 ·exact .inr ⟨id,e,h2 id hn _ hr,hl,hb,hn⟩
def VarC.more{n b:Nat}{rs':List Nat}(hv:VarC h r cs n sz b rs)(t:A9)(hrs:∀ j∈rs',j∈rs\/(l_ h)<=j):VarC (h++t) r cs n sz b rs':=by
 obtain ⟨x,hx,hd⟩:=hv;refine ⟨x,B7 hx,?_⟩;rcases hd with hd | ⟨id,e,hr,hl,hb,hn⟩
 ·exact .inl hd
 ·refine .inr ⟨id,e,B7 hr,hl,hb,λhm=>?_⟩;have:=E1 hr;rcases hrs id hm with h1 | h1
  ·exact hn h1
  ·omega
def VarC.fewer{n b:Nat}{rs':List Nat}(hv:VarC h r cs n sz b rs)(hrs:∀ j∈rs',j∈rs):VarC h r cs n sz b rs':=by
 have:=hv.more (rs':=rs') [] (λj hj=>.inl (hrs j hj))
 rwa [E6k] at this
def VarC.push{n b:Nat}(hv:VarC h r cs n sz b rs)(hr:r∈rs)(hbr:b<=r)(hbh:b<=l_ h)(W5:∀ j∈rs,j<l_ h)(hl:n<=100000)(hy:l_ ys=sz)(hsz:0<sz) :
  ∃ x v h2 h3,B9 h (pV r 0)=A4 (.c x)/\tJ (h++[rT ys]) sz (.c x) (sV (l_ h) 0 1 sz)=A4 (.c v,h2)/\I8 h2 (pV r 0) (.c v)=A4 h3 /\
   VarC h3 r (cs++ys) (n+1) sz b rs/\Low b h h3/\(∀ j∈rs,j≠r->rd h3 j=rd h j)/\(l_ h)<=h3.length:=by
 obtain ⟨x,hx,hd⟩:=hv;have hrl:=E1 hx;have l1:B9 h (pV r 0)=A4 (.c x):=C4 hx rfl (by simp);rcases hd with ⟨rfl,rfl,rfl⟩ | ⟨id,rfl,hi,oG,hb,hn⟩
 ·have hA:=C38 (h:=h++[rT ys]) (jd:=l_ h) (m:=1) (sz:=sz) (ys:=ys) (by simp) (by omega) hsz (by omega);have e1:(h++[rT ys]).length=l_ h+1:=by simp
  rw [e1] at hA;have hr2:rd (h++[rT ys]++[rT ys]) r=rT [.ns]:=B7 (B7 hx);have s1:=I9 (x:=.sl (l_ h+1) 0 1 sz) (off:=0) hr2 (by simp);refine ⟨.ns,_,_,_,l1,hA,s1,⟨.sl (l_ h+1) 0 1 sz,D6 (E1 hr2),.inr ⟨l_ h+1,rfl,?_,by simp [hy],by omega,λh1=>by have:=W5 _ h1;omega⟩⟩,(((Low.refl hbh).new _).new _).set hbr _,λj hj hjr=>?_,by simp⟩
  ·rw [B8 (by omega)];have:=N6 (h:=h++[rT ys]) (r:=⟨ys,A5⟩);rw [e1] at this;exact this
  ·rw [B8 (Ne.symm hjr)];have:=W5 j hj;rw [D3 (by simp;omega),D3 this]
 ·have K7:=E1 hi;have aR:id≠r:=λe=>hn (e ▸ hr)
  have hA:=A7p (h:=h++[rT ys]) (id:=id) (jd:=l_ h) (n:=n) (m:=1) (sz:=sz) (cs:=cs) (ys:=ys) (rw:=A5) (B7 hi) oG (by simp) (by omega) rfl hsz (by omega);have e1:(h++[rT ys]).length=l_ h+1:=by simp
  rw [e1] at hA;have hr2:rd ((h++[rT ys]).set id A7++[rT (cs++ys)]) r=rT [.sl id 0 n sz]:=by
   refine B7 ?_;rw [B8 aR];exact B7 hx
  have s1:=I9 (x:=.sl (l_ h+1) 0 (n+1) sz) (off:=0) hr2 (by simp);refine ⟨_,_,_,_,l1,hA,s1,⟨.sl (l_ h+1) 0 (n+1) sz,D6 (E1 hr2),.inr ⟨l_ h+1,by simp,?_,by simp [oG,hy,E7f],by omega,λh1=>by have:=W5 _ h1;omega⟩⟩,((((Low.refl hbh).new _).set hb _).new _).set hbr _,λj hj hjr=>?_,by simp;omega⟩
  ·rw [B8 (by omega)];have:=N6 (h:=(h++[rT ys]).set id A7) (r:=⟨cs++ys,A5⟩);rw [E6F,e1] at this;exact this
  ·have hji:j≠id:=λe=>hn (e ▸ hj)
   have:=W5 j hj;rw [B8 (Ne.symm hjr),D3 (by simp;omega),B8 (Ne.symm hji),D3 this]
def E33(h:A9)(o:yK)(cs:List Cell)(n sz:Nat):Prop:=∃ v t,o=A4 (v,h++t)/\Has (h++t) v sz n cs/\(t=[]/\v=.c .ns/\n=0/\cs=[]\/t=[rT cs]/\v=sV (l_ h) 0 n sz)
def E1c{S:Fun}{R:Nat->Fun}{args:List Val}{g':A9}{N:Nat}{x:Cell}{n:Nat}
  (hlow:∀ {n:Nat} {args:List Val} {h h2:A9} {v:Val},R n args (ro h)=A4 (v,h2)->v.low (l_ h)=A5->S args h=A4 (v,h))
  (hout:∀ {n:Nat} {args:List Val} {h h2:A9} {v:Val} {sz k:Nat} {cs:List Cell},R n args (ro h)=A4 (v,h2)->Out (l_ h) h2 v sz k cs->N8 cs=A5->S args h=A4 (sV (l_ h) 0 k sz,h++[rT cs]))
  (he:R N args (ro h)=A4 (.c x,g')) (hd:D8p g' x cs n sz (l_ h) rs) (hf:N8 cs=A5) (hx:noX cs=A5):E33 h (S args h) cs n sz:=by
 rcases hd with ⟨hn,hl,rfl⟩ | ⟨id,rfl,hr,hl,hbi,_⟩
 ·refine ⟨.c .ns,[],?_,?_,.inl ⟨rfl,rfl,hn,hl⟩⟩
  ·rw [E6k];exact hlow he (by simp [Val.low,Cell.low,Cell.flat])
  ·exact .inl ⟨rfl,hn,hl⟩
 ·exact ⟨sV (l_ h) 0 n sz,[rT cs],hout he ⟨hl,id,rfl,hbi,hr⟩ hf,Has.row (rw:=A5) (by simp) hl hx,.inr ⟨rfl,rfl⟩⟩
abbrev Tld:=Plc × List UInt8
def B9Z(no:Int)(l:List Slt):List Tld:=l.map λs=>((no,s.1,s.2.2),s.2.1)
def C5i(D:Dev)(L:List Int):List Tld:=L.flatMap λno=>B9Z no (J1 (blk D no))
def D1f{l:List Slt}:∀ {i:Nat} {x:Slt},l[i]?=A4 x->((pU l).drop (i*3)).take 3=slC (A4 x):=by
 induction l with
 | nil=>intro i x h;simp at h
 | cons y l ih =>
  intro i x h;have e:pU (y::l)=slC (A4 y)++pU l:=rfl;cases i with
  | zero=>simp at h;subst h;rw [e];rfl
  | succ i =>
   simp at h;rw [e,show (i+1)*3=3+i*3 by omega,<-E7e,List.drop_left' (by rw [jJ])];exact ih h
def C9M{σ:Type}{L1:Nat->Val->A9->yK}{L0:A9->yK}{C:Val->Val->A9->yK}{no:Int}{id c0:Nat}{l:List Slt}(P:Nat -> σ -> A9->Prop)(step:σ -> Tld -> σ)
  (hL:∀ m x h,L1 (m+1) x h=bnd (N5 .lss x (iV (l_ l:Nat))) λv14=>cnd v14 (bnd (E9 3 (sV id 0 (l_ l) 3) x) λv15=>bnd (D1 h 3 v15) λv16=>bnd (F9 ((h++[rT ([o0,.s [],o0])])) 3 ((pV (l_ h) 0)) v16) λh17=>bnd (T8 ((pV (l_ h) 0)) 0) λv18=>bnd (B9 h17 v18) λv19=>bnd (T8 ((pV (l_ h) 0)) 1) λv20=>bnd (T8 v20 1) λv21=>bnd (B9 h17 v21) λv22=>bnd (F5 ([o0,o0,o0]) [(0,1,iV no),(1,1,v19),(2,1,v22)]) λc23=>bnd (T8 ((pV (l_ h) 0)) 1) λv24=>bnd (T8 v24 0) λv25=>bnd (B9 h17 v25) λv26=>bnd (C (.a c23) v26 h17) λp27=>bnd (N5 .add x (iV 1)) λv28=>L1 m v28 p27.2) (L0 h))
  (hI:∀ c s h,P c s h->rd h id=rT (pU l))
  (hM:∀ c s h t,P c s h->P c s (h++t))
  (hC:∀ c s h x,P c s h->c<c0+7->x∈l->∃ h',C (.a (pS (A4 (no,x.1,x.2.2)))) (.c (.s x.2.1)) h=A4 (.t [],h')/\P (c+1) (step s ((no,x.1,x.2.2),x.2.1)) h') (h62:l_ l<=7) :
  ∀ (e i M:Nat) (s:σ) (h:A9),i+e=l_ l->e<M->P (c0+i) s h->∃ h',L1 M (iV (i:Int)) h=L0 h'/\P (c0+l_ l) ((B9Z no (l.drop i)).foldl step s) h'
 | e,i,0,s,h,_,hm,_=>by omega
 | 0,i,M+1,s,h,hi,hm,hP=>by
  have c1:¬ (i:Int)<(l_ l:Nat):=by omega
  refine ⟨h,?_,by rw [E6f (by omega),show (l_ l)=i by omega];exact hP⟩;rw [hL];simp only [C6,G3,c1,decide_false,Y0]
 | e+1,i,M+1,s,h,hi,hm,hP=>by
  have K7:i<(l_ l):=by omega
  have c1:(i:Int)<(l_ l:Nat):=by omega
  have hx:l[i]?=A4 l[i]:=E51 K7;have hr:=hI _ s h hP;have ad:E9 3 (sV id 0 (l_ l) 3) (iV (i:Int))=A4 (pV id (i*3)):=by rw [E3 K7];simp
  have kY:l[i]∈l:=E6w K7;obtain ⟨⟨kk,s',i'⟩,ex⟩:=xEq (l[i]);rw [<-ex] at hx kY;have hsl:=D1f hx;have hlen:=uV (l:=l);have l3:D1 h 3 (pV id (i*3))=A4 (.a (slC (A4 (kk,s',i')))):=by rw [T1 hr (by rw [hlen];omega) rfl,hsl]
  have s3:F9 (h++[rT [o0,.s [],o0]]) 3 (pV (l_ h) 0) (.a (slC (A4 (kk,s',i'))))=A4 (h++[rT (slC (A4 (kk,s',i')))]):=by rw [G9];rfl
  have g0:B9 (h++[rT (slC (A4 (kk,s',i')))]) (pV (l_ h) 0)=A4 (iV (kk:Int)):=by rw [I7];rfl
  have g1:B9 (h++[rT (slC (A4 (kk,s',i')))]) (pV (l_ h) 1)=A4 (.c (.s s')):=by rw [I7];rfl
  have g2:B9 (h++[rT (slC (A4 (kk,s',i')))]) (pV (l_ h) 2)=A4 (iV i'):=by rw [I7];rfl
  have ef:F5 [o0,o0,o0] [(0,1,iV no),(1,1,iV (kk:Int)),(2,1,iV i')]=A4 (pS (A4 (no,kk,i'))):=rfl;obtain ⟨h',f1,f2⟩:=hC _ s (h++[rT (slC (A4 (kk,s',i')))]) (kk,s',i') (hM _ _ _ _ hP) (by omega) kY;obtain ⟨h'',e1,e2⟩:=C9M P step hL hI hM hC h62 e (i+1) M _ h' (by omega) (by omega) f2;have w1:=D9 (a:=i) (by omega);rw [hL,E6b K7,<-ex];refine ⟨h'',?_,e2⟩;simp only [C6,G3,c1,decide_true,W9,ad,l3,s3,Q8,E7a,E6j,Nat.reduceAdd,g0,g1,g2,ef,f1,L7,w1];exact e1
def C8J{L:List Int}:C5i D (no::L)=B9Z no (J1 (blk D no))++C5i D L:=by simp [C5i]
def kE(b:List UInt8):(J1 b).length<=7:=by
 have:∀ e k,(Q0 b e k).length<=e:=by
  intro e
  induction e with
  | zero=>intro k;simp [Q0]
  | succ e ih =>
   intro k;have:=ih (k+1);rw [Q0];split<;>simp<;>omega
 exact this 7 0
def B3a{σ:Type}{L0:Nat->Val->A9->yK}{L1:Nat->Nat->Val->Val->Val->Val->Val->A9->yK}{C:Val->Val->A9->yK}{N:Nat}{x3:Val}{D:Dev}{n m:Int}{f:Cell}{sid:Nat}{L:List Int}(hD:okD D)(P:List Nat->Nat -> σ -> A9->Prop)(step:σ -> Tld -> σ)(hN:8<=N)
  (hL0:∀ m x h,L0 (m+1) x h=bnd (N5 .lss x (iV (l_ L:Nat))) λv7=>cnd v7 (bnd (E9 1 (sV sid 0 (l_ L) 1) x) λv8=>bnd (B9 h v8) λv9=>bnd (D1 h 4 x3) λv10=>bnd (D8 [v10,v9] h) λp11=>bnd (fI [p11.1] p11.2) λp12=>bnd (B8H p12.1) λv13=>L1 m N v9 x p12.1 v13 (iV 0) p12.2) (C1Y [] h))
  (hL1:∀ m0 v9 x v w m y h,L1 m0 (m+1) v9 x v w y h=bnd (N5 .lss y w) λv14=>cnd v14 (bnd (E9 3 v y) λv15=>bnd (D1 h 3 v15) λv16=>bnd (F9 ((h++[rT ([o0,.s [],o0])])) 3 ((pV (l_ h) 0)) v16) λh17=>bnd (T8 ((pV (l_ h) 0)) 0) λv18=>bnd (B9 h17 v18) λv19=>bnd (T8 ((pV (l_ h) 0)) 1) λv20=>bnd (T8 v20 1) λv21=>bnd (B9 h17 v21) λv22=>bnd (F5 ([o0,o0,o0]) [(0,1,v9),(1,1,v19),(2,1,v22)]) λc23=>bnd (T8 ((pV (l_ h) 0)) 1) λv24=>bnd (T8 v24 0) λv25=>bnd (B9 h17 v25) λv26=>bnd (C (.a c23) v26 h17) λp27=>bnd (N5 .add y (iV 1)) λv28=>L1 m0 m v9 x v w v28 p27.2) (bnd (N5 .add x (iV 1)) λv29=>L0 m0 v29 h))
  (hI:∀ rs c s h,P rs c s h->D1 h 4 x3=A4 (.a (vwC (l_ D) n m f))/\IsView h f D/\rd h sid=rT (encI L))
  (hR:∀ rs c s h t,P rs c s h->P rs c s (h++t))
  (hN1:∀ rs c s h r,P rs c s h->P (l_ h::rs) c s (h++[A4 r]))
  (hF:∀ i rs c s h,P (i::rs) c s h->P rs c s h)
  (hW:∀ rs c c' s h,P rs c s h->c<=c'->P rs c' s h)
  (hC:∀ rs c s h no x,P rs c s h->c<7*l_ L->no∈L->x∈J1 (blk D no)->∃ h',C (.a (pS (A4 (no,x.1,x.2.2)))) (.c (.s x.2.1)) h=A4 (.t [],h')/\P rs (c+1) (step s ((no,x.1,x.2.2),x.2.1)) h'/\∀ j∈rs,rd h' j=rd h j)
  (h62:l_ L<1000) :
  ∀ (e i M:Nat) (rs:List Nat) (s:σ) (h:A9),i+e=l_ L->e<M->P rs (7*i) s h->∃ h',L0 M (iV (i:Int)) h=A4 (.t [],h')/\P rs (7*l_ L) ((C5i D (L.drop i)).foldl step s) h'
 | e,i,0,rs,s,h,_,hm,_=>by omega
 | 0,i,M+1,rs,s,h,hi,hm,hP=>by
  have c0:¬ (i:Int)<(l_ L:Nat):=by omega
  refine ⟨h,?_,by rw [E6f (by omega),show (l_ L)=i by omega];exact hP⟩;rw [hL0];simp only [C6,G3,c0,decide_false,Y0];rfl
 | e+1,i,M+1,rs,s,h,hi,hm,hP=>by
  have K7:i<(l_ L):=by omega
  have c0:(i:Int)<(l_ L:Nat):=by omega
  obtain ⟨i1,i2,i3⟩:=hI rs _ s h hP;have kY:L[i]∈L:=E6w K7;have ad:E9 1 (sV sid 0 (l_ L) 1) (iV (i:Int))=A4 (pV sid i):=by rw [E3 K7];simp
  have l1:B9 h (pV sid i)=A4 (iV L[i]):=C4 i3 (by rw [G6,E51 K7];rfl) rfl;have hB:=M7 (n:=n) (m:=m) (no:=L[i]) hD i2;obtain ⟨v,t,b1,b2,b3⟩:=A2f (b:=blk D L[i]) (h:=h) (J9 hD);have hlen:=b2.len;have w1:=D9 (a:=i) (by omega);have h7:=kE (blk D L[i]);have main:∃ h',L1 M N (iV L[i]) (iV (i:Int)) v (iV ((J1 (blk D L[i])).length:Nat)) (iV ((0:Nat):Int)) (h++t)=bnd (N5 .add (iV (i:Int)) (iV 1)) (λv29=>L0 M v29 h')/\P rs (7*(i+1)) ((B9Z L[i] (J1 (blk D L[i]))).foldl step s) h':=by
   rcases b3 with ⟨rfl,rfl,b3⟩ | ⟨rfl,rfl⟩
   ·refine ⟨h,?_,by rw [b3];exact hW _ _ _ _ _ hP (by omega)⟩;obtain ⟨N',rfl⟩:∃ N',N=N'+1:=⟨N-1,by omega⟩;rw [hL1,b3,E6k];rfl
   ·have hl0:(h++[rT (pU (J1 (blk D L[i])))])=h++[rT (pU (J1 (blk D L[i])))]:=rfl;obtain ⟨h',f1,f2⟩:=C9M (L1:=λm y h'=>L1 M m (iV L[i]) (iV (i:Int)) (sV (l_ h) 0 (J1 (blk D L[i])).length 3) (iV ((J1 (blk D L[i])).length:Nat)) y h') (L0:=λh'=>bnd (N5 .add (iV (i:Int)) (iV 1)) (λv29=>L0 M v29 h')) (C:=C) (no:=L[i]) (id:=l_ h) (c0:=7*i) (l:=J1 (blk D L[i]))
     (λc s' h'=>P (l_ h::rs) c s' h'/\rd h' (l_ h)=rT (pU (J1 (blk D L[i])))) step (λm y h'=>hL1 M _ _ _ _ m y h') (λc s' h' hp=>hp.2) (λc s' h' t hp=>⟨hR _ _ _ _ _ hp.1,B7 hp.2⟩)
     (λc s' h' x hp hc hx=>by
      obtain ⟨h2,c1,c2,c3⟩:=hC _ _ _ _ L[i] x hp.1 (by omega) kY hx;exact ⟨h2,c1,c2,by rw [c3 (l_ h) (by simp)];exact hp.2⟩) (by omega) (J1 (blk D L[i])).length 0 N s (h++[rT (pU (J1 (blk D L[i])))]) (by omega) (by omega) ⟨hN1 _ _ _ _ _ hP,by simp⟩
    rw [E6i] at f2;exact ⟨h',f1,hW _ _ _ _ _ (hF _ _ _ _ _ f2.1) (by omega)⟩
  obtain ⟨h1,m1,m2⟩:=main;obtain ⟨h',f1,f2⟩:=B3a hD P step hN hL0 hL1 hI hR hN1 hF hW hC h62 e (i+1) M rs _ h1 (by omega) (by omega) m2;rw [hL0,E6b K7,C8J,List.foldl_append];refine ⟨h',?_,f2⟩;simp only [C6,G3,c0,decide_true,W9,ad,l1,i1,hB,b1,hlen];refine m1.trans ?_;simp only [L7,C6,w1];exact f1
def D0W{a:List UInt8}:B2S [.c (.s a),.c (.s b)] h=A4 (bV (X9 a b),h) :=
 C0P (n:=0) (h2:=ro h) (by rw [C4E];simp only [esc]) rfl
section
variable {α:Type} {lt:α -> α -> Prop}
def D3r(irr:∀ a,¬ lt a a)(tr:∀ a b c,lt a b->lt b c->lt a c):∀ {l m:List α},l.Pairwise lt->m.Pairwise lt->(∀ x,x∈l↔x∈m)->l=m
 | [],[],_,_,_=>rfl
 | [],y::m,_,_,h=>absurd ((h y).2 (E6e ..)) (by simp)
 | x::l,[],_,_,h=>absurd ((h x).1 (E6e ..)) (by simp)
 | x::l,y::m,hl,hm,h=>by
  rw [List.pairwise_cons] at hl hm;have e:x=y:=by
   rcases List.mem_cons.1 ((h x).1 (E6e ..)) with e | h1
   ·exact e
   ·rcases List.mem_cons.1 ((h y).2 (E6e ..)) with e | h2
    ·exact e.symm
    ·exact absurd (tr _ _ _ (hm.1 x h1) (hl.1 y h2)) (irr y)
  subst e;rw [D3r irr tr hl.2 hm.2 λz=>?_];constructor
  ·intro hz;rcases List.mem_cons.1 ((h z).1 (E59 _ hz)) with e | h1
   ·subst e;exact absurd (hl.1 z hz) (irr z)
   ·exact h1
  ·intro hz;rcases List.mem_cons.1 ((h z).2 (E59 _ hz)) with e | h1
   ·subst e;exact absurd (hm.1 z hz) (irr z)
   ·exact h1
def D3s(tr:∀ a b c,lt a b->lt b c->lt a c)(tot:∀ a b,lt a b\/a=b\/lt b a){l:List α}{x:α}{p:Nat}(hl:l.Pairwise lt)(hx:x ∉ l)(h1:∀ y∈l.take p,lt y x)(h2:∀ y∈l.drop p,¬ lt y x) :
  (l.take p++x::l.drop p).Pairwise lt:=by
 have hl':=hl;rw [<-List.take_append_drop p l] at hl';rw [List.pairwise_append] at hl';obtain ⟨k1,k2,k3⟩:=hl';rw [List.pairwise_append];refine ⟨k1,?_,?_⟩
 ·rw [List.pairwise_cons];refine ⟨λy hy=>?_,k2⟩;rcases tot x y with h | h | h
  ·exact h
  ·subst h;exact absurd (List.mem_of_mem_drop hy) hx
  ·exact absurd h (h2 y hy)
 ·intro a ha b hb;rcases List.mem_cons.1 hb with e | hb
  ·subst e;exact h1 a ha
  ·exact k3 a ha b hb
def mem_insert{l:List α}{x y:α}{p:Nat}:y∈l.take p++x::l.drop p↔y=x\/y∈l:=by
 have e:y∈l↔y∈l.take p\/y∈l.drop p:=by rw [<-List.mem_append,List.take_append_drop]
 rw [List.mem_append,E68,e];constructor
 ·rintro (h | h | h)
  ·exact .inr (.inl h)
  ·exact .inl h
  ·exact .inr (.inr h)
 ·rintro (h | h | h)
  ·exact .inr (.inl h)
  ·exact .inl h
  ·exact .inr (.inr h)
end
def A8n:∀ a:List UInt8,X9 a a=A6
 | []=>rfl
 | x::a=>by simp [X9,A8n a,UInt8.lt_irrefl]
def B25:∀ {a b c:List UInt8},X9 a b=A5->X9 b c=A5->X9 a c=A5
 | [],[],_,h,_=>by simp [X9] at h
 | [],_::_,[],_,h=>by simp [X9] at h
 | [],_::_,_::_,_,_=>rfl
 | _::_,[],_,h,_=>by simp [X9] at h
 | _::_,_::_,[],_,h=>by simp [X9] at h
 | x::a,y::b,z::c,h1,h2=>by
  simp only [X9,Bool.or_eq_true,E53,decide_eq_true_eq,beq_iff_eq] at h1 h2 ⊢;rcases h1 with h1 | ⟨rfl,h1⟩
  ·rcases h2 with h2 | ⟨rfl,h2⟩
   ·exact .inl (UInt8.lt_trans h1 h2)
   ·exact .inl h1
  ·rcases h2 with h2 | ⟨rfl,h2⟩
   ·exact .inl h2
   ·exact .inr ⟨rfl,B25 h1 h2⟩
def C8S:∀ a b:List UInt8,X9 a b=A5\/a=b\/X9 b a=A5
 | [],[]=>.inr (.inl rfl)
 | [],_::_=>.inl rfl
 | _::_,[]=>.inr (.inr rfl)
 | x::a,y::b=>by
  simp only [X9,Bool.or_eq_true,E53,decide_eq_true_eq,beq_iff_eq,List.cons.injEq];rcases Nat.lt_trichotomy x.toNat y.toNat with h | h | h
  ·exact .inl (.inl (UInt8.lt_iff_toNat_lt.2 h))
  ·have e:=UInt8.toNat_inj.1 h;subst e;rcases C8S a b with h | h | h
   ·exact .inl (.inr ⟨rfl,h⟩)
   ·exact .inr (.inl ⟨rfl,h⟩)
   ·exact .inr (.inr (.inr ⟨rfl,h⟩))
  ·exact .inr (.inr (.inl (UInt8.lt_iff_toNat_lt.2 h)))
def plc(l:List (List UInt8))(s:List UInt8):Nat->Nat->Nat->Nat
 | 0,lo,_=>lo
 | f+1,lo,hi=>if lo<hi then (if X9 (l.getD (lo+(hi-lo)/2) []) s then plc l s f (lo+(hi-lo)/2+1) hi else plc l s f lo (lo+(hi-lo)/2)) else lo
def D5a(l:List (List UInt8))(s:List UInt8):∀ f lo hi,lo<=hi->plc l s f lo hi<=hi
 | 0,lo,hi,h=>h
 | f+1,lo,hi,h=>by
  unfold plc;split
  ·split
   ·exact D5a l s f _ hi (by omega)
   ·exact E6J (D5a l s f lo _ (by omega)) (by omega)
  ·exact h
def C6Z{l:List (List UInt8)}{s:List UInt8}(hl:l.Pairwise λa b=>X9 a b=A5):∀ f lo hi,lo<=hi->hi<=l_ l->hi-lo<=f->(∀ i x,i<lo->l[i]?=A4 x->X9 x s=A5)->(∀ i x,hi<=i->l[i]?=A4 x->X9 x s=A6) ->
  (∀ i x,i<plc l s f lo hi->l[i]?=A4 x->X9 x s=A5)/\(∀ i x,plc l s f lo hi<=i->l[i]?=A4 x->X9 x s=A6)
 | 0,lo,hi,h,_,hf,h1,h2=>by
  have:hi=lo:=by omega
  subst this;exact ⟨h1,h2⟩
 | f+1,lo,hi,h,hh,hf,h1,h2=>by
  unfold plc;by_cases c:lo<hi
  ·rw [if_pos c];have hm:lo+(hi-lo)/2<hi:=by omega
   have hlo:lo<=lo+(hi-lo)/2:=by omega
   generalize lo+(hi-lo)/2=mid at *;have hg:l[mid]?=A4 (l.getD mid []):=by rw [E54,E51 (by omega)];rfl
   have mono:∀ (i j:Nat) (x y:List UInt8),i<j->l[i]?=A4 x->l[j]?=A4 y->X9 x y=A5:=by
    intro i j x y hij hi hj;rw [List.pairwise_iff_getElem] at hl;obtain ⟨a,rfl⟩:=List.getElem?_eq_some_iff.1 hi;obtain ⟨b,rfl⟩:=List.getElem?_eq_some_iff.1 hj;exact hl i j a b hij
   cases cb:X9 (l.getD mid []) s with
   | true =>
    rw [if_pos rfl];refine C6Z hl f (mid+1) hi (by omega) hh (by omega) (λi x hi hx=>?_) h2;by_cases e:i=mid
    ·subst e;rw [hg] at hx;rw [<-Option.some.inj hx];exact cb
    ·exact B25 (mono i mid x _ (by omega) hx hg) cb
   | false =>
    rw [if_neg (by simp)];refine C6Z hl f lo mid (by omega) (by omega) (by omega) h1 (λi x hi hx=>?_);by_cases e:i=mid
    ·subst e;rw [hg] at hx;rw [<-Option.some.inj hx];exact cb
    ·cases cx:X9 x s with
     | false=>rfl
     | true=>rw [B25 (mono mid i _ x (by omega) hg hx) cx] at cb;exact cb
  ·rw [if_neg c];have:hi=lo:=by omega
   subst this;exact ⟨h1,h2⟩
def C3U(l:List (List UInt8))(s:List UInt8)(n:Nat):Bool:=decide (l[n]?=A4 s)
def B3s(l:List (List UInt8))(i:Nat):(encS l)[i]?=(l[i]?).map λx=>.s x:=by simp [encS]
def B7s{v:Val}{nv q:Nat}{l:List (List UInt8)}{s:List UInt8}{h:A9}(hv:Has h v 1 nv (encS l))(hn:l_ l=nv)(h62:nv<4611686018427387904):∀ f m lo hi:Nat,lo<=hi->hi<=nv->hi-lo<=f->f<m ->
  A7B q m v (.c (.s s)) (iV lo) (iV hi) h=A4 (.t [.c (cI (plc l s f lo hi:Nat)),.c (.b (C3U l s (plc l s f lo hi)))],h)
 | f,0,lo,hi,_,_,_,hm=>by omega
 | f,m+1,lo,hi,h1,h2,hf,hm=>by
  have hlen:=hv.len;have fin:lo=hi->A7B q (m+1) v (.c (.s s)) (iV lo) (iV hi) h=A4 (.t [.c (cI lo),.c (.b (C3U l s lo))],h):=by
   intro e;subst e;have c0:¬ (lo:Int)<lo:=by omega
   rw [A84];unfold C3U;by_cases c1:lo<nv
   ·have c1':(lo:Int)<nv:=by omega
    obtain ⟨id,off,ev,hid,k1,k2⟩:=hv.sl (by omega);have hx:=k1 lo (.s l[lo]) (by rw [B3s,E51 (by omega)];rfl);have eb:E9 1 v (iV (lo:Int))=A4 (pV id (off+lo)):=by rw [ev,E3 (by omega)];simp
    have e2:l[lo]?=A4 l[lo]:=E51 (by omega);rw [e2];simp only [esc,hlen,c0,c1',eb,hx]
   ·have c1':¬ (lo:Int)<nv:=by omega
    have e2:l[lo]?=A7:=E6u (by omega);rw [e2];simp only [esc,hlen,c0,c1',reduceCtorEq]
  cases f with
  | zero =>
   have e:lo=hi:=by omega
   exact fin e
  | succ f =>
   unfold plc;by_cases c:lo<hi
   ·rw [if_pos c];have c':(lo:Int)<hi:=by omega
    obtain ⟨id,off,ev,hid,k1,k2⟩:=hv.sl (by omega);have w1:E6a .i64 ((hi:Int)-lo)=((hi-lo:Nat):Int):=by rw [wrap_i64 (by omega) (by omega)];omega
    have w2:=B0F (a:=((hi-lo:Nat):Int)) (b:=2) (by omega) (by omega) (by omega);have w3:((hi-lo:Nat):Int)/2=(((hi-lo)/2:Nat):Int):=by omega
    rw [w3] at w2;have w4:E6a .i64 ((lo:Int)+(((hi-lo)/2:Nat):Int))=((lo+(hi-lo)/2:Nat):Int):=A5a (by omega);have hm1:lo+(hi-lo)/2<hi:=by omega
    have hm2:lo<=lo+(hi-lo)/2:=by omega
    generalize (hi-lo)/2=d at *;generalize lo+d=mid at *;have hx:=k1 mid (.s l[mid]) (by rw [B3s,E51 (by omega)];rfl);have eb:E9 1 v (iV (mid:Int))=A4 (pV id (off+mid)):=by rw [ev,E3 (by omega)];simp
    have eg:l.getD mid []=l[mid]:=by rw [E54,E51 (by omega)];rfl
    rw [eg];have hL:=λh=>D0W (a:=l[mid]) (b:=s) (h:=h)
    rw [A84];cases cb:X9 l[mid] s with
    | true =>
     rw [cb] at hL;have ih:=B7s (q:=q) (s:=s) hv hn h62 f m (mid+1) hi (by omega) h2 (by omega) (by omega);rw [if_pos rfl];simp only [esc,hlen,c',w1,w2,w4,eb,hx,hL,D9 (a:=mid) (by omega)];exact ih
    | false =>
     rw [cb] at hL;have ih:=B7s (q:=q) (s:=s) hv hn h62 f m lo mid hm2 (by omega) (by omega) (by omega);rw [if_neg (by simp)];simp only [esc,hlen,c',w1,w2,w4,eb,hx,hL];exact ih
   ·rw [if_neg c];exact fin (by omega)
def C8e{nv:Nat}{l:List (List UInt8)}(hv:Has h v 1 nv (encS l))(h62:nv<4611686018427387904) :
  A3c [v,.c (.s s)] h=A4 (.t [.c (cI (plc l s nv 0 nv:Nat)),.c (.b (C3U l s (plc l s nv 0 nv)))],h):=by
 have hn:l_ l=nv:=by simpa [bY] using hv.length
 have key:∀ N,nv<N->∀ g,Has g v 1 nv (encS l)->∃ g',A9H N [v,.c (.s s)] g=A4 (.t [.c (cI (plc l s nv 0 nv:Nat)),.c (.b (C3U l s (plc l s nv 0 nv)))],g'):=by
  intro N hN g hv;have e:=B7s (q:=N) (s:=s) hv hn h62 nv N 0 nv (by omega) (by omega) (by omega) hN;rw [C3s];exact ⟨_,by simp only [esc,hv.len];exact e⟩
 obtain ⟨g',e⟩:=key (nv+1) (by omega) (ro h) hv.ro;exact B8t e rfl
def D3I{id n a:Nat}(ha:a<=n):D6K 1 (sV id 0 n 1) (A4 (iV (a:Int))) A7=A4 (sV id a (n-a) 1):=by
 simp only [D6K,bound];rw [if_pos (by omega)];simp only [E6h,E6q];rw [if_pos ⟨ha,E56 _,trivial⟩];simp
def D83{H:A9}{id p:Nat}{out:List (List UInt8)}(hr:rd H id=rT (encS (out++[[]])))(hk:out.length=k)(hp:p<=k) :
  ∃ c,C5c H 1 (sV id (p+1) (k-p) 1) (sV id p (k+1-p) 1)=A4 (c,H.set id (rT (encS ((out++[[]]).take (p+1)++out.drop p)))):=by
 have hl:(encS (out++[[]])).length=k+1:=by rw [bY];simp [hk]
 have h1:((encS (out++[[]])).drop p).take (k+1-p)=(encS (out++[[]])).drop p:=E6l (by rw [List.length_drop];omega);have h2:U5 H 1 (sV id p (k+1-p) 1)=A4 ((encS (out++[[]])).drop p):=by
  simp only [U5,if_true,pW,hr,E6h,E69,h1];rw [if_pos ⟨by omega,by simp⟩]
 have h3:((encS (out++[[]])).drop p).length=k+1-p:=by rw [List.length_drop];omega
 have h4:Nat.min (k+1-p) (k-p)=k-p:=Nat.min_eq_right (by omega);have h5:lay (encS (out++[[]])) (p+1) (((encS (out++[[]])).drop p).take (k-p))=encS ((out++[[]]).take (p+1)++out.drop p):=by
  unfold lay;have e1:((encS (out++[[]])).drop p).take (k-p)=encS (out.drop p):=by
   unfold encS;rw [E6Q,List.drop_append_of_le_length (by simp;omega),List.take_append_of_le_length (by simp;omega),E6l (by simp;omega),List.map_drop]
  have e2:(encS (out++[[]])).drop (p+1+(encS (out.drop p)).length)=[]:=E6f (by rw [hl,bY,List.length_drop];omega);rw [e1,e2];simp only [E6k,encS,E6Q,List.map_take,List.map_drop]
 refine ⟨iV ((k-p:Nat):Int),?_⟩;simp only [C5c,h2,E6h,hr,h3,Nat.div_one,h4,E69,h5];rw [if_pos ⟨trivial,by omega,trivial⟩]
abbrev rN:=List (List UInt8)
def atS(o:rN)(s:List UInt8):Nat:=plc o s o.length 0 o.length
def A8U(o:rN)(s:List UInt8):rN:=bif C3U o s (atS o s) then o else o.take (atS o s)++s::o.drop (atS o s)
def fC(l:rN):rN:=l.foldl A8U []
def D8O(o:rN)(s:List UInt8):atS o s<=o.length:=D5a o s _ _ _ (Nat.zero_le _)
def C2P(o:rN)(s:List UInt8):(A8U o s).length<=o.length+1:=by
 have:=D8O o s;unfold A8U;cases C3U o s (atS o s)<;>simp<;>omega
def D0t(l:rN):∀ o:rN,(l.foldl A8U o).length<=o.length+(l_ l):=by
 induction l with
 | nil=>intro o;simp
 | cons x l ih =>
  intro o;have h1:=ih (A8U o x);have h2:=C2P o x;simp only [E64,E6g] at h1 ⊢;omega
def B0K(l:rN):(fC l).length<=(l_ l):=by
 have:=D0t l [];simpa [fC] using this
abbrev Up(l:rN):Prop:=l.Pairwise λa b=>X9 a b=A5
def D1K{o:rN}(ho:Up o):(∀ i x,i<atS o s->o[i]?=A4 x->X9 x s=A5)/\(∀ i x,atS o s<=i->o[i]?=A4 x->X9 x s=A6) :=
 C6Z ho o.length 0 o.length (Nat.zero_le _) (E56 _) (by omega) (λi x hi=>by omega) (λi x hi hx=>by
  have:=(List.getElem?_eq_some_iff.1 hx).1;omega)
def D2D{o:rN}(ho:Up o):C3U o s (atS o s)=A5↔s∈o:=by
 unfold C3U;rw [decide_eq_true_eq];constructor
 ·intro h;exact E6n h
 ·intro h;obtain ⟨i,hi⟩:=List.mem_iff_getElem?.1 h;obtain ⟨h1,h2⟩:=D1K (s:=s) ho;have hge:atS o s<=i:=by
   false_or_by_contra
   have:=h1 i s (by omega) hi;rw [A8n] at this;cases this
  by_cases e:atS o s=i
  ·rw [e];exact hi
  ·have K7:=(List.getElem?_eq_some_iff.1 hi).1;have hg:o[atS o s]?=A4 o[atS o s]:=E51 (by omega);have k1:=h2 _ _ (E56 _) hg;have k2:X9 o[atS o s] s=A5:=by
    obtain ⟨a,ha⟩:=List.getElem?_eq_some_iff.1 hi;have:=List.pairwise_iff_getElem.1 ho (atS o s) i (by omega) a (by omega);rw [ha] at this;exact this
   rw [k1] at k2;cases k2
def E1K{o:rN}(ho:Up o):Up (A8U o s)/\∀ x,x∈A8U o s↔x=s\/x∈o:=by
 unfold A8U;cases c:C3U o s (atS o s) with
 | true =>
  have hm:=(D2D ho).1 c;rw [cond_true];exact ⟨ho,λx=>⟨λh=>.inr h,λh=>by rcases h with h | h;subst h;exact hm;exact h⟩⟩
 | false =>
  have hm:s ∉ o:=λh=>by rw [(D2D ho).2 h] at c;cases c
  obtain ⟨h1,h2⟩:=D1K (s:=s) ho;rw [cond_false];refine ⟨D3s (lt:=λa b=>X9 a b=A5) (λa b c=>B25) (λa b=>C8S a b) ho hm (λy hy=>?_) (λy hy=>?_),λx=>mem_insert⟩
  ·obtain ⟨i,hi⟩:=List.mem_iff_getElem?.1 hy;have hl:=(List.getElem?_eq_some_iff.1 hi).1;rw [E6A] at hl;rw [E6L (by omega)] at hi;exact h1 i y (by omega) hi
  ·obtain ⟨i,hi⟩:=List.mem_iff_getElem?.1 hy;rw [List.getElem?_drop] at hi;have:=h2 _ y (by omega) hi;rw [this];simp
def D2p(l:rN):∀ o:rN,Up o->Up (l.foldl A8U o)/\∀ x,x∈l.foldl A8U o↔x∈o\/x∈l:=by
 induction l with
 | nil=>intro o ho;exact ⟨ho,λx=>by simp⟩
 | cons y l ih =>
  intro o ho;obtain ⟨h1,h2⟩:=E1K (s:=y) ho;obtain ⟨h3,h4⟩:=ih _ h1;refine ⟨h3,λx=>?_⟩;rw [E64,h4,h2,E68];constructor
  ·rintro ((h | h) | h)
   ·exact .inr (.inl h)
   ·exact .inl h
   ·exact .inr (.inr h)
  ·rintro (h | h | h)
   ·exact .inl (.inr h)
   ·exact .inl (.inl h)
   ·exact .inr h
def B9T(l:rN):Up (fC l):=(D2p l [] List.Pairwise.nil).1
def dT(l:rN)(x:List UInt8):x∈fC l↔x∈l:=by
 have:=(D2p l [] List.Pairwise.nil).2 x;simpa [fC] using this
def E30{l m:rN}(hl:Up l)(hm:Up m)(h:∀ x,x∈l↔x∈m):l=m :=
 D3r (lt:=λa b=>X9 a b=A5) (λa=>by rw [A8n];simp) (λa b c=>B25) hl hm h
def C1R{v:Val}{nv q:Nat}{l:rN}{g:A9}(hv:Has g v 1 nv (encS l))(hn:l_ l=nv)(h62:nv<1073741824):∀ (e i m:Nat) (o:rN) (h:A9) (id:Nat),i+e=nv->e<m->o.length<=i->Low (l_ g) g h->l_ g<=id->rd h id=rT (encS o) ->
  ∃ v2 h2,B9v q m (sV id 0 o.length 1) v (iV nv) (iV i) h=A4 (v2,h2)/\Out (l_ g) h2 v2 1 ((l.drop i).foldl A8U o).length (encS ((l.drop i).foldl A8U o))
 | e,i,0,o,h,id,_,hm,_,_,_,_=>by omega
 | 0,i,m+1,o,h,id,hi,hm,hol,hlow,hid,hr=>by
  have e0:i=nv:=by omega
  subst e0;have c0:¬ (i:Int)<i:=by omega
  rw [B1m,E6f (by omega),List.foldl_nil];exact ⟨_,_,by simp only [esc,c0]<;>rfl,by rw [bY];omega,_,rfl,hid,hr⟩
 | e+1,i,m+1,o,h,id,hi,hm,hol,hlow,hid,hr=>by
  have c0:(i:Int)<nv:=by omega
  obtain ⟨jd,off,ev,hjd,k1,k2⟩:=(hv.since hlow).sl (by omega);have hx:=k1 i (.s l[i]) (by rw [B3s,E51 (by omega)];rfl);have eb:E9 1 v (iV (i:Int))=A4 (pV jd (off+i)):=by rw [ev,E3 (by omega)];simp
  have hP:=C8e (s:=l[i]) (Has.row (sz:=1) (n:=o.length) hr (by rw [bY];omega) (C6K o)) (by omega);rw [E6b (by omega:i<l_ l),E64];change A3c _ h=A4 (.t [.c (cI (atS o l[i]:Nat)),.c (.b (C3U o l[i] (atS o l[i])))],h) at hP;have hat:=D8O o l[i];rw [B1m];generalize hs:l[i]=s at *;cases c:C3U o s (atS o s) with
  | true =>
   have ei:A8U o s=o:=by unfold A8U;rw [c,cond_true]
   rw [c] at hP;obtain ⟨v2,h2,f1,f2⟩:=C1R (q:=q) hv hn h62 e (i+1) m o h id (by omega) (by omega) (by omega) hlow hid hr;rw [ei];refine ⟨v2,h2,?_,f2⟩;simp only [esc,c0,eb,hx,hP,B1l,D9 (a:=i) (by omega)];exact f1
  | false =>
   have ei:A8U o s=o.take (atS o s)++s::o.drop (atS o s):=by unfold A8U;rw [c,cond_false]
   rw [c] at hP;have il:=C2P o s;generalize hp:atS o s=p at *;obtain ⟨h1,a1,a2,a3,a4,a5⟩:=push (ys:=[.s []]) (sz:=1) (n:=o.length) hlow hr (by rw [bY];omega) hid rfl (by omega) (by omega);have he:encS o++[.s []]=encS (o++[[]]):=by simp [encS]
   rw [he] at a2;have ef:F5 [Cell.s []] [(0,1,.c (.s []))]=A4 [.s []]:=rfl;have w1:E6a .i64 ((p:Int)+1)=((p+1:Nat):Int):=D9 (by omega);have t1:=D3I (id:=l_ h+1) (n:=o.length+1) (a:=p+1) (by omega);have t2:=D3I (id:=l_ h+1) (n:=o.length+1) (a:=p) (by omega);rw [show o.length+1-(p+1)=o.length-p by omega] at t1;obtain ⟨cc,t3⟩:=D83 (H:=h1) (id:=l_ h+1) (k:=o.length) (p:=p) a2 rfl hat;have t4:E9 1 (sV (l_ h+1) 0 (o.length+1) 1) (iV (p:Int))=A4 (pV (l_ h+1) p):=by rw [E3 (by omega)];simp
   have W5:=E1 a2;have t5:rd (h1.set (l_ h+1) (rT (encS ((o++[[]]).take (p+1)++o.drop p)))) (l_ h+1)=rT (encS ((o++[[]]).take (p+1)++o.drop p)):=D6 W5;have t6:=I9 (x:=.s s) (off:=p) t5 (by rw [bY,E58,E6A,E58];simp;omega);have t7:(encS ((o++[[]]).take (p+1)++o.drop p)).set p (.s s)=encS (A8U o s):=by
    rw [ei];have e1:(o++[[]]).take (p+1)=o.take p++[(o++[[]])[p]'(by simp;omega)]:=by
     rw [E6x (by simp;omega),List.take_append_of_le_length hat]
    rw [e1];unfold encS;rw [<-List.map_set]
    congr 1
    rw [E6d,E6O _ _ (by simp;omega),E6A,Nat.min_eq_left hat,E67];rfl
   rw [List.set_set,t7] at t6;obtain ⟨v2,h2,f1,f2⟩:=C1R (q:=q) hv hn h62 e (i+1) m (A8U o s) (h1.set (l_ h+1) (rT (encS (A8U o s)))) (l_ h+1) (by omega) (by omega) (by omega) (a3.set a4 _) a4 (D6 W5);have el:(A8U o s).length=o.length+1:=by rw [ei];simp;omega
   rw [el] at f1;refine ⟨v2,h2,?_,f2⟩;simp only [esc,c0,eb,hx,hP,ef,a1,w1,t1,t2,t3,t4,t6,B1l,D9 (a:=i) (by omega)];exact f1
def B9u{nv:Nat}{l:rN}(hv:Has h v 1 nv (encS l))(h62:nv<1073741824) :
  A5T [v] h=A4 (sV (l_ h) 0 (fC l).length 1,h++[rT (encS (fC l))]):=by
 have hn:l_ l=nv:=by simpa [bY] using hv.length
 have key:∀ N,nv<N->∀ g,Has g v 1 nv (encS l)->∃ v2 g',B2m N [v] g=A4 (v2,g')/\Out (l_ g) g' v2 1 (fC l).length (encS (fC l)):=by
  intro N hN g hv;obtain ⟨v2,g',f1,f2⟩:=C1R (q:=N) hv hn h62 nv 0 N [] ((g++[rT []])++[rT []]) (l_ g+1) (by omega) hN (E56 _) (((Low.refl (E56 _)).new _).new _) (by omega) (by simp [encS]);rw [E6i] at f2;rw [C4G];refine ⟨v2,g',?_,f2⟩;rw [hv.len,C6];simpa using f1
 obtain ⟨v2,g',e,ho⟩:=key (nv+1) (by omega) (ro h) hv.ro;exact C3H e (by simpa [H6] using ho) (by simp)
def J8(l:List Ent):List Cell:=(l.map λx=>W0 (A4 x)).flatten
def B0l{l:List Ent}:(J8 l).length=l_ l*2:=by
 induction l with
 | nil=>rfl
 | cons x l ih=>simp only [J8,E6N,E65,E58,W0,E6g,E6E] at ih ⊢;omega
def D9m{x:Ent}{r:List Cell}:List.drop ((k+1)*2) (W0 (A4 x)++r)=List.drop (k*2) r:=by
 rw [show (k+1)*2=k*2+2 by omega];rfl
def B8U:∀ (l:List Ent) (k:Nat) (hk:k<l_ l),((J8 l).drop (k*2)).take 2=W0 (A4 l[k])
 | [],k,hk=>by simp at hk
 | x::l,0,_=>rfl
 | x::l,k+1,hk=>by
  have e:J8 (x::l)=W0 (A4 x)++J8 l:=rfl;rw [e,D9m,List.getElem_cons_succ];exact B8U l k (by simpa using hk)
def gY(l:List Ent)(k:Nat):Ent:=l.getD k ([],0)
def B8T{l:List Ent}(hk:k<l_ l):gY l k=l[k]:=by simp [gY,List.getD,hk]
def lA(l:List Ent):Nat->List UInt8
 | 0=>hdB
 | k+1=>H5 (lA l k) (H7 k) (T6 (gY l k).1 (gY l k).2)
def iO{l:List Ent}:∀ k,k<=7->(lA l k).length=256
 | 0,_=>oH
 | k+1,hk=>by rw [lA,O2 (by rw [iO k (by omega),U4];unfold H7;omega)];exact iO k (by omega)
def atX(b nm:List UInt8):Nat:=match T9 b nm with
 | some x=>x.1
 | none=>0
def E3V{o:Option Slt}:(slC o)[0]?=A4 (cI ((match o with | some x=>x.1 | none=>0:Nat):Int)):=by cases o<;>rfl
def C9v(l:List Ent)(k:Nat):Bool:=decide (atX (lA l (l_ l)) (gY l k).1=k)
def B9G(l:List Ent):Bool:=(E6v 0 (l_ l)).all (C9v l)
def C8d(l:List Ent):Bool:=l.all λx=>B5n x.1 x.2
def D96{v:Val}{nv q:Nat}{l:List Ent}{B:A9}{g:Nat}(hv:Has B v 2 nv (J8 l))(hn:l_ l=nv)(h7:nv<=7)(hg:rd B g=rT (B5 (zeros 256))):∀ (e k m:Nat) (h:A9),k+e=nv->e<m->Low (l_ B) B h->rd h (l_ B)=rT (B5 (lA l nv)) ->
  ∃ h',B5V q m (.c (.p g 0)) (.c (.p (l_ B) 0)) v (.c (cI (nv:Int))) (.c (cI (k:Int))) h=A4 (.t [.a (B5 (bif (E6v k e).all (C9v l) then lA l nv else zeros 256)),.c (cI (bif (E6v k e).all (C9v l) then 0 else 5))],h')
 | e,k,0,h,_,hm,_,_=>by omega
 | 0,k,m+1,h,hk,hm,hlow,hr=>by
  have e0:k=nv:=by omega
  subst e0;have c0:¬ (k:Int)<k:=by omega
  have hL:(B5 (lA l k)).length=256:=by rw [B6];exact iO k h7
  have hz:(B5 (zeros 256)).length=256:=by rw [B6];exact zeros_length
  have hrg:=hlow.rd hg;have s1:=C7 hr hL;have s2:=storeAll (xs:=B5 (lA l k)) hrg hz hL;have s3:=C7 (h:=h.set g (rT (B5 (lA l k)))) (id:=g) (D6 (E1 hrg)) hL;rw [A8r,List.range'_zero,List.all_nil,cond_true,cond_true];generalize B5 (lA l k)=y at *;exact ⟨_,by simp only [esc,c0,s1,s2,s3]<;>rfl⟩
 | e+1,k,m+1,h,hk,hm,hlow,hr=>by
  have c0:(k:Int)<nv:=by omega
  have hL:(B5 (lA l nv)).length=256:=by rw [B6];exact iO nv h7
  have hvB:Has h v 2 nv (J8 l):=by
   refine hv.low hlow λid off m he=>?_
   rcases hv with ⟨rfl,_⟩ | ⟨dM,off',r',rfl,hrd,_⟩
   ·cases he
   ·cases he;exact E1 hrd
  obtain ⟨id,off,ev,hid,k1,k2⟩:=hvB.sl (by omega);have eb:E9 2 v (.c (cI (k:Int)))=A4 (.c (.p id (off+k*2))):=by rw [ev,E3 (by omega)]
  have hld:=k2 (k*2) 2 (by rw [B0l];omega);rw [B8U l k (by omega),<-B8T (by omega)] at hld;have w1:=D9 (a:=k) (by omega);have hF:=λh=>xN (b:=lA l nv) (nm:=(gY l k).1) (h:=h) (iO nv h7)
  have s1:=λt=>C7 (h:=h++t) (B7 hr) hL
  have hat:(slC (T9 (lA l nv) (gY l k).1))[0]?=A4 (cI (atX (lA l nv) (gY l k).1:Nat)):=E3V;have hSl:=jJ (o:=T9 (lA l nv) (gY l k).1);rw [A8r,List.range'_succ,E62];have hon:C9v l k=decide (atX (lA l nv) (gY l k).1=k):=by unfold C9v;rw [hn]
  rw [hon];generalize slC (T9 (lA l nv) (gY l k).1)=S at *;generalize atX (lA l nv) (gY l k).1=A at *;obtain ⟨h',ih⟩:=D96 (q:=q) hv hn h7 hg e (k+1) m (h++[rT (W0 (A4 (gY l k))),rT S]) (by omega) (by omega) (hlow.new _) (B7 hr);simp only [W0] at *;by_cases c:A=k
  ·subst c;rw [decide_eq_true rfl,E6t];refine ⟨h',?_⟩;generalize B5 (lA l nv)=y at *;simp only [esc,esh,Nat.reduceAdd,c0,eb,hld,s1,hF,hat,hSl,w1];exact ih
  ·rw [decide_eq_false c,E6p,cond_false,cond_false];have c':¬ (A:Int)=k:=by omega
   have hz:(B5 (zeros 256)).length=256:=by rw [B6];exact zeros_length
   have hrg:=λt:A9=>B7 (g:=t) (hlow.rd hg)
   have haf:F5 (E55 256 (Cell.i .u8 0)) []=A4 (E55 256 (Cell.i .u8 0)):=rfl;rw [J3] at haf;have s2:=λt=>storeAll (xs:=B5 (zeros 256)) (hrg t) hz hz
   have s3:=λt=>C7 (h:=(h++t).set g (rT (B5 (zeros 256)))) (id:=g) (D6 (E1 (hrg t))) hz
   rw [J3];generalize zeros 256=z at *;generalize B5 (lA l nv)=y at *;exact ⟨_,by simp only [esc,esh,Nat.reduceAdd,c0,eb,hld,s1,hF,hat,hSl,c',haf,s2,s3]<;>rfl⟩
def D95{v:Val}{nv q:Nat}{l:List Ent}{B:A9}{g:Nat}(hv:Has B v 2 nv (J8 l))(hn:l_ l=nv)(h7:nv<=7)(hs:∀ x∈l,x.1.length<=60)(hg:rd B g=rT (B5 (zeros 256)))(hq:nv<q):∀ (e k m:Nat) (h:A9),k+e=nv->e<m->Low (l_ B) B h->rd h (l_ B)=rT (B5 (lA l k)) ->
  ∃ h',B5U q m v (.c (.p g 0)) (.c (.p (l_ B) 0)) v (.c (cI (nv:Int))) (.c (cI (k:Int))) h=A4 (.t [.a (B5 (bif C8d (l.drop k)&&B9G l then lA l nv else zeros 256)),.c (cI (bif C8d (l.drop k) then (bif B9G l then 0 else 5) else 1))],h')
 | e,k,0,h,_,hm,_,_=>by omega
 | 0,k,m+1,h,hk,hm,hlow,hr=>by
  have e0:k=nv:=by omega
  subst e0;have c0:¬ (k:Int)<k:=by omega
  have hvB:Has h v 2 k (J8 l):=by
   refine hv.low hlow λid off m he=>?_
   rcases hv with ⟨rfl,_⟩ | ⟨dM,off',r',rfl,hrd,_⟩
   ·cases he
   ·cases he;exact E1 hrd
  obtain ⟨h',e⟩:=D96 (q:=q) hv hn h7 hg k 0 q h (by omega) hq hlow hr;have em:C8d (l.drop k)=A5:=by rw [E6f (by omega)];rfl
  have eo:(E6v 0 k).all (C9v l)=B9G l:=by unfold B9G;rw [hn]
  rw [eo] at e;rw [A8q,em,E6t,cond_true];exact ⟨h',by simp only [esc,c0,hvB.len];exact e⟩
 | e+1,k,m+1,h,hk,hm,hlow,hr=>by
  have c0:(k:Int)<nv:=by omega
  have hNl:=iO (l:=l) k (by omega);have hL:(B5 (lA l k)).length=256:=by rw [B6];exact hNl
  have hvB:Has h v 2 nv (J8 l):=by
   refine hv.low hlow λid off m he=>?_
   rcases hv with ⟨rfl,_⟩ | ⟨dM,off',r',rfl,hrd,_⟩
   ·cases he
   ·cases he;exact E1 hrd
  obtain ⟨id,off,ev,hid,k1,k2⟩:=hvB.sl (by omega);have eb:E9 2 v (.c (cI (k:Int)))=A4 (.c (.p id (off+k*2))):=by rw [ev,E3 (by omega)]
  have hld:=k2 (k*2) 2 (by rw [B0l];omega);rw [B8U l k (by omega),<-B8T (by omega)] at hld;have w1:=D9 (a:=k) (by omega);have hsk:(gY l k).1.length<=60:=by rw [B8T (by omega)];exact hs _ (E6w _)
  have hM:=λh=>A7r (s:=(gY l k).1) (n:=(gY l k).2) (h:=h) (by omega)
  have hW:=λh=>mD (s:=(gY l k).1) (n:=(gY l k).2) (h:=h) (by omega)
  have hF:=λh=>jO (k:=k) (h:=h) (by omega)
  have hmd:C8d (l.drop k)=(B5n (gY l k).1 (gY l k).2&&C8d (l.drop (k+1))):=by
   rw [E6b (by omega:k<l_ l),B8T (by omega)];rfl
  have hEl:(T6 (gY l k).1 (gY l k).2).length=32:=U4;have hLy:=B0A (v:=.c (.sl (l_ h+1) 0 32 1)) (nv:=32) (data:=T6 (gY l k).1 (gY l k).2) (l:=lA l k) (h:=h++[rT (W0 (A4 (gY l k))),rT (B5 (T6 (gY l k).1 (gY l k).2))]) (Has.row (rw:=A5) (by simp) (by rw [B6,U4]) (W1 _)) hNl (by rw [hEl];omega) (a:=(H7 k:Nat));have elay:B0y (lA l k) (H7 k:Nat) (T6 (gY l k).1 (gY l k).2)=lA l (k+1):=by
   unfold B0y;have:H7 k<256:=by unfold H7;omega
   rw [if_pos ⟨by omega,by omega⟩,E6q,E6l (by rw [hEl];unfold H7;omega)];rfl
  rw [elay] at hLy;have hq2:quiet (h++[rT (W0 (A4 (gY l k)))]) (A4 (.c (.sl (l_ h+1) 0 32 1),h++[rT (W0 (A4 (gY l k))),rT (B5 (T6 (gY l k).1 (gY l k).2))]))=_:=E3P;have hrk:∀ t:A9,rd (h++t) (l_ B)=rT (B5 (lA l k)):=λt=>B7 hr
  have s1:=λt=>C7 (h:=h++t) (hrk t) hL
  have hN1:(B5 (lA l (k+1))).length=256:=by rw [B6];exact iO (k+1) (by omega)
  have s2:=λt=>storeAll (h:=h++t) (xs:=B5 (lA l (k+1))) (hrk t) hL hN1
  obtain ⟨h',ih⟩:=D95 (q:=q) hv hn h7 hs hg hq e (k+1) m ((h++[rT (W0 (A4 (gY l k))),rT (B5 (T6 (gY l k).1 (gY l k).2))]).set (l_ B) (rT (B5 (lA l (k+1))))) (by omega) (by omega) ((hlow.new _).set (E56 _) _) (D6 (E1 (hrk _)));rw [A8q,hmd];generalize T6 (gY l k).1 (gY l k).2=E at *;simp only [W0] at *;cases cm:B5n (gY l k).1 (gY l k).2 with
  | true =>
   rw [cm] at hM;rw [E6t];refine ⟨h',?_⟩;generalize B5 (lA l (k+1))=y1 at *;generalize B5 (lA l k)=y at *;simp only [esc,esh,Nat.reduceAdd,c0,eb,hld,hM,hF,hW,hq2,s1,hLy,s2,w1];exact ih
  | false =>
   rw [cm] at hM;rw [E6p,E6p,cond_false,cond_false];have hz:(B5 (zeros 256)).length=256:=by rw [B6];exact zeros_length
   have hrg:=λt:A9=>B7 (g:=t) (hlow.rd hg)
   have haf:F5 (E55 256 (Cell.i .u8 0)) []=A4 (E55 256 (Cell.i .u8 0)):=rfl;rw [J3] at haf;have s2:=λt=>storeAll (xs:=B5 (zeros 256)) (hrg t) hz hz
   have s3:=λt=>C7 (h:=(h++t).set g (rT (B5 (zeros 256)))) (id:=g) (D6 (E1 (hrg t))) hz
   rw [J3];generalize zeros 256=z at *;exact ⟨_,by simp only [esc,esh,Nat.reduceAdd,c0,eb,hld,hM,haf,s2,s3]<;>rfl⟩
def D0Y(l:List Ent):Int:=if 7<(l_ l) then 11 else if C8d l=A5 then (if B9G l=A5 then 0 else 5) else 1
def dF(l:List Ent):List UInt8:=if D0Y l=0 then lA l (l_ l) else zeros 256
def A6r{l:List Ent}:(dF l).length=256:=by
 unfold dF;split
 ·rename_i h;refine iO _ ?_
  false_or_by_contra
  unfold D0Y at h;rw [if_pos (by omega)] at h;omega
 ·exact zeros_length
def C7U{nv:Nat}{l:List Ent}(hv:Has h v 2 nv (J8 l))(hs:∀ x∈l,x.1.length<=60):A9P [v] h=A4 (.t [.a (B5 (dF l)),.c (cI (D0Y l))],h):=by
 have hn:l_ l=nv:=by have:=hv.length;rw [B0l] at this;omega
 have key:∀ g,Has g v 2 nv (J8 l)->∃ g',A9q 8 [v] g=A4 (.t [.a (B5 (dF l)),.c (cI (D0Y l))],g'):=by
  intro g hv;have hz:(B5 (zeros 256)).length=256:=by rw [B6];exact zeros_length
  have hd:(B5 hdB).length=256:=by rw [B6];exact oH
  have hl:=hv.len;have hH:=λh=>B28 (h:=h)
  rw [C3a,J3];by_cases c:7<nv
  ·have c0:(7:Int)<nv:=by omega
   have e1:D0Y l=11:=by unfold D0Y;rw [if_pos (by omega)]
   have e2:dF l=zeros 256:=by unfold dF;rw [e1,if_neg (by omega)]
   have haf:F5 (E55 256 (Cell.i .u8 0)) []=A4 (E55 256 (Cell.i .u8 0)):=rfl;rw [J3] at haf;rw [e1,e2];generalize zeros 256=z at *;exact ⟨_,by simp only [esc,esh,hl,c0,haf,hz]<;>rfl⟩
  ·have c0:¬ (7:Int)<nv:=by omega
   obtain ⟨h',e⟩:=D95 (q:=8) (B:=g++[rT (B5 (zeros 256))]) (g:=l_ g) (hv.more _) hn (by omega) hs (by simp) (by omega) nv 0 8 (g++[rT (B5 (zeros 256)),rT (B5 (lA l 0))]) (by omega) (by omega)
    (by have:=(Low.refl (h:=g++[rT (B5 (zeros 256))]) (E56 _)).new [rT (B5 (lA l 0))];simpa using this) (by simp)
   have e1:D0Y l=(bif C8d l then (bif B9G l then 0 else 5) else 1):=by
    unfold D0Y;rw [if_neg (by omega)];cases C8d l<;>cases B9G l<;>simp
   have e2:dF l=(bif C8d l&&B9G l then lA l nv else zeros 256):=by
    unfold dF;rw [e1,<-hn];cases C8d l<;>cases B9G l<;>simp
   rw [E6i,<-e1,<-e2] at e;rw [show lA l 0=hdB from rfl] at e;simp only [E58,E6g,E6E,E6j] at e;refine ⟨h',?_⟩;generalize dF l=R at *;generalize hdB=H at *;generalize zeros 256=z at *;simp only [esc,esh,hl,c0,hH,hz,hd];exact e
 obtain ⟨g',e⟩:=key (ro h) hv.ro;exact B8a e (by simp)
def isL(D:Dev)(n k:Int)(d:List Int)(t:Tld):Bool:=decide (A8Z D n k d t.2=A4 t.1)
def qV(D:Dev)(n k:Int)(d:List Int):List Tld:=C5i D (S7 D n k d)
def T3(D:Dev)(n k:Int)(d:List Int)(l:List Tld):rN:=(l.filter (isL D n k d)).map (·.2)
def D4M(D:Dev)(n k:Int)(d:List Int)(s:List UInt8):Int:=((A8Z D n k d s).getD (0,0,0)).2.2
def gQ(D:Dev)(n k:Int)(d:List Int):List Ent:=(fC (T3 D n k d (qV D n k d))).map λs=>(s,D4M D n k d s)
def dO(D:Dev)(n k:Int)(d:List Int)(l:List Tld):List Plc:=(l.filter λt=>!isL D n k d t).map (·.1)
def B1p(l:List Plc):List Cell:=(l.map λp=>pS (A4 p)).flatten
def A59{k:Int}{d:List Int}:(S7 D n k d).length<=32:=by
 have hml:=T2 (getD (blk D (d.getD 0 0)));have hBl:=iL (O0 (blk D (d.getD 0 0)) 32) (C5 (getD (blk D (d.getD 0 0))));unfold S7;cases Z0 D n k d with
 | false=>simp
 | true=>exact E6J (E6R _ _) (by omega)
def MapN(es:V3)(f:List UInt8->Int)(l:rN):Prop:=(∀ e∈es,∃ s,e.1=.s s)/\∀ s∈l,∃ i,A81 (.s s) es=A4 (i,.c (cI (f s)))
def D57(h:∀ e∈es,∃ s,e.1=Cell.s s):A2j A7 (.s s) es=A5:=by
 simp only [A2j,uQ,E6t,E6X];intro e he;obtain ⟨x,hx⟩:=h e he;rw [hx]
def D6e{k:Cell}{p:Part}:∀ {es:V3} {i j:Nat} {q:Part},mgo k es i=A4 (j,q)->(es.set (j-i) (k,p)).length=es.length/\mgo k (es.set (j-i) (k,p)) i=A4 (j,p)/\i<=j/\∀ k'≠k,((mgo k' (es.set (j-i) (k,p)) i)=mgo k' es i)
 | [],i,j,q,h=>by simp [mgo] at h
 | e::es,i,j,q,h=>by
  unfold mgo at h;by_cases c:e.1=k
  ·rw [if_pos c] at h;cases h;simp only [E67,E7c];refine ⟨rfl,by simp [mgo],E56 _,λk' hk'=>?_⟩;have:¬ e.1=k':=λh=>hk' (by rw [<-h,c])
   simp [mgo,this,Ne.symm hk']
  ·rw [if_neg c] at h;obtain ⟨h1,h2,h3,h4⟩:=D6e (p:=p) h;have e1:j-i=(j-(i+1))+1:=by omega
   rw [e1,List.set_cons_succ];refine ⟨by simp,?_,by omega,λk' hk'=>?_⟩
   ·simp only [mgo];rw [if_neg c];exact h2
   ·simp only [mgo];rw [h4 k' hk']
def D2S{k k':Cell}{p:Part}:∀ {es:V3} {i:Nat},mgo k es i=A7->mgo k' (es++[(k,p)]) i=if k'=k then A4 (i+es.length,p) else mgo k' es i
 | [],i,_=>by
  by_cases c:k'=k
  ·subst c;simp [mgo]
  ·simp [mgo,c,Ne.symm c]
 | e::es,i,h=>by
  unfold mgo at h;by_cases c:e.1=k
  ·rw [if_pos c] at h;cases h
  ·rw [if_neg c] at h;have ih:=D2S (k':=k') (p:=p) h;simp only [E6Y,mgo,ih];by_cases c2:k'=k
   ·subst c2;rw [if_neg c,if_pos rfl,if_pos rfl,E6g]
    congr 2;omega
   ·simp only [if_neg c2]
def A3E{k k':Cell}{p:Part}:A81 k (A82 k p es)=A4 (((A81 k es).map (·.1)).getD es.length,p)/\(k'≠k->A81 k' (A82 k p es)=A81 k' es):=by
 unfold A82 A81;cases c:mgo k es 0 with
 | none =>
  simp only [D2S c];exact ⟨by simp,λh=>by rw [if_neg h]⟩
 | some jq =>
  obtain ⟨j,q⟩:=jq;obtain ⟨_,h2,_,h4⟩:=D6e (p:=p) c;simp only [Nat.sub_zero] at h2 h4;exact ⟨by simp [h2],λh=>h4 k' h⟩
def C1A{k:Cell}{p:Part}{Q:Cell->Prop}(hk:Q k)(h:∀ e∈es,Q e.1):∀ e∈A82 k p es,Q e.1:=by
 intro e he;unfold A82 at he;split at he
 ·rcases List.mem_or_eq_of_mem_set he with he | rfl
  ·exact h e he
  ·exact hk
 ·rcases List.mem_append.1 he with he | he
  ·exact h e he
  ·simp at he;subst he;exact hk
def MapN.nil(f:List UInt8->Int):MapN [] f []:=⟨λe he=>by simp at he,λs hs=>by simp at hs⟩
def MapN.put{f:List UInt8->Int}{l:rN}(hm:MapN es f l)(s:List UInt8):MapN (A82 (.s s) (.c (cI (f s))) es) f (l++[s]):=by
 refine ⟨C1A (Q:=λc=>∃ s,c=.s s) ⟨s,rfl⟩ hm.1,λx hx=>?_⟩;by_cases c:x=s
 ·subst c;exact ⟨_,(A3E (k':=.mh)).1⟩
 ·rcases List.mem_append.1 hx with hx | hx
  ·obtain ⟨i,hi⟩:=hm.2 x hx;refine ⟨i,?_⟩;rw [(A3E (k:=.s s) (k':=.s x)).2 (by simpa using c)];exact hi
  ·simp at hx;exact absurd hx c
def D2L{mid:Nat}{f:List UInt8->Int}{l:rN}(hr:rd h mid=A4 (P6 es))(hm:MapN es f l)(hs:s∈l):xJ h A7 (.c o0) A6 (.c (.m mid)) (.c (.s s))=A4 (.c (cI (f s))):=by
 obtain ⟨i,hi⟩:=hm.2 s hs;simp only [xJ,B9j,D0P,hr,E6h,pO];rw [if_pos (D57 hm.1),hi];rfl
def D6m{mid:Nat}{f:List UInt8->Int}{l:rN}{x:Int}(hr:rd h mid=A4 (P6 es))(hm:MapN es f l):A2A h A7 (.c (.m mid)) (.c (.s s)) (.c (cI x))=A4 (h.set mid (A4 (P6 (A82 (.s s) (.c (cI x)) es)))):=by
 simp only [A2A,B9j,C2Y,hr,E6h,pO];rw [if_pos (D57 hm.1)]
def D08{neg:Bool}(p q:Plc):aeq neg [.i .i64,.i .i64,.i .i64] (.a (pS (A4 p))) (.a (pS (A4 q)))=A4 (bV (bif neg then !(decide (A4 p=A4 q)) else decide (A4 p=A4 q))):=by
 simp only [aeq];rw [if_pos ⟨rfl,rfl⟩];have:decide (pS (A4 p)=pS (A4 q))=decide (A4 p=A4 q):=by
  apply Bool.eq_iff_iff.2;simp only [decide_eq_true_eq,pS,List.cons.injEq,Cell.i.injEq,true_and,and_true,E57];obtain ⟨p1,p2,p3⟩:=p;obtain ⟨q1,q2,q3⟩:=q;simp only [E6c];constructor
  ·rintro ⟨h1,h2,h3⟩;exact ⟨h1,by omega,h3⟩
  ·rintro ⟨h1,h2,h3⟩;exact ⟨h1,by omega,h3⟩
 rw [this]
def B4W{x:Ent}(h:N9 b k=A4 x):x.1.length<=24:=by
 unfold N9 at h;cases hu:gA (nameB b k) with
 | none=>rw [hu] at h;cases h
 | some s =>
  rw [hu,E6h] at h;split at h
  ·cases h;exact (bE (A3s hu)).2
  ·cases h
def A3n{b:List UInt8}:∀ {e k:Nat} {x:Slt},x∈Q0 b e k->N9 b x.1=A4 x.2/\k<=x.1/\x.1<k+e
 | 0,k,x,h=>by simp [Q0] at h
 | e+1,k,x,h=>by
  cases hr:N9 b k with
  | none =>
   rw [Z3 hr] at h;have:=A3n h;exact ⟨this.1,by omega,by omega⟩
  | some y =>
   rw [Z4 hr] at h;rcases List.mem_cons.1 h with rfl | h
   ·exact ⟨hr,E56 _,by dsimp only;omega⟩
   ·have:=A3n h;exact ⟨this.1,by omega,by omega⟩
def A8Y{x:Slt}(h:x∈J1 b):N9 b x.1=A4 x.2/\x.1<7:=by
 have:=A3n h;exact ⟨this.1,by omega⟩
def C2S{k:Int}{d:List Int}{s:List Tld}{t:Tld}:T3 D n k d (s++[t])=T3 D n k d s++(if isL D n k d t=A5 then [t.2] else []):=by
 unfold T3;rw [E66,E6Q];by_cases c:isL D n k d t=A5
 ·rw [if_pos c,E6W c];rfl
 ·rw [if_neg c,E6V c];rfl
def C6F{k:Int}{d:List Int}{s:List Tld}:(T3 D n k d s).length<=(l_ s):=by
 unfold T3;rw [List.length_map];exact E6R _ _
def RDs(b:Nat):List Nat:=[b,b+1,b+3,b+4,b+5,b+6,b+8]
structure ListP(D:Dev)(n k:Int)(d:List Int)(V I:List Cell)(L:List Int)(g:A9)(rs:List Nat)(c:Nat)(s:List Tld)(h:A9):Prop where
 var:VarC h (l_ g+3) (encS (T3 D n k d s)) (T3 D n k d s).length 1 (l_ g) (rs++RDs (l_ g))
 len:l_ s<=c
 low:Low (l_ g) g h
 r0:rd h (l_ g)=rT V
 r1:rd h (l_ g+1)=rT I
 r6:rd h (l_ g+6)=rT V
 r8:rd h (l_ g+8)=rT (encI L)
 r5:rd h (l_ g+5)=rT [.m (l_ g+4)]
 r4:∃ es,rd h (l_ g+4)=A4 (P6 es)/\MapN es (D4M D n k d) (T3 D n k d s)
 rs:∀ j∈rs,l_ g+9<=j/\j<(l_ h)
section
variable {D:Dev} {n k:Int} {d:List Int} {V I:List Cell} {L:List Int} {g h:A9} {rs:List Nat} {c:Nat} {s:List Tld}
def ListP.more(P:ListP D n k d V I L g rs c s h)(t:A9):ListP D n k d V I L g rs c s (h++t) where
 var:=P.var.more t λj hj=>.inl hj
 len:=P.len
 low:=P.low.new _
 r0:=B7 P.r0
 r1:=B7 P.r1
 r6:=B7 P.r6
 r8:=B7 P.r8
 r5:=B7 P.r5
 r4:=by obtain ⟨es,h1,h2⟩:=P.r4;exact ⟨es,B7 h1,h2⟩
 rs:=λj hj=>by have:=P.rs j hj;simp;omega
def ListP.one(P:ListP D n k d V I L g rs c s h)(r:Option Row):ListP D n k d V I L g (l_ h::rs) c s (h++[r]) where
 var:=P.var.more _ λj hj=>by
  rcases List.mem_cons.1 hj with rfl | hj
  ·exact .inr (E56 _)
  ·exact .inl hj
 len:=P.len
 low:=P.low.new _
 r0:=B7 P.r0
 r1:=B7 P.r1
 r6:=B7 P.r6
 r8:=B7 P.r8
 r5:=B7 P.r5
 r4:=by obtain ⟨es,h1,h2⟩:=P.r4;exact ⟨es,B7 h1,h2⟩
 rs:=λj hj=>by
  have h8:=E1 P.r8;rcases List.mem_cons.1 hj with rfl | hj
  ·simp;omega
  ·have:=P.rs j hj;simp;omega
def ListP.less(P:ListP D n k d V I L g (i::rs) c s h):ListP D n k d V I L g rs c s h :=
 { P with var:=P.var.fewer λj hj=>E59 _ hj,rs:=λj hj=>P.rs j (E59 _ hj) }
def ListP.wide{c':Nat}(P:ListP D n k d V I L g rs c s h)(hc:c<=c'):ListP D n k d V I L g rs c' s h :=
 { P with len:=E6J P.len hc }
end
def E3E{k s0:Int}{d:List Int}{L:List Int}{s:List Tld}{t:Tld}(hD:okD D)(hd:l_ d=7)(hv:IsView g f D)(hc:c<=90000)(ht:t.2.length<=24)
  (P:ListP D n k d (vwC (l_ D) n m f) (C8 k l s0 p d) L g rs c s h) :
  ∃ h',wM [.a (pS (A4 t.1)),.c (.s t.2),.c (.p (l_ g) 0),.c (.p (l_ g+1) 0),.c (.p (l_ g+3) 0),.c (.p (l_ g+5) 0)] h=A4 (.t [],h')/\ListP D n k d (vwC (l_ D) n m f) (C8 k l s0 p d) L g rs (c+1) (s++[t]) h'/\∀ j∈rs,rd h' j=rd h j:=by
 obtain ⟨⟨p1,p2,p3⟩,nm⟩:=t;have hIl:(C8 k l s0 p d).length=11:=by simp [C8,C1,hd]
 obtain ⟨h1,e1⟩:=xEq (h++[rT (pS (A4 (p1,p2,p3)))]);have n1:h1.length=l_ h+1:=by rw [e1];simp
 have P1:ListP D n k d (vwC (l_ D) n m f) (C8 k l s0 p d) L g (l_ h::rs) c s h1:=e1 ▸ P.one _;have l4:D1 h1 4 (.c (.p (l_ g) 0))=A4 (.a (vwC (l_ D) n m f)):=C7 P1.r0 rfl;have l11:D1 h1 11 (.c (.p (l_ g+1) 0))=A4 (.a (C8 k l s0 p d)):=C7 P1.r1 hIl;have hL:=B05 (n:=n) (m:=m) (k:=k) (l:=l) (s:=s0) (p:=p) (nm:=nm) (h:=h1) hD hd (hv.since P1.low) (by dsimp only at ht;omega);have hl:=E1 P.r8;have keep:∀ (h':A9),(∀ j∈(l_ h)::rs,rd h' j=rd h1 j)->∀ j∈rs,rd h' j=rd h j:=by
  intro h' hk j hj;rw [hk j (E59 _ hj),e1,D3 (P.rs j hj).2]
 obtain ⟨o,eo⟩:=xEq (A8Z D n k d nm);rw [<-eo] at hL;obtain ⟨h2,e2⟩:=xEq (h1++[rT (pS o)]);have s3:F9 (h1++[rT [o0,o0,o0]]) 3 (.c (.p h1.length 0)) (.a (pS o))=A4 h2:=by
  rw [G9,e2];cases o<;>rfl
 have P2:ListP D n k d (vwC (l_ D) n m f) (C8 k l s0 p d) L g (l_ h::rs) c s h2:=e2 ▸ P1.more _;have q1:D1 h2 3 (.c (.p h1.length 0))=A4 (.a (pS o)):=by rw [e2,G8];cases o<;>rfl
 have rp:rd h2 (l_ h)=rT (pS (A4 (p1,p2,p3))):=by rw [e2,e1];simp
 have q2:D1 h2 3 (.c (.p (l_ h) 0))=A4 (.a (pS (A4 (p1,p2,p3)))):=C7 rp rfl;have no:isL D n k d ((p1,p2,p3),nm)=A6->T3 D n k d (s++[((p1,p2,p3),nm)])=T3 D n k d s:=λhn=>by
  rw [C2S,hn];simp
 have stay:T3 D n k d (s++[((p1,p2,p3),nm)])=T3 D n k d s->ListP D n k d (vwC (l_ D) n m f) (C8 k l s0 p d) L g rs (c+1) (s++[((p1,p2,p3),nm)]) h2:=λhn=>by
  have:=P2.less;exact { this with var:=by rw [hn];exact this.var,len:=by have:=P.len;simp;omega,r4:=by rw [hn];exact this.r4 }
 have k2:∀ j∈(l_ h)::rs,rd h2 j=rd h1 j:=λj hj=>by
  rw [e2,D3];rcases List.mem_cons.1 hj with rfl | hj
  ·omega
  ·have:=P.rs j hj;omega
 cases o with
 | none =>
  have hn:isL D n k d ((p1,p2,p3),nm)=A6:=by unfold isL;rw [<-eo];simp
  refine ⟨h2,wN (n:=0) ?_,stay (no hn),keep h2 k2⟩;rw [vU];generalize hV:vwC (l_ D) n m f=V at *;generalize hI:C8 k l s0 p d=I at *;simp only [eH,C6,<-e1,l4,l11,hL,xH,E6K,E6o,E6I,eZ,eY,s3,E6Z,D9x,pJ,cond_false,Y0];rfl
 | some q =>
  have ea:=D08 (neg:=A6) q (p1,p2,p3);by_cases c1:q=(p1,p2,p3)
  ·have hn:isL D n k d ((p1,p2,p3),nm)=A5:=by unfold isL;rw [<-eo,c1];simp
   have hns:T3 D n k d (s++[((p1,p2,p3),nm)])=T3 D n k d s++[nm]:=by rw [C2S,if_pos hn]
   have hin:D4M D n k d nm=p3:=by unfold D4M;rw [<-eo,c1];rfl
   subst c1;have h2l:h2.length=l_ h+2:=by rw [e2];simp;omega
   obtain ⟨x,v,h3,h4,a1,a2,a3,a4,a5,a6,a7⟩:=P2.var.push (ys:=[.s nm]) (by simp [RDs]) (by omega) (by omega) (by
    intro j hj;rcases List.mem_append.1 hj with hj | hj
    ·exact (P2.rs j hj).2
    ·simp only [RDs,E68,List.not_mem_nil,or_false] at hj;omega) (by have:=C6F (D:=D) (n:=n) (k:=k) (d:=d) (s:=s);have:=P.len;omega) rfl (by omega)
   have ef:F5 [Cell.s []] [(0,1,.c (.s nm))]=A4 [.s nm]:=rfl;have mem:∀ j,j∈RDs (l_ g)->j≠(l_ g)+3->rd h4 j=rd h2 j:=λj hj aR=>a6 j (E6B _ hj) aR
   have m5:B9 h4 (.c (.p (l_ g+5) 0))=A4 (.c (.m (l_ g+4))):=C4 (by rw [mem _ (by simp [RDs]) (by omega)];exact P2.r5) rfl rfl;have m2:B9 h4 (.c (.p (l_ h) 2))=A4 (.c (cI p3)):=C4 (by rw [a6 (l_ h) (by simp) (by omega)];exact rp) rfl rfl;obtain ⟨es,r4,hm⟩:=P2.r4;have r4':rd h4 (l_ g+4)=A4 (P6 es):=by rw [mem _ (by simp [RDs]) (by omega)];exact r4
   have mp:=D6m (s:=nm) (x:=p3) r4' hm;have hm':=hm.put nm;rw [hin] at hm';have lt4:=E1 r4';obtain ⟨h5,e5⟩:=xEq (h4.set (l_ g+4) (A4 (P6 (A82 (.s nm) (.c (cI p3)) es))));rw [<-e5] at mp;have oth:∀ j,j≠(l_ g)+4->rd h5 j=rd h4 j:=λj hj=>by rw [e5,B8 (Ne.symm hj)]
   have back:∀ j∈RDs (l_ g),j≠(l_ g)+3->j≠(l_ g)+4->rd h5 j=rd h2 j:=λj hj h3 h4=>by rw [oth j h4,mem j hj h3]
   refine ⟨h5,wN (n:=0) ?_,⟨?_,?_,?_,?_,?_,?_,?_,?_,?_,?_⟩,keep h5 λj hj=>?_⟩
   ·rw [vU];rw [decide_eq_true rfl] at ea;generalize hV:vwC (l_ D) n m f=V at *;generalize hI:C8 k l s0 p d=I at *;simp only [eH,C6,<-e1,l4,l11,hL,xH,E6K,E6o,E6I,eZ,eY,s3,E6G,C9d,q1,q2,ea,pJ,cond_true,cond_false,W9,a1,ef,a2,a3,m5,Q8,E6j,m2,mp];rfl
   ·rw [hns];have e6:encS (T3 D n k d s++[nm])=encS (T3 D n k d s)++[.s nm]:=by simp [encS]
    rw [e6,E58];have:=a4.keep (h':=h5) (oth _ (by omega)) (λid hid y hy=>by
     rw [oth id (λe=>hid (E6B _ (by rw [e];simp [RDs])))];exact hy)
    exact this.fewer λj hj=>by
     rcases List.mem_append.1 hj with hj | hj
     ·exact E6C _ (E59 _ hj)
     ·exact E6B _ hj
   ·have:=P.len;simp;omega
   ·rw [e5];exact (P2.low.trans a5).set (by omega) _
   ·rw [back _ (by simp [RDs]) (by omega) (by omega)];exact P2.r0
   ·rw [back _ (by simp [RDs]) (by omega) (by omega)];exact P2.r1
   ·rw [back _ (by simp [RDs]) (by omega) (by omega)];exact P2.r6
   ·rw [back _ (by simp [RDs]) (by omega) (by omega)];exact P2.r8
   ·rw [back _ (by simp [RDs]) (by omega) (by omega)];exact P2.r5
   ·exact ⟨_,by rw [e5];exact D6 lt4,by rw [hns];exact hm'⟩
   ·intro j hj;have:=P.rs j hj;have e6:h5.length=h4.length:=by rw [e5];simp
    omega
   ·have hj9:l_ g+9<=j:=by
     rcases List.mem_cons.1 hj with rfl | hj
     ·omega
     ·exact (P.rs j hj).1
    rw [oth j (by omega),a6 j (E6C _ hj) (by omega),k2 j hj]
  ·have hn:isL D n k d ((p1,p2,p3),nm)=A6:=by unfold isL;rw [<-eo];simpa using c1
   refine ⟨h2,wN (n:=0) ?_,stay (no hn),keep h2 k2⟩;rw [vU];rw [decide_eq_false (by simpa using c1)] at ea;generalize hV:vwC (l_ D) n m f=V at *;generalize hI:C8 k l s0 p d=I at *;simp only [eH,C6,<-e1,l4,l11,hL,xH,E6K,E6o,E6I,eZ,eY,s3,E6G,C9d,q1,q2,ea,pJ,cond_true,cond_false,Y0];rfl
def D49{l:List Plc}{x:Plc}:B1p (l++[x])=B1p l++pS (A4 x):=by simp [B1p]
def D48{l:List Plc}:N8 (B1p l)=A5:=by
 induction l with
 | nil=>rfl
 | cons x l ih =>
  have:B1p (x::l)=pS (A4 x)++B1p l:=rfl;rw [this,pM,ih];rfl
def D7W{l:List Plc}:noX (B1p l)=A5:=by
 induction l with
 | nil=>rfl
 | cons x l ih =>
  have:B1p (x::l)=[cI x.1,cI (x.2.1:Int),cI x.2.2]++B1p l:=rfl;rw [this];simp [noX,Cell.isX] at ih ⊢;exact ih
def C23{k:Int}{d:List Int}{s:List Tld}{t:Tld}:dO D n k d (s++[t])=dO D n k d s++(if isL D n k d t=A5 then [] else [t.1]):=by
 unfold dO;rw [E66,E6Q];by_cases c:isL D n k d t=A5
 ·rw [if_pos c,E6V (by simp [c])];rfl
 ·rw [if_neg c,E6W (by simp [c])];rfl
def D5u{k:Int}{d:List Int}{s:List Tld}:(dO D n k d s).length<=(l_ s):=by
 unfold dO;rw [List.length_map];exact E6R _ _
def RSs(b:Nat):List Nat:=[b,b+1,b+3,b+4,b+6]
structure StrP(D:Dev)(n k:Int)(d:List Int)(V I:List Cell)(L:List Int)(g:A9)(rs:List Nat)(c:Nat)(s:List Tld)(h:A9):Prop where
 var:VarC h (l_ g+3) (B1p (dO D n k d s)) (dO D n k d s).length 3 (l_ g) (rs++RSs (l_ g))
 len:l_ s<=c
 low:Low (l_ g) g h
 r0:rd h (l_ g)=rT V
 r1:rd h (l_ g+1)=rT I
 r4:rd h (l_ g+4)=rT V
 r6:rd h (l_ g+6)=rT (encI L)
 rs:∀ j∈rs,l_ g+7<=j/\j<(l_ h)
section
variable {D:Dev} {n k:Int} {d:List Int} {V I:List Cell} {L:List Int} {g h:A9} {rs:List Nat} {c:Nat} {s:List Tld}
def StrP.more(P:StrP D n k d V I L g rs c s h)(t:A9):StrP D n k d V I L g rs c s (h++t) where
 var:=P.var.more t λj hj=>.inl hj
 len:=P.len
 low:=P.low.new _
 r0:=B7 P.r0
 r1:=B7 P.r1
 r4:=B7 P.r4
 r6:=B7 P.r6
 rs:=λj hj=>by have:=P.rs j hj;simp;omega
def StrP.one(P:StrP D n k d V I L g rs c s h)(r:Option Row):StrP D n k d V I L g (l_ h::rs) c s (h++[r]) where
 var:=P.var.more _ λj hj=>by
  rcases List.mem_cons.1 hj with rfl | hj
  ·exact .inr (E56 _)
  ·exact .inl hj
 len:=P.len
 low:=P.low.new _
 r0:=B7 P.r0
 r1:=B7 P.r1
 r4:=B7 P.r4
 r6:=B7 P.r6
 rs:=λj hj=>by
  have h8:=E1 P.r6;rcases List.mem_cons.1 hj with rfl | hj
  ·simp;omega
  ·have:=P.rs j hj;simp;omega
def StrP.less(P:StrP D n k d V I L g (i::rs) c s h):StrP D n k d V I L g rs c s h :=
 { P with var:=P.var.fewer λj hj=>E59 _ hj,rs:=λj hj=>P.rs j (E59 _ hj) }
def StrP.wide{c':Nat}(P:StrP D n k d V I L g rs c s h)(hc:c<=c'):StrP D n k d V I L g rs c' s h :=
 { P with len:=E6J P.len hc }
end
def E2m{k s0:Int}{d:List Int}{L:List Int}{s:List Tld}{t:Tld}(hD:okD D)(hd:l_ d=7)(hv:IsView g f D)(hc:c<=90000)(ht:t.2.length<=24)
  (P:StrP D n k d (vwC (l_ D) n m f) (C8 k l s0 p d) L g rs c s h) :
  ∃ h',sP [.a (pS (A4 t.1)),.c (.s t.2),pV (l_ g) 0,pV (l_ g+1) 0,pV (l_ g+3) 0] h=A4 (.t [],h')/\StrP D n k d (vwC (l_ D) n m f) (C8 k l s0 p d) L g rs (c+1) (s++[t]) h'/\∀ j∈rs,rd h' j=rd h j:=by
 obtain ⟨⟨p1,p2,p3⟩,nm⟩:=t;have hIl:(C8 k l s0 p d).length=11:=by simp [C8,C1,hd]
 obtain ⟨h1,e1⟩:=xEq (h++[rT (pS (A4 (p1,p2,p3)))]);have n1:h1.length=l_ h+1:=by rw [e1];simp
 have P1:StrP D n k d (vwC (l_ D) n m f) (C8 k l s0 p d) L g (l_ h::rs) c s h1:=e1 ▸ P.one _;have l4:D1 h1 4 (pV (l_ g) 0)=A4 (.a (vwC (l_ D) n m f)):=C7 P1.r0 rfl;have l11:D1 h1 11 (pV (l_ g+1) 0)=A4 (.a (C8 k l s0 p d)):=C7 P1.r1 hIl;have hL:=B05 (n:=n) (m:=m) (k:=k) (l:=l) (s:=s0) (p:=p) (nm:=nm) (h:=h1) hD hd (hv.since P1.low) (by dsimp only at ht;omega);have hl:=E1 P.r6;have keep:∀ (h':A9),(∀ j∈(l_ h)::rs,rd h' j=rd h1 j)->∀ j∈rs,rd h' j=rd h j:=by
  intro h' hk j hj;rw [hk j (E59 _ hj),e1,D3 (P.rs j hj).2]
 obtain ⟨o,eo⟩:=xEq (A8Z D n k d nm);rw [<-eo] at hL;obtain ⟨h2,e2⟩:=xEq (h1++[rT (pS o)]);have s3:F9 (h1++[rT [o0,o0,o0]]) 3 (pV h1.length 0) (.a (pS o))=A4 h2:=by
  rw [G9,e2];cases o<;>rfl
 have P2:StrP D n k d (vwC (l_ D) n m f) (C8 k l s0 p d) L g (l_ h::rs) c s h2:=e2 ▸ P1.more _;have q1:D1 h2 3 (pV h1.length 0)=A4 (.a (pS o)):=by rw [e2,G8];cases o<;>rfl
 have rp:rd h2 (l_ h)=rT (pS (A4 (p1,p2,p3))):=by rw [e2,e1];simp
 have q2:D1 h2 3 (pV (l_ h) 0)=A4 (.a (pS (A4 (p1,p2,p3)))):=C7 rp rfl;have k2:∀ j∈(l_ h)::rs,rd h2 j=rd h1 j:=λj hj=>by
  rw [e2,D3];rcases List.mem_cons.1 hj with rfl | hj
  ·omega
  ·have:=P.rs j hj;omega
 by_cases hn:isL D n k d ((p1,p2,p3),nm)=A5
 ·have ho:o=A4 (p1,p2,p3):=by
   have:=hn;unfold isL at this;rw [<-eo] at this;simpa using this
  subst ho;have mM:dO D n k d (s++[((p1,p2,p3),nm)])=dO D n k d s:=by rw [C23,if_pos hn];simp
  have ea:=D08 (neg:=A5) (p1,p2,p3) (p1,p2,p3);rw [decide_eq_true rfl] at ea;have P3:=P2.less;refine ⟨h2,A4i (n:=0) ?_,{ P3 with var:=by rw [mM];exact P3.var,len:=by have:=P.len;simp;omega },keep h2 k2⟩;rw [A30];generalize hV:vwC (l_ D) n m f=V at *;generalize hI:C8 k l s0 p d=I at *;simp only [eH,C6,<-e1,l4,l11,hL,xH,E6K,E6o,E6I,eZ,eY,s3,E6G,xK,Bool.not_true,D2q,q1,q2,ea,pJ,cond_true,cond_false,Y0];rfl
 ·have mM:dO D n k d (s++[((p1,p2,p3),nm)])=dO D n k d s++[(p1,p2,p3)]:=by rw [C23,if_neg hn]
  have h2l:h2.length=l_ h+2:=by rw [e2];simp;omega
  obtain ⟨x,v,h3,h4,a1,a2,a3,a4,a5,a6,a7⟩:=P2.var.push (ys:=pS (A4 (p1,p2,p3))) (by simp [RSs]) (by omega) (by omega) (by
   intro j hj;rcases List.mem_append.1 hj with hj | hj
   ·exact (P2.rs j hj).2
   ·simp only [RSs,E68,List.not_mem_nil,or_false] at hj;omega) (by have:=D5u (D:=D) (n:=n) (k:=k) (d:=d) (s:=s);have:=P.len;omega) rfl (by omega)
  have ef:F5 [o0,o0,o0] [(0,3,.a (pS (A4 (p1,p2,p3))))]=A4 (pS (A4 (p1,p2,p3))):=rfl;have mem:∀ j,j∈RSs (l_ g)->j≠(l_ g)+3->rd h4 j=rd h2 j:=λj hj aR=>a6 j (E6B _ hj) aR
  have fin:StrP D n k d (vwC (l_ D) n m f) (C8 k l s0 p d) L g rs (c+1) (s++[((p1,p2,p3),nm)]) h4:=by
   refine ⟨?_,?_,P2.low.trans a5,?_,?_,?_,?_,?_⟩
   ·rw [mM,D49,E58];exact a4.fewer λj hj=>by
     rcases List.mem_append.1 hj with hj | hj
     ·exact E6C _ (E59 _ hj)
     ·exact E6B _ hj
   ·have:=P.len;simp;omega
   ·rw [mem _ (by simp [RSs]) (by omega)];exact P2.r0
   ·rw [mem _ (by simp [RSs]) (by omega)];exact P2.r1
   ·rw [mem _ (by simp [RSs]) (by omega)];exact P2.r4
   ·rw [mem _ (by simp [RSs]) (by omega)];exact P2.r6
   ·intro j hj;have:=P.rs j hj;omega
  have kp:∀ j∈rs,rd h4 j=rd h j:=keep h4 λj hj=>by
   have hj9:l_ g+7<=j:=by
    rcases List.mem_cons.1 hj with rfl | hj
    ·omega
    ·exact (P.rs j hj).1
   rw [a6 j (E6C _ hj) (by omega),k2 j hj]
  refine ⟨h4,A4i (n:=0) ?_,fin,kp⟩;rw [A30];cases o with
  | none =>
   generalize hV:vwC (l_ D) n m f=V at *;generalize hI:C8 k l s0 p d=I at *;simp only [eH,C6,<-e1,l4,l11,hL,xH,E6K,E6o,E6I,eZ,eY,s3,E6Z,xK,Bool.not_false,D9y,E2A,pJ,cond_true,cond_false,W9,a1,q2,ef,a2,a3];rfl
  | some q =>
   have hq:q≠(p1,p2,p3):=by
    intro e;apply hn;unfold isL;rw [<-eo,e];simp
   have ea:=D08 (neg:=A5) q (p1,p2,p3);rw [decide_eq_false (by simpa using hq)] at ea;generalize hV:vwC (l_ D) n m f=V at *;generalize hI:C8 k l s0 p d=I at *;simp only [eH,C6,<-e1,l4,l11,hL,xH,E6K,E6o,E6I,eZ,eY,s3,E6G,xK,Bool.not_true,Bool.not_false,D2q,q1,q2,ea,pJ,cond_true,cond_false,W9,a1,ef,a2,a3];rfl
def C5Q{k s:Int}{d:List Int}(hD:okD D)(hd:l_ d=7)(hv:IsView h f D) :
  E33 h (rJ [.a (vwC (l_ D) n m f),.a (C8 k l s p d)] h) (B1p (dO D n k d (qV D n k d))) (dO D n k d (qV D n k d)).length 3:=by
 have key:∀ g,IsView g f D->∃ x g',rD 0 [.a (vwC (l_ D) n m f),.a (C8 k l s p d)] g=A4 (.c x,g')/\D8p g' x (B1p (dO D n k d (qV D n k d))) (dO D n k d (qV D n k d)).length 3 (l_ g) ([]++RSs (l_ g)):=by
  intro g hv;have hIl:(C8 k l s p d).length=11:=by simp [C8,C1,hd]
  have hbl:=A59 (D:=D) (n:=n) (k:=k) (d:=d);obtain ⟨V,hV⟩:=xEq (vwC (l_ D) n m f);obtain ⟨I,hI⟩:=xEq (C8 k l s p d);have hVl:l_ V=4:=by rw [hV];rfl
  have D9E:l_ I=11:=by rw [hI];exact hIl
  obtain ⟨G,hG⟩:=xEq (g++[rT V,rT I,rT [],rT [.ns]]);obtain ⟨G2,hG2⟩:=xEq (G++[rT V,rT I,rT (encI (S7 D n k d))]);have lG:l_ G=l_ g+4:=by rw [hG];simp
  have lG2:G2.length=l_ g+7:=by rw [hG2];simp [lG]
  have hB:=A2i (n:=n) (m:=m) (k:=k) (l:=l) (s:=s) (p:=p) (h:=G++[rT V,rT I]) hD hd (by rw [hG];exact (hv.more _).more _);rw [<-hV,<-hI] at hB;have hB2:(G++[rT V,rT I])++[rT (encI (S7 D n k d))]=G2:=by rw [hG2];simp
  rw [hB2] at hB;have lB:(G++[rT V,rT I]).length=l_ g+6:=by simp [lG]
  rw [lB] at hB;have emk:A3f 160 [pV (l_ g) 0,pV (l_ g+1) 0,pV (l_ g+3) 0]=A4 (.c (.f 160 [(l_ g,0),(l_ g+1,0),(l_ g+3,0)])):=rfl;have hcv:∀ (x y:Val) (h:A9),aD kI (.c (.f 160 [(l_ g,0),(l_ g+1,0),(l_ g+3,0)])) [x,y] h=sP [x,y,pV (l_ g) 0,pV (l_ g+1) 0,pV (l_ g+3) 0] h:=λ_ _ _=>Eq.trans rfl rfl
  have P0:StrP D n k d V I (S7 D n k d) g [] 0 [] G2:=by
   refine ⟨VarC.nil ?_,E56 _,?_,?_,?_,?_,?_,λj hj=>by simp at hj⟩
   ·rw [hG2,hG];simp
   ·rw [hG2,hG];exact ((Low.refl (E56 _)).new _).new _
   ·rw [hG2,hG];simp
   ·rw [hG2,hG];simp
   ·rw [hG2,<-lG];simp
   ·rw [hG2,show (l_ g)+6=l_ G+2 by omega];simp
  obtain ⟨h',f1,f2⟩:=B3a (σ:=List Tld) (L0:=λM x h=>xU 300 M (.c (.f 160 [(l_ g,0),(l_ g+1,0),(l_ g+3,0)])) (pV (l_ g+4) 0) (sV (l_ g+6) 0 (S7 D n k d).length 1) (iV ((S7 D n k d).length:Nat)) x h)
   (L1:=λM m2 x7 x14 x21 x22 x23 h=>xV 300 M m2 (.c (.f 160 [(l_ g,0),(l_ g+1,0),(l_ g+3,0)])) (pV (l_ g+4) 0) x7 (sV (l_ g+6) 0 (S7 D n k d).length 1) (iV ((S7 D n k d).length:Nat)) x14 x21 x22 x23 h)
   (C:=λx y h=>aD kI (.c (.f 160 [(l_ g,0),(l_ g+1,0),(l_ g+3,0)])) [x,y] h)
   (N:=300) (x3:=pV (l_ g+4) 0) (n:=n) (m:=m) (f:=f) (sid:=l_ g+6) (L:=S7 D n k d) hD (λrs c s h=>StrP D n k d V I (S7 D n k d) g rs c s h) (λs t=>s++[t]) (by omega)
   (λM x h=>by rw [A5g])
   (λM v9 x v w M2 y h=>by rw [A5h])
   (λrs c s h P=>⟨by rw [<-hV];exact C7 P.r4 hVl,hv.since P.low,P.r6⟩)
   (λrs c s h t P=>P.more t) (λrs c s h r P=>P.one r) (λi rs c s h P=>P.less) (λrs c c' s h P hc=>P.wide hc)
   (λrs c st h1 no x P hc Y3 hx=>by
    obtain ⟨h2,e1,e2,e3⟩:=E2m (t:=((no,x.1,x.2.2),x.2.1)) (n:=n) (m:=m) (k:=k) (l:=l) (s0:=s) (p:=p) (c:=c) hD hd hv (by omega) (by have:=B4W (A8Y hx).1;exact this) (by rw [<-hV,<-hI];exact P);rw [<-hV,<-hI] at e2;exact ⟨h2,by rw [hcv];exact e1,e2,e3⟩)
   (by omega) (S7 D n k d).length 0 300 [] [] G2 (by omega) (by omega) P0
  rw [E6i] at f2;have efold:∀ (L:List Tld) (s0:List Tld),L.foldl (λs t=>s++[t]) s0=s0++L:=by
   intro L
   induction L with
   | nil=>intro s0;simp
   | cons t L ih=>intro s0;rw [E64,ih];simp
  rw [efold,E6s] at f2;change StrP D n k d V I (S7 D n k d) g [] (7*(S7 D n k d).length) (qV D n k d) h' at f2;have hS:kN [.a V,.a I,.c (.f 160 [(l_ g,0),(l_ g+1,0),(l_ g+3,0)])] G=A4 (.t [],h'):=by
   refine A68 (n:=300) ?_;rw [A6M];have g4:D1 (G++[rT V,rT I]) 4 (pV (l_ G) 0)=A4 (.a V):=by rw [G8];exact K8 hVl
   have g11:D1 (G++[rT V,rT I]) 11 (pV (l_ G+1) 0)=A4 (.a I):=by rw [O7];exact K8 D9E
   simp only [eH,C6,E6d,E6Y,E6s,E58,E6g,E6E,E6j,g4,g11,hB,B0c];rw [lG];exact f1
  obtain ⟨x,hx,hdx⟩:=f2.var;refine ⟨x,h',?_,hdx⟩;have t1:B9 h' (pV (l_ g+3) 0)=A4 (.c x):=C4 hx rfl (by
   rcases hdx with ⟨_,_,rfl⟩ | ⟨id,rfl,_⟩<;>rfl)
  have g4:D1 G 4 (pV (l_ g) 0)=A4 (.a V):=by rw [hG,G8];exact K8 hVl
  have g11:D1 G 11 (pV (l_ g+1) 0)=A4 (.a I):=by rw [hG,O7];exact K8 D9E
  rw [C0d,<-hV,<-hI];simp only [eH,C6,E6d,E6Y,E6s,E58,E6g,E6E,E6j,Nat.reduceAdd,<-hG,g4,g11,emk,hS,t1]
 obtain ⟨x,g',e,hdx⟩:=key (ro h) hv.ro;rw [H6] at hdx;exact E1c (S:=rJ) (R:=rD) B8h B8i e hdx D48 D7W
def A44{n:Nat}(hn:n<=32):toX (mN d t n) i=if i<n then yN d t i else 0:=by
 unfold toX mN;rw [E54];by_cases c:i<n
 ·rw [if_pos c,E6H (by simpa using c),List.getElem?_map,List.getElem?_range c];rfl
 ·rw [if_neg c,E6r (by simp;omega)];unfold zI;rw [List.getElem?_replicate];split<;>rfl
def D2m{u:List Int}{n:Nat}(hn:n<=32)(h:∀ i,i<n->yN d t i=toX u i)(hu:u.length=32)(h0:∀ i,n<=i->toX u i=0):mN d t n=u:=by
 apply E7b;intro i;by_cases c:i<32
 ·have h1:=oE (d:=d) (t:=t) hn;rw [C4l (by omega),C4l (by omega),A44 hn];by_cases c2:i<n
  ·rw [if_pos c2,h i c2]
  ·rw [if_neg c2,h0 i (by omega)]
 ·have h1:=oE (d:=d) (t:=t) hn;rw [E6u (by omega),E6u (by omega)]
def A4u{n:Nat}{p b:Nat}:A8k n t p b=A5↔toX t p≠0/\∀ k,k<n->k%2 ^ b=p%2 ^ b->toX t k=toX t p:=by
 unfold A8k B0P Y4;simp only [E53,E6M,decide_eq_false_iff_not,E6X,List.mem_filter,List.mem_range,beq_iff_eq,decide_eq_true_eq];constructor
 ·rintro ⟨h1,h2⟩;exact ⟨h1,λk hk hm=>h2 k ⟨hk,hm⟩⟩
 ·rintro ⟨h1,h2⟩;exact ⟨h1,λk hk=>h2 k hk.1 hk.2⟩
def rQ{n:Nat}{t:List Int}{p:Nat}:∀ e b,b<=aC n t p b e/\aC n t p b e<=b+e/\(∀ c,b<=c->c<aC n t p b e->A8k n t p c=A6)/\(aC n t p b e<b+e->A8k n t p (aC n t p b e)=A5)
 | 0,b=>⟨E56 _,E56 _,λc h1 h2=>by unfold aC at h2;omega,λh=>by unfold aC at h;omega⟩
 | e+1,b=>by
  unfold aC;cases ca:A8k n t p b with
  | true=>exact ⟨E56 _,by rw [cond_true];omega,λc h1 h2=>by rw [cond_true] at h2;omega,λ_=>by rw [cond_true];exact ca⟩
  | false =>
   obtain ⟨h1,h2,h3,h4⟩:=rQ (n:=n) (t:=t) (p:=p) e (b+1);rw [cond_false];refine ⟨by omega,by omega,λc k1 k2=>?_,λk=>h4 (by omega)⟩;by_cases e1:c=b
   ·subst e1;exact ca
   ·exact h3 c (by omega) k2
def C3N{n:Nat}{p b:Nat}(h1:b<=x)(h2:x<=b+e)(h3:∀ c,b<=c->c<x->A8k n t p c=A6)(h4:x<b+e->A8k n t p x=A5):aC n t p b e=x:=by
 obtain ⟨k1,k2,k3,k4⟩:=rQ (n:=n) (t:=t) (p:=p) e b;rcases Nat.lt_trichotomy (aC n t p b e) x with h | h | h
 ·have:=h3 _ k1 h;rw [k4 (by omega)] at this;cases this
 ·exact h
 ·have:=k3 x h1 h;rw [h4 (by omega)] at this;cases this
def B8K{p:Nat}:X8 d t p<=eR d:=by
 have:=(rQ (n:=C5 d) (t:=t) (p:=p) (eR d) 0).2.1;unfold X8;omega
def B24{p:Nat}(h:c<X8 d t p):A8k (C5 d) t p c=A6:=(rQ (n:=C5 d) (t:=t) (p:=p) (eR d) 0).2.2.1 c (Nat.zero_le _) h
def B4x{p:Nat}(h:X8 d t p<eR d):A8k (C5 d) t p (X8 d t p)=A5:=(rQ (n:=C5 d) (t:=t) (p:=p) (eR d) 0).2.2.2 (by unfold X8 at h;omega)
def B8L{p:Nat}(h2:x<=eR d)(h3:∀ c,c<x->A8k (C5 d) t p c=A6)(h4:x<eR d->A8k (C5 d) t p x=A5):X8 d t p=x :=
 C3N (Nat.zero_le _) (by omega) (λc _=>h3 c) (λh=>h4 (by omega))
def C5G{p:Nat}(hp:p<C5 d)(hk:k<C5 d)(hm:k%2 ^ X8 d t p=p%2 ^ X8 d t p):toX t k=toX t p:=by
 by_cases c:X8 d t p<eR d
 ·exact (A4u.1 (B4x c)).2 k hk hm
 ·have e:X8 d t p=eR d:=by have:=B8K (d:=d) (t:=t) (p:=p);omega
  rw [e] at hm;unfold C5 at hp hk;rw [Nat.mod_eq_of_lt hp,Nat.mod_eq_of_lt hk] at hm;rw [hm]
def C6D{a b:Nat}(h:c<=x)(hm:a%2 ^ x=b%2 ^ x):a%2 ^ c=b%2 ^ c:=by
 have hd:2 ^ c ∣ 2 ^ x:=Nat.pow_dvd_pow 2 h;rw [<-Nat.mod_mod_of_dvd a hd,<-Nat.mod_mod_of_dvd b hd,hm]
def D1D{n:Nat}{p:Nat}(hs:toX t k=toX t p)(hm:k%2 ^ c=p%2 ^ c):A8k n t k c=A8k n t p c:=by
 rw [Bool.eq_iff_iff,A4u,A4u,hs,hm]
def D1P{p:Nat}(hp:p<C5 d)(hk:k<C5 d)(hm:k%2 ^ X8 d t p=p%2 ^ X8 d t p):X8 d t k=X8 d t p:=by
 have hs:=C5G hp hk hm;refine B8L B8K (λc hc=>?_) (λh=>?_)
 ·rw [D1D hs (C6D (by omega) hm)];exact B24 hc
 ·rw [D1D hs hm];exact B4x h
def D5Z{α:Type}{p r:α -> Bool}:∀ {l:List α},(∀ x∈l,p x=A5->r x=A5)->(l.filter p).length<=(l.filter r).length
 | [],_=>by simp
 | y::l,h=>by
  have h1:=D5Z (l:=l) λx hx=>h x (E59 _ hx)
  have h2:=h y (E6e ..);simp only [List.filter_cons];cases hy:p y with
  | true=>rw [h2 hy];simpa using h1
  | false=>cases r y<;>simp<;>omega
def D5Y{α:Type}{p r:α -> Bool}:∀ {l:List α},(∀ x∈l,p x=A5->r x=A5)->(l.filter p).length=(l.filter r).length->∀ x∈l,r x=p x
 | [],_,_,x,hx=>by cases hx
 | y::l,h,he,x,hx=>by
  have h':∀ x∈l,p x=A5->r x=A5:=λx hx=>h x (E59 _ hx)
  have h1:=D5Z h';have h2:=h y (E6e ..);simp only [List.filter_cons] at he;have key:r y=p y/\(l.filter p).length=(l.filter r).length:=by
   cases hy:p y with
   | true =>
    rw [h2 hy];rw [hy,h2 hy] at he;exact ⟨rfl,by simpa using he⟩
   | false =>
    rw [hy] at he;cases hr:r y with
    | true=>rw [hr] at he;simp at he;omega
    | false=>rw [hr] at he;exact ⟨rfl,by simpa using he⟩
  rcases List.mem_cons.1 hx with e | hx
  ·subst e;exact key.1
  ·exact D5Y h' key.2 x hx
def A0K{p:Nat}(hp:p<C5 d):B6n d t p=A5↔∀ k,k<C5 d->toX t k=toX t p->k%2 ^ X8 d t p=p%2 ^ X8 d t p:=by
 unfold B6n;rw [decide_eq_true_eq];unfold Y4 xT;constructor
 ·intro he k hk hs;have:=D5Y (p:=λk=>k%2 ^ X8 d t p==p%2 ^ X8 d t p) (r:=λk=>decide (toX t k=toX t p)) (l:=E6z (C5 d)) (λx hx h=>by
   rw [decide_eq_true_eq];exact C5G hp (List.mem_range.1 hx) (by simpa using h)) he k (List.mem_range.2 hk)
  rw [decide_eq_true hs] at this;simpa using this.symm
 ·intro h
  congr 1
  refine List.filter_congr λk hk=>?_
  have hk:=List.mem_range.1 hk;rw [Bool.eq_iff_iff,decide_eq_true_eq,beq_iff_eq];exact ⟨λhm=>C5G hp hk hm,λhs=>h k hk hs⟩
def fQ:A0w t i=A5↔∀ k,k<i->toX t k≠toX t i:=by
 unfold A0w;simp only [E6X,List.mem_range,E6M,decide_eq_false_iff_not]
def A0A:yA d t i=A5↔toX t i≠0/\B7f (toX t i)=A5/\(A0w t i=A5\/B6n d t i=A5):=by
 unfold yA;simp only [E53,E6M,decide_eq_false_iff_not,Bool.or_eq_true]
def D4P(hi:i<C5 d)(hk:yA d t i=A5):yA d (mN d t (C5 d)) i=A5:=by
 have hm:=T2 d;have hg:∀ k,toX (mN d t (C5 d)) k=if k<C5 d then yN d t k else 0:=λk=>A44 hm
 have hgi:toX (mN d t (C5 d)) i=toX t i:=by rw [hg,if_pos hi];unfold yN;rw [hk];rfl
 obtain ⟨h1,h2,h3⟩:=A0A.1 hk;have A5i:∀ k,toX (mN d t (C5 d)) k=toX t i->k<C5 d/\toX t k=toX t i:=by
  intro k he;rw [hg] at he;by_cases c:k<C5 d
  ·rw [if_pos c] at he;unfold yN at he;cases ck:yA d t k with
   | true=>rw [ck] at he;exact ⟨c,he⟩
   | false=>rw [ck] at he;exact absurd he.symm h1
  ·rw [if_neg c] at he;exact absurd he.symm h1
 rw [A0A,hgi];refine ⟨h1,h2,?_⟩;rcases h3 with h3 | h3
 ·left
  rw [fQ,hgi];intro k hki he;exact fQ.1 h3 k hki (A5i k he).2
 ·right
  have hw:=(A0K hi).1 h3;have hsame:∀ k,k<C5 d->(toX (mN d t (C5 d)) k=toX t i↔toX t k=toX t i):=by
   intro k hkm;refine ⟨λhe=>(A5i k he).2,λhe=>?_⟩;have oG:=hw k hkm he;have hb:=D1P hi hkm oG;have:yA d t k=A5:=by
    rw [A0A,he];refine ⟨h1,h2,.inr ((A0K hkm).2 λj hj hs=>?_)⟩;rw [hb,oG];exact hw j hj (hs.trans he)
   rw [hg,if_pos hkm];unfold yN;rw [this];exact he
  have jP:∀ c,A8k (C5 d) (mN d t (C5 d)) i c=A8k (C5 d) t i c:=by
   intro c;rw [Bool.eq_iff_iff,A4u,A4u,hgi];exact ⟨λh=>⟨h.1,λk k1 k2=>(hsame k k1).1 (h.2 k k1 k2)⟩,λh=>⟨h.1,λk k1 k2=>(hsame k k1).2 (h.2 k k1 k2)⟩⟩
  have hb:X8 d (mN d t (C5 d)) i=X8 d t i :=
   B8L B8K (λc hc=>by rw [jP];exact B24 hc) (λh=>by rw [jP];exact B4x h)
  rw [A0K hi,hb,hgi];intro k hkm he;exact hw k hkm ((hsame k hkm).1 he)
def D7d(h:0<=d/\d<=5):A8J d (mN d t (C5 d))=d::mN d t (C5 d):=by
 have hm:=T2 d;unfold A8J;rw [if_pos h]
 congr 1
 refine D2m hm (λi hi=>?_) (oE hm) (λi hi=>by rw [A44 hm,if_neg (by omega)]);cases ck:yA d t i with
 | true =>
  have:=D4P hi ck;unfold yN;rw [this];rfl
 | false =>
  have e:toX (mN d t (C5 d)) i=0:=by rw [A44 hm,if_pos hi];unfold yN;rw [ck];rfl
  unfold yN yA;rw [e];rfl
def D7e(d:Int)(t:List Int):∃ e u,A8J d t=e::u/\u.length=32/\A8J e u=e::u/\0<=e/\e<=5/\∀ i,toX u i=0\/toX u i=toX t i:=by
 have hm:=T2 d;by_cases h:0<=d/\d<=5
 ·refine ⟨d,mN d t (C5 d),by unfold A8J;rw [if_pos h],oE hm,D7d h,h.1,h.2,λi=>?_⟩;rw [A44 hm];by_cases c:i<C5 d
  ·rw [if_pos c];unfold yN;cases yA d t i
   ·exact .inl rfl
   ·exact .inr rfl
  ·rw [if_neg c];exact .inl rfl
 ·refine ⟨0,zI 32,by unfold A8J;rw [if_neg h],N2,by decide +kernel,by omega,by omega,λi=>.inl ?_⟩;unfold toX zI;rw [E54,List.getElem?_replicate];split<;>rfl
def C20(h0:0<=d)(h5:d<=5)(h:A8J d t=d::t):A0F d t=A5:=by
 unfold A0F;rw [decide_eq_true h0,decide_eq_true h5,decide_eq_true h];rfl
def C9D:A0F d t=A5↔0<=d/\d<=5/\A8J d t=d::t:=by
 unfold A0F;simp only [E53,decide_eq_true_eq]
def B9p{t:List Int}{x:Int}(hx:x≠0):∀ k,x∈J4 t k↔∃ j,j<k/\toX t j=x
 | 0=>by simp [J4]
 | k+1=>by
  rw [B4y,List.mem_append,B9p hx k];constructor
  ·rintro (⟨j,h1,h2⟩ | h)
   ·exact ⟨j,by omega,h2⟩
   ·split at h
    ·simp at h;exact ⟨k,by omega,h.symm⟩
    ·cases h
  ·rintro ⟨j,h1,h2⟩;by_cases c:∃ j,j<k/\toX t j=x
   ·exact .inl c
   ·right
    have:j=k:=by
     by_cases e:j=k
     ·exact e
     ·exact absurd ⟨j,by omega,h2⟩ c
    subst this;have hb:xM t j=A5:=by
     unfold xM;rw [E53];refine ⟨by rw [h2];simp [hx],?_⟩;rw [fQ];intro k hk he;exact c ⟨k,hk,he.trans h2⟩
    rw [if_pos hb,h2];simp
def E1I(h:toX t i≠0):decide (toX t i∈J4 t i) = !A0w t i:=by
 cases c:A0w t i with
 | true =>
  rw [Bool.not_true,decide_eq_false];rw [B9p h];rintro ⟨j,h1,h2⟩;exact fQ.1 c j h1 h2
 | false =>
  rw [Bool.not_false,decide_eq_true];rw [B9p h]
  false_or_by_contra
  rename_i hn;have:A0w t i=A5:=fQ.2 λk hk he=>hn ⟨k,hk,he⟩
  rw [c] at this;cases this
def bK(at':Int->Int):Nat->Nat->List (Nat × Int)
 | 0,_=>[]
 | e+1,j=>if at' j=0 then bK at' e (j+1) else (j,at' j)::bK at' e (j+1)
def B0j(at':Int->Int):∀ e j,(bK at' e j).length<=e
 | 0,j=>by simp [bK]
 | e+1,j=>by
  have:=B0j at' e (j+1);unfold bK;split<;>simp<;>omega
def A8F{at':Int->Int}:∀ (e j:Nat) (p:Nat × Int),p∈bK at' e j->j<=p.1/\p.1<j+e/\p.2=at' p.1/\p.2≠0
 | 0,j,p,h=>by simp [bK] at h
 | e+1,j,p,h=>by
  rw [bK] at h;by_cases c:at' (j:Int)=0
  ·rw [if_pos c] at h;have:=A8F e (j+1) p h;omega
  ·rw [if_neg c] at h;rcases List.mem_cons.1 h with rfl | h
   ·exact ⟨E56 _,by dsimp only;omega,rfl,c⟩
   ·have:=A8F e (j+1) p h;omega
def C5S{σ:Type}{L:Nat->Val->A9->yK}{C:Val->Val->A9->yK}{x3 x4:Val}{D:Dev}{n m k l s p:Int}{d:List Int}{f:Cell}(hD:okD D)(hd:l_ d=7)(P:Nat -> σ -> A9->Prop)(step:σ -> Nat × Int -> σ)
  (hL:∀ m x h,L (m+1) x h=bnd (N5 .lss x (iV 134)) λv3=>cnd v3 (bnd (D1 h 4 x3) λv4=>bnd (D1 h 11 x4) λv5=>bnd (A74 [v4,v5,x] h) λp6=>bnd (N5 .neq p6.1 (iV 0)) λv7=>cnd v7 (bnd (C x p6.1 p6.2) λp8=>bnd (N5 .add x (iV 1)) λv9=>L m v9 p8.2) (bnd (N5 .add x (iV 1)) λv9=>L m v9 p6.2)) (C1Y [] h))
  (hM:∀ j s' h,P j s' h->P (j+1) s' h)
  (hI:∀ j s' h,P j s' h->D1 h 4 x3=A4 (.a (vwC (l_ D) n m f))/\D1 h 11 x4=A4 (.a (C8 k l s p d))/\IsView h f D)
  (hC:∀ j s' h no,P j s' h->j<134->no≠0->no=atF D n k d (j:Nat)->∃ h',C (iV ((j:Nat):Int)) (iV no) h=A4 (.t [],h')/\P (j+1) (step s' (j,no)) h') :
  ∀ (e j M:Nat) (s':σ) (h:A9),j+e=134->e<M->P j s' h->∃ h',L M (iV (j:Int)) h=A4 (.t [],h')/\P 134 ((bK (atF D n k d) e j).foldl step s') h'
 | e,j,0,s',h,_,hm,_=>by omega
 | 0,j,M+1,s',h,hj,hm,hP=>by
  have c0:¬ (j:Int)<134:=by omega
  have e0:j=134:=by omega
  refine ⟨h,?_,e0 ▸ hP⟩;rw [hL];simp only [C6,G3,c0,decide_false,Y0];rfl
 | e+1,j,M+1,s',h,hj,hm,hP=>by
  have c0:(j:Int)<134:=by omega
  obtain ⟨i1,i2,i3⟩:=hI j s' h hP;have hA:=C56 (n:=n) (m:=m) (k:=k) (l:=l) (s:=s) (p:=p) (j:=(j:Int)) hD hd i3;have w1:=D9 (a:=j) (by omega);rw [hL,bK];by_cases c:atF D n k d j=0
  ·obtain ⟨h',f1,f2⟩:=C5S hD hd P step hL hM hI hC e (j+1) M s' h (by omega) (by omega) (hM _ _ _ hP);rw [if_pos c];refine ⟨h',?_,f2⟩;simp only [C6,G3,c0,decide_true,W9,i1,i2,hA,c,B22,ne_eq,eq_self,not_true_eq_false,decide_false,Y0,L7,w1];exact f1
  ·obtain ⟨h1,g1,g2⟩:=hC j s' h (atF D n k d j) hP (by omega) c rfl;obtain ⟨h',f1,f2⟩:=C5S hD hd P step hL hM hI hC e (j+1) M (step s' (j,atF D n k d j)) h1 (by omega) (by omega) g2;rw [if_neg c];refine ⟨h',?_,f2⟩;simp only [C6,G3,c0,decide_true,W9,i1,i2,hA,c,B22,ne_eq,not_false_eq_true,g1,L7,w1];exact f1
def E2O(h:A9)(o:yK)(l:List Int):Prop:=∃ v t,o=A4 (v,h++t)/\Has (h++t) v 1 (l_ l) (encI l)/\(t=[]/\v=.c .ns/\l=[]\/t=[rT (encI l)]/\v=sV (l_ h) 0 (l_ l) 1)
def E1d{S:Fun}{R:Nat->Fun}{args:List Val}{g':A9}{N:Nat}{x:Cell}{l:List Int}
  (hlow:∀ {n:Nat} {args:List Val} {h h2:A9} {v:Val},R n args (ro h)=A4 (v,h2)->v.low (l_ h)=A5->S args h=A4 (v,h))
  (hout:∀ {n:Nat} {args:List Val} {h h2:A9} {v:Val} {sz k:Nat} {cs:List Cell},R n args (ro h)=A4 (v,h2)->Out (l_ h) h2 v sz k cs->N8 cs=A5->S args h=A4 (sV (l_ h) 0 k sz,h++[rT cs]))
  (he:R N args (ro h)=A4 (.c x,g')) (hd:C8t g' x l (l_ h) rs):E2O h (S args h) l:=by
 rcases hd with ⟨hl,rfl⟩ | ⟨id,rfl,hr,hbi,_⟩
 ·refine ⟨.c .ns,[],?_,?_,.inl ⟨rfl,rfl,hl⟩⟩
  ·rw [E6k];exact hlow he (by simp [Val.low,Cell.low,Cell.flat])
  ·rw [hl];exact .inl ⟨rfl,rfl,rfl⟩
 ·exact ⟨sV (l_ h) 0 (l_ l) 1,[rT (encI l)],hout he ⟨by rw [C1,E69],id,rfl,hbi,hr⟩ (by simp),Has.row (rw:=A5) (by simp) (by rw [C1,E69]) (A4U _),.inr ⟨rfl,rfl⟩⟩
def T5(s:Int):Int:=if s<1 then 0 else if 34304<s then 134 else (s+255)/256
end Go.Proofs.YtbipebfdappanaaGreat
