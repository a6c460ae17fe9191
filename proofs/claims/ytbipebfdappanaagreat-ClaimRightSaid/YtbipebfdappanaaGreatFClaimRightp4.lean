/- What the proof of this claim leans on, part 4. -/
import Derived.Test.YtbipebfdappanaaGreatFClaimRightp3
set_option linter.all false
set_option maxRecDepth 100000
open Go Go.Esc
noncomputable section
open List renaming length→l_,all_cons→E62,all_eq_true→E6X,append_assoc→E6d,append_nil→E6k,cons_append→E6Y,drop_drop→E7e,drop_eq_getElem_cons→E6b,drop_of_length_le→E6f,drop_zero→E6i,ext_getElem?→E7b,filter_append→E66,filter_cons_of_neg→E6V,filter_cons_of_pos→E6W,flatten_cons→E65,foldl_cons→E64,getD_eq_getElem?_getD→E54,getElem?_append_left→E6H,getElem?_append_right→E6r,getElem?_cons_succ→E6o,getElem?_cons_zero→E6K,getElem?_eq_getElem→E51,getElem?_eq_none→E6u,getElem?_set→E63,getElem?_set_ne→E60,getElem?_take_of_lt→E6L,getElem_mem→E6w,length_append→E58,length_cons→E6g,length_filter_le→E6R,length_nil→E6E,length_replicate→E6y,length_set→E6F,length_take→E6A,map_append→E6Q,map_cons→E6N,mem_cons→E68,mem_cons_of_mem→E59,mem_cons_self→E6e,mem_of_getElem?→E6n,nil_append→E6s,prefix_refl→E6T,range→E6z,range'→E6v,replicate→E55,replicate_succ→E6D,set_append_right→E6O,set_cons_zero→E7c,take_of_length_le→E6l,take_succ_eq_append_getElem→E6x,take_zero→E6S
open Bool renaming and_eq_true→E53,false_and→E6p,not_eq_true'→E6M,true_and→E6t,false→A6,true→A5
open Int renaming cast_ofNat_Int→E7d,eq_ofNat_of_zero_le→E61,toNat_natCast→E6q
open IntKind renaming wrap→E6a
open Nat renaming add_mul→E7f,add_zero→E7a,le_refl→E56,le_trans→E6J,mul_one→E69,sub_self→E67,zero_add→E6j
open Option renaming bind_some→E6h,isSome_none→E6Z,isSome_some→E6G,map_eq_some_iff→E6m,map_some→E6I,none→A7,some→A4
open Option.some renaming injEq→E57
open Prod.mk renaming injEq→E6c
open Go.Proofs.Tryz renaming prog→A8
namespace Go.Proofs.YtbipebfdappanaaGreat
variable {h h' g:A9}{D:Dev}{n k a m s l p no many:Int}{d R t L:List Int}{cs V:List Cell}{f x y:Cell}{b:List UInt8}{i sz r j off mid:Nat}{v:Val}{es:V3}
def A42(D:Dev)(n k:Int)(d:List Int)(told:Bool)(ls:List Int):List Int:=if told=A6/\k=1/\G5 (l_ D) n (d.getD 6 0)=A5 then ls++[d.getD 6 0] else ls
def D5A{l:List Int}:A42 D n k d A5 l=l:=by
 unfold A42;rw [if_neg (by simp)]
def A2G(D:Dev)(n k:Int)(d:List Int)(s:Bool × List Int)(q:Nat × Int):Bool × List Int:=if 6<=q.1 then (A5,A42 D n k d s.1 s.2++[q.2]) else (s.1,s.2++[q.2])
def qI(D:Dev)(n k:Int)(d:List Int):List Int :=
 if k=2 then (if Z0 D n k d then [d.getD 0 0] else [])++S7 D n k d
 else (bK (atF D n k d) 6 0).map (·.2)++(if k=1/\G5 (l_ D) n (d.getD 6 0)=A5 then [d.getD 6 0] else [])++(bK (atF D n k d) 128 6).map (·.2)
def C2G(at':Int->Int):∀ (a b j:Nat),bK at' (a+b) j=bK at' a j++bK at' b (j+a)
 | 0,b,j=>by rw [E6j];rfl
 | a+1,b,j=>by
  rw [show a+1+b=(a+b)+1 by omega,bK,bK,C2G at' a b (j+1),show j+1+a=j+(a+1) by omega];split<;>rfl
def C9b{D:Dev}{n k:Int}{d:List Int}:∀ (L:List (Nat × Int)) (t:Bool) (ls:List Int),(∀ q∈L,q.1<6)->L.foldl (A2G D n k d) (t,ls)=(t,ls++L.map (·.2))
 | [],t,ls,_=>by simp
 | q::L,t,ls,h=>by
  have hq:=h q (E6e ..);rw [E64];unfold A2G;rw [if_neg (by omega)];have:=C9b (D:=D) (n:=n) (k:=k) (d:=d) L t (ls++[q.2]) (λx hx=>h x (E59 _ hx));unfold A2G at this;rw [this];simp
def C58{D:Dev}{n k:Int}{d:List Int}:∀ (L:List (Nat × Int)) (ls:List Int),(∀ q∈L,6<=q.1)->L.foldl (A2G D n k d) (A5,ls)=(A5,ls++L.map (·.2))
 | [],ls,_=>by simp
 | q::L,ls,h=>by
  have hq:=h q (E6e ..);have e:A2G D n k d (A5,ls) q=(A5,ls++[q.2]):=by
   unfold A2G A42;rw [if_pos hq,if_neg (by simp)]
  rw [E64,e,C58 L (ls++[q.2]) (λx hx=>h x (E59 _ hx))];simp
def D7f(h2:k≠2):let r:=(bK (atF D n k d) 134 0).foldl (A2G D n k d) (A6,[]);A42 D n k d r.1 r.2=qI D n k d:=by
 intro r;have e1:bK (atF D n k d) 134 0=bK (atF D n k d) 6 0++bK (atF D n k d) 128 6:=C2G _ 6 128 0;have hl:∀ q∈bK (atF D n k d) 6 0,q.1<6:=λq hq=>by have:=A8F 6 0 q hq;omega
 have hh:∀ q∈bK (atF D n k d) 128 6,6<=q.1:=λq hq=>(A8F 128 6 q hq).1
 have er:r=(bK (atF D n k d) 128 6).foldl (A2G D n k d) (A6,(bK (atF D n k d) 6 0).map (·.2)):=by
  show (bK (atF D n k d) 134 0).foldl (A2G D n k d) (A6,[])=_;rw [e1,List.foldl_append,C9b _ _ _ hl,E6s]
 unfold qI;rw [if_neg h2,er];generalize (bK (atF D n k d) 6 0).map (·.2)=A;cases hB:bK (atF D n k d) 128 6 with
 | nil =>
  simp only [List.foldl_nil,List.map_nil,E6k];unfold A42;by_cases c:k=1/\G5 (l_ D) n (d.getD 6 0)=A5
  ·rw [if_pos ⟨rfl,c⟩,if_pos c]
  ·rw [if_neg (λh=>c h.2),if_neg c,E6k]
 | cons q L =>
  rw [hB] at hh;have hq:=hh q (E6e ..);have e2:A2G D n k d (A6,A) q=(A5,A42 D n k d A6 A++[q.2]):=by unfold A2G;rw [if_pos hq]
  rw [E64,e2,C58 L _ (λx hx=>hh x (E59 _ hx))];show A42 D n k d A5 _=_;rw [D5A];have e4:A42 D n k d A6 A=A++(if k=1/\G5 (l_ D) n (d.getD 6 0)=A5 then [d.getD 6 0] else []):=by
   unfold A42;by_cases c:k=1/\G5 (l_ D) n (d.getD 6 0)=A5
   ·rw [if_pos ⟨rfl,c⟩,if_pos c]
   ·rw [if_neg (λh=>c h.2),if_neg c,E6k]
  rw [e4];simp
def RS(b:Nat):List Nat:=[b+3,b+4,b+5,b,b+1,b+6,b+7]
def fO(b:Nat):Cell:=.f 162 [(b+4,0),(b+1,0),(b,0),(b+3,0)]
structure OwnP(g h:A9)(V I:List Cell)(told:Bool)(ls:List Int):Prop where
 var:VarI h (l_ g+3) ls (l_ g) (RS (l_ g))
 low:Low (l_ g) g h
 len:l_ g+8<=(l_ h)
 t:rd h (l_ g+4)=rT [.b told]
 f:rd h (l_ g+5)=rT [fO (l_ g)]
 v:rd h (l_ g)=rT V
 i:rd h (l_ g+1)=rT I
 v2:rd h (l_ g+6)=rT V
 i2:rd h (l_ g+7)=rT I
def OwnP.push{g h:A9}{V I:List Cell}{told:Bool}{ls:List Int}(P:OwnP g h V I told ls)(hl:ls.length<=1000)(n:Int) :
  ∃ x v h2 h3,B9 h (pV (l_ g+3) 0)=A4 (.c x)/\tJ (h++[rT [cI n]]) 1 (.c x) (sV (l_ h) 0 1 1)=A4 (.c v,h2)/\I8 h2 (pV (l_ g+3) 0) (.c v)=A4 h3/\OwnP g h3 V I told (ls++[n]):=by
 have hlen:=P.len;have hm:∀ j∈RS (l_ g),j<(l_ h):=by intro j hj;simp only [RS,E68,List.not_mem_nil,or_false] at hj;omega
 obtain ⟨x,v,h2,h3,a1,a2,a3,a4,a5,a6,a7⟩:=P.var.push (by simp [RS]) (by omega) (by omega) hm (by omega) n;exact ⟨x,v,h2,h3,a1,a2,a3,a4,P.low.trans a5,by omega,by rw [a6 _ (by simp [RS]) (by omega)];exact P.t,by rw [a6 _ (by simp [RS]) (by omega)];exact P.f,by rw [a6 _ (by simp [RS]) (by omega)];exact P.v,by rw [a6 _ (by simp [RS]) (by omega)];exact P.i,by rw [a6 _ (by simp [RS]) (by omega)];exact P.v2,by rw [a6 _ (by simp [RS]) (by omega)];exact P.i2⟩
def OwnP.tell{I:List Cell}{told:Bool}{ls:List Int}(P:OwnP g h V I told ls):I8 h (pV (l_ g+4) 0) (bV A5)=A4 (h.set (l_ g+4) (rT [.b A5]))/\OwnP g (h.set (l_ g+4) (rT [.b A5])) V I A5 ls:=by
 have hlen:=P.len;refine ⟨I9 P.t (by simp),P.var.keep (by rw [B8 (by omega)]) (λid hid x hx=>by rw [B8 (λe=>hid (by rw [<-e];simp [RS]))];exact hx),P.low.set (by omega) _,by simpa using hlen,D6 (by omega),by rw [B8 (by omega)];exact P.f,by rw [B8 (by omega)];exact P.v,by rw [B8 (by omega)];exact P.i,by rw [B8 (by omega)];exact P.v2,by rw [B8 (by omega)];exact P.i2⟩
def D28{told:Bool}{ls:List Int}(hd:l_ d=7)(P:OwnP g h (vwC (l_ D) n m f) (C8 k l s p d) told ls)(hl:ls.length<=1000) :
  ∃ h',kB [pV (l_ g+4) 0,pV (l_ g+1) 0,pV (l_ g) 0,pV (l_ g+3) 0] h=A4 (.t [],h')/\OwnP g h' (vwC (l_ D) n m f) (C8 k l s p d) A5 (A42 D n k d told ls):=by
 have t1:B9 h (pV (l_ g+4) 0)=A4 (bV told):=C4 P.t rfl rfl;have fa0:∀ q,T8 (pV q 0) 0=A4 (pV q 0):=λq=>rfl
 have fa10:∀ q,T8 (pV q 0) 10=A4 (pV q 10):=λq=>by simp [T8]
 have i0:B9 h (pV (l_ g+1) 0)=A4 (iV k):=C4 P.i rfl rfl;have i10:B9 h (pV (l_ g+1) 10)=A4 (iV (d.getD 6 0)):=by
  refine C4 P.i ?_ rfl;have:(C8 k l s p d)[10]?=(encI d)[6]? := rfl;rw [this,G6,E51 (by omega),E54,E51 (by omega)];rfl
 have l3:D1 h 3 (pV (l_ g) 0)=A4 (.a (K9 (l_ D) n m)):=by rw [T1 P.v (by simp [vwC]) rfl];rfl
 have hI:=X3 (b:=l_ D) (n:=n) (m:=m) (i:=d.getD 6 0) (h:=h);have hj:∀ h1,I8 h (pV (l_ g+4) 0) (bV A5)=A4 h1->A4L 0 (pV (l_ g+4) 0) h=A4 (.t [],h1):=λh1 e=>by rw [A6f];simp only [C6,e];rfl
 unfold A42;cases told with
 | true =>
  obtain ⟨b1,b2⟩:=P.tell;refine ⟨_,pG (n:=0) ?_,by rw [if_neg (by simp)];exact b2⟩;rw [pC];simp only [esc,t1,hj _ b1]
 | false =>
  by_cases c1:k=1
  ·cases c2:G5 (l_ D) n (d.getD 6 0) with
   | false =>
    rw [c2] at hI;obtain ⟨b1,b2⟩:=P.tell;refine ⟨_,pG (n:=0) ?_,by rw [if_neg (by simp)];exact b2⟩;rw [pC];simp only [C6,t1,xK,Bool.not_false,C9d,fa0,fa10,i0,gH,c1,eq_self,decide_true,pJ,cond_true,l3,i10,hI,Y0,hj _ b1]
   | true =>
    rw [c2] at hI;obtain ⟨x,v,h2,h3,a1,a2,a3,a4⟩:=P.push hl (d.getD 6 0);obtain ⟨b1,b2⟩:=a4.tell;have ef:F5 [o0] [(0,1,iV (d.getD 6 0))]=A4 [cI (d.getD 6 0)]:=rfl;have hj3:A4L 0 (pV (l_ g+4) 0) h3=A4 (.t [],h3.set (l_ g+4) (rT [.b A5])):=by rw [A6f];simp only [C6,b1];rfl
    refine ⟨_,pG (n:=0) ?_,by rw [if_pos ⟨rfl,c1,rfl⟩];exact b2⟩;rw [pC];simp only [C6,t1,xK,Bool.not_false,C9d,fa0,fa10,i0,gH,c1,eq_self,decide_true,pJ,cond_true,l3,i10,hI,W9,a1,ef,a2,a3,hj3]
  ·obtain ⟨b1,b2⟩:=P.tell;refine ⟨_,pG (n:=0) ?_,by rw [if_neg (by simp [c1])];exact b2⟩;rw [pC];simp only [C6,t1,xK,Bool.not_false,C9d,D9x,fa0,fa10,i0,gH,c1,eq_self,decide_false,pJ,cond_true,cond_false,Y0,hj _ b1]
def E0f{st:Bool × List Int}(hd:l_ d=7)(P:OwnP g h (vwC (l_ D) n m f) (C8 k l s p d) st.1 st.2)(hl:st.2.length<=900) :
  ∃ h',dA [iV (j:Int),iV no,pV (l_ g+5) 0,pV (l_ g+3) 0] h=A4 (.t [],h')/\OwnP g h' (vwC (l_ D) n m f) (C8 k l s p d) (A2G D n k d st (j,no)).1 (A2G D n k d st (j,no)).2:=by
 have ef:F5 [o0] [(0,1,iV no)]=A4 [cI no]:=rfl;have f1:B9 h (pV (l_ g+5) 0)=A4 (.c (fO (l_ g))):=C4 P.f rfl rfl;have hcv:∀ h:A9,aD yT (.c (fO (l_ g))) [] h=kB [pV (l_ g+4) 0,pV (l_ g+1) 0,pV (l_ g) 0,pV (l_ g+3) 0] h:=λ_=>Eq.trans rfl rfl
 unfold A2G;by_cases c:6<=j
 ·rw [if_pos c];obtain ⟨h1,g1,g2⟩:=D28 hd P (by omega);have W5:(A42 D n k d st.1 st.2).length<=1000:=by
   unfold A42;split
   ·simp;omega
   ·omega
  obtain ⟨x,v,h2,h3,a1,a2,a3,a4⟩:=g2.push W5 no;refine ⟨h3,rM (n:=0) ?_,a4⟩;rw [rE];have c1:(6:Int)<=(j:Int):=by omega
  simp only [C6,C49,c1,decide_true,W9,f1,hcv,g1,qH,a1,ef,a2,a3];rfl
 ·rw [if_neg c];obtain ⟨x,v,h2,h3,a1,a2,a3,a4⟩:=P.push (by omega) no;refine ⟨h3,rM (n:=0) ?_,a4⟩;rw [rE];have c1:¬ (6:Int)<=(j:Int):=by omega
  simp only [C6,C49,c1,decide_false,Y0,qH,a1,ef,a2,a3];rfl
def D3a(hD:okD D)(hd:l_ d=7)(hv:IsView g f D)(hk:k=2) :
  ∃ x g',U2 0 [.a (vwC (l_ D) n m f),.a (C8 k l s p d)] g=A4 (.c x,g')/\C8t g' x (qI D n k d) (l_ g) []:=by
 have hIl:(C8 k l s p d).length=11:=by simp [C8,C1,hd]
 have l11:ldN (rT (C8 k l s p d)) 0 11=A4 (.a (C8 k l s p d)):=K8 hIl;have l4:=B6m (b:=l_ D) (n:=n) (m:=m) (f:=f);have i0:(C8 k l s p d)[0]?=A4 (cI k):=rfl;have hz:(encI (0::zI 32)).length=33:=G4 (d:=0) N2;have hX:=A6k D n k d;have hI:=A1a (n:=n) (m:=m) (k:=k) (l:=l) (s:=s) (p:=p) (h:=g++[rT (vwC (l_ D) n m f),rT (C8 k l s p d),rT [],rT [.ns]]) hD hd (hv.more _);have eo:qI D n k d=(if Z0 D n k d then [d.getD 0 0] else [])++S7 D n k d:=by unfold qI;rw [if_pos hk]
 have hbl:(S7 D n k d).length<=32:=by
  unfold S7;cases Z0 D n k d with
  | false=>simp
  | true =>
   have h1:=E6R (G5 (l_ D) n) (J4 (O0 (blk D (d.getD 0 0)) 32) (C5 (getD (blk D (d.getD 0 0)))));have h2:=iL (O0 (blk D (d.getD 0 0)) 32) (C5 (getD (blk D (d.getD 0 0))));have h3:=T2 (getD (blk D (d.getD 0 0)));simp only [cond_true];omega
 have fin:∀ (h:A9) (ls:List Int),VarI h (l_ g+3) ls (l_ g) [(l_ g)+3,l_ g,l_ g+1]->Low (l_ g) g h->rd h (l_ g)=rT (vwC (l_ D) n m f)->rd h (l_ g+1)=rT (C8 k l s p d)->ls.length<=1000 ->
   ∃ x g',A1L 0 (pV (l_ g) 0) (pV (l_ g+1) 0) (pV (l_ g+3) 0) h=A4 (.c x,g')/\C8t g' x (ls++S7 D n k d) (l_ g) []:=by
  intro h ls hV hlow h1 h2 hl;obtain ⟨x,hx,hd'⟩:=hV;have hgl:=hlow.2.1;have a1:B9 h (pV (l_ g+3) 0)=A4 (.c x):=C4 hx rfl (by simp);have a2:=C7 (n:=4) h1 rfl;have a3:=C7 (n:=11) h2 hIl;have hB:=A2i (n:=n) (m:=m) (k:=k) (l:=l) (s:=s) (p:=p) hD hd (hv.since hlow);have hQ:=W2 (h:=h) (v:=sV (l_ h) 0 (S7 D n k d).length 1) (Grows.rfl'.new (encI (S7 D n k d)));rw [A8K];rcases hd' with ⟨rfl,rfl⟩ | ⟨id,rfl,hr,hb,_⟩
  ·have hA:=C38 (h:=h++[rT (encI (S7 D n k d))]) (jd:=l_ h) (m:=(S7 D n k d).length) (sz:=1) (ys:=encI (S7 D n k d)) (by simp) (by rw [C1,E69]) (by omega) (by omega);have e1:(h++[rT (encI (S7 D n k d))]).length=l_ h+1:=by simp
   rw [e1] at hA;refine ⟨_,_,by simp only [C6,a1,a2,a3,E6k,hB,hQ,hA]<;>rfl,.inr ⟨l_ h+1,rfl,?_,by omega,by simp⟩⟩;have:=N6 (h:=h++[rT (encI (S7 D n k d))]) (r:=⟨encI (S7 D n k d),A5⟩);rw [e1] at this;exact this
  ·have hA:=A7p (h:=h++[rT (encI (S7 D n k d))]) (id:=id) (jd:=l_ h) (n:=ls.length) (m:=(S7 D n k d).length) (sz:=1) (cs:=encI ls) (ys:=encI (S7 D n k d)) (rw:=A5) (B7 hr) (by rw [C1,E69]) (by simp) (by rw [C1,E69]) rfl (by omega) (by omega);rw [<-iN] at hA;have el:ls.length+(S7 D n k d).length=(ls++S7 D n k d).length:=by simp
   rw [el] at hA;refine ⟨_,_,by simp only [C6,a1,a2,a3,E6k,hB,hQ,hA]<;>rfl,.inr ⟨_,rfl,?_,by simp;omega,by simp⟩⟩;have:=N6 (h:=(h++[rT (encI (S7 D n k d))]).set id A7) (r:=⟨encI (ls++S7 D n k d),A5⟩);rw [E6F] at this;exact this
 rw [vW,B4m,eo];cases c:Z0 D n k d with
 | false =>
  rw [c] at hI;obtain ⟨x,g',f1,f2⟩:=fin (g++[rT (vwC (l_ D) n m f),rT (C8 k l s p d),rT [],rT [.ns],rT (encI (tP D n k d))]) [] (VarI.nil (by simp)) ((Low.refl (E56 _)).new _) (by simp) (by simp) (by simp);refine ⟨x,g',?_,f2⟩;generalize vwC (l_ D) n m f=V at *;generalize C8 k l s p d=I at *;generalize encI (tP D n k d)=X at *;generalize encI (0::zI 32)=z at *;simp only [esc,esh,Nat.reduceAdd,Nat.reduceMul,Nat.reduceLT,eq_self,i0,hk,l4,l11,hI,hz,hX];exact f1
 | true =>
  rw [c] at hI;obtain ⟨H,hH⟩:=xEq (g++[rT (vwC (l_ D) n m f),rT (C8 k l s p d),rT [],rT [.ns],rT (encI (tP D n k d))]);have lH:l_ H=l_ g+5:=by rw [hH];simp
  have hV0:VarI H (l_ g+3) [] (l_ g) [(l_ g)+3,l_ g,l_ g+1]:=VarI.nil (by rw [hH];simp);obtain ⟨x,v,h2,h3,a1,a2,a3,a4,a5,a6,a7⟩:=hV0.push (by simp) (by omega) (by omega) (by intro q hq;simp only [E68,List.not_mem_nil,or_false] at hq;omega) (by simp) (d.getD 0 0);obtain ⟨x',g',f1,f2⟩:=fin h3 [d.getD 0 0] a4 ((by rw [hH];exact (Low.refl (E56 _)).new _:Low (l_ g) g H).trans a5) (by rw [a6 _ (by simp) (by omega),hH];simp) (by rw [a6 _ (by simp) (by omega),hH];simp) (by simp);have i4:B9 H (pV (l_ g+1) 4)=A4 (iV (d.getD 0 0)):=by
   refine C4 (cs:=C8 k l s p d) (rw:=A5) (by rw [hH];simp) ?_ rfl;have:(C8 k l s p d)[4]?=(encI d)[0]? := rfl;rw [this,G6,E51 (by omega),E54,E51 (by omega)];rfl
  have ad:∀ q,K5 6 1 (pV q 4) (iV 0)=A4 (pV q 4):=λq=>rfl
  have ef:F5 [o0] [(0,1,iV (d.getD 0 0))]=A4 [cI (d.getD 0 0)]:=rfl;have s1:F9 (g++[rT (vwC (l_ D) n m f),rT (C8 k l s p d),rT [],rT [.ns],rT (encI (0::zI 32))]) 33 (pV (l_ g+4) 0) (.a (encI (tP D n k d)))=A4 H:=by
   rw [S3,hH];simp only [E6o,E6K,Option.join_some,fD hz hX,D0U,List.set_cons_succ,E7c]
  refine ⟨x',g',?_,f2⟩;generalize vwC (l_ D) n m f=V at *;generalize C8 k l s p d=I at *;generalize encI (tP D n k d)=X at *;generalize encI (0::zI 32)=z at *;have fa4:∀ q,T8 (pV q 0) 4=A4 (pV q 4):=λq=>by simp [T8]
  simp only [esc,O7,G8,Y9,I7,yB,eq_self,i0,hk,l4,l11,hI,s1,a1,i4,ad,ef,a2,a3];exact f1
def D05(hD:okD D)(hd:l_ d=7)(hv:IsView g f D)(hk:k≠2) :
  ∃ x g',U2 0 [.a (vwC (l_ D) n m f),.a (C8 k l s p d)] g=A4 (.c x,g')/\C8t g' x (qI D n k d) (l_ g) []:=by
 have hIl:(C8 k l s p d).length=11:=by simp [C8,C1,hd]
 have l11:ldN (rT (C8 k l s p d)) 0 11=A4 (.a (C8 k l s p d)):=K8 hIl;have l4:=B6m (b:=l_ D) (n:=n) (m:=m) (f:=f);have i0:(C8 k l s p d)[0]?=A4 (cI k):=rfl;obtain ⟨G,hG⟩:=xEq (g++[rT (vwC (l_ D) n m f),rT (C8 k l s p d),rT [],rT [.ns],rT [.b A6],rT [fO (l_ g)],rT (vwC (l_ D) n m f),rT (C8 k l s p d)]);have lG:l_ G=l_ g+8:=by rw [hG];simp
 have P0:OwnP g G (vwC (l_ D) n m f) (C8 k l s p d) A6 []:=by
  rw [hG];exact ⟨VarI.nil (by simp),(Low.refl (E56 _)).new _,by simp,by simp,by simp,by simp,by simp,by simp,by simp⟩
 have emk1:A3f 162 [pV (l_ g+4) 0,pV (l_ g+1) 0,pV (l_ g) 0,pV (l_ g+3) 0]=A4 (.c (fO (l_ g))):=rfl;have emk2:A3f 164 [pV (l_ g+5) 0,pV (l_ g+3) 0]=A4 (.c (.f 164 [(l_ g+5,0),(l_ g+3,0)])):=rfl;have hcv:∀ (x y:Val) (h:A9),aD qL (.c (.f 164 [(l_ g+5,0),(l_ g+3,0)])) [x,y] h=dA [x,y,pV (l_ g+5) 0,pV (l_ g+3) 0] h:=λ_ _ _=>Eq.trans rfl rfl
 have E49:∀ h:A9,aD A2o (.c (fO (l_ g))) [] h=kB [pV (l_ g+4) 0,pV (l_ g+1) 0,pV (l_ g) 0,pV (l_ g+3) 0] h:=λ_=>Eq.trans rfl rfl
 obtain ⟨h',f1,f2⟩:=C5S (σ:=Bool × List Int) (L:=λM x h=>A1M 135 M (.c (.f 164 [(l_ g+5,0),(l_ g+3,0)])) (pV (l_ g+6) 0) (pV (l_ g+7) 0) x h) (C:=λx y h=>aD qL (.c (.f 164 [(l_ g+5,0),(l_ g+3,0)])) [x,y] h)
  (x3:=pV (l_ g+6) 0) (x4:=pV (l_ g+7) 0) (n:=n) (m:=m) (k:=k) (l:=l) (s:=s) (p:=p) (f:=f) hD hd
  (λj st h=>OwnP g h (vwC (l_ D) n m f) (C8 k l s p d) st.1 st.2/\st.2.length<=2*j) (A2G D n k d)
  (λm x h=>by rw [A8M];simp only [A8L])
  (λj st h hP=>⟨hP.1,by omega⟩)
  (λj st h hP=>⟨C7 hP.1.v2 rfl,C7 hP.1.i2 hIl,hv.since hP.1.low⟩)
  (λj st h no hP hj Y3 _=>by
   obtain ⟨h',g1,g2⟩:=E0f (j:=j) (no:=no) hd hP.1 (by omega);refine ⟨h',by rw [hcv];exact g1,g2,?_⟩;have:=hP.2;unfold A2G A42;split
   ·simp only [E58,List.length_singleton];split
    ·simp only [E58,List.length_singleton];omega
    ·omega
   ·simp only [E58,List.length_singleton];omega) 134 0 135 (A6,[]) G (by omega) (by omega) ⟨P0,by simp⟩
 have hS:qP [.a (vwC (l_ D) n m f),.a (C8 k l s p d),.c (.f 164 [(l_ g+5,0),(l_ g+3,0)])] (g++[rT (vwC (l_ D) n m f),rT (C8 k l s p d),rT [],rT [.ns],rT [.b A6],rT [fO (l_ g)]])=A4 (.t [],h'):=by
  refine A9Z (n:=135) ?_;rw [A9A];rw [hG] at f1;generalize vwC (l_ D) n m f=V at *;generalize C8 k l s p d=I at *;simp only [esc];exact f1
 have t5:B9 h' (pV (l_ g+5) 0)=A4 (.c (fO (l_ g))):=C4 f2.1.f rfl rfl;obtain ⟨h2,q1,q2⟩:=D28 hd f2.1 (by omega);have jP:=D7f (D:=D) (n:=n) (d:=d) hk;simp only at jP;rw [jP] at q2;obtain ⟨x,hx,hd'⟩:=q2.var;have t3:B9 h2 (pV (l_ g+3) 0)=A4 (.c x):=C4 hx rfl (by simp);refine ⟨x,h2,?_,?_⟩
 ·rw [vW];generalize hfo:fO (l_ g)=F at *;generalize vwC (l_ D) n m f=V at *;generalize C8 k l s p d=I at *;have s0:st1 (rT [.b A6]) 0 (.b A6)=rT [.b A6]:=rfl;have s1:st1 (rT [.nf]) 0 F=rT [F]:=rfl;simp only [esc,O7,G8,Y9,I7,nQ,A56,yB,eq_self,i0,hk,s0,emk1,s1,l4,l11,emk2,hS,t5,E49,q1,t3]
 ·rcases hd' with hd' | ⟨id,e,hr,hb,_⟩
  ·exact .inl hd'
  ·exact .inr ⟨id,e,hr,hb,by simp⟩
def D0s(hD:okD D)(hd:l_ d=7)(hv:IsView h f D) :
  E2O h (X5 [.a (vwC (l_ D) n m f),.a (C8 k l s p d)] h) (qI D n k d):=by
 have key:∃ x g',U2 0 [.a (vwC (l_ D) n m f),.a (C8 k l s p d)] (ro h)=A4 (.c x,g')/\C8t g' x (qI D n k d) (ro h).length []:=by
  by_cases hk:k=2
  ·exact D3a hD hd hv.ro hk
  ·exact D05 hD hd hv.ro hk
 obtain ⟨x,g',e,hd'⟩:=key;exact E1d (S:=X5) (R:=U2) (N:=0) A75 A76 e (by rw [H6] at hd';exact hd')
section
variable (n m m2:Nat) (a0 x0 x3 x4:Val) (h:A9)
def A3u:FD A8:=⟨px 0X12af203e2a0240000721af4050021a19031829f3001c488390488011c14883e048818044881d2a171281b018181531307024061202971014294203006051111961820134884a17424882481042,[],[],[.tmp 2],[]⟩
def C0e:=A3u.R
def C5T:AtH:=A3u.lj 0 n [m] [x0,x3,x4]
def C8A:=tT [⟨2,3,C5T⟩]
def C92:=mR C0e A3u C8A n [a0] h
def B51:=mL A3u C8A 0 n [m] [x0,x3,x4] h
def C8u:=A3u.K Tryz.func8
def C0E:=A3u.S
def C7N:A3T C0e C0E:=C8u.out
end
def B0r(hv:Has h v 256 (l_ D) (E8 D))(hD:okD D)(hi:i<l_ D) :
  ∃ id off,v=sV id off (l_ D) 256/\id<l_ h/\E9 256 v (iV (i:Int))=A4 (pV id (off+i*256))/\D1 h 256 (pV id (off+i*256))=A4 (.a (B5 D[i])):=by
 obtain ⟨id,off,rfl,hid,_,h2⟩:=hv.sl (by omega);refine ⟨id,off,rfl,hid,E3 hi,?_⟩;rw [h2 (i*256) 256 (by rw [I6 hD];omega),pL hD hi]
def C8H(hb:l_ b=256):F5 (E55 256 (Cell.i .u8 0)) [(0,256,.a (B5 b))]=A4 (B5 b):=by
 have hl:(B5 b).length=256:=by rw [B6,hb]
 have hz:(E55 256 (Cell.i .u8 0)).length=256:=E6y;generalize E55 256 (Cell.i .u8 0)=z at *;generalize B5 b=y at *;simp only [F5,eH];rw [if_pos ⟨hl,by omega⟩];simp only [lay_all (by omega:y.length=z.length)]
def D6D{g:A9}{D:Dev}{v:Val}{q:Nat}(hv:Has g v 256 (l_ D) (E8 D))(hD:okD D)(h60:l_ D<=1073741823):∀ (e i m id:Nat) (h:A9),i+e=l_ D->e<m->Low (l_ g) g h->l_ g<=id->rd h id=rT (E8 (D.take i)) ->
  ∃ v' h',C5T q m v (sV id 0 i 256) (iV (i:Int)) h=A4 (v',h')/\Out (l_ g) h' v' 256 (l_ D) (E8 D)
 | e,i,0,id,h,_,hm,_,_,_=>by omega
 | 0,i,m+1,id,h,hi,hm,hlow,hid,hr=>by
  have e0:i=(l_ D):=by omega
  have c0:¬ (i:Int)<(l_ D:Nat):=by omega
  have hl:=(hv.since hlow).len;rw [e0,List.take_length] at hr;rw [B51];exact ⟨_,_,by simp only [esc,hl,c0]<;>rfl,I6 hD,id,by rw [e0],hid,hr⟩
 | e+1,i,m+1,id,h,hi,hm,hlow,hid,hr=>by
  have K7:i<(l_ D):=by omega
  have c0:(i:Int)<(l_ D:Nat):=by omega
  have hvh:=hv.since hlow;have hl:=hvh.len;obtain ⟨jd,off,e1,hj,a1,l1⟩:=B0r hvh hD K7;have ef:=C8H (hD.at K7);have htl:(D.take i).length=i:=by rw [E6A];omega
  obtain ⟨h',p1,p2,p3,p4,p5⟩:=push (ys:=B5 D[i]) hlow hr (by rw [I6 (hD.take i),htl]) hid (by rw [B6,hD.at K7]) (by omega) (by omega);have et:E8 (D.take i)++B5 D[i]=E8 (D.take (i+1)):=by
   rw [E6x K7,C7W,D4j]
  rw [et] at p2;obtain ⟨v',h'',f1,f2⟩:=D6D (q:=q) hv hD h60 e (i+1) m (l_ h+1) h' (by omega) (by omega) p3 p4 p2;refine ⟨v',h'',?_,f2⟩;rw [B51];generalize B5 D[i]=y at *;simp only [esc,hl,c0,a1,l1,ef,p1,D9 (a:=i) (by omega)];exact f1
def E4I(hv:Has h v 256 (l_ D) (E8 D))(hD:okD D)(h60:l_ D<=1073741823):C0E [v] h=A4 (sV (l_ h) 0 (l_ D) 256,h++[rT (E8 D)]):=by
 have key:∀ g,Has g v 256 (l_ D) (E8 D)->∃ v' g',C0e (l_ D+1) [v] g=A4 (v',g')/\Out (l_ g) g' v' 256 (l_ D) (E8 D):=by
  intro g hv;obtain ⟨v',h',f1,f2⟩:=D6D (q:=l_ D+1) hv hD h60 (l_ D) 0 (l_ D+1) (l_ g+1) (g++[rT [],rT []]) (by omega) (by omega) ((Low.refl (E56 _)).new _) (by omega) (by simp [E8]);rw [C92];exact ⟨v',h',by simp only [esc];exact f1,f2⟩
 obtain ⟨v',g',e,ho⟩:=key (ro h) hv.ro;exact C7N e (by simpa [H6] using ho) jG
def C6W{a n:Nat}(hv:Has h (.c x) 1 n cs)(hn:1<=n)(han:a+n<=256) :
  A7g [.a [cI a,x]] h=A4 (iV 0,h):=by
 have key:∀ g,Has g (.c x) 1 n cs->∃ g',A6Y 0 [.a [cI a,x]] g=A4 (iV 0,g'):=by
  intro g hv;have c1:¬ (n:Int)<1:=by omega
  have c2:¬ (256:Int)<n:=by omega
  have c3:¬ (a:Int)<0:=by omega
  have e1:E6a .i64 (256-(n:Int))=256-n:=wrap_i64 (by omega) (by omega);have c4:¬ (256:Int)-n<a:=by omega
  rw [C0x];exact ⟨_,by simp only [esc,esh,hv.len,c1,c2,c3,e1,c4]<;>rfl⟩
 obtain ⟨g',e⟩:=key (ro h) hv.ro;exact B6S e rfl
def B37{x:Cell}{n:Nat}{data l:List UInt8}{z:List Cell}{g:A9}(hv:Has g (.c x) 1 n (B5 data)){a q:Nat}(han:a+n<=256)(hl:l_ l=256)(hz:z.length=256)(hn:data.length=n):∀ d i m,i+d=n->d<m ->
  B9K q m (pV (l_ g) 0) (pV (l_ g+1) 0) (pV (l_ g+2) 0) (.c x) (iV n) (iV i) (g++[rT (B5 (H5 l a (data.take i))),rT [cI a,x],rT z]) =
   A4 (.a (B5 (H5 l a data)),g++[rT (B5 (H5 l a data)),rT [cI a,x],rT (B5 (H5 l a data))])
 | d,i,0,_,hm=>by omega
 | 0,i,m+1,hi,hm=>by
  have e0:i=n:=by omega
  subst e0;have c0:¬ (i:Int)<i:=by omega
  have hE:(B5 (H5 l a data)).length=256:=by rw [B6,O2 (by omega),hl]
  rw [B1n,E6l (by omega)];simp only [esc,esh,c0,hE,hz]
 | d+1,i,m+1,hi,hm=>by
  have ih:=B37 hv (z:=z) (q:=q) han hl hz hn d (i+1) m (by omega) (by omega);obtain ⟨id,off,e,hid,h1,h2⟩:=(hv.more [rT (B5 (H5 l a (data.take i))),rT [cI a,x],rT z]).sl (by omega);cases e;have c0:(i:Int)<n:=by omega
  have hx:=h1 i (.i .u8 data[i].toNat) (by rw [A1G,E51 (by omega)];rfl);have eb:E9 1 (sV id off n 1) (iV (i:Int))=A4 (pV id (off+i)):=by rw [E3 (by omega)];simp
  have ea:K5 256 1 (pV (l_ g) 0) (iV ((a+i:Nat):Int))=A4 (pV (l_ g) (a+i)):=by rw [Q1 (by omega)];simp
  have hE:(B5 (H5 l a (data.take i))).length=256:=by rw [B6,O2 (by simp;omega),hl]
  have ho:a+i<256:=by omega
  have e5:(H5 l a (data.take i)).set (a+i) data[i]=H5 l a (data.take (i+1)):=by
   have:=B4L (l:=l) (xs:=data.take i) (a:=a) (x:=data[i]) (by simp;omega);rw [E6A,Nat.min_eq_left (by omega)] at this;rw [this,E6x (by omega)]
  have es:(B5 (H5 l a (data.take i))).set (a+i) (.i .u8 data[i].toNat)=B5 (H5 l a (data.take (i+1))):=by rw [oC,e5]
  rw [B1n];simp only [esc,esh,c0,eb,hx,A5a (show a+i<9223372036854775808 by omega),ea,hE,ho,es,D9 (a:=i) (by omega)];exact ih
def B9J{n a:Nat}{data l:List UInt8}(hv:Has h (.c x) 1 n (B5 data))(hn:1<=n)(han:a+n<=256)(hl:l_ l=256) :
  A5U [.a (B5 l),.a [cI a,x]] h=A4 (.a (B5 (H5 l a data)),h):=by
 have hd:data.length=n:=by simpa [B6] using hv.length
 have key:∀ N,n<N->∀ g,Has g (.c x) 1 n (B5 data)->∃ g',B2n N [.a (B5 l),.a [cI a,x]] g=A4 (.a (B5 (H5 l a data)),g'):=by
  intro N hN g hv;have hz:(E55 256 (Cell.i .u8 0)).length=256:=E6y;have hE:(B5 l).length=256:=by rw [B6,hl]
  rw [C4J];generalize E55 256 (Cell.i .u8 0)=z at *;have e:=B37 hv (l:=l) (z:=z) (q:=N) han hl hz hd n 0 N (by omega) (by omega);simp only [E6S,B9k] at e;have hc:=C6W (hv.more [rT (B5 l),rT [cI a,x],rT z]) hn han;exact ⟨_,by simp only [esc,esh,Nat.reduceAdd,hE,hz,hc,hv.len];exact e⟩
 obtain ⟨g',e⟩:=key (n+1) (by omega) (ro h) hv.ro;exact C0V e (by simp)
def D6I:F5 [o0,.ns] [(0,1,iV a),(1,1,.c x)]=A4 [cI a,x]:=rfl
def D35:F5 ([]:List Cell) []=A4 []:=rfl
def C7h(hd:l_ d=7)(h8:j<8)(c:A5k k l s p d=A5) :
  A7k [iV j,.a (C8 k l s p d)] h=A4 (.t [.a [cI ((32*j:Nat):Int),.sl (l_ h) 0 32 1],.c o0],h++[rT (B5 (cF k l s p d))]):=by
 have key:∀ g,∃ g',A62 0 [iV j,.a (C8 k l s p d)] g=A4 (.t [.a [cI ((32*j:Nat):Int),.sl (l_ g+4) 0 32 1],.c o0],g')/\rd g' (l_ g+4)=rT (B5 (cF k l s p d)):=by
  intro g;have c1:¬ (j:Int)<0:=by omega
  have c2:¬ (8:Int)<=j:=by omega
  have hP:=λh=>B9d (k:=k) (l:=l) (s:=s) (p:=p) (h:=h) hd
  simp only [c,cond_true] at hP;have hE:(encI d).length=7:=by rw [C1,hd]
  have hz:(E55 32 (Cell.i .u8 0)).length=32:=E6y;have hB:(B5 (cF k l s p d)).length=32:=by rw [B6,A1S hd]
  have w1:E6a .i64 ((j:Int)*32)=((32*j:Nat):Int):=by rw [wrap_i64 (by omega) (by omega)];omega
  have p1:=A7p (h:=g++[rT (C8 k l s p d),rT [o0,.ns],rT (B5 (cF k l s p d)),rT []]) (id:=l_ g+3) (jd:=l_ g+2) (n:=0) (m:=32) (sz:=1) (cs:=[]) (ys:=B5 (cF k l s p d)) (rw:=A5) (by simp) (by simp) (by simp) (by rw [hB]) rfl (by omega) (by omega);generalize B5 (cF k l s p d)=B at *;simp only [esc] at p1;rw [C0B];generalize E55 32 (Cell.i .u8 0)=z at *;exact ⟨_,by simp only [esc,esh,Nat.reduceAdd,c1,c2,hE,hP,hz,hB,w1,D35,p1,D6I,E7d]<;>rfl,by simp⟩
 obtain ⟨g',e,hr⟩:=key (ro h);have hr':=hr;rw [H6] at hr';have hc1:Q2 g' (l_ h) [] [cI ((32*j:Nat):Int),.sl ((ro h).length+4) 0 32 1]=A4 ([cI ((32*j:Nat):Int),.sl (l_ h) 0 32 1],[(l_ h)+4]):=by
  rw [H6];simp [Q2,Cell.low,Cell.flat,pP hr' (by simp:N8 (B5 (cF k l s p d))=A5)]
 have hc2:Q2 g' (l_ h) [(l_ h)+4] [o0]=A4 ([o0],[(l_ h)+4]):=iM (by simp);have:=B6V e (v2:=.t [.a [cI ((32*j:Nat):Int),.sl (l_ h) 0 32 1],.c o0]) (ids:=[(l_ h)+4]) (by
  simp only [Y2,jB,hc1,hc2,E6h,E6I])
 rw [this];simp [hr']
def B6j(hb:l_ b=256)(hd:l_ d=7)(h8:j<8)(c:A5k k l s p d=A5) :
  wS [.a (B5 b),iV j,.a (C8 k l s p d)] h=A4 (.t [.a (B5 (H5 b (32*j) (cF k l s p d))),.c o0],h):=by
 have key:∀ g,∃ g',A9J 0 [.a (B5 b),iV j,.a (C8 k l s p d)] g=A4 (.t [.a (B5 (H5 b (32*j) (cF k l s p d))),.c o0],g'):=by
  intro g;have hB:(B5 b).length=256:=by rw [B6,hb]
  have hE:(encI d).length=7:=by rw [C1,hd]
  have hI:(B5 (cF k l s p d)).length=32:=by rw [B6,A1S hd]
  have hz:(E55 256 (Cell.i .u8 0)).length=256:=E6y;have hP:=λh=>C7h (h:=h) hd h8 c
  rw [C3u];generalize E55 256 (Cell.i .u8 0)=z at *;have hL:=B9J (h:=g++[rT (B5 b),rT (C8 k l s p d),rT z,rT (B5 (cF k l s p d)),rT [cI ((32*j:Nat):Int),.sl (l_ g+3) 0 32 1]]) (x:=.sl (l_ g+3) 0 32 1) (n:=32) (a:=32*j) (data:=cF k l s p d) (l:=b) (Has.tr (by simp) (by rw [hI]) (W1 _)) (by omega) (by omega) hb;have hR:(B5 (H5 b (32*j) (cF k l s p d))).length=256:=by rw [B6,O2 (by rw [A1S hd];omega),hb]
  exact ⟨_,by simp only [esc,esh,Nat.reduceAdd,hB,hE,hz,hP,hL,hR]<;>rfl⟩
 obtain ⟨g',e⟩:=key (ro h);exact B8x e (by simp)
def iD(b:List UInt8)(j:Nat):List UInt8:=(b.drop (32*j)).take 32
def A1Y(hb:l_ b=256)(hj:j<8):(iD b j).length=32:=by unfold iD;simp;omega
def D3l{g:A9}{b:List UInt8}{z:List Cell}{j q:Nat}(hb:l_ b=256)(hz:z.length=32)(hj:j<8):∀ e i m:Nat,i+e=32->e<m ->
  B9X q m (iV j) (pV (l_ g) 0) (pV (l_ g+1) 0) (pV (l_ g+2) 0) (iV i) (g++[rT (B5 b),rT z,rT (B5 ((iD b j).take i++zeros (32-i)))]) =
   A4 (.a (B5 (iD b j)),g++[rT (B5 b),rT (B5 (iD b j)),rT (B5 (iD b j))])
 | e,i,0,_,hm=>by omega
 | 0,i,m+1,hi,hm=>by
  have e0:i=32:=by omega
  subst e0;have h1':¬ ((32:Nat):Int)<32:=by omega
  have hR:=A1Y hb hj;have hl:(B5 (iD b j)).length=32:=by rw [B6,hR]
  have e1:B5 ((iD b j).take 32++zeros (32-32))=B5 (iD b j):=by rw [E6l (by omega)];simp [zeros]
  rw [B1r,e1];simp only [esc,esh,h1',hl,hz]
 | e+1,i,m+1,hi,hm=>by
  have ih:=D3l (g:=g) (q:=q) hb hz hj e (i+1) m (by omega) (by omega);have hR:=A1Y hb hj;have h1':(i:Int)<32:=by omega
  have w1:E6a .i64 ((j:Int)*32)=((32*j:Nat):Int):=by rw [wrap_i64 (by omega) (by omega)];omega
  have a1:K5 256 1 (pV (l_ g) 0) (iV ((32*j+i:Nat):Int))=A4 (pV (l_ g) (32*j+i)):=by rw [Q1 (by omega)];simp
  have a2:K5 32 1 (pV (l_ g+2) 0) (iV (i:Int))=A4 (pV (l_ g+2) i):=by rw [Q1 (by omega)];simp
  have l1:(B5 b)[32*j+i]?=A4 (.i .u8 (iD b j)[i].toNat):=by
   rw [A1G,E51 (by omega)];have:(iD b j)[i]=b[32*j+i]'(by omega):=by simp [iD]
   rw [this];rfl
  have ho:i<(B5 ((iD b j).take i++zeros (32-i))).length:=by rw [B6,E58,zeros_length,E6A];omega
  have es:(B5 ((iD b j).take i++zeros (32-i))).set i (.i .u8 (iD b j)[i].toNat)=B5 ((iD b j).take (i+1)++zeros (32-(i+1))):=by
   rw [oC];refine congrArg B5 ?_;have h6:((iD b j).take i).length=i:=by simp;omega
   rw [E6O _ _ (by omega),h6,E67,E6x (by omega),E6d];refine congrArg ((iD b j).take i ++ ·) ?_;rw [show 32-i=32-(i+1)+1 by omega];unfold zeros;rw [E6D,E7c];rfl
  rw [B1r];simp only [esc,esh,h1',w1,A5a (show 32*j+i<9223372036854775808 by omega),a1,a2,l1,ho,es,D9 (a:=i) (by omega)];exact ih
def D1i(hb:l_ b=256)(hj:j<8):B2T [.a (B5 b),iV j] h=A4 (.a (B5 (iD b j)),h):=by
 have key:∀ N,32<N->∀ g,∃ g',B2s N [.a (B5 b),iV j] g=A4 (.a (B5 (iD b j)),g'):=by
  intro N hN g;have c1:¬ (j:Int)<0:=by omega
  have c2:¬ (8:Int)<=j:=by omega
  have hz:(B5 (zeros 32)).length=32:=by rw [B6];exact zeros_length
  have e:=D3l (g:=g) (z:=B5 (zeros 32)) (q:=N) hb hz hj 32 0 N (by omega) (by omega);simp only [E6S,E6s,Nat.sub_zero] at e;rw [C4N,J3];generalize zeros 32=zz at *;exact ⟨_,by simp only [esc,esh,Nat.reduceAdd,c1,c2];exact e⟩
 obtain ⟨g',e⟩:=key (l_ h+33) (by omega) (ro h);exact C00 e (by simp)
def A6p:(C8 0 0 0 0 (zI 7)).length=11:=rfl
def C4h:[o0,o0,o0,o0,o0,o0,o0,o0,o0,o0,o0]=C8 0 0 0 0 (zI 7):=rfl
def C5e:F5 (C8 0 0 0 0 (zI 7)) []=A4 (C8 0 0 0 0 (zI 7)):=rfl
def B9W(hb:l_ b=256)(hj:j<8):A5X [.a (B5 b),iV j] h=A4 (.t [.a (nX (iD b j)),.c (.b (cQ (iD b j)))],h):=by
 have key:∀ g,∃ g',B2r 0 [.a (B5 b),iV j] g=A4 (.t [.a (nX (iD b j)),.c (.b (cQ (iD b j)))],g'):=by
  intro g;have c1:¬ (j:Int)<0:=by omega
  have c2:¬ (8:Int)<=j:=by omega
  have hB:(B5 b).length=256:=by rw [B6,hb]
  have hR:=λh=>D1i (h:=h) hb hj
  have hC:=λh=>C6p (b:=iD b j) (h:=h) (A1Y hb hj)
  have hl:=A6p;have oG:=A7u (b:=iD b j);rw [C4M,C4h];generalize C8 0 0 0 0 (zI 7)=z at *;exact ⟨_,by simp only [esc,esh,c1,c2,hB,hR,hC,hl,oG]<;>rfl⟩
 obtain ⟨g',e⟩:=key (ro h);exact C0Z e (by simp [B8Z])
def tQ(D:Dev)(n i:Int):List UInt8:=iD (blk D (aQ (l_ D) n i)) (jK (l_ D) n i).toNat
def B0t(D:Dev)(n i:Int):List Cell:=bif Q9 (l_ D) n i then nX (tQ D n i) else C8 0 0 0 0 (zI 7)
def kdV(D:Dev)(n i:Int):Int:=bif Q9 (l_ D) n i then (bif cQ (tQ D n i) then B1M (tQ D n i) else 0) else 0
def C9i(D:Dev)(n i:Int):∃ l s p d,B0t D n i=C8 (kdV D n i) l s p d/\(l_ d)=7:=by
 unfold B0t kdV;cases Q9 (l_ D) n i with
 | false=>exact ⟨0,0,0,zI 7,rfl,N2⟩
 | true =>
  unfold nX;cases cQ (tQ D n i) with
  | false=>exact ⟨0,0,0,zI 7,rfl,N2⟩
  | true=>exact ⟨_,_,_,_,rfl,M6⟩
def D4C(D:Dev)(n i:Int):N8 (B0t D n i)=A5:=by
 obtain ⟨l,s,p,d,e,hd⟩:=C9i D n i;rw [e];exact B7g (l:=_::_::_::_::d)
def C8n{b i:Int}(hi:Q9 b n i=A6):F8 [.a (vwC b n m f),iV i] h=A4 (.a (C8 0 0 0 0 (zI 7)),h):=by
 have key:∀ g,∃ g',lW 0 [.a (vwC b n m f),iV i] g=A4 (.a (C8 0 0 0 0 (zI 7)),g'):=by
  intro g;have l3:=C27 (b:=b) (n:=n) (m:=m) (f:=f);have hW:=λh=>A7z (b:=b) (n:=n) (m:=m) (i:=i) (h:=h)
  simp only [hi] at hW;have hf:=C5e;have hl:=A6p;rw [A1r,C4h];generalize vwC b n m f=V at *;generalize C8 0 0 0 0 (zI 7)=z at *;exact ⟨_,by simp only [esc,esh,l3,hW,hf,hl]<;>rfl⟩
 obtain ⟨g',e⟩:=key (ro h);exact wV e rfl
def V1{i:Int}(hD:okD D)(hv:IsView h f D):F8 [.a (vwC (l_ D) n m f),iV i] h=A4 (.a (B0t D n i),h):=by
 cases hi:Q9 (l_ D) n i with
 | false =>
  rw [C8n hi];unfold B0t;rw [hi];rfl
 | true =>
  have key:∀ g,IsView g f D->∃ g',lW 0 [.a (vwC (l_ D) n m f),iV i] g=A4 (.a (B0t D n i),g'):=by
   intro g hv;have l3:=C27 (b:=l_ D) (n:=n) (m:=m) (f:=f);have l4:=B6m (b:=l_ D) (n:=n) (m:=m) (f:=f);have hW:=λh=>A7z (b:=l_ D) (n:=n) (m:=m) (i:=i) (h:=h)
   simp only [hi] at hW;have hf:=C5e;have hl:=A6p;have hK:∃ j:Nat,jK (l_ D) n i=j/\j<8:=by
    refine ⟨(jK (l_ D) n i).toNat,?_,?_⟩<;>unfold jK<;>rw [hi,cond_true]<;>omega
   obtain ⟨j,hj,hj8⟩:=hK;have hB:=M7 (n:=n) (m:=m) (no:=aQ (l_ D) n i) (h:=g++[rT (vwC (l_ D) n m f),rT (C8 0 0 0 0 (zI 7))]) hD (hv.more _);have hG:=λh=>B9W (b:=blk D (aQ (l_ D) n i)) (j:=j) (h:=h) (J9 hD) hj8
   have er:iD (blk D (aQ (l_ D) n i)) j=tQ D n i:=by unfold tQ;rw [hj,E6q]
   simp only [er] at hG;simp only [hj] at hW;have oG:=A7u (b:=tQ D n i);have ei:B0t D n i=nX (tQ D n i):=by unfold B0t;rw [hi];rfl
   rw [A1r,C4h,ei];generalize vwC (l_ D) n m f=V at *;generalize C8 0 0 0 0 (zI 7)=z at *;generalize nX (tQ D n i)=y at *;exact ⟨_,by simp only [esc,esh,Nat.reduceAdd,l3,l4,hW,hB,hG,hf,hl,oG]<;>rfl⟩
  obtain ⟨g',e⟩:=key (ro h) hv.ro;exact wV e (D4C D n i)
def A80(i:Nat):Nat:=2 ^ (i%8)
def C6y(i:Nat):A80 i<256:=by
 have h:i%8<8:=by omega
 unfold A80;generalize i%8=j at *;have:j=0\/j=1\/j=2\/j=3\/j=4\/j=5\/j=6\/j=7:=by omega
 rcases this with rfl | rfl | rfl | rfl | rfl | rfl | rfl | rfl<;>decide
def C5q(hi:i<2048):A66 [iV (i:Int)] h=A4 (.t [.c (cI ((i/8:Nat):Int)),.c (.i .u8 (A80 i:Int)),.c (.b A5)],h):=by
 refine B6A (n:=0) (h2:=ro h) ?_ rfl;have c1:¬ (i:Int)<0:=by omega
 have c2:¬ (2048:Int)<=i:=by omega
 have q1:N5 .quo (iV (i:Int)) (iV 8)=A4 (iV ((i/8:Nat):Int)):=by
  rw [B0F (by omega) (by omega) (by omega)];congr 3
 have r1:N5 .rem (iV (i:Int)) (iV 8)=A4 (iV ((i%8:Nat):Int)):=by
  rw [D3o (by omega) (by omega)];congr 3
 have w1:E6a .u64 ((i%8:Nat):Int)=((i%8:Nat):Int):=wrap_u64 (by omega) (by omega);have s1:N5 .shl (.c (.i .u8 1)) (.c (.i .u64 ((i%8:Nat):Int)))=A4 (.c (.i .u8 (A80 i:Int))):=by
  have hm:=C6y i;rw [B8G (by omega),E6q];have e1:Nat.min (i%8) IntKind.u8.bits=i%8:=by
   have:IntKind.u8.bits=8:=rfl;rw [this];exact Nat.min_eq_left (by omega)
  have e2:(1:Int)*2 ^ (i%8)=(A80 i:Int):=by unfold A80;rw [Int.natCast_pow];simp
  rw [e1,e2,wrap_u8 (by omega) (by omega)]
 rw [C0b];simp only [esc,c1,c2,q1,r1,w1,s1]
def E4B{a b:Nat}(ha:a<256)(hb:b<256):N5 .or (.c (.i .u8 a)) (.c (.i .u8 b))=A4 (.c (.i .u8 ((a ||| b:Nat):Int))):=by
 have h1:a ||| b<2 ^ 8:=Nat.or_lt_two_pow ha hb
 rw [D0e];have e:(BitVec.ofInt IntKind.u8.bits (a:Int) ||| BitVec.ofInt IntKind.u8.bits (b:Int)).toNat=a ||| b:=by
  have h8:IntKind.u8.bits=8:=rfl;rw [BitVec.toNat_or,BitVec.toNat_ofInt,BitVec.toNat_ofInt,h8];have e1:((a:Int)%(2 ^ 8:Nat)).toNat=a:=by omega
  have e2:((b:Int)%(2 ^ 8:Nat)).toNat=b:=by omega
  rw [e1,e2]
 rw [e,wrap_u8 (by omega) (by omega)]
def uO(kd:Int->Int):Nat->Nat->List Int
 | 0,_=>[]
 | e+1,k=>if kd ((k:Int)+1)=0 then uO kd e (k+1) else ((k:Int)+1)::uO kd e (k+1)
def B9h(kd:Int->Int):∀ e k,(uO kd e k).length<=e
 | 0,k=>by simp [uO]
 | e+1,k=>by
  have:=B9h kd e (k+1);unfold uO;split<;>simp<;>omega
def B3R{b n m:Int}{f:Cell}{kd:Int->Int}{g:A9}{p q:Nat}(h1:rd g p=rT (vwC b n m f))
  (hI:∀ (i:Int) (h:A9),Low (l_ g) g h->∃ l s q d,F8 [.a (vwC b n m f),iV i] h=A4 (.a (C8 (kd i) l s q d),h)) :
  ∀ (e k M id:Nat) (h:A9) (l:List Int),k+e=128->e<M->l_ l<=k->Low (l_ g) g h->l_ g<=id->rd h id=rT (encI l) ->
  ∃ v' h',A2K q M (pV p 0) (sV id 0 (l_ l) 1) (iV (k:Int)) h=A4 (v',h')/\Out (l_ g) h' v' 1 (l++uO kd e k).length (encI (l++uO kd e k))
 | e,k,0,id,h,l,_,hm,_,_,_,_=>by omega
 | 0,k,M+1,id,h,l,hk,hm,hl,hlow,hid,hr=>by
  have c0:¬ (k:Int)<128:=by omega
  rw [yG,uO,E6k];exact ⟨_,_,by simp only [esc,c0]<;>rfl,by rw [C1,E69],id,rfl,hid,hr⟩
 | e+1,k,M+1,id,h,l,hk,hm,hl,hlow,hid,hr=>by
  have c0:(k:Int)<128:=by omega
  have w1:E6a .i64 ((k:Int)+1)=(k:Int)+1:=wrap_i64 (by omega) (by omega);have hV:=C7 (h:=h) (id:=p) (hlow.rd h1) (n:=4) rfl;obtain ⟨l',s',q',d',hi⟩:=hI ((k:Int)+1) h hlow;have f1:B5S (.a (C8 (kd ((k:Int)+1)) l' s' q' d')) 0=A4 (iV (kd ((k:Int)+1))):=rfl;have ek:(k:Int)+1=((k+1:Nat):Int):=by omega
  rw [yG,uO];by_cases c:kd ((k:Int)+1)=0
  ·obtain ⟨v',h',g1,g2⟩:=B3R (q:=q) h1 hI e (k+1) M id h l (by omega) (by omega) (by omega) hlow hid hr;rw [if_pos c];rw [<-ek] at g1;refine ⟨v',h',?_,g2⟩;generalize vwC b n m f=V at *;simp only [esc,c0,hV,w1,hi,c,yF];exact g1
  ·have ef:F5 [o0] [(0,1,iV ((k:Int)+1))]=A4 (encI [(k:Int)+1]):=rfl;obtain ⟨h',a1,a2,a3,a4,a5⟩:=push (n:=l_ l) (sz:=1) (ys:=encI [(k:Int)+1]) hlow hr (by rw [C1,E69]) hid rfl (by omega) (by omega);rw [<-iN] at a2;obtain ⟨v',h'',g1,g2⟩:=B3R (q:=q) h1 hI e (k+1) M (l_ h+1) h' (l++[(k:Int)+1]) (by omega) (by omega) (by simp;omega) a3 a4 a2;rw [E6d,List.singleton_append] at g2;have el:(l++[(k:Int)+1]).length=l_ l+1:=by simp
   rw [el,<-ek] at g1;rw [if_neg c];refine ⟨v',h'',?_,g2⟩;generalize vwC b n m f=V at *;simp only [esc,c0,hV,w1,hi,f1,c,yF,ef,a1];exact g1
def C7x{b:Int}{kd:Int->Int}(hI:∀ (i:Int) (g:A9),Low (l_ h) (ro h) g->∃ l s q d,F8 [.a (vwC b n m f),iV i] g=A4 (.a (C8 (kd i) l s q d),g)) :
  iZ [.a (vwC b n m f)] h=A4 (sV (l_ h) 0 (uO kd 128 0).length 1,h++[rT (encI (uO kd 128 0))]):=by
 have key:∃ v g',sU 129 [.a (vwC b n m f)] (ro h)=A4 (v,g')/\Out (ro h).length g' v 1 (uO kd 128 0).length (encI (uO kd 128 0)):=by
  have hl:=H6 (h:=h);generalize hg:ro h=g at *;obtain ⟨v',h',g1,g2⟩:=B3R (p:=l_ g) (q:=129) (g:=g++[rT (vwC b n m f)]) (by simp) (λi k hk=>hI i k ⟨by omega,by have:=hk.2.1;simp at this;omega,λid hid=>by rw [hk.2.2 id (by simp;omega)];exact D3 (by omega)⟩)
   128 0 129 (l_ g+2) (g++[rT (vwC b n m f),rT [],rT []]) [] (by omega) (by omega) (by simp)
   (by
    have:=(Low.refl (h:=g++[rT (vwC b n m f)]) (E56 _)).new [rT [],rT []];simpa using this) (by simp) (by simp [encI])
  rw [E6s] at g2;rw [E6E] at g1;rw [B1x];refine ⟨v',h',?_,g2.1,?_⟩
  ·generalize vwC b n m f=V at *;simp only [esc];exact g1
  ·obtain ⟨id,e,hb,hr⟩:=g2.2;exact ⟨id,e,by simp at hb;omega,hr⟩
 obtain ⟨v,g',e,ho⟩:=key;exact A93 e (by simpa [H6] using ho) (by simp)
def C7w(hD:okD D)(hv:IsView h f D):iZ [.a (vwC (l_ D) n m f)] h=A4 (sV (l_ h) 0 (uO (kdV D n) 128 0).length 1,h++[rT (encI (uO (kdV D n) 128 0))]) :=
 C7x λi g hg=>by
  obtain ⟨l,s,p,d,e,hd⟩:=C9i D n i;have h2:Low (ro h).length (ro h) g:=by rw [H6];exact hg
  exact ⟨l,s,p,d,by rw [V1 hD (hv.ro.since h2),e]⟩
def D38{N:Nat}(hN:N<=1073741823):C3M (iV (N:Int)) (iV (N:Int))=A4 N:=by
 have:B5o (iV (N:Int))=A4 N:=by simp only [B5o];rw [if_pos (by omega)];simp
 simp [C3M,this]
def E0H{z:List UInt8}(hi:i<l_ D):(D.take i++E55 (l_ D-i) z).set i D[i]=D.take (i+1)++E55 (l_ D-(i+1)) z:=by
 have hl:(D.take i).length=i:=by rw [E6A];omega
 rw [E6O _ _ (by omega),hl,E67,show (l_ D)-i=l_ D-(i+1)+1 by omega,E6D,E7c,E6x hi,E6d];rfl
def E0b(hD:okD D)(i:Nat):okD (D.take i++E55 (l_ D-i) (zeros 256)):=λb hb=>by
 rcases List.mem_append.1 hb with hb | hb
 ·exact hD.take i b hb
 ·exact C1I _ b hb
def C6j{n m:Int}{f:Cell}{D:Dev}{g:A9}{p q id:Nat}(hD:okD D)(h60:l_ D<=1073741823)(h1:rd g p=rT (vwC (l_ D) n m f))(hv:IsView g f D)(hid:l_ g<=id):∀ (e i M:Nat) (h:A9),i+e=l_ D->e<M->Low (l_ g) g h ->
  rd h id=rT (E8 (D.take i++E55 (l_ D-i) (zeros 256))) ->
  ∃ h',A45 q M (pV p 0) (sV id 0 (l_ D) 256) (iV (l_ D:Int)) (iV (i:Int)) h=A4 (sV id 0 (l_ D) 256,h')/\rd h' id=rT (E8 D)
 | e,i,0,h,_,hm,_,_=>by omega
 | 0,i,M+1,h,hi,hm,hlow,hr=>by
  have e0:i=(l_ D):=by omega
  have c0:¬ (i:Int)<(l_ D:Nat):=by omega
  rw [e0,List.take_length,E67,List.replicate_zero,E6k] at hr;rw [zU];exact ⟨h,by simp only [esc,c0],hr⟩
 | e+1,i,M+1,h,hi,hm,hlow,hr=>by
  have K7:i<(l_ D):=by omega
  have c0:(i:Int)<(l_ D:Nat):=by omega
  have hV:=C7 (h:=h) (id:=p) (hlow.rd h1) (n:=4) rfl;have hB:=M7 (n:=n) (m:=m) (no:=(i:Int)) hD (hv.since hlow);rw [B26 K7] at hB;have ad:E9 256 (sV id 0 (l_ D) 256) (iV (i:Int))=A4 (pV id (i*256)):=by rw [E3 K7,E6j]
  have hl:(D.take i).length=i:=by rw [E6A];omega
  have hs:=B4Z (i:=i) (b:=D[i]) hr (E0b hD i) (hD.at K7) (by rw [E58,hl,E6y];omega);rw [E0H K7] at hs;have W5:=E1 hr;obtain ⟨h',g1,g2⟩:=C6j (q:=q) hD h60 h1 hv hid e (i+1) M (h.set id (rT (E8 (D.take (i+1)++E55 (l_ D-(i+1)) (zeros 256))))) (by omega) (by omega) (hlow.set hid _) (D6 W5);refine ⟨h',?_,g2⟩;rw [zU];generalize vwC (l_ D) n m f=V at *;generalize B5 D[i]=y at *;simp only [C6,G3,c0,decide_true,W9,hV,hB,ad,hs,L7,D9 (a:=i) (by omega)];exact g1
def C8m(hD:okD D)(hv:IsView h f D)(hm:P7 (l_ D) n=A5):wU [.a (vwC (l_ D) n m f)] h=A4 (sV (l_ h) 0 (l_ D) 256,h++[rT (E8 D)]):=by
 have key:∀ g,IsView g f D->∃ v g',vX (l_ D+1) [.a (vwC (l_ D) n m f)] g=A4 (v,g')/\Out (l_ g) g' v 256 (l_ D) (E8 D):=by
  intro g hv;have h60:l_ D<=512:=by
   unfold P7 at hm;simp only [E53,decide_eq_true_eq] at hm;omega
  have l3:=C27 (b:=l_ D) (n:=n) (m:=m) (f:=f);have l0:(vwC (l_ D) n m f)[0]?=A4 (cI (l_ D:Int)):=rfl;have hC:=λh=>cY (b:=l_ D) (n:=n) (m:=m) (h:=h)
  simp only [hm] at hC;have mk:=D38 (N:=l_ D) (by omega);obtain ⟨h',g1,g2⟩:=C6j (n:=n) (m:=m) (p:=l_ g) (q:=l_ D+1) (id:=l_ g+2) (g:=g++[rT (vwC (l_ D) n m f),rT []]) hD (by omega) (by simp) (hv.more _) (by simp) (l_ D) 0 (l_ D+1) (g++[rT (vwC (l_ D) n m f),rT [],rT (E8 (E55 (l_ D) (zeros 256)))]) (by omega) (by omega)
   (by
    have:=(Low.refl (h:=g++[rT (vwC (l_ D) n m f),rT []]) (E56 _)).new [rT (E8 (E55 (l_ D) (zeros 256)))];simpa using this) (by simp)
  rw [B2x];simp only [D3v];refine ⟨_,h',?_,I6 hD,l_ g+2,rfl,by omega,g2⟩;generalize vwC (l_ D) n m f=V at *;simp only [esc,esh,Nat.reduceAdd,l3,hC,eq_self,l0,mk];exact g1
 obtain ⟨v,g',e,ho⟩:=key (ro h) hv.ro;exact B1H e (by simpa [H6] using ho) jG
section
variable (n m m2:Nat) (a0 a1 x0 x1 x5:Val) (h:A9)
def tS:FD A8:=⟨px 0X11b4010228f5050022c1f03180134015a00001722401a321040411d4a1581040411d3a17290180196b4315313070240612029711c1b043d4203006051111b611c20130134011c0000722406320291e102976052d4203340130182,[],[],[.tmp 4],[]⟩
def C2c:=tS.R
def B8V:AtH:=tS.lj 0 n [m] [x0,x1,x5]
def C2g:=tT [⟨2,3,B8V⟩]
def C4t:=mR C2c tS C2g n [a0,a1] h
def B06:=mL tS C2g 0 n [m] [x0,x1,x5] h
def C13:=tS.K Tryz.func24
def B2N:=tS.S
def C0F:G0 C2c B2N:=C13.flat
end
def A7F(b:List UInt8)(i:Nat):List UInt8:=b.set (i/8) (UInt8.ofNat ((b.getD (i/8) 0).toNat ||| A80 i))
def C22:(A7F b i).length=(l_ b):=by simp [A7F]
def C7X(hb:l_ b=256)(hi:i<2048):A9R [.a (B5 b),iV (i:Int),bV A5] h=A4 (.a (B5 (A7F b i)),h):=by
 have key:∀ g,∃ g',A9u 0 [.a (B5 b),iV (i:Int),bV A5] g=A4 (.a (B5 (A7F b i)),g'):=by
  intro g;have hW:=λh=>C5q (h:=h) hi
  have W5:i/8<(l_ b):=by omega
  have ad:=Q1 (k:=.i64) (id:=l_ g) (off:=0) (sz:=1) (j:=i/8) (n:=256) (by omega);rw [E69,E6j] at ad;have l1:(B5 b)[i/8]?=A4 (.i .u8 b[i/8].toNat):=by rw [A1G,E51 W5];rfl
  have a1:=E4B (a:=b[i/8].toNat) (b:=A80 i) b[i/8].toNat_lt (C6y i);have hor:b[i/8].toNat ||| A80 i<2 ^ 8:=Nat.or_lt_two_pow b[i/8].toNat_lt (C6y i)
  have es:(B5 b).set (i/8) (.i .u8 ((b[i/8].toNat ||| A80 i:Nat):Int))=B5 (A7F b i):=by
   have ew:(b[i/8].toNat ||| A80 i)=(UInt8.ofNat (b[i/8].toNat ||| A80 i)).toNat:=by rw [UInt8.toNat_ofNat',Nat.mod_eq_of_lt hor]
   unfold A7F;rw [E54,E51 W5,Option.getD_some,<-oC,<-ew]
  have hB:(B5 b).length=256:=by rw [B6,hb]
  have hC:(B5 (A7F b i)).length=256:=by rw [B6,C22,hb]
  have s1:=D6z (cs:=B5 b) (off:=i/8) (x:=.i .u8 ((b[i/8].toNat ||| A80 i:Nat):Int)) (by omega);rw [es] at s1;have hz:(E55 256 (Cell.i .u8 0)).length=256:=E6y;rw [C3e];generalize E55 256 (Cell.i .u8 0)=z at *;generalize B5 b=y at *;generalize B5 (A7F b i)=y2 at *;exact ⟨_,by simp only [esc,O7,G8,Y9,I7,S3,G9,nQ,A56,K8,yB,fD,hW,ad,l1,a1,s1,C1d,hC,hz]<;>rfl⟩
 obtain ⟨g',e⟩:=key (ro h);exact B8f e (by simp [Val.flat])
def dH(l:List Nat):List UInt8:=l.foldl A7F (zeros 256)
def eV{l:List Nat}:∀ {b:List UInt8},(l.foldl A7F b).length=(l_ b):=by
 induction l with
 | nil=>intro b;rfl
 | cons x l ih=>intro b;rw [E64,ih,C22]
def C5H{g:A9}{l:List Nat}{q p:Nat}{v:Val}{nv:Nat}(hl:∀ x∈l,x<2048)(h60:l_ l<=2048)(hv:Has g v 1 nv (encI (l.map λx:Nat=>(x:Int))))(hp:p=l_ g):∀ (e i m:Nat),i+e=l_ l->e<m ->
  B5W q m (pV p 0) (pV (p+1) 0) v (iV (l_ l:Int)) (iV (i:Int)) (g++[rT (B5 (zeros 256)),rT (B5 ((l.take i).foldl A7F (zeros 256)))]) =
   A4 (.a (B5 (dH l)),g++[rT (B5 (dH l)),rT (B5 (dH l))])
 | e,i,0,_,hm=>by omega
 | 0,i,m+1,hi,hm=>by
  have e0:i=(l_ l):=by omega
  subst e0 hp;have c0:¬ (l_ l:Int)<(l_ l:Nat):=by omega
  have hB:(B5 (dH l)).length=256:=by rw [B6];unfold dH;rw [eV];exact zeros_length
  have hz:(B5 (zeros 256)).length=256:=by rw [B6];exact zeros_length
  rw [A8t,List.take_length];have em:l.foldl A7F (zeros 256)=dH l:=rfl;rw [em];generalize B5 (zeros 256)=z at *;generalize B5 (dH l)=y at *;simp only [esc,esh,c0,hB,hz]
 | e+1,i,m+1,hi,hm=>by
  have K7:i<(l_ l):=by omega
  have ih:=C5H (q:=q) hl h60 hv hp e (i+1) m (by omega) (by omega);subst hp;have c0:(i:Int)<(l_ l:Nat):=by omega
  have hnv:l_ l=nv:=by
   have:=hv.length;rw [C1,List.length_map] at this;omega
  obtain ⟨id,off,rfl,hid,h1,_⟩:=(hv.more [rT (B5 (zeros 256)),rT (B5 ((l.take i).foldl A7F (zeros 256)))]).sl (by omega);have hx:=h1 i (cI (l[i]:Int)) (by rw [G6,List.getElem?_map,E51 K7];rfl);have ea:E9 1 (sV id off nv 1) (iV (i:Int))=A4 (pV id (off+i)):=by rw [E3 (by omega)];simp
  have hfl:((l.take i).foldl A7F (zeros 256)).length=256:=by rw [eV];exact zeros_length
  have hW:=λh=>C7X (h:=h) hfl (hl _ (E6w K7))
  have et:A7F ((l.take i).foldl A7F (zeros 256)) l[i]=(l.take (i+1)).foldl A7F (zeros 256):=by
   rw [E6x K7,List.foldl_append];rfl
  rw [et] at hW;have hB:(B5 ((l.take i).foldl A7F (zeros 256))).length=256:=by rw [B6,hfl]
  have hB2:(B5 ((l.take (i+1)).foldl A7F (zeros 256))).length=256:=by rw [B6,eV];exact zeros_length
  rw [A8t];generalize B5 (zeros 256)=z at *;generalize B5 ((l.take i).foldl A7F (zeros 256))=y at *;generalize B5 ((l.take (i+1)).foldl A7F (zeros 256))=y2 at *;simp only [esc,esh,c0,ea,hx,hW,hB,hB2,D9 (a:=i) (by omega)];exact ih
def A7s{nv:Nat}{l:List Nat}(hl:∀ x∈l,x<2048)(h60:l_ l<=2048)(hv:Has h v 1 nv (encI (l.map λx:Nat=>(x:Int)))):pD [v] h=A4 (.a (B5 (dH l)),h):=by
 have key:∀ g,Has g v 1 nv (encI (l.map λx:Nat=>(x:Int)))->∃ g',A9t (l_ l+1) [v] g=A4 (.a (B5 (dH l)),g'):=by
  intro g hv;have hnv:l_ l=nv:=by
   have:=hv.length;rw [C1,List.length_map] at this;omega
  have hL:=C5H (q:=l_ l+1) hl h60 hv rfl (l_ l) 0 (l_ l+1) (by omega) (by omega);have hlen:=hv.len;rw [<-hnv] at hlen;rw [C3d,J3];rw [E6S,List.foldl_nil] at hL;generalize B5 (zeros 256)=z at *;exact ⟨_,by simp only [esc,hlen];exact hL⟩
 obtain ⟨g',e⟩:=key (ro h) hv.ro;exact B8e e (by simp [Val.flat])
def A4E(b:List UInt8):Nat->Nat->Bool
 | 0,_=>A5
 | e+1,i=>cQ (iD b i)&&A4E b e (i+1)
def C5z{b:List UInt8}{p q:Nat}(hb:l_ b=256):∀ (e i m:Nat) (h:A9),i+e=8->e<m->rd h p=rT (B5 b) ->
  ∃ h',B4g q m (pV p 0) (iV i) h=A4 (bV (A4E b e i),h')
 | e,i,0,h,_,hm,_=>by omega
 | 0,i,m+1,h,hi,hm,hr=>by
  have c0:¬ (i:Int)<8:=by omega
  rw [A6x];exact ⟨_,by simp only [esc,esh,c0,A4E]<;>rfl⟩
 | e+1,i,m+1,h,hi,hm,hr=>by
  have c0:(i:Int)<8:=by omega
  have hB:(B5 b).length=256:=by rw [B6,hb]
  have s1:=C7 (h:=h) (id:=p) (cs:=B5 b) hr hB;have hG:=λh=>B9W (h:=h) hb (show i<8 by omega)
  have hl:=A6p;have oG:=A7u (b:=iD b i);obtain ⟨h',ih⟩:=C5z (q:=q) hb e (i+1) m (h++[rT (nX (iD b i))]) (by omega) (by omega) (B7 hr);rw [A6x,C4h];unfold A4E;generalize C8 0 0 0 0 (zI 7)=z at *;cases c:cQ (iD b i) with
  | false =>
   simp only [c] at hG;exact ⟨_,by simp only [esc,esh,c0,s1,hG,hl,oG,E6p]<;>rfl⟩
  | true =>
   simp only [c] at hG;refine ⟨h',?_⟩;simp only [esc,esh,c0,s1,hG,hl,oG,D9 (a:=i) (by omega),E6t];exact ih
def C7g(hb:l_ b=256):A7j [.a (B5 b)] h=A4 (bV (A4E b 8 0),h):=by
 have key:∀ N,8<N->∀ g,∃ g',A61 N [.a (B5 b)] g=A4 (bV (A4E b 8 0),g'):=by
  intro N hN g;obtain ⟨h',e⟩:=C5z (p:=l_ g) (q:=N) hb 8 0 N (g++[rT (B5 b)]) (by omega) (by omega) (by simp);rw [C0A];exact ⟨h',by simp only [esc,esh];exact e⟩
 obtain ⟨g',e⟩:=key (l_ h+9) (by omega) (ro h);exact B6U e rfl
def C6t{l xs:List UInt8}{a c n:Nat}(h:a+l_ xs<=l_ l)(hd:c+n<=a\/a+l_ xs<=c):((H5 l a xs).drop c).take n=(l.drop c).take n:=by
 apply E7b;intro j;by_cases hj:j<n
 ·rw [E6L hj,E6L hj,List.getElem?_drop,List.getElem?_drop,C6u h,if_neg (by omega)]
 ·rw [E6u (by simp;omega),E6u (by simp;omega)]
def E0X{n:Nat}{v:Int}(hn:n<128):jR b ((2*n:Nat):Int) 2 v=H5 b (2*n) (D4 2 v):=by
 unfold jR;rw [if_pos ⟨by omega,Y1.2 (by omega)⟩,E6q];rfl
def E1Y{n:Nat}{v:Int}(hb:l_ b=256)(hn:n<128)(hi:i<128):ptP (H5 b (2*n) (D4 2 v)) i=if i=n then v%65536 else ptP b i:=by
 unfold ptP fieldN;by_cases c:i=n
 ·subst c;rw [if_pos rfl];have:=D2F (l:=b) (xs:=D4 2 v) (a:=2*i) (by simp;omega);rw [R2] at this;rw [this,B4M];rfl
 ·rw [if_neg c,C6t (by simp;omega) (by simp;omega)]
def C28:E6a .u8 a=a%256:=by
 simp only [E6a,IntKind.bits,IntKind.signed,E6p];rfl
def B63{t:List Int}:∀ k,(J4 t k).Nodup
 | 0=>by simp [J4]
 | k+1=>by
  rw [B4y];by_cases c:xM t k=A5
  ·rw [if_pos c];have hc:=c;unfold xM at hc;rw [E53] at hc;have h0:toX t k≠0:=by simpa using hc.1
   have hn:toX t k ∉ J4 t k:=by
    have:=E1I h0;rw [hc.2] at this;simpa using this
   rw [List.nodup_append];refine ⟨B63 k,by simp,?_⟩;intro a ha b hb e;simp at hb;subst hb;subst e;exact hn ha
  ·rw [if_neg c,E6k];exact B63 k
def D4h:(S7 D n k d).Nodup:=by
 unfold S7;cases Z0 D n k d with
 | false=>simp
 | true=>exact (B63 _).filter _
def B3Y{b:List UInt8}:∀ e k,(Q0 b e k).Pairwise λx y=>x.1<y.1
 | 0,k=>by simp [Q0]
 | e+1,k=>by
  cases hr:N9 b k with
  | none=>rw [Z3 hr];exact B3Y e (k+1)
  | some x =>
   rw [Z4 hr];refine List.pairwise_cons.2 ⟨λy hy=>?_,B3Y e (k+1)⟩;have:=A3n hy;show k<y.1;omega
def D4t:(qV D n k d).Pairwise λx y=>(x.1.1,x.1.2.1)≠(y.1.1,y.1.2.1):=by
 unfold qV C5i;rw [List.pairwise_flatMap];refine ⟨λb _=>?_,(D4h (D:=D) (n:=n) (k:=k) (d:=d)).imp λ{a b} hab=>?_⟩
 ·unfold B9Z;rw [List.pairwise_map];refine (B3Y 7 0).imp λ{x y} hxy=>?_
  intro e;have:=congrArg Prod.snd e;dsimp only at this;omega
 ·intro x hx y hy e;unfold B9Z at hx hy;rw [List.mem_map] at hx hy;obtain ⟨x',_,rfl⟩:=hx;obtain ⟨y',_,rfl⟩:=hy;exact hab (congrArg Prod.fst e)
def A7y{b nm:List UInt8}:∀ {e k:Nat} {x:Slt},X0 b nm e k=A4 x->x.2.1=nm
 | 0,k,x,h=>by simp [X0] at h
 | e+1,k,x,h=>by
  cases hr:N9 b k with
  | none=>rw [kD hr] at h;exact A7y h
  | some y =>
   obtain ⟨s,n⟩:=y;by_cases c:s=nm
   ·subst c;rw [xW hr] at h;cases h;rfl
   ·rw [kC hr c] at h;exact A7y h
def D2U:(T3 D n k d (qV D n k d)).Nodup:=by
 unfold T3;rw [List.Nodup,List.pairwise_map];refine ((D4t (D:=D) (n:=n) (k:=k) (d:=d)).filter _).imp_of_mem λ{x y} hx hy hxy e=>?_
 have h1:=of_decide_eq_true (List.mem_filter.1 hx).2;have h2:=of_decide_eq_true (List.mem_filter.1 hy).2;rw [e,h2] at h1;have:=Option.some.inj h1;exact hxy (by rw [this])
def D3K(l:rN):(fC l).Nodup:=(B9T l).imp λ{a b} h e=>by
 subst e;rw [A8n] at h;cases h
def D8d{l:rN}(hl:l.Nodup):(fC l).length=(l_ l):=by
 have:=(List.perm_ext_iff_of_nodup (D3K l) hl).2 (dT l);exact this.length_eq
def D7U(l:List Tld):(T3 D n k d l).length+(dO D n k d l).length=(l_ l):=by
 unfold T3 dO;rw [List.length_map,List.length_map]
 induction l with
 | nil=>rfl
 | cons t l ih =>
  by_cases c:isL D n k d t=A5
  ·rw [E6W c,E6V (by simp [c])];simp;omega
  ·rw [E6V c,E6W (by simp [c])];simp;omega
def D7w:(gQ D n k d).length+(dO D n k d (qV D n k d)).length=(qV D n k d).length:=by
 rw [<-D7U (D:=D) (n:=n) (k:=k) (d:=d) (qV D n k d)];unfold gQ;rw [List.length_map,D8d D2U]
abbrev Spn:=Nat × Nat × Nat
def spn:Nat->Nat->Nat->List Spn
 | 0,_,_=>[]
 | e+1,off,n=>if n=0 then [] else (off/256,off%256,min n (256-off%256))::spn e (off+min n (256-off%256)) (n-min n (256-off%256))
def A40:∀ e,spn e off 0=[]
 | 0=>rfl
 | e+1=>by rw [spn,if_pos rfl]
def B9U{e n:Nat}(hn:0<n):spn (e+1) off n=(off/256,off%256,min n (256-off%256))::spn e (off+min n (256-off%256)) (n-min n (256-off%256)):=by
 rw [spn,if_neg (by omega)]
def C7a:∀ (e off n:Nat),(spn e off n).length<=n
 | 0,off,n=>by simp [spn]
 | e+1,off,n=>by
  by_cases hn:n=0
  ·subst hn;rw [A40];simp
  ·rw [B9U (by omega),E6g];have:=C7a e (off+min n (256-off%256)) (n-min n (256-off%256));omega
def D6y:∀ (e off n:Nat),∀ s∈spn e off n,s.2.1<256/\1<=s.2.2/\s.2.1+s.2.2<=256/\s.1<=(off+n)/256/\(0<n->s.1*256+s.2.1+s.2.2<=off+n)
 | 0,off,n,s,h=>by simp [spn] at h
 | e+1,off,n,s,h=>by
  by_cases hn:n=0
  ·subst hn;rw [A40] at h;simp at h
  ·rw [B9U (by omega)] at h;rcases List.mem_cons.1 h with rfl | h
   ·refine ⟨by dsimp only;omega,by dsimp only;omega,by dsimp only;omega,by dsimp only;omega,λ_=>by dsimp only;omega⟩
   ·have ih:=D6y e _ _ s h;have e1:off+min n (256-off%256)+(n-min n (256-off%256))=off+n:=by omega
    rw [e1] at ih;refine ⟨ih.1,ih.2.1,ih.2.2.1,ih.2.2.2.1,λ_=>?_⟩;by_cases h0:0<n-min n (256-off%256)
    ·exact ih.2.2.2.2 h0
    ·have:n-min n (256-off%256)=0:=by omega
     rw [this,A40] at h;simp at h
def C9N(f:Nat->UInt8):∀ (e off n:Nat),n<=e->((spn e off n).map λs=>(E6v (s.1*256+s.2.1) s.2.2).map f).flatten=(E6v off n).map f
 | 0,off,n,h=>by
  have:n=0:=by omega
  subst this;rfl
 | e+1,off,n,h=>by
  by_cases hn:n=0
  ·subst hn;rw [A40];rfl
  ·rw [B9U (by omega),E6N,E65,C9N f e _ _ (by omega),<-E6Q];dsimp only;have e1:off/256*256+off%256=off:=by omega
   have e2:n=min n (256-off%256)+(n-min n (256-off%256)):=by omega
   rw [e1]
   conv=>rhs;rw [e2]
   rw [<-List.range'_append (step:=1),Nat.one_mul]
def spC(l:List Spn):List Cell:=(l.map λs=>[cI (s.1:Int),cI (s.2.1:Int),cI (s.2.2:Int)]).flatten
def B0L{l:List Spn}:(spC l).length=l_ l*3:=by
 induction l with
 | nil=>rfl
 | cons x l ih=>simp only [spC,E6N,E65,E58,E6g,E6E] at ih ⊢;omega
def D5s{l m:List Spn}:spC (l++m)=spC l++spC m:=by simp [spC]
def D3L{s:Spn}{l:List Spn}:spC (s::l)=[cI (s.1:Int),cI (s.2.1:Int),cI (s.2.2:Int)]++spC l:=rfl
def E0N{l:List Spn}:N8 (spC l)=A5:=by
 induction l with
 | nil=>rfl
 | cons x l ih=>rw [D3L,pM,ih];rfl
def E0M:∀ (l:List Spn) (i:Nat) (s:Spn),l[i]?=A4 s->((spC l).drop (i*3)).take 3=[cI (s.1:Int),cI (s.2.1:Int),cI (s.2.2:Int)]
 | [],i,s,h=>by simp at h
 | x::l,0,s,h=>by
  simp at h;subst h;rfl
 | x::l,i+1,s,h=>by
  rw [D3L,show (i+1)*3=3+i*3 by omega,<-E7e];exact E0M l i s (by simpa using h)
section
variable (n m m2:Nat) (a0 a1 a2 a3 x0 x1 x4 x5 x9 x32 x33 x34:Val) (h:A9)
def A2V:FD A8:=⟨px 0X119f201380380421a62b502011201600622450320404531b42031103a2342,[],[.min (.t 7) (.v (.c (cI 34304))),.max (.v (.c o0)) (.t 8)],[.tmp 2],[]⟩
def A9C:=A2V.R
def C3l:=mR A9C A2V (tT []) n [a0] h
def A9j:=A2V.K Tryz.func98
def A28:=A2V.S
def B8l:G0 A9C A28:=A9j.flat
def jU:FD A8:=⟨px 0X14ff405f4f021900001724ef1004727c11f4c04184bf0004026e1749040248f5001e33903012b133e01241161032b3b5c15c1288901a271583901931238f703380288972481582d051f422cf602889018271338352150702410524829024d4203311806050023354811b4228f10238049c88972711382e1c0661019201344811e0000722449c88904271a022f420319f0003871803023448130182,[],[.max (.v (.c o0)) (.t 8),.max (.v (.c o0)) (.t 12),.min (.t 13) (.t 15),.min (.t 21) (.t 23)],[.tmp 4],[]⟩
def A6N:=jU.R
def B3z:AtH:=jU.lj 0 n [m] [x0,x1,x5]
def B5M:=tT [⟨2,3,B3z⟩]
def C0g:=mR A6N jU B5M n [a0,a1] h
def xX:=mL jU B5M 0 n [m] [x0,x1,x5] h
def B5u:=jU.K Tryz.func107
def A69:=jU.S
def B8m:A3T A6N A69:=B5u.out
def dV:FD A8:=⟨px 0X17cf1801ce7c026c0000000006727bf4a056a07b492187af19013804191ba132d1bc6f05186ef19002a1392061a34304191a8132d04519c132d0423318e14f4181981190192410327e5b021b9425af1c006183230417a132d5f1b184f44e1c639424df2362b1b1b031841831d4684215011a070246134012118f42006051102901e21303804726e101035c1b185e15e3901a18d18b189181a2c2000013314a12b6187502d20111848148000002722401b6195015a1a4e5a70101b1a190643e1a0103e2f381b3e3c3c3e70110122e1d01c69420311848183a742e31b1975282,[],[.min (.t 26) (.t 30),.appZ 1 ([.i .u8 0]) (.t 55) (.t 57)],[.tmp 8],[D7 A28 A9j,D7 A69 B5u,cal D0a,D7 D8 E7,D7 A78 B4r]⟩
def A9B:=dV.R
def B52:AtH:=dV.lj 0 n [m] [x4,x5,x9,x32,x33,x34]
def C77:AtH:=dV.lj 1 n [m] [x4,x5,x9,x32,x33,x34]
def B0b:=tT [⟨2,6,B52⟩,⟨2,6,C77⟩]
def C3k:=mR A9B dV B0b n [a0,a1,a2,a3] h
def A8O:=mL dV B0b 0 n [m] [x4,x5,x9,x32,x33,x34] h
def A8N:=mJ dV B0b 1 n [m] [x4,x5,x9,x32,x33,x34] h
def B7N:=dV.K Tryz.func56
def A90:=dV.S
def C0G:A3T A9B A90:=B7N.out
def A5m:FD A8:=⟨px 0X17f4049c88910440361b18641840006214a43a422e375182,[],[],[.tmp 4],[D7 A90 B7N]⟩
def B2d:=A5m.R
def C4u:=mR B2d A5m (tT []) n [a0,a1] h
def C14:=A5m.K Tryz.func17
def B2O:=A5m.S
def C3D:A3T B2d B2O:=C14.out
end
def D37{k:IntKind}{b:Int}:C3L (.c (.i k a)) (.c (.i k b))=A4 (.c (.i k (if a<b then b else a))):=rfl
def D0i{k:IntKind}{b:Int}:B5i (.c (.i k a)) (.c (.i k b))=A4 (.c (.i k (if b<a then b else a))):=rfl
def C1H(off:Int):Int:=if 0<off then off else 0
def C2Q(off n:Int):Nat:=if C1H off<34304 then (if 34304-C1H off<(if 0<n then n else 0) then 34304-C1H off else (if 0<n then n else 0)).toNat else 0
def B7y(off n:Int):List Spn:=spn (C2Q off n) (C1H off).toNat (C2Q off n)
def C2M{g:A9}{q:Nat}:∀ (e off n m id:Nat) (h:A9) (l:List Spn),n<=e->e<m->off+n<=34304->l_ l+n<=40000->Low (l_ g) g h->l_ g<=id->rd h id=rT (spC l) ->
  ∃ v' h',B3z q m (iV (off:Int)) (iV (n:Int)) (sV id 0 (l_ l) 3) h=A4 (v',h')/\Out (l_ g) h' v' 3 (l++spn e off n).length (spC (l++spn e off n))
 | e,off,n,0,id,h,l,_,hm,_,_,_,_,_=>by omega
 | 0,off,n,m+1,id,h,l,hn,hm,ho,hl,hlow,hb,hr=>by
  have e0:n=0:=by omega
  subst e0;have c0:¬ (0:Int)<((0:Nat):Int):=by omega
  rw [xX,A40,E6k];exact ⟨_,_,by simp only [esc,c0]<;>rfl,B0L,id,rfl,hb,hr⟩
 | e+1,off,n,m+1,id,h,l,hn,hm,ho,hl,hlow,hb,hr=>by
  by_cases h0:n=0
  ·subst h0;have c0:¬ (0:Int)<((0:Nat):Int):=by omega
   rw [xX,A40,E6k];exact ⟨_,_,by simp only [esc,c0]<;>rfl,B0L,id,rfl,hb,hr⟩
  ·have c0:(0:Int)<(n:Int):=by omega
   rw [B9U (by omega)];generalize hK:min n (256-off%256)=K;have r1:N5 .rem (iV (off:Int)) (iV 256)=A4 (iV ((off%256:Nat):Int)):=by
    rw [D3o (by omega) (by omega)];congr 3
   have w1:E6a .i64 (256-((off%256:Nat):Int))=((256-off%256:Nat):Int):=by rw [wrap_i64 (by omega) (by omega)];omega
   have m1:B5i (iV (n:Int)) (iV ((256-off%256:Nat):Int))=A4 (iV (K:Int)):=by
    rw [D0i]
    congr 3
    split<;>omega
   have q1:N5 .quo (iV (off:Int)) (iV 256)=A4 (iV ((off/256:Nat):Int)):=by
    rw [B0F (by omega) (by omega) (by omega)];congr 3
   have ef1:F5 [o0,o0,o0] [(0,1,iV ((off/256:Nat):Int)),(1,1,iV ((off%256:Nat):Int)),(2,1,iV (K:Int))]=A4 (spC [(off/256,off%256,K)]):=rfl;have ef2:F5 [o0,o0,o0] [(0,3,.a (spC [(off/256,off%256,K)]))]=A4 (spC [(off/256,off%256,K)]):=rfl;obtain ⟨h',a1,a2,a3,a4,a5⟩:=push (ys:=spC [(off/256,off%256,K)]) hlow hr B0L hb rfl (by omega) (by omega);rw [<-D5s] at a2 a5;have w2:E6a .i64 ((off:Int)+(K:Int))=((off+K:Nat):Int):=A5a (by omega);have w3:E6a .i64 ((n:Int)-(K:Int))=((n-K:Nat):Int):=by rw [wrap_i64 (by omega) (by omega)];omega
   have el:(l++[(off/256,off%256,K)]).length=l_ l+1:=by simp
   obtain ⟨v',h'',f1,f2⟩:=C2M (q:=q) e (off+K) (n-K) m (l_ h+1) h' (l++[(off/256,off%256,K)]) (by omega) (by omega) (by omega) (by simp;omega) a3 a4 a2;rw [E6d,List.singleton_append] at f2;rw [el] at f1;refine ⟨v',h'',?_,f2⟩;rw [xX];simp only [esc,c0,r1,w1,m1,q1,ef1,ef2,a1,w2,w3];exact f1
def C59{off:Int}(h1:off<9223372036854775808):A69 [iV off,iV n] h=A4 (sV (l_ h) 0 (B7y off n).length 3,h++[rT (spC (B7y off n))]):=by
 have key:∀ g,∃ v g',A6N (C2Q off n+1) [iV off,iV n] g=A4 (v,g')/\Out (l_ g) g' v 3 (B7y off n).length (spC (B7y off n)):=by
  intro g;have x1:=D37 (k:=.i64) (a:=0) (b:=off);have x2:=D37 (k:=.i64) (a:=0) (b:=n);rw [C0g];unfold B7y;have ho:(if 0<off then off else 0)=C1H off:=rfl;rw [ho] at x1;have hN:C2Q off n=if C1H off<34304 then (if 34304-C1H off<(if 0<n then n else 0) then 34304-C1H off else (if 0<n then n else 0)).toNat else 0:=rfl
  have p1:0<=C1H off:=by unfold C1H;split<;>omega
  have p2:0<=(if 0<n then n else 0):=by split<;>omega
  generalize (if 0<n then n else 0)=n1 at *;generalize C1H off=o1 at *;by_cases c1:34304<=o1
  ·rw [if_neg (by omega)] at hN;rw [hN,A40];exact ⟨_,_,by simp only [esc,x1,c1]<;>rfl,rfl,l_ g+1,by simp,by omega,by simp [spC]⟩
  ·rw [if_pos (by omega)] at hN;have w1:E6a .i64 (34304-o1)=34304-o1:=wrap_i64 (by omega) (by omega);have x3:=D0i (k:=.i64) (a:=n1) (b:=34304-o1);have e1:(if 34304-o1<n1 then 34304-o1 else n1)=((C2Q off n:Nat):Int):=by rw [hN];split<;>omega
   rw [e1] at x3;generalize C2Q off n=N at *;obtain ⟨o2,rfl⟩:∃ o2:Nat,o1=o2:=⟨o1.toNat,by omega⟩;obtain ⟨v',h',f1,f2⟩:=C2M (g:=g) (q:=N+1) N o2 N (N+1) (l_ g+1) (g++[rT [],rT []]) [] (by omega) (by omega) (by split at e1<;>omega) (by simp;split at e1<;>omega) ((Low.refl (E56 _)).new _) (by omega) (by simp [spC]);rw [E6s] at f2;rw [E6E] at f1;refine ⟨v',h',?_,f2⟩;simp only [esc,x1,x2,c1,w1,x3];exact f1
 obtain ⟨v,g',e,ho⟩:=key (ro h);exact B8m e (by simpa [H6] using ho) E0N
def dJ(k s:Int):Int:=if k=1 then (if 0<(if 34304<s then 34304 else s) then (if 34304<s then 34304 else s) else 0) else 0
def D3G:0<=dJ k s/\dJ k s<=34304:=by
 unfold dJ;split
 ·split<;>split<;>omega
 ·omega
def D5o(h:0<dJ k s):k=1:=by
 unfold dJ at h;split at h
 ·assumption
 ·omega
def B53:A28 [.a (C8 k l s p d)] h=A4 (iV (dJ k s),h):=by
 have key:∀ g,∃ g',A9C 0 [.a (C8 k l s p d)] g=A4 (iV (dJ k s),g'):=by
  intro g;have i0:(C8 k l s p d)[0]?=A4 (cI k):=rfl;have i2:(C8 k l s p d)[2]?=A4 (cI s):=rfl;have x1:=D0i (k:=.i64) (a:=s) (b:=34304);rw [C3l];generalize C8 k l s p d=I at *;unfold dJ;by_cases c1:k=1
  ·rw [if_pos c1];generalize (if 34304<s then 34304 else s)=y at *;have x2:=D37 (k:=.i64) (a:=0) (b:=y);exact ⟨_,by simp only [esc,esh,Nat.reduceAdd,Nat.reduceMul,Nat.reduceLT,eq_self,i0,i2,c1,x1,x2]<;>rfl⟩
  ·rw [if_neg c1];exact ⟨_,by simp only [esc,esh,Nat.reduceAdd,Nat.reduceMul,Nat.reduceLT,eq_self,i0,i2,c1]<;>rfl⟩
 obtain ⟨g',e⟩:=key (ro h);exact B8l e rfl
def D1T(D:Dev)(n:Int)(d:List Int)(p:Nat):UInt8:=if uJ D n d (p/256)=0 then 0 else (blk D (uJ D n d (p/256))).getD (p%256) 0
def B7r(D:Dev)(n:Int)(d:List Int)(s:Spn):List UInt8:=(E6v (s.1*256+s.2.1) s.2.2).map (D1T D n d)
def D3f{a b c:Nat}(hc:b+c<=256)(h0:uJ D n d a=0):B7r D n d (a,b,c)=zeros c:=by
 unfold B7r zeros;refine List.ext_getElem (by simp) λi h1 h2=>?_
 simp only [E6y] at h2;rw [List.getElem_map,List.getElem_range',List.getElem_replicate];unfold D1T;have e:(a*256+b+1*i)/256=a:=by omega
 rw [e,if_pos h0]
def D3g{a b c:Nat}(hD:okD D)(hc:b+c<=256)(h0:uJ D n d a≠0):B7r D n d (a,b,c)=((blk D (uJ D n d a)).drop b).take c:=by
 have hl:=J9 hD (i:=uJ D n d a);unfold B7r;refine List.ext_getElem (by simp [hl];omega) λi h1 h2=>?_
 have hi:i<c:=by simpa using h1
 rw [List.getElem_map,List.getElem_range',List.getElem_take,List.getElem_drop];unfold D1T;have e:(a*256+b+1*i)/256=a:=by omega
 have e2:(a*256+b+1*i)%256=b+i:=by omega
 rw [e,e2,if_neg h0,E54,E51 (by omega)];rfl
def E4D{id n m:Nat}{ys:List Cell}(hr:rd h id=rT cs)(hl:l_ cs=n*sz)(hy:l_ ys=m*sz)(hsz:0<sz)(hn:n+m<=1073741824) :
  ∃ h',tJ (h++[rT ys]) sz (sV id 0 n sz) (sV (l_ h) 0 m sz)=A4 (sV (l_ h+1) 0 (n+m) sz,h')/\rd h' (l_ h+1)=rT (cs++ys)/\(∀ i r,i≠id->rd h i=A4 r->rd h' i=A4 r)/\(∀ b,b<=id->b<=l_ h->Low b h h'):=by
 have W5:=E1 hr;refine ⟨(h++[rT ys]).set id A7++[rT (cs++ys)],?_,?_,λi r hi hir=>?_,λb hb hb2=>(((Low.refl hb2).new _).set hb A7).new _⟩
 ·rw [A7p (h:=h++[rT ys]) (B7 hr) hl N6 hy rfl hsz hn];simp
 ·have:=N6 (h:=(h++[rT ys]).set id A7) (r:=Row.mk (cs++ys) A5);rw [E6F] at this;simpa using this
 ·refine B7 ?_;rw [B8 (Ne.symm hi)];exact B7 hir
def E3N{id n m:Nat}(hr:rd h id=rT cs)(hl:l_ cs=n)(hn:n+m<=1073741824) :
  ∃ h',C48 h 1 [.i .u8 0] (sV id 0 n 1) (iV (m:Int))=A4 (sV (l_ h) 0 (n+m) 1,h')/\rd h' (l_ h)=rT (cs++B5 (zeros m))/\(∀ i r,i≠id->rd h i=A4 r->rd h' i=A4 r)/\(∀ b,b<=id->b<=l_ h->Low b h h'):=by
 have hm:B5o (iV (m:Int))=A4 m:=by simp only [B5o];rw [if_pos (by omega)];simp
 refine ⟨h.set id A7++[rT (cs++B5 (zeros m))],?_,?_,λi r hi hir=>?_,λb hb hb2=>((Low.refl hb2).set hb A7).new _⟩
 ·simp only [C48,hm,E6h,hr,C1P];rw [if_pos ⟨trivial,trivial,by omega,trivial,hn⟩]
 ·have:=N6 (h:=h.set id A7) (r:=Row.mk (cs++B5 (zeros m)) A5);rw [E6F] at this;exact this
 ·refine B7 ?_;rw [B8 (Ne.symm hi)];exact hir
def D9Y(h1:Low (l_ g) g h)(h2:Low (l_ g) h h'):Low (l_ g) g h':=h1.trans h2
def C1N{D:Dev}{n m k l s p:Int}{d:List Int}{f:Cell}{g:A9}{pv q sid:Nat}{L:List Spn}(hD:okD D)(hd:l_ d=7)(hv:IsView g f D)(hk:k=1)
  (h1:rd g pv=rT (vwC (l_ D) n m f)) (h2:rd g (pv+1)=rT (C8 k l s p d)) (hL:∀ s∈L,s.2.1<256/\s.2.1+s.2.2<=256/\s.1<134) (hLl:l_ L<=40000) :
  ∀ (e i M id:Nat) (h:A9) (bs:List UInt8),i+e=l_ L->e<M->bs.length<=i*256->Low (l_ g) g h->l_ g<=id->id≠sid->rd h sid=rT (spC L)->rd h id=rT (B5 bs) ->
  ∃ v' h',B52 q M (pV pv 0) (pV (pv+1) 0) (sV id 0 bs.length 1) (sV sid 0 (l_ L) 3) (iV (l_ L:Int)) (iV (i:Int)) h=A4 (v',h') /\
   Out (l_ g) h' v' 1 (bs++((L.drop i).map (B7r D n d)).flatten).length (B5 (bs++((L.drop i).map (B7r D n d)).flatten))
 | e,i,0,id,h,bs,_,hM,_,_,_,_,_,_=>by omega
 | 0,i,M+1,id,h,bs,hi,hM,hb,hlow,hid,aR,hs,hr=>by
  have e0:i=(l_ L):=by omega
  subst e0;have c0:¬ ((l_ L:Nat):Int)<(l_ L:Nat):=by omega
  have e1:(L.drop (l_ L))=[]:=E6f (E56 _);rw [A8O,e1,List.map_nil,List.flatten_nil,E6k];exact ⟨_,_,by simp only [esc,c0]<;>rfl,by rw [B6,E69],id,rfl,hid,hr⟩
 | e+1,i,M+1,id,h,bs,hi,hM,hb,hlow,hid,aR,hs,hr=>by
  have K7:i<(l_ L):=by omega
  have c0:(i:Int)<(l_ L:Nat):=by omega
  obtain ⟨a,b,c⟩:=xEq (L[i]);obtain ⟨sp,hsp⟩:=xEq (L[i]);obtain ⟨a,b,c⟩:=sp;have hm:=hL L[i] (E6w K7);rw [<-hsp] at hm;dsimp only at hm;have g1:=hlow.rd h1;have hgl:=hlow.2.1;have g2:=hlow.rd h2;have hvh:=hv.since hlow;have ad:E9 3 (sV sid 0 (l_ L) 3) (iV (i:Int))=A4 (pV sid (i*3)):=by rw [E3 K7,E6j]
  have t1:D1 h 3 (pV sid (i*3))=A4 (.a [cI (a:Int),cI (b:Int),cI (c:Int)]):=by
   rw [T1 hs (by rw [B0L];omega) (by simp),E0M L i (a,b,c) (by rw [E51 K7,hsp])]
  obtain ⟨H,hH⟩:=xEq (h++[rT [cI (a:Int),cI (b:Int),cI (c:Int)]]);have lH:l_ H=l_ h+1:=by rw [hH];simp
  have k1:rd H pv=rT (vwC (l_ D) n m f):=by rw [hH];exact B7 g1
  have k2:rd H (pv+1)=rT (C8 k l s p d):=by rw [hH];exact B7 g2
  have k3:rd H (l_ h)=rT [cI (a:Int),cI (b:Int),cI (c:Int)]:=by rw [hH];exact N6
  have lowH:Low (l_ g) g H:=by rw [hH];exact hlow.new _
  have hs2:rd H sid=rT (spC L):=by rw [hH];exact B7 hs
  have hr2:rd H id=rT (B5 bs):=by rw [hH];exact B7 hr
  have hvH:=hv.since lowH;have st:F9 (h++[rT [o0,o0,o0]]) 3 (pV (l_ h) 0) (.a [cI (a:Int),cI (b:Int),cI (c:Int)])=A4 H:=by
   rw [hH,G9];rfl
  have q1:=C7 (h:=H) (id:=pv) k1 (n:=4) rfl;have q2:=C7 (h:=H) (id:=pv+1) k2 (n:=11) (by show (C8 k l s p d).length=11;simp [C8,C1,hd]);have q3:B9 H (pV (l_ h) 0)=A4 (iV (a:Int)):=C4 k3 rfl rfl;have q4:B9 H (pV (l_ h) 1)=A4 (iV (b:Int)):=C4 k3 rfl rfl;have q5:B9 H (pV (l_ h) 2)=A4 (iV (c:Int)):=C4 k3 rfl rfl;have ad0:K5 3 1 (pV (l_ h) 0) (iV 0)=A4 (pV (l_ h) 0):=rfl;have ad1:K5 3 1 (pV (l_ h) 0) (iV 1)=A4 (pV (l_ h) 1):=rfl;have ad2:K5 3 1 (pV (l_ h) 0) (iV 2)=A4 (pV (l_ h) 2):=rfl;have hA:=C56 (n:=n) (m:=m) (k:=k) (l:=l) (s:=s) (p:=p) (j:=(a:Int)) hD hd hvH;have hat:atF D n k d (a:Int)=uJ D n d a:=by unfold atF;rw [if_pos (by omega),E6q]
  rw [hat] at hA;have E4f:L.drop i=(a,b,c)::L.drop (i+1):=by rw [E6b K7,<-hsp]
  have w1:=D9 (a:=i) (by omega);rw [E4f,E6N,E65,A8O];obtain ⟨V,hV0⟩:∃ V,vwC (l_ D) n m f=V:=⟨_,rfl⟩;rw [hV0] at q1 hA;obtain ⟨I,hI0⟩:∃ I,C8 k l s p d=I:=⟨_,rfl⟩;rw [hI0] at q2 hA;by_cases cz:uJ D n d a=0
  ·rw [D3f (by omega) cz];rw [cz] at hA;obtain ⟨h',a1,a2,a3,a4⟩:=E3N (m:=c) hr2 (by rw [B6]) (by omega);rw [<-A6d] at a2;have el:(bs++zeros c).length=bs.length+c:=by simp
   obtain ⟨v',h'',f1,f2⟩:=C1N hD hd hv hk h1 h2 hL hLl e (i+1) M (l_ H) h' (bs++zeros c) (by omega) (by omega) (by rw [el];omega) (D9Y lowH (a4 _ hid (by omega))) (by omega) (by have:=E1 hs;omega) (a3 _ _ (Ne.symm aR) hs2) a2;rw [E6d] at f2;rw [el] at f1;refine ⟨v',h'',?_,f2⟩;simp only [esc,c0,ad,t1,st,q1,q2,q5,ad0,q3,ad2,hA,eq_self,a1,A8N,w1];exact f1
  ·rw [D3g hD (by omega) cz];have hB:=M7 (n:=n) (m:=m) (no:=uJ D n d a) hD hvH;rw [hV0] at hB;have hC:=B0z (h:=H) (J9 hD (i:=uJ D n d a)) (a:=(b:Int)) (n:=(c:Int));have ecut:B1L (blk D (uJ D n d a)) (b:Int) (c:Int)=((blk D (uJ D n d a)).drop b).take c:=by
    unfold B1L;rw [if_pos (by omega),E6q,E6q]
   rw [ecut] at hC;have oG:(((blk D (uJ D n d a)).drop b).take c).length=c:=by
    rw [E6A,List.length_drop,J9 hD];omega
   generalize ((blk D (uJ D n d a)).drop b).take c=cc at *;rw [oG] at hC;have hQ:=W2 (h:=H) (v:=sV (l_ H) 0 c 1) (Grows.rfl'.new (B5 cc));obtain ⟨h',a1,a2,a3,a4⟩:=E4D (n:=bs.length) (m:=c) (sz:=1) (ys:=B5 cc) hr2 (by rw [B6];omega) (by rw [B6];omega) (by omega) (by omega);rw [<-A6d] at a2;have el:(bs++cc).length=bs.length+c:=by simp [oG]
   obtain ⟨v',h'',f1,f2⟩:=C1N hD hd hv hk h1 h2 hL hLl e (i+1) M (l_ H+1) h' (bs++cc) (by omega) (by omega) (by rw [el];omega) (D9Y lowH (a4 _ hid (by omega))) (by omega) (by have:=E1 hs;omega) (a3 _ _ (Ne.symm aR) hs2) a2;rw [E6d] at f2;rw [el] at f1;refine ⟨v',h'',?_,f2⟩;simp only [esc,c0,cz,ad,t1,st,q1,q2,q4,q5,ad0,ad1,q3,ad2,hA,hB,hC,hQ,eq_self,a1,A8N,w1];exact f1
def gR(k s off cnt:Int):Nat:=if 0<=off/\off<dJ k s/\1<=cnt then (min cnt (dJ k s-off)).toNat else 0
def A1Z(D:Dev)(n k s:Int)(d:List Int)(off cnt:Int):List UInt8:=(E6v off.toNat (gR k s off cnt)).map (D1T D n d)
def D1c{off cnt:Int}:(A1Z D n k s d off cnt).length=gR k s off cnt:=by simp [A1Z]
def C76{off cnt:Int}(hD:okD D)(hd:l_ d=7)(hv:IsView h f D) :
  A90 [.a (vwC (l_ D) n m f),.a (C8 k l s p d),iV off,iV cnt] h=A4 (sV (l_ h) 0 (A1Z D n k s d off cnt).length 1,h++[rT (B5 (A1Z D n k s d off cnt))]):=by
 have key:∀ g,IsView g f D->∃ v g',A9B 40001 [.a (vwC (l_ D) n m f),.a (C8 k l s p d),iV off,iV cnt] g=A4 (v,g')/\Out (l_ g) g' v 1 (A1Z D n k s d off cnt).length (B5 (A1Z D n k s d off cnt)):=by
  intro g hv;have hIl:(C8 k l s p d).length=11:=by simp [C8,C1,hd]
  have hS:=λh=>B53 (k:=k) (l:=l) (s:=s) (p:=p) (d:=d) (h:=h)
  have hsz:=D3G (k:=k) (s:=s);rw [C3k];by_cases c:0<=off/\off<dJ k s/\1<=cnt
  ·have hk:k=1:=D5o (s:=s) (by omega);have c1:¬ off<0:=by omega
   have c2:¬ dJ k s<=off:=by omega
   have c3:¬ cnt<1:=by omega
   have w1:E6a .i64 (dJ k s-off)=dJ k s-off:=wrap_i64 (by omega) (by omega);have m1:=D0i (k:=.i64) (a:=cnt) (b:=dJ k s-off);have hN:(if dJ k s-off<cnt then dJ k s-off else cnt)=((gR k s off cnt:Nat):Int):=by
    unfold gR;rw [if_pos c];split<;>omega
   rw [hN] at m1;have hNo:off.toNat+gR k s off cnt<=34304:=by
    have:(gR k s off cnt:Int)<=dJ k s-off:=by rw [<-hN];split<;>omega
    omega
   have e1:B7y off (gR k s off cnt:Int)=spn (gR k s off cnt) off.toNat (gR k s off cnt):=by
    have eo:C1H off=off:=by unfold C1H;split<;>omega
    have em:C2Q off (gR k s off cnt:Int)=gR k s off cnt:=by
     unfold C2Q;rw [eo,if_pos (by omega)];generalize gR k s off cnt=N at *;have e2:(if (0:Int)<(N:Int) then (N:Int) else 0)=N:=by split<;>omega
     rw [e2,if_neg (by omega),E6q]
    unfold B7y;rw [em,eo]
   have eb:=C9N (D1T D n d) (gR k s off cnt) off.toNat (gR k s off cnt) (E56 _);have kY:=D6y (gR k s off cnt) off.toNat (gR k s off cnt);have hlen:=C7a (gR k s off cnt) off.toNat (gR k s off cnt);have hSp:=λh=>C59 (off:=off) (n:=(gR k s off cnt:Int)) (h:=h) (by omega)
   rw [e1] at hSp;have B7h:0<gR k s off cnt:=by
    have:(0:Int)<(gR k s off cnt:Int):=by rw [<-hN];split<;>omega
    omega
   have er:A1Z D n k s d off cnt=((spn (gR k s off cnt) off.toNat (gR k s off cnt)).map (B7r D n d)).flatten:=by
    unfold A1Z;rw [<-eb];rfl
   rw [er];generalize spn (gR k s off cnt) off.toNat (gR k s off cnt)=L at *;have hLd:L.drop 0=L:=rfl;obtain ⟨v',h',f1,f2⟩:=C1N (l:=l) (n:=n) (m:=m) (s:=s) (p:=p) (g:=g++[rT (vwC (l_ D) n m f),rT (C8 k l s p d),rT []]) (pv:=l_ g) (q:=40001) (sid:=l_ g+4) (L:=L) hD hd (hv.more _) hk (by simp) (by simp)
    (λx hx=>by
     have h1:=kY x hx;have h2:=h1.2.2.2.2 B7h;exact ⟨h1.1,h1.2.2.1,by omega⟩) (by omega) (l_ L) 0 40001 (l_ g+3) (g++[rT (vwC (l_ D) n m f),rT (C8 k l s p d),rT [],rT [],rT (spC L)]) [] (by omega) (by omega) (by simp)
    (by
     have:=(Low.refl (h:=g++[rT (vwC (l_ D) n m f),rT (C8 k l s p d),rT []]) (E56 _)).new [rT [],rT (spC L)];simpa using this) (by simp) (by omega) (by simp) (by simp [B5])
   rw [hLd,E6s] at f2;rw [E6E] at f1;refine ⟨v',h',?_,f2.1,?_⟩
   ·have l11:ldN (rT (C8 k l s p d)) 0 11=A4 (.a (C8 k l s p d)):=K8 hIl;generalize vwC (l_ D) n m f=V at *;generalize C8 k l s p d=I at *;simp only [esc,esh,Nat.reduceAdd,Nat.reduceMul,Nat.reduceLT,c1,c2,c3,hS,w1,m1,hSp,l11];exact f1
   ·obtain ⟨id,e,hb,hr⟩:=f2.2;exact ⟨id,e,by simp at hb;omega,hr⟩
  ·have er:A1Z D n k s d off cnt=[]:=by
    unfold A1Z gR;rw [if_neg c];rfl
   rw [er];have l11:ldN (rT (C8 k l s p d)) 0 11=A4 (.a (C8 k l s p d)):=K8 hIl;have fin:∀ h:A9,Out (l_ g) (g++[rT (vwC (l_ D) n m f),rT (C8 k l s p d),rT [],rT []]) (sV (l_ g+3) 0 0 1) 1 ([]:List UInt8).length (B5 []):=λh=>⟨rfl,l_ g+3,rfl,by omega,by simp [B5]⟩
   refine ⟨sV (l_ g+3) 0 0 1,_,?_,fin g⟩;generalize vwC (l_ D) n m f=V at *;generalize C8 k l s p d=I at *;by_cases c1:off<0
   ·simp only [esc,esh,Nat.reduceAdd,Nat.reduceMul,Nat.reduceLT,c1]
   ·by_cases c2:dJ k s<=off
    ·simp only [esc,esh,Nat.reduceAdd,Nat.reduceMul,Nat.reduceLT,c1,c2,hS,l11]
    ·have c3:cnt<1:=by omega
     simp only [esc,esh,Nat.reduceAdd,Nat.reduceMul,Nat.reduceLT,c1,c2,c3,hS,l11]
 obtain ⟨v,g',e,ho⟩:=key (ro h) hv.ro;exact C0G e (by simpa [H6] using ho) (by simp)
def D0v(hD:okD D)(hd:l_ d=7)(hv:IsView h f D) :
  B2O [.a (vwC (l_ D) n m f),.a (C8 k l s p d)] h=A4 (sV (l_ h) 0 (A1Z D n k s d 0 34304).length 1,h++[rT (B5 (A1Z D n k s d 0 34304))]):=by
 have key:∀ g,IsView g f D->∃ v g',B2d 0 [.a (vwC (l_ D) n m f),.a (C8 k l s p d)] g=A4 (v,g')/\Out (l_ g) g' v 1 (A1Z D n k s d 0 34304).length (B5 (A1Z D n k s d 0 34304)):=by
  intro g hv;have hIl:(C8 k l s p d).length=11:=by simp [C8,C1,hd]
  have l11:ldN (rT (C8 k l s p d)) 0 11=A4 (.a (C8 k l s p d)):=K8 hIl;have l4:=B6m (b:=l_ D) (n:=n) (m:=m) (f:=f);have hR:=C76 (n:=n) (m:=m) (k:=k) (l:=l) (s:=s) (p:=p) (off:=0) (cnt:=34304) (h:=g++[rT (vwC (l_ D) n m f),rT (C8 k l s p d),rT []]) hD hd (hv.more _);simp only [esc] at hR;rw [C4u];generalize A1Z D n k s d 0 34304=bs at *;generalize vwC (l_ D) n m f=V at *;generalize C8 k l s p d=I at *;exact ⟨_,_,by simp only [esc,esh,Nat.reduceAdd,Nat.reduceMul,Nat.reduceLT,l4,l11,hR]<;>rfl,by rw [B6,E69],l_ g+3,rfl,by omega,by simp⟩
 obtain ⟨v,g',e,ho⟩:=key (ro h) hv.ro;exact C3D e (by simpa [H6] using ho) (by simp)
def B7a(D:Dev)(n i:Int):Bool:=Q9 (l_ D) n i&&cQ (tQ D n i)
def lnV(D:Dev)(n i:Int):Int:=bif B7a D n i then B3D (tQ D n i) else 0
def szV(D:Dev)(n i:Int):Int:=bif B7a D n i then B3F (tQ D n i) else 0
def paV(D:Dev)(n i:Int):Int:=bif B7a D n i then B3E (tQ D n i) else 0
def drV(D:Dev)(n i:Int):List Int:=bif B7a D n i then bM (tQ D n i) else zI 7
def O8{i:Int}:(drV D n i).length=7:=by
 unfold drV;cases B7a D n i with
 | false=>exact N2
 | true=>exact M6
def D56{i:Int}:kdV D n i=bif B7a D n i then B1M (tQ D n i) else 0:=by
 unfold kdV B7a;cases Q9 (l_ D) n i<;>rfl
def pN(D:Dev)(n i:Int):B0t D n i=C8 (kdV D n i) (lnV D n i) (szV D n i) (paV D n i) (drV D n i):=by
 rw [D56];unfold B0t lnV szV paV drV B7a;cases Q9 (l_ D) n i with
 | false=>rfl
 | true =>
  rw [E6t,cond_true];unfold nX;cases cQ (tQ D n i)<;>rfl
def D4O{i:Int}(h:kdV D n i≠0):P7 (l_ D) n=A5/\1<=i/\i<=n:=by
 rw [<-O1];unfold kdV at h;cases hi:Q9 (l_ D) n i with
 | false=>rw [hi] at h;exact absurd rfl h
 | true=>rfl
structure Nd where
 ino:Int
 kind:Int
 links:Int
 parent:Int
 size:Int
 data:List UInt8
 names:List Ent
 deriving DecidableEq
def C8b(D:Dev)(n:Int)(e:Ent):Bool:=decide (kdV D n e.2=1)||decide (kdV D n e.2=2)
def A3o(D:Dev)(n i:Int):List Ent:=(gQ D n (kdV D n i) (drV D n i)).filter (C8b D n)
def A2h(D:Dev)(n i:Int):List UInt8:=A1Z D n (kdV D n i) (szV D n i) (drV D n i) 0 34304
def rZ(D:Dev)(n i:Int):Nd:=⟨i,kdV D n i,lnV D n i,paV D n i,dJ (kdV D n i) (szV D n i),A2h D n i,A3o D n i⟩
def C1y:(gQ D n k d).length<=224:=by
 have hbl:=A59 (D:=D) (n:=n) (k:=k) (d:=d);have:∀ L:List Int,(C5i D L).length<=7*(l_ L):=by
  intro L
  induction L with
  | nil=>simp [C5i]
  | cons b L ih =>
   have:=kE (blk D b);rw [C8J,E58,E6g];simp [B9Z];omega
 have h1:=this (S7 D n k d);have h2:=D7w (D:=D) (n:=n) (k:=k) (d:=d);unfold qV at h2;omega
def D2W{i:Int}:(A3o D n i).length<=224:=by
 have h1:=C1y (D:=D) (n:=n) (k:=kdV D n i) (d:=drV D n i);have h2:=E6R (C8b D n) (gQ D n (kdV D n i) (drV D n i));unfold A3o;omega
def C1Q(r:List Int)(i:Int):List Int:=if i∈r then r else r++[i]
def C64(r:List Int)(es:List Ent):List Int:=es.foldl (λr e=>C1Q r e.2) r
def A9c(N:Int->List Ent):Nat->Nat->List Int->List Int
 | 0,_,R=>R
 | e+1,i,R=>if h:i<(1::R).length then A9c N e (i+1) (C64 R (N ((1::R)[i]))) else R
def D3A{r:List Int}{i:Int}:a∈C1Q r i↔a∈r\/a=i:=by
 unfold C1Q;split
 ·constructor
  ·exact .inl
  ·rintro (h | rfl)<;>assumption
 ·simp
def E0F(r:List Int)(i:Int):r <+: C1Q r i:=by
 unfold C1Q;split
 ·exact E6T _
 ·exact List.prefix_append _ _
def D5n{r:List Int}{i:Int}(h:r.Nodup):(C1Q r i).Nodup:=by
 unfold C1Q;split
 ·exact h
 ·rename_i hn;rw [List.nodup_append];exact ⟨h,by simp,λa ha b hb e=>by simp at hb;subst hb;subst e;exact hn ha⟩
def B4Y{r:List Int}{e:Ent}{es:List Ent}:C64 r (e::es)=C64 (C1Q r e.2) es:=rfl
def B4a{a:Int}:∀ {es:List Ent} {r:List Int},a∈C64 r es↔a∈r\/∃ e∈es,e.2=a
 | [],r=>by simp [C64]
 | e::es,r=>by
  rw [B4Y,B4a,D3A];constructor
  ·rintro ((h | rfl) | ⟨x,hx,rfl⟩)
   ·exact .inl h
   ·exact .inr ⟨e,by simp,rfl⟩
   ·exact .inr ⟨x,by simp [hx],rfl⟩
  ·rintro (h | ⟨x,hx,rfl⟩)
   ·exact .inl (.inl h)
   ·rw [E68] at hx;rcases hx with rfl | hx
    ·exact .inl (.inr rfl)
    ·exact .inr ⟨x,hx,rfl⟩
def C66:∀ (es:List Ent) (r:List Int),r <+: C64 r es
 | [],r=>E6T _
 | e::es,r=>by rw [B4Y];exact (E0F r e.2).trans (C66 es _)
def C65:∀ {es:List Ent} {r:List Int},r.Nodup->(C64 r es).Nodup
 | [],r,h=>h
 | e::es,r,h=>by rw [B4Y];exact C65 (D5n h)
structure RowI(N:Int->List Ent)(i:Nat)(R:List Int):Prop where
 nd:R.Nodup
 hd:1∈R
 rg:∀ a∈R,1<=a/\a<=128
 dn:∀ (j:Nat) (a:Int),j<i->(1::R)[j]?=A4 a->∀ e∈N a,e.2∈R
 by_:∀ a∈R,a≠1->∃ b∈R,∃ e∈N b,e.2=a
def RowI.one{N:Int->List Ent}:RowI N 0 [1] :=
 ⟨by simp,by simp,λa ha=>by simp at ha;omega,λj a hj=>by omega,λa ha hn=>by simp at ha;exact absurd ha hn⟩
def RowI.step{N:Int->List Ent}(hN:∀ a,∀ e∈N a,1<=e.2/\e.2<=128)(h:RowI N i R)(hi:i<(1::R).length):RowI N (i+1) (C64 R (N ((1::R)[i]))):=by
 have hm:(1::R)[i]∈R:=by
  have:=E6w hi;rw [E68] at this;rcases this with e | e
  ·rw [e];exact h.hd
  ·exact e
 have hp:=C66 (N ((1::R)[i])) R;refine ⟨C65 h.nd,hp.subset h.hd,λa ha=>?_,λj a hj hja e he=>?_,λa ha hn=>?_⟩
 ·rcases B4a.1 ha with ha | ⟨e,he,rfl⟩
  ·exact h.rg a ha
  ·exact hN _ e he
 ·by_cases hji:j=i
  ·subst hji;have:a=(1::R)[j]:=by
    have hpre:(1::R) <+: (1::C64 R (N ((1::R)[j]))):=List.cons_prefix_cons.2 ⟨rfl,hp⟩;have h2:=List.prefix_iff_getElem?.1 hpre j hi;rw [h2] at hja;exact (Option.some.inj hja).symm
   subst this;exact B4a.2 (.inr ⟨e,he,rfl⟩)
  ·have E5f:(1::R)[j]?=A4 a:=by
    have hpre:(1::R) <+: (1::C64 R (N ((1::R)[i]))):=List.cons_prefix_cons.2 ⟨rfl,hp⟩;have h2:=List.prefix_iff_getElem?.1 hpre j (by omega);rw [E51 (by omega),<-hja,h2]
   exact hp.subset (h.dn j a (by omega) E5f e he)
 ·rcases B4a.1 ha with ha | ⟨e,he,rfl⟩
  ·obtain ⟨b,hb,e,he,h3⟩:=h.by_ a ha hn;exact ⟨b,hp.subset hb,e,he,h3⟩
  ·exact ⟨_,hp.subset hm,e,he,rfl⟩
def A6s(hn:R.Nodup)(hr:∀ a∈R,1<=a/\a<=128):l_ R<=128:=by
 have:(R.map Int.toNat).Nodup:=by
  rw [List.Nodup,List.pairwise_map];refine hn.imp_of_mem λ{a b} ha hb hab e=>?_
  have:=hr a ha;have:=hr b hb;omega
 have hs:∀ x∈R.map Int.toNat,x∈E6v 1 128:=by
  intro x hx;rw [List.mem_map] at hx;obtain ⟨a,ha,rfl⟩:=hx;have:=hr a ha;rw [List.mem_range'_1];omega
 have:=List.Nodup.length_le_of_subset this hs;simpa using this
def D3W{N:Int->List Ent}(hN:∀ a,∀ e∈N a,1<=e.2/\e.2<=128):∀ (e i:Nat) (R:List Int),130<=e+i->RowI N i R->(∃ j,(1::A9c N e i R).length<=j/\RowI N j (A9c N e i R))/\R <+: A9c N e i R
 | 0,i,R,h,hi=>by
  have:=A6s hi.nd hi.rg;exact ⟨⟨i,by simp [A9c];omega,hi⟩,E6T _⟩
 | e+1,i,R,h,hi=>by
  unfold A9c;by_cases hl:i<(1::R).length
  ·rw [dif_pos hl];obtain ⟨h1,h2⟩:=D3W hN e (i+1) _ (by omega) (hi.step hN hl);exact ⟨h1,(C66 _ _).trans h2⟩
  ·rw [dif_neg hl];exact ⟨⟨i,by omega,hi⟩,E6T _⟩
def C1O(D:Dev)(n:Int):List Int:=A9c (A3o D n) 130 0 [1]
def E4(D:Dev)(n:Int):List Nd:=if kdV D n 1=2 then ((E6z 129).filter λ(i:Nat)=>decide ((i:Int)∈C1O D n)).map λ(i:Nat)=>rZ D n (i:Int) else []
def D2Q{b:Int}(h:P7 b n=A5):n<=128:=by
 simp only [P7,E53,decide_eq_true_eq] at h;omega
def D6i:∀ e∈A3o D n a,kdV D n e.2=1\/kdV D n e.2=2:=by
 intro e he;have:=(List.mem_filter.1 he).2;unfold C8b at this;simpa using this
def D0Z:∀ e∈A3o D n a,1<=e.2/\e.2<=128:=by
 intro e he;have h:=D4O (D:=D) (n:=n) (i:=e.2) (by rcases D6i e he with h | h<;>omega);have:=D2Q h.1;omega
def B9Q:∃ j,(1::C1O D n).length<=j/\RowI (A3o D n) j (C1O D n):=(D3W (λa=>D0Z) 130 0 [1] (by omega) RowI.one).1
def E12(ha:a∈C1O D n):∀ e∈A3o D n a,e.2∈C1O D n:=by
 obtain ⟨j,hj,hi⟩:=B9Q (D:=D) (n:=n);obtain ⟨i,hi2⟩:=List.mem_iff_getElem?.1 (E59 1 ha);have:=(List.getElem?_eq_some_iff.1 hi2).1;exact hi.dn i a (by omega) hi2
def B40{x:Nd}:x∈E4 D n↔kdV D n 1=2/\x.ino∈C1O D n/\x=rZ D n x.ino:=by
 obtain ⟨j,hj,hi⟩:=B9Q (D:=D) (n:=n);unfold E4;by_cases h:kdV D n 1=2
 ·rw [if_pos h,List.mem_map];constructor
  ·rintro ⟨i,hi,rfl⟩;exact ⟨h,of_decide_eq_true (List.mem_filter.1 hi).2,rfl⟩
  ·rintro ⟨_,h1,h2⟩;have:=hi.rg _ h1;refine ⟨x.ino.toNat,List.mem_filter.2 ⟨by rw [List.mem_range];omega,?_⟩,?_⟩
   ·rw [show ((x.ino.toNat:Nat):Int)=x.ino by omega];simpa using h1
   ·rw [show ((x.ino.toNat:Nat):Int)=x.ino by omega];exact h2.symm
 ·rw [if_neg h];simp [h]
def treeV_up:(E4 D n).Pairwise λx y=>x.ino<y.ino:=by
 unfold E4;split
 ·rw [List.pairwise_map];refine (List.pairwise_lt_range).filter _ |>.imp λ{a b} h=>?_
  show (a:Int)<b;omega
 ·exact List.Pairwise.nil
def gO(t:List Nd)(i:Int):Option Nd:=t.find? λx=>decide (x.ino=i)
def nZ(t:List Nd)(i:Int):Nat:=(t.map λx=>(x.names.filter λe=>decide (e.2=i)).length).sum
def D4z{i:Int}(h:kdV D n 1=2)(hi:i∈C1O D n):gO (E4 D n) i=A4 (rZ D n i):=by
 have hm:rZ D n i∈E4 D n:=B40.2 ⟨h,hi,rfl⟩;unfold gO;cases hf:(E4 D n).find? λx=>decide (x.ino=i) with
 | none =>
  rw [List.find?_eq_none] at hf;exact absurd (show (rZ D n i).ino=i from rfl) (by simpa using hf _ hm)
 | some x =>
  have h1:=List.mem_of_find?_eq_some hf;have h2:=List.find?_some hf;have h3:=(B40.1 h1).2.2;rw [of_decide_eq_true h2] at h3;rw [h3]
def small(t:List Nd):Prop:=l_ t<=1000000/\∀ x∈t,x.data.length<=1000000/\x.names.length<=1000000
def E0P{α:Type}{l m:List α}(h:l <+: m)(hi:i<=l_ l):m.take i=l.take i:=by
 obtain ⟨t,rfl⟩:=h;rw [List.take_append_of_le_length hi]
def D4A{k:Nat}{x:Ent}(hx:N9 b k=A4 x):aE x.1=A5:=by
 unfold N9 at hx;cases hu:gA (nameB b k) with
 | none=>rw [hu] at hx;cases hx
 | some s' =>
  rw [hu,E6h] at hx;split at hx
  ·cases hx;exact A3s hu
  ·cases hx
def D4R{e:Ent}(h:e∈gQ D n k d):aE e.1=A5:=by
 unfold gQ at h;rw [List.mem_map] at h;obtain ⟨s,hs,rfl⟩:=h;rw [dT] at hs;unfold T3 at hs;rw [List.mem_map] at hs;obtain ⟨t,ht,rfl⟩:=hs;have h1:=(List.mem_filter.1 ht).1;unfold qV C5i at h1;rw [List.mem_flatMap] at h1;obtain ⟨b,_,h2⟩:=h1;unfold B9Z at h2;rw [List.mem_map] at h2;obtain ⟨x,hx,rfl⟩:=h2;have h3:=D4A (A8Y hx).1;exact h3
section
variable (n m m2:Nat) (a0 a1 a2 a3 x1 x2 x3 x4 x5 x6 x8 x9 x10 x11 x12 x17 x18 x19 x28 x29 x30 x34 x35 x36 x45:Val) (h:A9)
def iJ:FD A8:=⟨px 0X124f766f76c1c211111104326bf3e055a022180022a66f506239020129123e19e2180466f57182401b61919021aa1a18a1aa70150227c4f061b94524ef1900079062030416e52f44a1c62b4249f22629181b021841821d45e4215011a07024613401217f420060511029042335c1b186843a1c57d7b795282102339f27613c065a01518141c1328122c11381063c3b042234c1b185841801133e1b180433a50412e50402a5381d01e1191d0531cf21b63b51b042032c12841a1c51b423c41b422e219531c2,[],[],[.cellN 4 7],[D7 F8 K1,D7 A28 A9j,D7 B2O C14,D7 wL A9h]⟩
def B2v:=iJ.R
def B91:AtH:=iJ.lj 0 n [m] [x2,x4,x6,x28,x29,x30]
def D1k:AtH:=iJ.lj 1 n [m] [x2,x4,x6,x28,x29,x30]
def B21:=tT [⟨2,6,B91⟩,⟨2,6,D1k⟩]
def C4O:=mR B2v iJ B21 n [a0,a1] h
def B1s:=mL iJ B21 0 n [m] [x2,x4,x6,x28,x29,x30] h
def A2m:=mJ iJ B21 1 n [m] [x2,x4,x6,x28,x29,x30] h
def C19:=iJ.K Tryz.func50
def A5Y:=iJ.S
def A8a:C8F B2v A5Y:=C19.tidy
def A5t:FD A8:=⟨px 0X2582a0613901011113e714a451816f104203713e418713c450192110332403f1e1d023d4521cf11bf2763c51b11a280181b2c1af70038711e1859191d75302c2,[],[.look (A4 .i64) (.a ([o0,o0,o0,o0,o0,.ns,.ns])) A5 (.t 8) (.t 9),.mput (A4 .i64) (.t 15) (.t 16) (.t 19)],[],[D7 A5Y C19]⟩
def C2f:=A5t.R
def B2u:=mR C2f A5t (tT []) n [a0,a1,a2,a3] h
def C18:=A5t.K Tryz.func49
def uD:=A5t.Q
def B2U:OfT C2f uD:=C18.of
def N1:FD A8:=⟨px 0X17cf201ce7c025000002727bf5d053c07b4921807af1900673907013c173e1ba7181bc1518241ac6e011dd3526df16cf2763c1b1b11a280186c2c6bf6802381a813f695919392f21925ff1a04122d4255031a47024313188d01211bd420264515d011bb71820137194812b11111114723bf605002583a03185cf4c0528022180165f04118a55f5804184ff22629181b021841821d47a423503270247134012119b42016250110296079138040411d6816a46a3c591901919918f18d1c3154130702406120294e4482e046b42030060516013e484a1c211235105f3e2c02022bf503e4c483692b18921b0522af22a241b51011112a5d3194229f22a531b0297d372019201724815006224190320079502033841d1c449420374a03a2342,[],[.mkMap,.look (A4 .i64) (.a ([o0,o0,o0,o0,o0,.ns,.ns])) A6 (.t 28) (.t 32),.look (A4 .i64) (.a ([o0,o0,o0,o0,o0,.ns,.ns])) A5 (.t 49) (.t 50)],[.tmp 2],[D7 F8 K1,fU uD C18]⟩
def B00:=N1.R
def sG:K6:=N1.E
def A0H:AtH:=N1.lj 0 n [m] [x3,x4,x5,x6]
def A9b:AtH:=N1.lj 1 n [m,m2] [x3,x4,x5,x6,x34,x35,x36]
def A0I:AtH:=N1.lj 2 n [m] [x3,x9,x45]
def C1X:AtH:=N1.lj 3 n [m] [x3,x9,x45]
def jN:TT:=⟨sG,[⟨2,4,A0H⟩,⟨3,7,A9b⟩,⟨2,3,A0I⟩,⟨2,3,C1X⟩]⟩
def A35:=mR B00 N1 jN n [a0] h
def A2I:=mL N1 jN 0 n [m] [x3,x4,x5,x6] h
def A2J:=mL N1 jN 1 n [m,m2] [x3,x4,x5,x6,x34,x35,x36] h
def qX:=mL N1 jN 2 n [m] [x3,x9,x45] h
def A2H:=mJ N1 jN 3 n [m] [x3,x9,x45] h
def A18:=N1.K Tryz.func14
def dR:=N1.Q
def A4n:OfT B00 dR:=A18.of
def uA:FD A8:=⟨px 0X135026c7603c3e18e3023df1a054e03d49218011b50268765a71835c152022a6585062390464a500023e602022a53e50613904538500013e6222202322404223e10401e1e2b44b421df2763c71b071841871d41842150307024513401212f420060511029718032d2b2932820023313c41b219301c2,[],[],[.cellN 4 7,.tmp 5],[]⟩
def A1q:=uA.R
def yE:AtH:=uA.lj 0 n [m] [x1,x4,x8,x9,x10]
def C2m:=tT [⟨2,5,yE⟩]
def B2t:=mR A1q uA C2m n [a0,a1] h
def A2l:=mL uA C2m 0 n [m] [x1,x4,x8,x9,x10] h
def A5A:=uA.K Tryz.func132
def nG:=uA.S
def C01:G0 A1q nG:=A5A.flat
def C02:C8F A1q nG:=A5A.tidy
def Z1:FD A8:=⟨px 0X13ff406c3f02280000000006723ef1c054c03e492183df2b052c03d4921803cf5050025c13182404226810413c2f2b46d2522ef22629191b021841821d42e4235021a27024181340121594201625110290462a282b44f4d4b21d21ff2763c71b071841871d41c42150307024513401213b42006051102971a03392f2d328200231111b42140130182,[],[],[.tmp 4],[]⟩
def A9K:=Z1.R
def A7J:AtH:=Z1.lj 0 n [m] [x1,x5,x10,x11,x12]
def B6l:AtH:=Z1.lj 1 n [m,m2] [x1,x5,x10,x11,x12,x17,x18,x19]
def C8k:AtH:=Z1.lj 2 n [m,m2] [x1,x5,x10,x11,x12,x17,x18,x19]
def A3e:=tT [⟨2,5,A7J⟩,⟨3,8,B6l⟩,⟨3,8,C8k⟩]
def C3v:=mR A9K Z1 A3e n [a0,a1] h
def A9a:=mL Z1 A3e 0 n [m] [x1,x5,x10,x11,x12] h
def A0G:=mL Z1 A3e 1 n [m,m2] [x1,x5,x10,x11,x12,x17,x18,x19] h
def A89:=mJ Z1 A3e 2 n [m,m2] [x1,x5,x10,x11,x12,x17,x18,x19] h
def B7R:=Z1.K Tryz.func87
def A92:=Z1.S
def B8y:G0 A9K A92:=B7R.flat
end
def D4u{l:List Ent}{x:Ent}:J8 (l++[x])=J8 l++W0 (A4 x):=by simp [J8]
def gN{l:List Ent}:(J8 l).length=l_ l*2:=by
 induction l with
 | nil=>rfl
 | cons x l ih=>simp only [J8,E6N,E65,E58,E6g,W0,E6E] at ih ⊢;omega
def B0k{l:List Ent}:N8 (J8 l)=A5:=by
 induction l with
 | nil=>rfl
 | cons x l ih =>
  have:J8 (x::l)=W0 (A4 x)++J8 l:=rfl;rw [this,pM,ih];rfl
def A8H{l:List Ent}:noX (J8 l)=A5:=by
 induction l with
 | nil=>rfl
 | cons x l ih =>
  have:J8 (x::l)=[.s x.1,cI x.2]++J8 l:=rfl;rw [this];simp [noX,Cell.isX] at ih ⊢;exact ih
def D25{F:List UInt8->Int}{B:A9}{b q mid sid:Nat}{S:rN}{es:V3}(hm:MapN es F S)(hb:b+5<l_ B)(hs:rd B sid=rT (encS S))(h5:rd B (b+5)=rT [.m mid])(h4:rd B mid=A4 (P6 es))(h62:l_ S<1000000) :
  ∀ (e i M id:Nat) (h:A9),i+e=l_ S->e<M->Low b B h->id≠b+5->id≠sid->id≠mid->b<=id->(∀ j r,j=b+5\/j=sid\/j=mid->rd B j=A4 r->rd h j=A4 r)->rd h id=rT (J8 ((S.take i).map λs=>(s,F s)))->l_ B<=(l_ h) ->
   ∃ v' h',B50 q M (.c (.p (b+5) 0)) (.c (.sl id 0 i 2)) (.c (.sl sid 0 (l_ S) 1)) (.c (cI (l_ S:Int))) (.c (cI (i:Int))) h=A4 (v',h')/\Out b h' v' 2 (l_ S) (J8 (S.map λs=>(s,F s)))
 | e,i,0,id,h,_,hm,_,_,_,_,_,_,_,_=>by omega
 | 0,i,M+1,id,h,hi,hm0,hlow,n5,ns,n4,hbi,hk,hr,hl=>by
  have c0:¬ (i:Int)<(l_ S:Nat):=by omega
  have ei:i=(l_ S):=by omega
  subst ei;rw [A8E];rw [List.take_length] at hr;refine ⟨.c (.sl id 0 (l_ S) 2),h,by simp only [C6,G3,c0,decide_false,Y0],by rw [gN];simp,id,rfl,hbi,hr⟩
 | e+1,i,M+1,id,h,hi,hm0,hlow,n5,ns,n4,hbi,hk,hr,hl=>by
  have K7:i<(l_ S):=by omega
  have c0:(i:Int)<(l_ S:Nat):=by omega
  have ad:E9 1 (.c (.sl sid 0 (l_ S) 1)) (.c (cI (i:Int)))=A4 (.c (.p sid i)):=by rw [E3 K7];simp
  have l1:B9 h (.c (.p sid i))=A4 (.c (.s S[i])):=C4 (hk sid _ (.inr (.inl rfl)) hs) (by rw [B3s,E51 K7];rfl) rfl;have l5:B9 h (.c (.p (b+5) 0))=A4 (.c (.m mid)):=C4 (hk _ _ (.inl rfl) h5) rfl rfl;have lk:=D2L (s:=S[i]) (hk _ _ (.inr (.inr rfl)) h4) hm (E6w K7);have ef:F5 [Cell.s [],o0] [(0,1,.c (.s S[i])),(1,1,.c (cI (F S[i])))]=A4 (W0 (A4 (S[i],F S[i]))):=rfl;have ef2:F5 [Cell.s [],o0] [(0,2,.a (W0 (A4 (S[i],F S[i]))))]=A4 (W0 (A4 (S[i],F S[i]))):=rfl;have el:((S.take i).map λs=>(s,F s)).length=i:=by simp;omega
  obtain ⟨h2,a1,a2,a3,a4⟩:=B7t (n:=i) (sz:=2) (ys:=W0 (A4 (S[i],F S[i]))) hr (by rw [gN,el]) rfl (by omega) (by omega);have et:J8 ((S.take i).map λs=>(s,F s))++W0 (A4 (S[i],F S[i]))=J8 ((S.take (i+1)).map λs=>(s,F s)):=by
   rw [List.take_add_one,E51 K7,E6Q,J8];simp [J8]
  rw [et] at a2;have w1:=D9 (a:=i) (by omega);have E5n:=E1 a2;obtain ⟨v',h',f1,f2⟩:=D25 (q:=q) hm hb hs h5 h4 h62 e (i+1) M (l_ h+1) h2 (by omega) (by omega) (hlow.trans (a4 _ hbi (by have:=hlow.1;omega))) (by omega)
   (λe1=>by have:=E1 hs;omega) (λe1=>by have:=E1 h4;omega) (by omega) (λj r hj hjr=>a3 _ _ (by rcases hj with rfl | rfl | rfl<;>omega) (hk j r hj hjr)) a2 (by omega)
  rw [A8E];refine ⟨v',h',?_,f2⟩;simp only [C6,G3,c0,decide_true,W9,ad,l1,l5,lk,ef,ef2,a1,L7,w1];exact f1
def B5Z(hD:okD D)(hd:l_ d=7)(hv:IsView h f D) :
  wL [.a (vwC (l_ D) n m f),.a (C8 k l s p d)] h=A4 (.c (.sl (l_ h) 0 (gQ D n k d).length 2),h++[rT (J8 (gQ D n k d))]):=by
 have key:∀ g,IsView g f D->∃ v g',A9x 300 [.a (vwC (l_ D) n m f),.a (C8 k l s p d)] g=A4 (v,g')/\Out (l_ g) g' v 2 (gQ D n k d).length (J8 (gQ D n k d)):=by
  intro g hv;have hIl:(C8 k l s p d).length=11:=by simp [C8,C1,hd]
  have hbl:=A59 (D:=D) (n:=n) (k:=k) (d:=d);obtain ⟨V,hV⟩:=xEq (vwC (l_ D) n m f);obtain ⟨I,hI⟩:=xEq (C8 k l s p d);have hVl:l_ V=4:=by rw [hV];rfl
  have D9E:l_ I=11:=by rw [hI];exact hIl
  obtain ⟨G,hG⟩:=xEq (g++[rT V,rT I,rT [],rT [.ns],A4 (P6 []),rT [.m (l_ g+4)]]);obtain ⟨G2,hG2⟩:=xEq (G++[rT V,rT I,rT (encI (S7 D n k d))]);have lG:l_ G=l_ g+6:=by rw [hG];simp
  have lG2:G2.length=l_ g+9:=by rw [hG2];simp [lG]
  have hB:=A2i (n:=n) (m:=m) (k:=k) (l:=l) (s:=s) (p:=p) (h:=G++[rT V,rT I]) hD hd (by rw [hG];exact (hv.more _).more _);rw [<-hV,<-hI] at hB;have hB2:(G++[rT V,rT I])++[rT (encI (S7 D n k d))]=G2:=by rw [hG2];simp
  rw [hB2] at hB;have lB:(G++[rT V,rT I]).length=l_ g+8:=by simp [lG]
  rw [lB] at hB;have emk:A3f 134 [.c (.p (l_ g) 0),.c (.p (l_ g+1) 0),.c (.p (l_ g+3) 0),.c (.p (l_ g+5) 0)]=A4 (.c (.f 134 [(l_ g,0),(l_ g+1,0),(l_ g+3,0),(l_ g+5,0)])):=rfl;have hcv:∀ (x y:Val) (h:A9),aD mS (.c (.f 134 [(l_ g,0),(l_ g+1,0),(l_ g+3,0),(l_ g+5,0)])) [x,y] h=wM [x,y,.c (.p (l_ g) 0),.c (.p (l_ g+1) 0),.c (.p (l_ g+3) 0),.c (.p (l_ g+5) 0)] h:=λ_ _ _=>Eq.trans rfl rfl
  have P0:ListP D n k d V I (S7 D n k d) g [] 0 [] G2:=by
   refine ⟨VarC.nil ?_,E56 _,?_,?_,?_,?_,?_,?_,⟨[],?_,MapN.nil _⟩,λj hj=>by simp at hj⟩
   ·rw [hG2,hG];simp
   ·rw [hG2,hG];exact ((Low.refl (E56 _)).new _).new _
   ·rw [hG2,hG];simp
   ·rw [hG2,hG];simp
   ·rw [hG2,<-lG];simp
   ·rw [hG2,show (l_ g)+8=l_ G+2 by omega];simp
   ·rw [hG2,hG];simp
   ·rw [hG2,hG];simp
  obtain ⟨h',f1,f2⟩:=B3a (σ:=List Tld) (L0:=λM x h=>zP 300 M (.c (.f 134 [(l_ g,0),(l_ g+1,0),(l_ g+3,0),(l_ g+5,0)])) (.c (.p (l_ g+6) 0)) (.c (.sl (l_ g+8) 0 (S7 D n k d).length 1)) (.c (cI ((S7 D n k d).length:Nat))) x h)
   (L1:=λM m2 x7 x14 x21 x22 x23 h=>zQ 300 M m2 (.c (.f 134 [(l_ g,0),(l_ g+1,0),(l_ g+3,0),(l_ g+5,0)])) (.c (.p (l_ g+6) 0)) x7 (.c (.sl (l_ g+8) 0 (S7 D n k d).length 1)) (.c (cI ((S7 D n k d).length:Nat))) x14 x21 x22 x23 h)
   (C:=λx y h=>aD mS (.c (.f 134 [(l_ g,0),(l_ g+1,0),(l_ g+3,0),(l_ g+5,0)])) [x,y] h)
   (N:=300) (x3:=.c (.p (l_ g+6) 0)) (n:=n) (m:=m) (f:=f) (sid:=l_ g+8) (L:=S7 D n k d) hD (λrs c s h=>ListP D n k d V I (S7 D n k d) g rs c s h) (λs t=>s++[t]) (by omega)
   (λM x h=>by rw [A7w])
   (λM v9 x v w M2 y h=>by rw [A7x])
   (λrs c s h P=>⟨by rw [<-hV];exact C7 P.r6 hVl,hv.since P.low,P.r8⟩)
   (λrs c s h t P=>P.more t) (λrs c s h r P=>P.one r) (λi rs c s h P=>P.less) (λrs c c' s h P hc=>P.wide hc)
   (λrs c st h1 no x P hc Y3 hx=>by
    obtain ⟨h2,e1,e2,e3⟩:=E3E (t:=((no,x.1,x.2.2),x.2.1)) (n:=n) (m:=m) (k:=k) (l:=l) (s0:=s) (p:=p) (c:=c) hD hd hv (by omega) (by have:=B4W (A8Y hx).1;exact this) (by rw [<-hV,<-hI];exact P);rw [<-hV,<-hI] at e2;exact ⟨h2,by rw [hcv];exact e1,e2,e3⟩)
   (by omega) (S7 D n k d).length 0 300 [] [] G2 (by omega) (by omega) P0
  rw [E6i] at f2;have efold:∀ (L:List Tld) (s0:List Tld),L.foldl (λs t=>s++[t]) s0=s0++L:=by
   intro L
   induction L with
   | nil=>intro s0;simp
   | cons t L ih=>intro s0;rw [E64,ih];simp
  rw [efold,E6s] at f2;change ListP D n k d V I (S7 D n k d) g [] (7*(S7 D n k d).length) (qV D n k d) h' at f2;have hS:nE [.a V,.a I,.c (.f 134 [(l_ g,0),(l_ g+1,0),(l_ g+3,0),(l_ g+5,0)])] G=A4 (.t [],h'):=by
   refine A73 (n:=300) ?_;rw [A7U];have g4:D1 (G++[rT V,rT I]) 4 (.c (.p (l_ G) 0))=A4 (.a V):=by rw [G8];exact K8 hVl
   have g11:D1 (G++[rT V,rT I]) 11 (.c (.p (l_ G+1) 0))=A4 (.a I):=by rw [O7];exact K8 D9E
   simp only [eH,C6,E6d,E6Y,E6s,E58,E6g,E6E,E6j,g4,g11,hB,B0c];rw [lG];exact f1
  obtain ⟨x,hx,hdx⟩:=f2.var;have hN:=C6F (D:=D) (n:=n) (k:=k) (d:=d) (s:=qV D n k d);have hlen:=f2.len;have W5:=E1 f2.r8;have hH:Has (h'++[rT []]) (.c x) 1 (T3 D n k d (qV D n k d)).length (encS (T3 D n k d (qV D n k d))):=by
   rcases hdx with ⟨e1,e2,rfl⟩ | ⟨id,rfl,hr,hl,_,_⟩
   ·exact .inl ⟨rfl,e1,e2⟩
   ·exact Has.row (rw:=A5) (B7 hr) hl (C6K _)
  have hSo:=B9u hH (by omega);obtain ⟨es,r4,hm⟩:=f2.r4;have hm2:MapN es (D4M D n k d) (fC (T3 D n k d (qV D n k d))):=⟨hm.1,λs hs=>hm.2 s ((dT _ _).1 hs)⟩;have hsl:=B0K (T3 D n k d (qV D n k d));have lh:(h'++[rT []]).length=l_ h'+1:=by simp
  rw [lh] at hSo;obtain ⟨v',g',o1,o2⟩:=D25 (F:=D4M D n k d) (B:=h'++[rT []]++[rT (encS (fC (T3 D n k d (qV D n k d))))]) (b:=l_ g) (q:=300) (mid:=l_ g+4) (sid:=l_ h'+1) (S:=fC (T3 D n k d (qV D n k d))) hm2 (by simp;omega) (by rw [<-lh];exact N6) (B7 (B7 f2.r5)) (B7 (B7 r4)) (by omega)
   (fC (T3 D n k d (qV D n k d))).length 0 300 (l_ h') (h'++[rT []]++[rT (encS (fC (T3 D n k d (qV D n k d))))]) (by omega) (by omega) (Low.refl (by simp;omega)) (by omega) (by omega) (by omega) (by omega) (λj r _ hj=>hj) (by simp [J8]) (E56 _)
  have eL:(gQ D n k d).length=(fC (T3 D n k d (qV D n k d))).length:=by simp [gQ]
  refine ⟨v',g',?_,by rw [eL];exact o2⟩;have t1:B9 (h'++[rT []]) (.c (.p (l_ g+3) 0))=A4 (.c x):=C4 (B7 hx) rfl (by
   rcases hdx with ⟨_,_,rfl⟩ | ⟨id,rfl,_⟩<;>rfl)
  have s5:I8 (g++[rT V,rT I,rT [],rT [.ns],A4 (P6 []),rT [.nm]]) (.c (.p (l_ g+5) 0)) (.c (.m (l_ g+4)))=A4 G:=by
   rw [nQ,hG];rfl
  have g4:D1 G 4 (.c (.p (l_ g) 0))=A4 (.a V):=by rw [hG,G8];exact K8 hVl
  have g11:D1 G 11 (.c (.p (l_ g+1) 0))=A4 (.a I):=by rw [hG,O7];exact K8 D9E
  rw [C3g,<-hV,<-hI];simp only [eH,C6,E6d,E6Y,E6s,E58,E6g,E6E,E6j,Nat.reduceAdd,s5,g4,g11,emk,hS,t1];rw [hSo];simp only [C6,B0c];exact o1
 obtain ⟨v,g',e,ho⟩:=key (ro h) hv.ro;exact C0D e (by simpa [H6] using ho) B0k
def ndC(i k l p s:Int)(x y:Cell):List Cell:=[cI i,cI k,cI l,cI p,cI s,x,y]
def IsNd(h:A9)(cs:List Cell)(nd:Nd):Prop:=∃ x y,cs=ndC nd.ino nd.kind nd.links nd.parent nd.size x y/\Has h (.c x) 1 nd.data.length (B5 nd.data)/\Has h (.c y) 2 nd.names.length (J8 nd.names)
def IsNds(h:A9):List Cell->List Nd->Prop
 | cs,[]=>cs=[]
 | cs,x::t=>∃ c1 c2,cs=c1++c2/\IsNd h c1 x/\IsNds h c2 t
def IsTree(h:A9)(v:Val)(t:List Nd):Prop:=∃ cs,Has h v 7 (l_ t) cs/\IsNds h cs t
def A8P{n:Nat}(hv:Has h (.c x) sz n cs):x.isX=A6:=by
 rcases hv with ⟨e,_⟩ | ⟨id,off,r,e,_⟩<;>cases e<;>rfl
def IsNd.length{x:Nd}(hx:IsNd h cs x):l_ cs=7:=by
 obtain ⟨a,b,rfl,_⟩:=hx;rfl
def IsNd.noX{h:A9}{cs:List Cell}{x:Nd}(hx:IsNd h cs x):noX cs=A5:=by
 obtain ⟨a,b,rfl,h1,h2⟩:=hx;simp only [Esc.noX,ndC,E62,List.all_nil,A8P h1,A8P h2];rfl
def IsNds.noX{h:A9}:∀ {t:List Nd} {cs:List Cell},IsNds h cs t->noX cs=A5/\(l_ cs)=l_ t*7
 | [],_,hx=>by
  have hx:_=[]:=hx;subst hx;exact ⟨rfl,rfl⟩
 | x::t,_,⟨c1,c2,e,h1,h2⟩=>by
  subst e;have h3:=h1.noX;have h4:=IsNds.noX h2;refine ⟨?_,by rw [E58,h1.length,h4.2,E6g];omega⟩;have h5:=h4.1;unfold Esc.noX at h3 h5 ⊢;rw [List.all_append,h3,h5];rfl
def IsNd.ro{h:A9}{cs:List Cell}{x:Nd}(hx:IsNd h cs x):IsNd (ro h) cs x:=by
 obtain ⟨a,b,e,h1,h2⟩:=hx;exact ⟨a,b,e,h1.ro,h2.ro⟩
def IsNd.since{g h:A9}{cs:List Cell}{x:Nd}(hx:IsNd g cs x)(h1:Low (l_ g) g h):IsNd h cs x:=by
 obtain ⟨a,b,e,h2,h3⟩:=hx;exact ⟨a,b,e,h2.since h1,h3.since h1⟩
def IsNds.ro{h:A9}:∀ {t:List Nd} {cs:List Cell},IsNds h cs t->IsNds (Esc.ro h) cs t
 | [],_,hx=>hx
 | x::t,_,⟨c1,c2,e,h1,h2⟩=>⟨c1,c2,e,h1.ro,IsNds.ro h2⟩
def IsNds.since{g h:A9}(h1:Low (l_ g) g h):∀ {t:List Nd} {cs:List Cell},IsNds g cs t->IsNds h cs t
 | [],_,hx=>hx
 | x::t,_,⟨c1,c2,e,h2,h3⟩=>⟨c1,c2,e,h2.since h1,IsNds.since h1 h3⟩
def IsTree.ro{h:A9}{v:Val}{t:List Nd}(ht:IsTree h v t):IsTree (Esc.ro h) v t:=by
 obtain ⟨cs,h1,h2⟩:=ht;exact ⟨cs,h1.ro,h2.ro⟩
def IsTree.since{g h:A9}{v:Val}{t:List Nd}(ht:IsTree g v t)(h1:Low (l_ g) g h):IsTree h v t:=by
 obtain ⟨cs,h2,h3⟩:=ht;exact ⟨cs,h2.since h1,h3.since h1⟩
def IsTree.more{t:List Nd}(ht:IsTree g v t)(l:A9):IsTree (g++l) v t:=ht.since ((Low.refl (E56 _)).new l)
def IsTree.len{h:A9}{v:Val}{t:List Nd}(ht:IsTree h v t):B8H v=A4 (iV (l_ t)):=by
 obtain ⟨cs,h1,_⟩:=ht;exact h1.len
def IsNds.at{h:A9}:∀ {t:List Nd} {cs:List Cell},IsNds h cs t->∀ {i:Nat} {x:Nd},t[i]?=A4 x->IsNd h ((cs.drop (i*7)).take 7) x
 | [],_,_,i,x,hx=>by simp at hx
 | y::t,_,⟨c1,c2,e,h1,h2⟩,0,x,hx=>by
  subst e;simp at hx;subst hx;rw [Nat.zero_mul,E6i,List.take_left' h1.length];exact h1
 | y::t,_,⟨c1,c2,e,h1,h2⟩,i+1,x,hx=>by
  subst e;rw [show (i+1)*7=7+i*7 by omega,<-E7e,List.drop_left' h1.length];exact IsNds.at h2 (by simpa using hx)
def IsTree.at{h:A9}{v:Val}{t:List Nd}(ht:IsTree h v t){i:Nat}(hi:i<l_ t) :
  ∃ a cs,E9 7 v (iV (i:Int))=A4 a/\D1 h 7 a=A4 (.a cs)/\IsNd h cs t[i]:=by
 obtain ⟨cs,h1,h2⟩:=ht;have hcs:=h2.noX;obtain ⟨id,off,rfl,hid,_,hB⟩:=h1.sl (by omega);refine ⟨pV id (off+i*7),_,E3 hi,hB (i*7) 7 (by rw [hcs.2];omega),h2.at (E51 hi)⟩
def B4f(hc:l_ cs=7):F9 (h++[rT [o0,o0,o0,o0,o0,.ns,.ns]]) 7 (pV (l_ h) 0) (.a cs)=A4 (h++[rT cs]):=by
 exact (storeAll N6 rfl hc).trans (by simp)
def C1q{v:Val}{t:List Nd}{a:Int}{g:A9}{q:Nat}(hv:IsTree g v t)(hs:small t):∀ (e i M:Nat) (h:A9),i+e=l_ t->e<M->Low (l_ g+1) (g++[rT (ndC 0 0 0 0 0 .ns .ns)]) h ->
  match gO (t.drop i) a with
  | some x=>∃ j1 j2 h',yE q M (.c (cI a)) (.c (.p (l_ g) 0)) v (.c (cI (l_ t:Int))) (.c (cI (i:Int))) h=A4 (.t [.a (ndC x.ino x.kind x.links x.parent x.size (.sl j1 0 x.data.length 1) (.sl j2 0 x.names.length 2)),.c (.b A5)],h') /\
    (l_ g)<=j1/\(l_ g)<=j2/\j1≠j2/\rd h' j1=rT (B5 x.data)/\rd h' j2=rT (J8 x.names)/\Low (l_ g) g h'
  | none=>∃ h',yE q M (.c (cI a)) (.c (.p (l_ g) 0)) v (.c (cI (l_ t:Int))) (.c (cI (i:Int))) h=A4 (.t [.a (ndC 0 0 0 0 0 .ns .ns),.c (.b A6)],h')
 | e,i,0,h,_,hm,_=>by omega
 | 0,i,M+1,h,hi,hm,hlow=>by
  have e0:i=(l_ t):=by omega
  subst e0;have c0:¬ ((l_ t:Nat):Int)<(l_ t:Nat):=by omega
  rw [List.drop_length];have hr:rd h (l_ g)=rT (ndC 0 0 0 0 0 .ns .ns):=by rw [hlow.2.2 _ (by omega)];exact N6
  have ef:F5 [o0,o0,o0,o0,o0,.ns,.ns] []=A4 (ndC 0 0 0 0 0 .ns .ns):=rfl;have s1:=storeAll (n:=7) hr rfl (xs:=ndC 0 0 0 0 0 .ns .ns) rfl;have l1:D1 (h.set (l_ g) (rT (ndC 0 0 0 0 0 .ns .ns))) 7 (.c (.p (l_ g) 0))=A4 (.a (ndC 0 0 0 0 0 .ns .ns)):=C7 (D6 (E1 hr)) rfl;show ∃ h',_;rw [A2l];generalize ndC 0 0 0 0 0 .ns .ns=z at *;exact ⟨_,by simp only [C6,G3,c0,decide_false,Y0,ef,s1,l1,D5C,D06,D07]<;>rfl⟩
 | e+1,i,M+1,h,hi,hm,hlow=>by
  have K7:i<(l_ t):=by omega
  have c0:(i:Int)<(l_ t:Nat):=by omega
  have hgl:Low (l_ g) g h:=by
   refine ⟨E56 _,by have:=hlow.2.1;simp at this;omega,λid hid=>?_⟩;rw [hlow.2.2 id (by omega),D3 hid]
  obtain ⟨ad,cs,a1,a2,a3⟩:=(hv.since hgl).at K7;have s0:=B4f (h:=h) a3.length;obtain ⟨x,y,rfl,hx,hy⟩:=a3;obtain ⟨nd,hnd⟩:=xEq (t[i]);rw [<-hnd] at a2 s0 hx hy;have hsm:=hs.2 t[i] (E6w K7);rw [<-hnd] at hsm;have g0:B9 (h++[rT (ndC nd.ino nd.kind nd.links nd.parent nd.size x y)]) (.c (.p (l_ h) 0))=A4 (.c (cI nd.ino)):=by rw [I7];rfl
  have w1:=D9 (show i+1<9223372036854775808 by have:=hs.1;omega);rw [E6b K7,<-hnd];by_cases c:nd.ino=a
  ·subst c;have hf:gO (nd::t.drop (i+1)) nd.ino=A4 nd:=by
    unfold gO;rw [List.find?_cons_of_pos (by simp)]
   rw [hf];show ∃ j1 j2 h',_;obtain ⟨H,hH⟩:=xEq (h++[rT (ndC nd.ino nd.kind nd.links nd.parent nd.size x y)]);have lH:l_ H=l_ h+1:=by rw [hH];simp
   have hgr:l_ g+1<=(l_ h):=by have:=hlow.2.1;simpa using this
   have rH:rd H (l_ h)=rT (ndC nd.ino nd.kind nd.links nd.parent nd.size x y):=by rw [hH];exact N6
   have rg:rd H (l_ g)=rT (ndC 0 0 0 0 0 .ns .ns):=by rw [hH];exact B7 (by rw [hlow.2.2 _ (by omega)];exact N6)
   have hxH:Has (H++[rT []]) (.c x) 1 nd.data.length (B5 nd.data):=by rw [hH];exact (hx.more _).more _
   have p1:=D0j (h:=H++[rT []]) (id:=l_ H) (by rw [N6]) hxH (by omega) (by omega);have e1:(H++[rT []]).length=l_ h+2:=by simp [lH]
   rw [e1] at p1;obtain ⟨H1,hH1⟩:=xEq ((H++[rT []]).set (l_ H) A7++[rT (B5 nd.data)]);rw [<-hH1] at p1;have lH1:H1.length=l_ h+3:=by rw [hH1];simp [lH]
   have keep1:∀ id r,id<l_ H->rd H id=A4 r->rd H1 id=A4 r:=λid r hid hr=>by
    rw [hH1];refine B7 ?_;rw [B8 (by omega)];exact B7 hr
   have r1:rd H1 (l_ h)=rT (ndC nd.ino nd.kind nd.links nd.parent nd.size x y):=keep1 _ _ (by omega) rH;have s1:=I9 (x:=.sl (l_ h+2) 0 nd.data.length 1) (off:=5) r1 (by simp [ndC]);have eset:(ndC nd.ino nd.kind nd.links nd.parent nd.size x y).set 5 (.sl (l_ h+2) 0 nd.data.length 1)=ndC nd.ino nd.kind nd.links nd.parent nd.size (.sl (l_ h+2) 0 nd.data.length 1) y:=rfl;rw [eset] at s1;obtain ⟨H2,hH2⟩:=xEq (H1.set (l_ h) (rT (ndC nd.ino nd.kind nd.links nd.parent nd.size (.sl (l_ h+2) 0 nd.data.length 1) y)));rw [<-hH2] at s1;have lH2:H2.length=l_ h+3:=by rw [hH2];simp [lH1]
   have rdat2:rd H2 (l_ h+2)=rT (B5 nd.data):=by
    rw [hH2,B8 (by omega),hH1];have:=N6 (h:=(H++[rT []]).set (l_ H) A7) (r:=Row.mk (B5 nd.data) A5);rw [E6F,e1] at this;exact this
   have r2:rd H2 (l_ h)=rT (ndC nd.ino nd.kind nd.links nd.parent nd.size (.sl (l_ h+2) 0 nd.data.length 1) y):=by rw [hH2];exact D6 (by omega)
   have lowH2:Low (l_ h) h H2:=by
    refine ⟨E56 _,by omega,λid hid=>?_⟩;rw [hH2,B8 (by omega),hH1,D3 (by simp [lH];omega),B8 (by omega),D3 (by omega),hH,D3 hid]
   have hyH:Has (H2++[rT []]) (.c y) 2 nd.names.length (J8 nd.names):=(hy.since lowH2).more _;have p2:=D0j (h:=H2++[rT []]) (id:=H2.length) (by rw [N6]) hyH (by omega) (by omega);have e2:(H2++[rT []]).length=l_ h+4:=by simp [lH2]
   rw [e2] at p2;obtain ⟨H3,hH3⟩:=xEq ((H2++[rT []]).set H2.length A7++[rT (J8 nd.names)]);rw [<-hH3] at p2;have lH3:H3.length=l_ h+5:=by rw [hH3];simp [lH2]
   have keep3:∀ id r,id<H2.length->rd H2 id=A4 r->rd H3 id=A4 r:=λid r hid hr=>by
    rw [hH3];refine B7 ?_;rw [B8 (by omega)];exact B7 hr
   have r3:=keep3 _ _ (by omega) r2;have s2:=I9 (x:=.sl (l_ h+4) 0 nd.names.length 2) (off:=6) r3 (by simp [ndC]);have eset2:(ndC nd.ino nd.kind nd.links nd.parent nd.size (.sl (l_ h+2) 0 nd.data.length 1) y).set 6 (.sl (l_ h+4) 0 nd.names.length 2)=ndC nd.ino nd.kind nd.links nd.parent nd.size (.sl (l_ h+2) 0 nd.data.length 1) (.sl (l_ h+4) 0 nd.names.length 2):=rfl;rw [eset2] at s2;obtain ⟨N,hN⟩:=xEq (ndC nd.ino nd.kind nd.links nd.parent nd.size (.sl (l_ h+2) 0 nd.data.length 1) (.sl (l_ h+4) 0 nd.names.length 2));have hNl:N.length=7:=by rw [hN];rfl
   rw [<-hN] at s2;obtain ⟨H4,hH4⟩:=xEq (H3.set (l_ h) (rT N));rw [<-hH4] at s2;have r4:rd H4 (l_ h)=rT N:=by rw [hH4];exact D6 (by omega)
   have rg4:rd H4 (l_ g)=rT (ndC 0 0 0 0 0 .ns .ns):=by
    rw [hH4,B8 (by omega)];refine keep3 _ _ (by omega) ?_;rw [hH2,B8 (by omega)];exact keep1 _ _ (by omega) rg
   have l4:=C7 (n:=7) r4 hNl;have s5:=storeAll (n:=7) rg4 rfl (xs:=N) hNl;have l5:D1 (H4.set (l_ g) (rT N)) 7 (.c (.p (l_ g) 0))=A4 (.a N):=C7 (D6 (E1 rg4)) hNl;have v5:B9 (H++[rT []]) (.c (.p (l_ h) 5))=A4 (.c x):=C4 (B7 rH) rfl (by simp);have v6:B9 (H2++[rT []]) (.c (.p (l_ h) 6))=A4 (.c y):=C4 (B7 r2) rfl (by simp);refine ⟨l_ h+2,l_ h+4,H4.set (l_ g) (rT N),?_,by omega,by omega,by omega,?_,?_,?_⟩
   ·rw [<-hH] at g0;rw [A2l,<-hN];have ef:F5 ([]:List Cell) []=A4 []:=rfl;simp only [C6,G3,c0,decide_true,W9,a1,a2,s0,Q8,E7a,E6j,g0,gH,eq_self,decide_true,ef,<-hH,v5,p1,s1,v6,p2,s2,l4,s5,l5,D5C,D06,D07]
   ·rw [B8 (by omega),hH4,B8 (by omega)];exact keep3 _ _ (by omega) rdat2
   ·rw [B8 (by omega),hH4,B8 (by omega),hH3];have:=N6 (h:=(H2++[rT []]).set H2.length A7) (r:=Row.mk (J8 nd.names) A5);rw [E6F,e2] at this;exact this
   ·refine ⟨E56 _,by simp [hH4,lH3];omega,λid hid=>?_⟩;rw [B8 (by omega),hH4,B8 (by omega),hH3,D3 (by simp [lH2];omega),B8 (by omega),D3 (by omega),lowH2.2.2 id (by omega)];exact hgl.2.2 id hid
  ·have hf:gO (nd::t.drop (i+1)) a=gO (t.drop (i+1)) a:=by
    unfold gO;rw [List.find?_cons_of_neg (by simpa using c)]
   have ih:=C1q (q:=q) (a:=a) hv hs e (i+1) M (h++[rT (ndC nd.ino nd.kind nd.links nd.parent nd.size x y)]) (by omega) (by omega) (hlow.new _);have estep:yE q (M+1) (.c (cI a)) (.c (.p (l_ g) 0)) v (.c (cI (l_ t:Int))) (.c (cI (i:Int))) h=yE q M (.c (cI a)) (.c (.p (l_ g) 0)) v (.c (cI (l_ t:Int))) (.c (cI ((i+1:Nat):Int))) (h++[rT (ndC nd.ino nd.kind nd.links nd.parent nd.size x y)]):=by
    rw [A2l];simp only [C6,G3,c0,decide_true,W9,a1,a2,s0,Q8,E7a,E6j,g0,gH,c,decide_false,Y0,L7,w1]
   rw [hf,estep];exact ih
def C7r{t:List Nd}{x:Nd}(hv:IsTree h v t)(hs:small t)(hf:gO t a=A4 x) :
  nG [v,.c (cI a)] h=A4 (.t [.a (ndC x.ino x.kind x.links x.parent x.size (.sl (l_ h) 0 x.data.length 1) (.sl (l_ h+1) 0 x.names.length 2)),.c (.b A5)],h++[rT (B5 x.data),rT (J8 x.names)]):=by
 have key:=C1q (q:=l_ t+1) (a:=a) hv.ro hs (l_ t) 0 (l_ t+1) (ro h++[rT (ndC 0 0 0 0 0 .ns .ns)]) (by omega) (by omega) (Low.refl (by simp));rw [E6i,hf] at key;obtain ⟨j1,j2,g',e,h1,h2,h3,h4,h5,h6⟩:=key;rw [H6] at h1 h2;have hl:=hv.ro.len;have e2:A1q (l_ t+1) [v,.c (cI a)] (ro h)=A4 (.t [.a (ndC x.ino x.kind x.links x.parent x.size (.sl j1 0 x.data.length 1) (.sl j2 0 x.names.length 2)),.c (.b A5)],g'):=by
  rw [B2t,hl,C6];exact e
 have n1:=pP h4 (by simp);have n2:=pP h5 B0k;have hc1:Q2 g' (l_ h) [] (ndC x.ino x.kind x.links x.parent x.size (.sl j1 0 x.data.length 1) (.sl j2 0 x.names.length 2))=A4 (ndC x.ino x.kind x.links x.parent x.size (.sl (l_ h) 0 x.data.length 1) (.sl (l_ h+1) 0 x.names.length 2),[j1,j2]):=by
  have q1:¬ j1<(l_ h):=by omega
  have q2:¬ j2<(l_ h):=by omega
  simp [ndC,Q2,Cell.low,Cell.flat,q1,q2,h1,h2,n1,n2,Ne.symm h3]
 have hc2:Q2 g' (l_ h) [j1,j2] [.b A5]=A4 ([.b A5],[j1,j2]):=iM (by simp);rw [C02 e2 (v2:=.t [.a (ndC x.ino x.kind x.links x.parent x.size (.sl (l_ h) 0 x.data.length 1) (.sl (l_ h+1) 0 x.names.length 2)),.c (.b A5)]) (ids:=[j1,j2]) (by
  simp only [Y2,jB,hc1,hc2,E6h,E6I])]
 simp [h4,h5]
def C7q{t:List Nd}(hv:IsTree h v t)(hs:small t)(hf:gO t a=A7) :
  nG [v,iV a] h=A4 (.t [.a (ndC 0 0 0 0 0 .ns .ns),.c (.b A6)],h):=by
 have key:=C1q (q:=l_ t+1) (a:=a) hv.ro hs (l_ t) 0 (l_ t+1) (ro h++[rT (ndC 0 0 0 0 0 .ns .ns)]) (by omega) (by omega) (Low.refl (by simp));rw [E6i,hf] at key;obtain ⟨g',e⟩:=key;have hl:=hv.ro.len;have e2:A1q (l_ t+1) [v,iV a] (ro h)=A4 (.t [.a (ndC 0 0 0 0 0 .ns .ns),.c (.b A6)],g'):=by
  rw [B2t,hl,C6];exact e
 exact C01 e2 rfl
def B90{t:List Nd}(hv:IsTree h v t)(hs:small t) :
  ∃ cs l,nG [v,iV a] h=A4 (.t [.a cs,.c (.b (gO t a).isSome)],h++l)/\IsNd (h++l) cs ((gO t a).getD ⟨0,0,0,0,0,[],[]⟩):=by
 cases hf:gO t a with
 | some x=>exact ⟨_,_,C7r hv hs hf,_,_,rfl,Has.tr (by simp) (show (B5 x.data).length=x.data.length*1 by rw [B6,E69]) (W1 _),Has.tr (by simp) gN A8H⟩
 | none=>exact ⟨_,[],by rw [C7q hv hs hf,E6k];rfl,_,_,rfl,.inl ⟨rfl,rfl,rfl⟩,.inl ⟨rfl,rfl,rfl⟩⟩
def A3C{l:List Ent}(hy:Has h (.c y) 2 (l_ l) (J8 l))(hi:i<l_ l):∃ a,E9 2 (.c y) (.c (cI (i:Int)))=A4 a/\D1 h 2 a=A4 (.a (W0 (A4 l[i]))):=by
 obtain ⟨id,off,e,hid,_,hB⟩:=hy.sl (by omega);cases e;refine ⟨.c (.p id (off+i*2)),E3 hi,?_⟩;rw [hB (i*2) 2 (by rw [gN];omega),B8U l i hi]
def B4e{x:Ent}:F9 (h++[rT [.s [],o0]]) 2 (.c (.p (l_ h) 0)) (.a (W0 (A4 x)))=A4 (h++[rT (W0 (A4 x))]):=by rw [G9];rfl
def C5V{x:Ent}:B9 (h++[rT (W0 (A4 x))]) (.c (.p (l_ h) 1))=A4 (.c (cI x.2)):=by rw [I7];rfl
def B3q{y:Cell}{l:List Ent}{a:Int}{g:A9}{q:Nat}{x10 x11 x12:Val}(hy:Has g (.c y) 2 (l_ l) (J8 l))(h62:l_ l<=1000000):∀ (e i M2 M:Nat) (c:Nat) (h:A9),i+e=l_ l->e<M2->c+e<4000000000000000000->Low (l_ g) g h ->
  ∃ h',B6l q M M2 (.c (cI a)) (.c (cI (c:Int))) x10 x11 x12 (.c y) (.c (cI (l_ l:Int))) (.c (cI (i:Int))) h=bnd (N5 .add x12 (.c (cI 1))) (λv17=>A7J q M (.c (cI a)) (.c (cI ((c+((l.drop i).filter λe=>decide (e.2=a)).length:Nat):Int))) x10 x11 v17 h')/\Low (l_ g) g h'
 | e,i,0,M,c,h,_,hm,_,_=>by omega
 | 0,i,M2+1,M,c,h,hi,hm,hc,hlow=>by
  have c0:¬ ((i:Int)<(l_ l:Nat)):=by omega
  rw [A0G,E6f (by omega)];exact ⟨h,by simp only [C6,G3,c0,decide_false,Y0];rfl,hlow⟩
 | e+1,i,M2+1,M,c,h,hi,hm,hc,hlow=>by
  have K7:i<(l_ l):=by omega
  have c0:(i:Int)<(l_ l:Nat):=by omega
  obtain ⟨ad,a1,a2⟩:=A3C (hy.since hlow) K7;have w1:=D9 (a:=i) (by omega);have w2:=D9 (a:=c) (by omega);rw [E6b K7];obtain ⟨x,hx⟩:=xEq (l[i]);rw [<-hx] at a2 ⊢;by_cases ce:x.2=a
  ·obtain ⟨h',f1,f2⟩:=B3q (q:=q) (a:=a) (x10:=x10) (x11:=x11) (x12:=x12) hy h62 e (i+1) M2 M (c+1) (h++[rT (W0 (A4 x))]) (by omega) (by omega) (by omega) (hlow.new _);refine ⟨h',?_,f2⟩;rw [A0G,E6W (by simpa using ce),E6g,show c+(((l.drop (i+1)).filter λe=>decide (e.2=a)).length+1)=c+1+((l.drop (i+1)).filter λe=>decide (e.2=a)).length by omega];simp only [C6,G3,c0,decide_true,W9,a1,a2,B4e,Q8,E6j,E7a,C5V,gH,ce,L7,w1,w2,A89];exact f1
  ·obtain ⟨h',f1,f2⟩:=B3q (q:=q) (a:=a) (x10:=x10) (x11:=x11) (x12:=x12) hy h62 e (i+1) M2 M c (h++[rT (W0 (A4 x))]) (by omega) (by omega) (by omega) (hlow.new _);refine ⟨h',?_,f2⟩;rw [A0G,E6V (by simpa using ce)];simp only [C6,G3,c0,decide_true,W9,a1,a2,B4e,Q8,E6j,E7a,C5V,gH,ce,decide_false,Y0,L7,w1,A89];exact f1
def C25{v:Val}{t:List Nd}{a:Int}{g:A9}{q:Nat}(hv:IsTree g v t)(hs:small t)(hq:1000000<q):∀ (e i M c:Nat) (h:A9),i+e=l_ t->e<M->c<=i*1000000->Low (l_ g) g h ->
  ∃ h',A7J q M (iV a) (iV (c:Int)) v (iV (l_ t:Int)) (iV (i:Int)) h=A4 (iV ((c+nZ (t.drop i) a:Nat):Int),h')
 | e,i,0,c,h,_,hm,_,_=>by omega
 | 0,i,M+1,c,h,hi,hm,hc,hlow=>by
  have c0:¬ ((i:Int)<(l_ t:Nat)):=by omega
  rw [A9a,E6f (by omega)];exact ⟨h,by simp only [C6,G3,c0,decide_false,Y0];rfl⟩
 | e+1,i,M+1,c,h,hi,hm,hc,hlow=>by
  have K7:i<(l_ t):=by omega
  have c0:(i:Int)<(l_ t:Nat):=by omega
  have h6:=hs.1;have w1:=D9 (a:=i) (by omega);obtain ⟨ad,cs,a1,a2,a3⟩:=(hv.since hlow).at K7;have s0:=B4f (h:=h) a3.length;obtain ⟨x,y,rfl,hx,hy⟩:=a3;have hsm:=(hs.2 t[i] (E6w K7)).2;rw [E6b K7];obtain ⟨nd,hnd⟩:=xEq (t[i]);rw [<-hnd] at a2 s0 hx hy hsm ⊢;have hl:=hy.len;have g6:B9 (h++[rT (ndC nd.ino nd.kind nd.links nd.parent nd.size x y)]) (pV (l_ h) 6)=A4 (.c y):=by rw [I7];rfl
  obtain ⟨h1,f1,f2⟩:=B3q (q:=q) (a:=a) (x10:=v) (x11:=iV (l_ t:Int)) (x12:=iV (i:Int)) (hy.more [rT (ndC nd.ino nd.kind nd.links nd.parent nd.size x y)]) hsm nd.names.length 0 q M c _ (by omega) (by omega) (by omega) (Low.refl (E56 _));rw [E6i,L7,C6,w1] at f1;have hfl:(nd.names.filter λe=>decide (e.2=a)).length<=nd.names.length:=E6R _ _;obtain ⟨h',k1⟩:=C25 (a:=a) hv hs hq e (i+1) M (c+(nd.names.filter λe=>decide (e.2=a)).length) h1 (by omega) (by omega) (by omega) (hlow.trans (by
   have:=f2.2.1;refine ⟨hlow.2.1 |> λ_=>by have:=hlow.2.1;omega,by simp at this;omega,λid hid=>?_⟩;have h3:=hlow.2.1;rw [f2.2.2 id (by simp;omega),D3 (by omega)]))
  have ec:nZ (nd::t.drop (i+1)) a=(nd.names.filter λe=>decide (e.2=a)).length+nZ (t.drop (i+1)) a:=by simp [nZ]
  rw [ec,<-Nat.add_assoc];refine ⟨h',?_⟩;rw [A9a];simp only [C6,G3,c0,decide_true,W9,a1,a2,s0,Q8,E6j,g6,hl];exact f1.trans k1
def C8j{t:List Nd}(hv:IsTree h v t)(hs:small t):A92 [v,iV a] h=A4 (iV (nZ t a:Nat),h):=by
 have key:∀ g,IsTree g v t->∃ g',A9K (l_ t+1000001) [v,iV a] g=A4 (iV (nZ t a:Nat),g'):=by
  intro g hv;obtain ⟨h',f1⟩:=C25 (q:=l_ t+1000001) (a:=a) hv hs (by omega) (l_ t) 0 (l_ t+1000001) 0 g (by omega) (by omega) (by omega) (Low.refl (E56 _));rw [E6i,E6j] at f1;rw [C3v,hv.len,C6];exact ⟨h',f1⟩
 obtain ⟨g',e⟩:=key (ro h) hv.ro;exact B8y e rfl
def HeldX(h:A9)(x:Cell)(cs:List Cell)(n sz r:Nat):Prop:=(n=0/\cs=[]/\x=.ns)\/∃ id,x=.sl id 0 n sz/\rd h id=rT cs/\(l_ cs)=n*sz/\id≠r
def HeldX.keep{n:Nat}(hx:HeldX h x cs n sz r)(hk:∀ id m,x=.sl id 0 m sz->rd h' id=rd h id):HeldX h' x cs n sz r:=by
 rcases hx with hx | ⟨id,e,hr,hl,aR⟩
 ·exact .inl hx
 ·exact .inr ⟨id,e,by rw [hk id n e];exact hr,hl,aR⟩
def HeldX.lt{n id m:Nat}(hx:HeldX h x cs n sz r)(e:x=.sl id 0 m sz):id<(l_ h):=by
 rcases hx with ⟨_,_,e2⟩ | ⟨dM,e2,hr,_,_⟩
 ·rw [e] at e2;cases e2
 ·rw [e] at e2;cases e2;exact E1 hr
def D9v{cs0 ys:List Cell}{n:Nat}(hr:rd h r=rT cs0)(hx:cs0[off]?=A4 x)(hd:HeldX h x cs n sz r)(hl:n<=100000)(hy:l_ ys=sz)(hsz:0<sz) :
  ∃ id h2 h3,B9 h (pV r off)=A4 (.c x)/\tJ (h++[rT ys]) sz (.c x) (sV (l_ h) 0 1 sz)=A4 (sV id 0 (n+1) sz,h2)/\I8 h2 (pV r off) (sV id 0 (n+1) sz)=A4 h3 /\
   rd h3 r=rT (cs0.set off (.sl id 0 (n+1) sz))/\(l_ h)<id/\rd h3 id=rT (cs++ys)/\(cs++ys).length=(n+1)*sz/\(∀ j,j<l_ h->j≠r->(∀ m,x≠.sl j 0 m sz)->rd h3 j=rd h j)/\(l_ h)<h3.length:=by
 have hrl:=E1 hr;have l1:B9 h (pV r off)=A4 (.c x):=C4 hr hx (by simp);have hof:off<cs0.length:=(List.getElem?_eq_some_iff.1 hx).1;have e1:(h++[rT ys]).length=l_ h+1:=by simp
 rcases hd with ⟨rfl,rfl,rfl⟩ | ⟨id,rfl,hi,oG,aR⟩
 ·have hA:=C38 (h:=h++[rT ys]) (jd:=l_ h) (m:=1) (sz:=sz) (ys:=ys) (by simp) (by omega) hsz (by omega);rw [e1] at hA;have hr2:rd (h++[rT ys]++[rT ys]) r=rT cs0:=B7 (B7 hr);have s1:=I9 (x:=.sl (l_ h+1) 0 1 sz) (off:=off) hr2 hof;refine ⟨l_ h+1,_,_,l1,hA,s1,D6 (E1 hr2),by omega,?_,by simp [hy],λj hj hjr _=>?_,by simp⟩
  ·rw [B8 (by omega)];have:=N6 (h:=h++[rT ys]) (r:=⟨ys,A5⟩);rw [e1] at this;exact this
  ·rw [B8 (Ne.symm hjr),D3 (by simp;omega),D3 hj]
 ·have K7:=E1 hi;have hA:=A7p (h:=h++[rT ys]) (id:=id) (jd:=l_ h) (n:=n) (m:=1) (sz:=sz) (cs:=cs) (ys:=ys) (rw:=A5) (B7 hi) oG (by simp) (by omega) rfl hsz (by omega);rw [e1] at hA;have hr2:rd ((h++[rT ys]).set id A7++[rT (cs++ys)]) r=rT cs0:=by
   refine B7 ?_;rw [B8 aR];exact B7 hr
  have s1:=I9 (x:=.sl (l_ h+1) 0 (n+1) sz) (off:=off) hr2 hof;refine ⟨l_ h+1,_,_,l1,hA,s1,D6 (E1 hr2),by omega,?_,by simp [oG,hy,E7f],λj hj hjr hjx=>?_,by simp;omega⟩
  ·rw [B8 (by omega)];have:=N6 (h:=(h++[rT ys]).set id A7) (r:=⟨cs++ys,A5⟩);rw [E6F,e1] at this;exact this
  ·have hji:j≠id:=λe=>hjx n (by rw [e])
   rw [B8 (Ne.symm hjr),D3 (by simp;omega),B8 (Ne.symm hji),D3 hj]
structure NodeP(D:Dev)(n:Int)(V:List Cell)(z:Nd)(L:List Ent)(g:A9)(F:List Ent)(h:A9):Prop where
 low:Low (l_ g) g h
 r0:rd h (l_ g)=rT V
 r1:rd h (l_ g+1)=rT (ndC 0 0 0 0 0 .ns .ns)
 r4:rd h (l_ g+4)=rT (B5 z.data)
 r5:rd h (l_ g+5)=rT (J8 L)
 r3:∃ x,rd h (l_ g+3)=rT (ndC z.ino z.kind z.links z.parent z.size (.sl (l_ g+4) 0 z.data.length 1) x)/\HeldX h x (J8 F) F.length 2 (l_ g+3)/\∀ id m,x=.sl id 0 m 2->l_ g+6<=id
def NodeP.more{z:Nd}{L:List Ent}{F:List Ent}(P:NodeP D n V z L g F h)(t:A9):NodeP D n V z L g F (h++t):=by
 obtain ⟨x,h1,h2,h3⟩:=P.r3;exact ⟨P.low.new _,B7 P.r0,B7 P.r1,B7 P.r4,B7 P.r5,x,B7 h1,h2.keep λid m e=>D3 (h2.lt e),h3⟩
def C1F{D:Dev}{n m:Int}{f:Cell}{g:A9}{q:Nat}{z:Nd}{L:List Ent}(hD:okD D)(hv:IsView g f D)(h62:l_ L<=10000):∀ (e i M:Nat) (F:List Ent) (h:A9),i+e=l_ L->e<M->F.length<=i->NodeP D n (vwC (l_ D) n m f) z L g F h ->
  ∃ x h',B91 q M (.c (.p (l_ g) 0)) (.c (.p (l_ g+1) 0)) (.c (.p (l_ g+3) 0)) (.c (.sl (l_ g+5) 0 (l_ L) 2)) (.c (cI (l_ L:Int))) (.c (cI (i:Int))) h =
   A4 (.a (ndC z.ino z.kind z.links z.parent z.size (.sl (l_ g+4) 0 z.data.length 1) x),h')/\rd h' (l_ g+4)=rT (B5 z.data) /\
   HeldX h' x (J8 (F++(L.drop i).filter (C8b D n))) (F++(L.drop i).filter (C8b D n)).length 2 (l_ g+3)/\(∀ id m,x=.sl id 0 m 2->l_ g+6<=id)/\Low (l_ g) g h'
 | e,i,0,F,h,_,hm,_,_=>by omega
 | 0,i,M+1,F,h,hi,hm,hF,P=>by
  have c0:¬ ((i:Int)<(l_ L:Nat)):=by omega
  obtain ⟨x,h1,h2,h3⟩:=P.r3;have l7:=C7 (n:=7) h1 rfl;have s7:=storeAll (n:=7) P.r1 rfl (xs:=ndC z.ino z.kind z.links z.parent z.size (.sl (l_ g+4) 0 z.data.length 1) x) rfl;have l8:D1 (h.set (l_ g+1) (rT (ndC z.ino z.kind z.links z.parent z.size (.sl (l_ g+4) 0 z.data.length 1) x))) 7 (.c (.p (l_ g+1) 0))=A4 (.a (ndC z.ino z.kind z.links z.parent z.size (.sl (l_ g+4) 0 z.data.length 1) x)):=C7 (D6 (E1 P.r1)) rfl;rw [E6f (by omega),List.filter_nil,E6k];refine ⟨x,h.set (l_ g+1) (rT (ndC z.ino z.kind z.links z.parent z.size (.sl (l_ g+4) 0 z.data.length 1) x)),?_,by rw [B8 (by omega)];exact P.r4,h2.keep λid m e=>B8 (by have:=h3 id m e;omega),h3,P.low.set (by omega) _⟩;rw [B1s];generalize ndC z.ino z.kind z.links z.parent z.size (.sl (l_ g+4) 0 z.data.length 1) x=N at *;simp only [C6,G3,c0,decide_false,Y0,l7,s7,l8,D0U]
 | e+1,i,M+1,F,h,hi,hm,hF,P=>by
  have K7:i<(l_ L):=by omega
  have c0:(i:Int)<(l_ L:Nat):=by omega
  have w1:=D9 (a:=i) (by omega);have hr5:Has h (.c (.sl (l_ g+5) 0 (l_ L) 2)) 2 (l_ L) (J8 L):=Has.row P.r5 gN A8H;obtain ⟨ad,a1,a2⟩:=A3C hr5 K7;have P1:=P.more [rT (W0 (A4 L[i]))];have hvh:=hv.since P1.low;have lV:=C7 (n:=4) P1.r0 rfl;have hI:=V1 (n:=n) (m:=m) (i:=(L[i]).2) hD hvh;rw [pN] at hI;have f0:∀ k l s p d,B5S (.a (C8 k l s p d)) 0=A4 (.c (cI k)):=λ_ _ _ _ _=>rfl
  rw [E6b K7];obtain ⟨x,hx⟩:=xEq (L[i]);rw [<-hx] at a2 hI P1 lV hvh ⊢;obtain ⟨hh,hhe⟩:=xEq (h++[rT (W0 (A4 x))]);have e1:B9 hh (.c (.p (l_ h) 1))=A4 (.c (cI x.2)):=by rw [hhe];exact C5V
  have se:F9 (h++[rT [.s [],o0]]) 2 (.c (.p (l_ h) 0)) (.a (W0 (A4 x)))=A4 hh:=by rw [hhe];exact B4e
  have le:D1 hh 2 (.c (.p (l_ h) 0))=A4 (.a (W0 (A4 x))):=by rw [hhe];exact C7 N6 rfl
  rw [<-hhe] at P1 lV hvh hI;rw [B1s];have step:∀ (b:Bool),C8b D n x=b->(kdV D n x.2=1\/kdV D n x.2=2)=(b=A5):=by
   intro b hb;subst hb;unfold C8b;simp
  cases hb:C8b D n x with
  | false =>
   have hk:=step A6 hb;have k1:¬ kdV D n x.2=1:=λe=>by rw [e] at hk;simp at hk
   have k2:¬ kdV D n x.2=2:=λe=>by rw [e] at hk;simp at hk
   rw [E6V (by simp [hb])];obtain ⟨y,h',f1,f2⟩:=C1F (q:=q) hD hv h62 e (i+1) M F hh (by omega) (by omega) (by omega) P1;refine ⟨y,h',?_,f2⟩;generalize vwC (l_ D) n m f=V at *;simp only [C6,G3,c0,decide_true,W9,a1,a2,se,Q8,E6j,e1,lV,hI,f0,gH,k1,k2,decide_false,D2q,pJ,cond_false,Y0,A2m,L7,w1];exact f1
  | true =>
   rw [E6W hb];obtain ⟨xc,g1,g2,g3⟩:=P1.r3;have ef:F5 [Cell.s [],o0] [(0,2,.a (W0 (A4 x)))]=A4 (W0 (A4 x)):=rfl;obtain ⟨id,h2,h3,p1,p2,p3,p4,p5,p6,p7,p8,p9⟩:=D9v (off:=6) (ys:=W0 (A4 x)) g1 rfl g2 (by omega) rfl (by omega);have keep:∀ j,j<l_ g+6->j≠(l_ g)+3->rd h3 j=rd hh j:=λj hj hj3=>by
    have:=E1 P1.r5;refine p8 j (by omega) hj3 λmm e=>?_
    have:=g3 j mm e;omega
   have P3:NodeP D n (vwC (l_ D) n m f) z L g (F++[x]) h3:=by
    refine ⟨?_,by rw [keep _ (by omega) (by omega)];exact P1.r0,by rw [keep _ (by omega) (by omega)];exact P1.r1,by rw [keep _ (by omega) (by omega)];exact P1.r4,by rw [keep _ (by omega) (by omega)];exact P1.r5,.sl id 0 (F.length+1) 2,p4,.inr ⟨id,by simp,by rw [D4u];exact p6,by rw [gN],?_⟩,λdM m' e=>?_⟩
    ·refine ⟨E56 _,by have:=P1.low.2.1;omega,λj hj=>?_⟩;rw [keep j (by omega) (by omega)];exact P1.low.2.2 j hj
    ·have:=E1 P1.r5;omega
    ·cases e;have:=E1 P1.r5;omega
   obtain ⟨y,h',f1,f2⟩:=C1F (q:=q) hD hv h62 e (i+1) M (F++[x]) h3 (by omega) (by omega) (by simp;omega) P3;rw [E6d,List.singleton_append] at f2;refine ⟨y,h',?_,f2⟩;have k0:=step A5 hb;by_cases k1:kdV D n x.2=1
   ·generalize vwC (l_ D) n m f=V at *;simp only [C6,G3,c0,decide_true,W9,a1,a2,se,Q8,E6j,e1,lV,hI,f0,gH,k1,D9y,pJ,cond_true,p1,le,ef,p2,p3,A2m,L7,w1];exact f1
   ·have k2:kdV D n x.2=2:=by
     rcases (show kdV D n x.2=1\/kdV D n x.2=2 by rw [k0]) with h | h
     ·exact absurd h k1
     ·exact h
    have n21:¬ (2:Int)=1:=by decide
    generalize vwC (l_ D) n m f=V at *;simp only [C6,G3,c0,decide_true,W9,a1,a2,se,Q8,E6j,e1,lV,hI,f0,gH,k2,n21,decide_false,D2q,pJ,cond_false,p1,le,ef,p2,p3,A2m,L7,w1];exact f1
def NdF(P:Nat->Prop)(cs:List Cell):Prop:=∀ id off m sz,Cell.sl id off m sz∈cs->P id
def C6g{n:Nat}(hv:Has h (.c x) sz n cs)(hk:∀ id off m s,x=.sl id off m s->rd h' id=rd h id):Has h' (.c x) sz n cs:=by
 rcases hv with hv | ⟨id,off,r,e,hr,h2⟩
 ·exact .inl hv
 ·cases e;exact .inr ⟨id,off,r,rfl,by rw [hk id off n sz rfl];exact hr,h2⟩
def IsNd.keep{x:Nd}{P:Nat->Prop}(hx:IsNd h cs x)(hf:NdF P cs)(hk:∀ id,P id->rd h' id=rd h id):IsNd h' cs x:=by
 obtain ⟨a,b,rfl,h1,h2⟩:=hx;exact ⟨a,b,rfl,C6g h1 λid off m s e=>hk id (hf id off m s (by simp [ndC,e])),C6g h2 λid off m s e=>hk id (hf id off m s (by simp [ndC,e]))⟩
def D8q{P:Nat->Prop}{i:Int}(hx:∀ id off m sz,x=.sl id off m sz->P id)(hy:∀ id off m sz,y=.sl id off m sz->P id):NdF P (ndC i k l p s x y):=by
 intro id off m sz h;simp only [ndC,E68,List.not_mem_nil,or_false] at h;rcases h with h | h | h | h | h | h | h
 ·cases h
 ·cases h
 ·cases h
 ·cases h
 ·cases h
 ·exact hx id off m sz h.symm
 ·exact hy id off m sz h.symm
def D5d{cs:List (List Cell)}:quiet h (A4 (v,h++cs.map λc=>rT c))=A4 (v,h++cs.map λc=>rT c):=by
 have:∀ (cs:List (List Cell)) (h':A9),Grows h h'->Grows h (h'++cs.map λc=>rT c):=by
  intro cs
  induction cs with
  | nil=>intro h' hg;simpa using hg
  | cons c cs ih =>
   intro h' hg;have:=ih _ (hg.new c);rw [E6N]
   rwa [E6d,List.singleton_append] at this
 exact W2 (this cs h Grows.rfl')
def D1j{i:Int}(hD:okD D)(hv:IsView h f D) :
  ∃ (cs:List Cell) (t:List (List Cell)),A5Y [.a (vwC (l_ D) n m f),.c (cI i)] h=A4 (.a cs,h++t.map λc=>rT c)/\IsNd (h++t.map λc=>rT c) cs (rZ D n i)/\NdF (λid=>l_ h<=id/\id<l_ h+l_ t) cs:=by
 have key:∀ g,IsView g f D->∃ x g',B2v (1000) [.a (vwC (l_ D) n m f),.c (cI i)] g=A4 (.a (ndC i (kdV D n i) (lnV D n i) (paV D n i) (dJ (kdV D n i) (szV D n i)) (.sl (l_ g+4) 0 (A2h D n i).length 1) x),g')/\rd g' (l_ g+4)=rT (B5 (A2h D n i)) /\
   HeldX g' x (J8 (A3o D n i)) (A3o D n i).length 2 (l_ g+3)/\(∀ id m,x=.sl id 0 m 2->l_ g+6<=id):=by
  intro g hv;obtain ⟨V,hV⟩:=xEq (vwC (l_ D) n m f);have hVl:l_ V=4:=by rw [hV];rfl
  have D4G:=V1 (n:=n) (m:=m) (i:=i) (h:=g++[rT V,rT (ndC 0 0 0 0 0 .ns .ns)]) hD (hv.more _);rw [pN,<-hV] at D4G;obtain ⟨I,hI⟩:=xEq (C8 (kdV D n i) (lnV D n i) (szV D n i) (paV D n i) (drV D n i));have hIl:l_ I=11:=by rw [hI];simp [C8,C1,O8]
  have i0:I[0]?=A4 (cI (kdV D n i)):=by rw [hI];rfl
  have i1:I[1]?=A4 (cI (lnV D n i)):=by rw [hI];rfl
  have i3:I[3]?=A4 (cI (paV D n i)):=by rw [hI];rfl
  have hSz:=λh=>B53 (k:=kdV D n i) (l:=lnV D n i) (s:=szV D n i) (p:=paV D n i) (d:=drV D n i) (h:=h)
  rw [<-hI] at D4G;simp only [<-hI] at hSz;have E1A:=D0v (n:=n) (m:=m) (k:=kdV D n i) (l:=lnV D n i) (s:=szV D n i) (p:=paV D n i) (d:=drV D n i) (h:=g++[rT V,rT (ndC 0 0 0 0 0 .ns .ns),rT I,A7]) hD O8 (hv.more _);rw [<-hI,<-hV] at E1A;have eL:(g++[rT V,rT (ndC 0 0 0 0 0 .ns .ns),rT I,A7]).length=l_ g+4:=by simp
  rw [eL] at E1A;have eD:A1Z D n (kdV D n i) (szV D n i) (drV D n i) 0 34304=A2h D n i:=rfl;rw [eD] at E1A;have ef:∀ s y,F5 [o0,o0,o0,o0,o0,.ns,.ns] [(0,1,.c (cI i)),(1,1,.c (cI (kdV D n i))),(2,1,.c (cI (lnV D n i))),(3,1,.c (cI (paV D n i))),(4,1,.c (cI s)),(5,1,.c y)]=A4 (ndC i (kdV D n i) (lnV D n i) (paV D n i) s y .ns):=λ_ _=>rfl
  obtain ⟨N,hN⟩:=xEq (ndC i (kdV D n i) (lnV D n i) (paV D n i) (dJ (kdV D n i) (szV D n i)) (.sl (l_ g+4) 0 (A2h D n i).length 1) .ns);have hNl:N.length=7:=by rw [hN];rfl
  have z7:(ndC 0 0 0 0 0 .ns .ns).length=7:=rfl;obtain ⟨G,hG⟩:=xEq (g++[rT V,rT (ndC 0 0 0 0 0 .ns .ns),rT I,rT N,rT (B5 (A2h D n i))]);have hLi:=B5Z (n:=n) (m:=m) (k:=kdV D n i) (l:=lnV D n i) (s:=szV D n i) (p:=paV D n i) (d:=drV D n i) (h:=G) hD O8 (by rw [hG];exact hv.more _);rw [<-hI,<-hV] at hLi;have lG:l_ G=l_ g+5:=by rw [hG];simp
  rw [lG] at hLi;have hen:=C1y (D:=D) (n:=n) (k:=kdV D n i) (d:=drV D n i);obtain ⟨H,hH⟩:=xEq (G++[rT (J8 (gQ D n (kdV D n i) (drV D n i)))]);have P0:NodeP D n (vwC (l_ D) n m f) ⟨i,kdV D n i,lnV D n i,paV D n i,dJ (kdV D n i) (szV D n i),A2h D n i,[]⟩ (gQ D n (kdV D n i) (drV D n i)) g [] H:=by
   rw [<-hV];refine ⟨by rw [hH,hG];exact ((Low.refl (E56 _)).new _).new _,by rw [hH,hG];simp,by rw [hH,hG];simp,by rw [hH,hG];simp,?_,.ns,?_,.inl ⟨rfl,rfl,rfl⟩,λid m e=>by cases e⟩
   ·rw [hH,show (l_ g)+5=(l_ G) by omega];exact N6
   ·rw [hH];refine B7 ?_;rw [hG,hN];simp
  obtain ⟨x,h',f1,f2,f3,f4,f5⟩:=C1F (q:=1000) (m:=m) (f:=f) hD hv (by omega) (gQ D n (kdV D n i) (drV D n i)).length 0 1000 [] H (by omega) (by omega) (by simp) P0;rw [E6i,E6s] at f3;refine ⟨x,h',?_,f2,f3,f4⟩;dsimp only at f1;have ez:[o0,o0,o0,o0,o0,.ns,.ns]=ndC 0 0 0 0 0 .ns .ns:=rfl;have eG:g++[rT V,rT (ndC 0 0 0 0 0 .ns .ns),rT I,rT N,rT (B5 (A2h D n i))]=G:=hG.symm;have ei:[o0,o0,o0,o0,o0,o0,o0,o0,o0,o0,o0].length=11:=rfl;rw [C4O]
  replace ef:=ef (dJ (kdV D n i) (szV D n i)) (.sl (l_ g+4) 0 (A2h D n i).length 1)
  rw [<-hN] at ef;rw [ez] at ef ⊢;rw [<-hV];generalize [o0,o0,o0,o0,o0,o0,o0,o0,o0,o0,o0]=zi at *;generalize ndC 0 0 0 0 0 .ns .ns=z at *;have gV:D1 G 4 (.c (.p (l_ g) 0))=A4 (.a V):=by rw [hG,G8];exact K8 hVl
  have gI:D1 G 11 (.c (.p (l_ g+2) 0))=A4 (.a I):=by rw [hG,O7];exact K8 hIl
  generalize B5 (A2h D n i)=B at *;simp only [esc,O7,G8,Y9,I7,S3,G9,K8,fD,yB,Nat.reduceAdd,hVl,hIl,z7,ei,D4G,i0,i1,i3,hSz,E1A,ef,hNl,eG,gV,gI,hLi];rw [hH] at f1;exact f1
 obtain ⟨x,g',e,h1,h2,h3⟩:=key (ro h) hv.ro;rw [H6] at e h1 h2 h3;have n1:=pP h1 (by simp);have q1:¬ (l_ h)+4<(l_ h):=by omega
 rcases h2 with ⟨e1,e2,rfl⟩ | ⟨id,rfl,hr,hl,aR⟩
 ·have hc:Q2 g' (l_ h) [] (ndC i (kdV D n i) (lnV D n i) (paV D n i) (dJ (kdV D n i) (szV D n i)) (.sl (l_ h+4) 0 (A2h D n i).length 1) .ns)=A4 (ndC i (kdV D n i) (lnV D n i) (paV D n i) (dJ (kdV D n i) (szV D n i)) (.sl (l_ h) 0 (A2h D n i).length 1) .ns,[(l_ h)+4]):=by
   simp [ndC,Q2,Cell.low,Cell.flat,n1]
  have:=A8a e (v2:=.a (ndC i (kdV D n i) (lnV D n i) (paV D n i) (dJ (kdV D n i) (szV D n i)) (.sl (l_ h) 0 (A2h D n i).length 1) .ns)) (ids:=[(l_ h)+4]) (by simp only [Y2,hc,E6I]);rw [E6N,List.map_nil,h1] at this;refine ⟨_,[B5 (A2h D n i)],this,⟨_,_,rfl,Has.tr N6 (show (B5 (A2h D n i)).length=(A2h D n i).length*1 by rw [B6,E69]) (W1 _),.inl ⟨rfl,e1,e2⟩⟩,D8q (λid off m sz e=>?_) λid off m sz e=>by cases e⟩;cases e;exact ⟨E56 _,by simp⟩
 ·have hid:=h3 id _ rfl;have n2:=pP hr B0k;have q2:¬ id<(l_ h):=by omega
  have hc:Q2 g' (l_ h) [] (ndC i (kdV D n i) (lnV D n i) (paV D n i) (dJ (kdV D n i) (szV D n i)) (.sl (l_ h+4) 0 (A2h D n i).length 1) (.sl id 0 (A3o D n i).length 2))=A4 (ndC i (kdV D n i) (lnV D n i) (paV D n i) (dJ (kdV D n i) (szV D n i)) (.sl (l_ h) 0 (A2h D n i).length 1) (.sl (l_ h+1) 0 (A3o D n i).length 2),[(l_ h)+4,id]):=by
   have q3:l_ h<=id:=by omega
   have q4:¬ id=l_ h+4:=by omega
   simp [ndC,Q2,Cell.low,Cell.flat,n1,n2,q2,q3,q4]
  have:=A8a e (v2:=.a (ndC i (kdV D n i) (lnV D n i) (paV D n i) (dJ (kdV D n i) (szV D n i)) (.sl (l_ h) 0 (A2h D n i).length 1) (.sl (l_ h+1) 0 (A3o D n i).length 2))) (ids:=[(l_ h)+4,id]) (by simp only [Y2,hc,E6I]);rw [E6N,E6N,List.map_nil,h1,hr] at this;refine ⟨_,[B5 (A2h D n i),J8 (A3o D n i)],this,?_,D8q (λid off m sz e=>by cases e;exact ⟨E56 _,by simp⟩) λid off m sz e=>by cases e;exact ⟨by omega,by simp⟩⟩;exact ⟨_,_,rfl,Has.tr (by simp [rZ]) (show (B5 (A2h D n i)).length=(A2h D n i).length*1 by rw [B6,E69]) (W1 _),Has.tr (by simp [rZ]) gN A8H⟩
def KeysI(es:V3)(R:List Int):Prop:=es.map (·.1)=R.map λi=>cI i
def KeysI.len(hk:KeysI es R):es.length=(l_ R):=by
 have:=congrArg List.length hk;simpa using this
def KeysI.ok(hk:KeysI es R)(a:Int):A2j (A4 .i64) (cI a) es=A5:=by
 unfold A2j;rw [E53];refine ⟨by simp [uQ],List.all_eq_true.2 λe he=>?_⟩;have:e.1∈R.map λi=>cI i:=by rw [<-hk];exact List.mem_map.2 ⟨e,he,rfl⟩
 rw [List.mem_map] at this;obtain ⟨i,_,hi⟩:=this;rw [<-hi];simp [uQ]
def KeysI.snoc(hk:KeysI es R)(a:Int)(p:Part):KeysI (es++[(cI a,p)]) (R++[a]):=by
 unfold KeysI at *;rw [E6Q,E6Q,hk];rfl
def D4S{a:Int}:∀ {es:V3} {R:List Int} {i:Nat},KeysI es R->a ∉ R->mgo (cI a) es i=A7
 | [],_,_,_,_=>rfl
 | e::es,[],i,hk,_=>by simp [KeysI] at hk
 | e::es,r::R,i,hk,ha=>by
  have hk1:e.1=cI r:=(List.cons.inj hk).1;have hk2:KeysI es R:=(List.cons.inj hk).2;rw [E68,not_or] at ha;rw [mgo,if_neg (by rw [hk1];intro e;cases e;exact ha.1 rfl)];exact D4S hk2 ha.2
def D6f{a:Int}:∀ {es:V3} {R:List Int} {i j:Nat} {p:Part},KeysI es R->R.Nodup->es[j]?=A4 (cI a,p)->mgo (cI a) es i=A4 (i+j,p)
 | [],_,_,_,_,_,_,h=>by simp at h
 | e::es,[],i,j,p,hk,_,_=>by simp [KeysI] at hk
 | e::es,r::R,i,j,p,hk,hn,h=>by
  have hk1:e.1=cI r:=(List.cons.inj hk).1;have hk2:KeysI es R:=(List.cons.inj hk).2;cases j with
  | zero =>
   simp at h;subst h;rw [mgo,if_pos rfl];simp
  | succ j =>
   have h':es[j]?=A4 (cI a,p):=by simpa using h
   have kY:a∈R:=by
    have h3:(es.map (·.1))[j]?=A4 (cI a):=by rw [List.getElem?_map,h'];rfl
    rw [hk2,List.getElem?_map,E6m] at h3;obtain ⟨r',hr',e'⟩:=h3;cases e';exact E6n hr'
   have aR:¬ e.1=cI a:=by
    rw [hk1];intro e';cases e';exact (List.nodup_cons.1 hn).1 kY
   rw [mgo,if_neg aR,D6f (i:=i+1) hk2 (List.nodup_cons.1 hn).2 h'];simp;omega
def D2K{z:Part}{ok:Bool}(hr:rd h mid=A4 (P6 es))(hk:KeysI es R)(ha:a ∉ R):xJ h (A4 .i64) z ok (.c (.m mid)) (.c (cI a))=A4 (vB ok z A6):=by
 simp only [xJ,B9j,D0P,hr,E6h,pO];rw [if_pos (hk.ok a)];unfold A81;rw [D4S hk ha]
def D7z{z p:Part}{ok:Bool}(hr:rd h mid=A4 (P6 es))(hk:KeysI es R)(hn:R.Nodup)(hj:es[j]?=A4 (cI a,p)):xJ h (A4 .i64) z ok (.c (.m mid)) (.c (cI a))=A4 (vB ok p A5):=by
 simp only [xJ,B9j,D0P,hr,E6h,pO];rw [if_pos (hk.ok a)];unfold A81;rw [D6f hk hn hj]
def E0l{l:List Cell}(hr:rd h mid=A4 (P6 es))(hk:KeysI es R)(ha:a ∉ R):A2A h (A4 .i64) (.c (.m mid)) (.c (cI a)) (.a l)=A4 (h.set mid (A4 (P6 (es++[(cI a,.a l)])))):=by
 simp only [A2A,B9j,C2Y,hr,E6h,pO];rw [if_pos (hk.ok a)];unfold A82 A81;rw [D4S hk ha]
def Ow(b:Nat)(h:A9):Prop:=∀ id x,b<=id->rd h id=A4 x->x.own=A5
def Ow.self:Ow (l_ h) h:=λid x hid hx=>by have:=E1 hx;omega
def Ow.more{b:Nat}{t:A9}(a:Ow b h)(ht:t.all B33=A5:=by rfl):Ow b (h++t):=λid x hid hx=>by
 by_cases hl:id<(l_ h)
 ·rw [D3 hl] at hx;exact a id x hid hx
 ·rw [rd_some,E6r (by omega)] at hx;exact List.all_eq_true.1 ht _ (E6n hx)
def Ow.put{b:Nat}{r:Option Row}(a:Ow b h)(hr:B33 r=A5):Ow b (h.set i r):=λid x hid hx=>by
 by_cases e:i=id
 ·subst e;have hl:=E1 hx;simp at hl;rw [D6 (by simpa using hl)] at hx;subst hx;exact hr
 ·rw [B8 e] at hx;exact a id x hid hx
def Ow.app{b:Nat}{x y:Val}(a:Ow b h)(e:tJ h sz x y=A4 (v,h')):Ow b h':=by
 unfold tJ at e;obtain ⟨ys,_,e⟩:=Option.bind_eq_some_iff.1 e;split at e
 ·split at e
  ·cases e;exact a.more
  ·cases e
 ·obtain ⟨r,_,e⟩:=Option.bind_eq_some_iff.1 e;split at e
  ·cases e;exact (a.put rfl).more
  ·cases e
 ·cases e
def Ow.st1{b:Nat}{x y:Val}(a:Ow b h)(e:I8 h x y=A4 h'):Ow b h':=by
 unfold I8 at e;split at e
 ·obtain ⟨r,_,e⟩:=Option.bind_eq_some_iff.1 e;split at e
  ·cases e;exact a.put rfl
  ·cases e
 ·cases e
def Ow.grows(a:Ow (l_ h) h')(hl:Low (l_ h) h h'):Grows h h':=by
 refine ⟨List.prefix_iff_eq_take.2 (E7b λi=>?_),a⟩;by_cases hi:i<(l_ h)
 ·have h1:=hl.2.2 i hi;have hl2:=hl.2.1;unfold rd at h1;rw [E6L hi];rw [E51 hi,E51 (by omega)] at h1 ⊢;have h1:h'[i]'(by omega)=h[i]:=h1;rw [h1]
 ·rw [E6u (by omega),E6u (by rw [E6A];omega)]
def E1q(b:Nat)(h:A9):Nat:=match rd h (b+5) with
 | some ⟨.sl L _ _ _::_,_⟩=>L
 | _=>0
def Pr(b:Nat)(h:A9)(id:Nat):Prop:=b+6<=id/\id<l_ h/\id≠E1q b h
def B4G{b L n:Nat}(hr:rd h (b+5)=rT [.sl L 0 n 1]):E1q b h=L:=by
 unfold E1q;rw [hr]
structure OfP(D:Dev)(n:Int)(V:List Cell)(g:A9)(R:List Int)(h:A9):Prop where
 low:Low (l_ g) g h
 ow:Ow (l_ g) h
 nd:R.Nodup
 r0:rd h (l_ g)=rT V
 r3:rd h (l_ g+3)=rT [.m (l_ g+2)]
 rw_:∃ L es,rd h (l_ g+5)=rT [.sl L 0 (l_ R+1) 1]/\rd h L=rT (encI (1::R))/\(l_ g)+4<=L/\L≠(l_ g)+5 /\
  rd h (l_ g+2)=A4 (P6 es)/\KeysI es R/\∀ (j:Nat) (e:Cell × Part),es[j]?=A4 e->∃ a cs,e=(cI a,.a cs)/\IsNd h cs (rZ D n a)/\NdF (Pr (l_ g) h) cs
def OfP.since(P:OfP D n V g R h)(hl:Low (l_ h) h h')(ho:Ow (l_ g) h'):OfP D n V g R h':=by
 obtain ⟨L,es,h1,h2,h3,h4,h5,h6,h7⟩:=P.rw_;have W5:=hl.2.1;have c1:=B4G h1;have c2:=B4G (hl.rd h1);refine ⟨P.low.trans ⟨by have:=P.low.2.1;omega,W5,λid hid=>hl.2.2 id (by have:=P.low.2.1;omega)⟩,ho,P.nd,hl.rd P.r0,hl.rd P.r3,L,es,hl.rd h1,hl.rd h2,h3,h4,hl.rd h5,h6,λj e he=>?_⟩;obtain ⟨a,cs,e1,e2,e3⟩:=h7 j e he;exact ⟨a,cs,e1,e2.keep e3 λid hid=>hl.2.2 id hid.2.1,λid off m sz hm=>by have:=e3 id off m sz hm;unfold Pr at *;omega⟩
def OfP.more{D:Dev}{n:Int}{V:List Cell}{g h:A9}{R:List Int}(P:OfP D n V g R h)(t:A9)(ht:t.all B33=A5:=by rfl):OfP D n V g R (h++t):=P.since ((Low.refl (E56 _)).new t) (P.ow.more ht)
def OfP.pr(P:OfP D n V g R h)(hl:Low (l_ h) h h'){id:Nat}(hp:Pr (l_ g) h id):Pr (l_ g) h' id/\rd h' id=rd h id:=by
 obtain ⟨L,es,h1,_⟩:=P.rw_;have c1:=B4G h1;have c2:=B4G (hl.rd h1);have W5:=hl.2.1;unfold Pr at *;exact ⟨by omega,hl.2.2 id hp.2.1⟩
def OfP.look(P:OfP D n V g R h)(ha:a∈R):∃ cs,IsNd h cs (rZ D n a)/\NdF (Pr (l_ g) h) cs/\∀ z ok,xJ h (A4 .i64) z ok (.c (.m (l_ g+2))) (.c (cI a))=A4 (vB ok (.a cs) A5):=by
 obtain ⟨L,es,h1,h2,h3,h4,h5,h6,h7⟩:=P.rw_;obtain ⟨j,hj⟩:=List.mem_iff_getElem?.1 ha;have hlen:=h6.len;have hjl:j<es.length:=by rw [hlen];exact (List.getElem?_eq_some_iff.1 hj).1
 obtain ⟨b,cs,e1,e2,e3⟩:=h7 j es[j] (E51 hjl);have hb:b=a:=by
  have h8:(es.map (·.1))[j]?=A4 (cI b):=by rw [List.getElem?_map,E51 hjl,e1];rfl
  rw [h6,List.getElem?_map,hj] at h8;simpa using h8.symm
 subst hb;exact ⟨cs,e2,e3,λz ok=>D7z h5 h6 P.nd (by rw [E51 hjl,e1])⟩
def E0G(hD:okD D)(hv:IsView g f D)(P:OfP D n (vwC (l_ D) n m f) g R h)(h62:l_ R<=1000) :
  ∃ h',uD [.c (cI a),.c (.p (l_ g+3) 0),.c (.p (l_ g) 0),.c (.p (l_ g+5) 0)] h=A4 (.t [],h')/\OfP D n (vwC (l_ D) n m f) g (C1Q R a) h'/\∀ id,Pr (l_ g) h id->Pr (l_ g) h' id/\rd h' id=rd h id:=by
 have la:=C4 (off:=0) P.r3 rfl rfl;have z7:ndC 0 0 0 0 0 .ns .ns=[o0,o0,o0,o0,o0,.ns,.ns]:=rfl;unfold C1Q;by_cases c:a∈R
 ·obtain ⟨cs,g1,_,g2⟩:=P.look c;have s0:=B4f (h:=h) g1.length;rw [if_pos c];refine ⟨h++[rT cs],B2U (n:=0) ?_,P.more _,λid hp=>P.pr ((Low.refl (E56 _)).new _) hp⟩;rw [B2u];simp only [C6,la,g2,vB,xH,E6K,E6o,E6I,eY,eZ,s0,xK,Bool.not_true,Y0];rfl
 ·rw [if_neg c];obtain ⟨L,es,h1,h2,h3,h4,h5,h6,h7⟩:=P.rw_;have lk:=D2K (z:=.a (ndC 0 0 0 0 0 .ns .ns)) (ok:=A5) h5 h6 c;have s0:=B4f (h:=h) (cs:=ndC 0 0 0 0 0 .ns .ns) rfl;obtain ⟨H,hH⟩:=xEq (h++[rT (ndC 0 0 0 0 0 .ns .ns)]);have PH:OfP D n (vwC (l_ D) n m f) g R H:=by rw [hH];exact P.more _
  have lH:l_ H=l_ h+1:=by rw [hH];simp
  rw [<-hH] at s0;have la2:=C4 (off:=0) PH.r3 rfl rfl;have lV:=C7 (n:=4) PH.r0 rfl;obtain ⟨cs,t,n1,n2,n3⟩:=D1j (n:=n) (m:=m) (i:=a) hD (hv.since PH.low);obtain ⟨H2,hH2⟩:=xEq (H++t.map λc=>rT c);have n1q:quiet H (A5Y [.a (vwC (l_ D) n m f),.c (cI a)] H)=A4 (.a cs,H2):=by rw [n1,D5d,hH2]
  rw [<-hH2] at n2;have P2:OfP D n (vwC (l_ D) n m f) g R H2:=by rw [hH2];exact PH.more _ (by rw [E6X];intro x hx;obtain ⟨c,_,rfl⟩:=List.mem_map.1 hx;rfl)
  have lH2:H2.length=l_ H+(l_ t):=by rw [hH2];simp
  obtain ⟨L',es',k1,k2,k3,k4,k5,k6,k7⟩:=P2.rw_;have eL:L'=L:=by
   have:rd H2 (l_ g+5)=rT [.sl L 0 (l_ R+1) 1]:=by rw [hH2,hH];exact B7 (B7 h1)
   rw [this] at k1;injection k1 with e;injection e with e1;injection e1 with e2;injection e2 with e3
   exact e3.symm
  subst eL;have pm:=E0l (l:=cs) k5 k6 c;obtain ⟨H3,hH3⟩:=xEq (H2.set (l_ g+2) (A4 (P6 (es'++[(cI a,.a cs)]))));rw [<-hH3] at pm;have lH3:H3.length=H2.length:=by rw [hH3];simp
  have r5:rd H3 (l_ g+5)=rT [.sl L' 0 (l_ R+1) 1]:=by rw [hH3,B8 (by omega)];exact k1
  have rL:rd H3 L'=rT (encI (1::R)):=by rw [hH3,B8 (by omega)];exact k2
  have E5V:=E1 h2;have ef:F5 [o0] [(0,1,.c (cI a))]=A4 (encI [a]):=rfl;obtain ⟨id,h8,h9,p1,p2,p3,p4,p5,p6,p7,p8,p9⟩:=D9v (off:=0) (ys:=encI [a]) (n:=l_ R+1) (sz:=1) r5 rfl (.inr ⟨L',rfl,rL,by simp [C1],k4⟩) (by omega) rfl (by omega);have keep:∀ j,j<H3.length->j≠(l_ g)+5->j≠L'->rd h9 j=rd H3 j:=λj h1 h2 h3=>p8 j h1 h2 λmm e=>by cases e;exact h3 rfl
  have b5:=E1 r5;have cH2:=B4G k1;have c9:E1q (l_ g) h9=id:=B4G (n:=l_ R+1+1) (by rw [p4];rfl);refine ⟨h9,B2U (n:=0) ?_,?_,λid0 hp=>?_⟩
  ·rw [B2u];rw [z7] at lk s0;simp only [C6,la,lk,vB,xH,E6K,E6o,E6I,eY,eZ,s0,xK,Bool.not_false,W9,la2,lV,E6k,n1q,pm,p1,ef,p2,p3];rfl
  ·refine ⟨?_,?_,?_,?_,?_,id,es'++[(cI a,.a cs)],?_,?_,by omega,by omega,?_,k6.snoc a _,λj e he=>?_⟩
   ·refine ⟨E56 _,by have:=P2.low.2.1;omega,λj hj=>?_⟩;rw [keep j (by omega) (by omega) (by omega),hH3,B8 (by omega)];exact P2.low.2.2 j hj
   ·have o3:Ow (l_ g) H3:=by rw [hH3];exact P2.ow.put C9s
    exact (o3.more.app p2).st1 p3
   ·rw [List.nodup_append];exact ⟨P.nd,by simp,λx hx y hy e=>by simp at hy;subst hy;subst e;exact c hx⟩
   ·rw [keep _ (by omega) (by omega) (by omega),hH3,B8 (by omega)];exact P2.r0
   ·rw [keep _ (by omega) (by omega) (by omega),hH3,B8 (by omega)];exact P2.r3
   ·rw [p4];simp
   ·rw [p6,<-iN];simp
   ·rw [keep _ (by omega) (by omega) (by omega),hH3,D6 (by omega)]
   ·by_cases hj:j<es'.length
    ·rw [E6H hj] at he;obtain ⟨b,cs',e1,e2,e3⟩:=k7 j e he;refine ⟨b,cs',e1,e2.keep e3 λid hid=>?_,λdM off m' sz hm=>?_⟩
     ·unfold Pr at hid;rw [keep id (by omega) (by omega) (by omega),hH3,B8 (by omega)]
     ·have:=e3 dM off m' sz hm;unfold Pr at *;omega
    ·have hj2:j=es'.length:=by
      have:=(List.getElem?_eq_some_iff.1 he).1;simp at this;omega
     subst hj2;rw [E6r (E56 _)] at he;simp at he;subst he;refine ⟨a,cs,rfl,n2.keep n3 λid hid=>?_,λdM off m' sz hm=>?_⟩
     ·have:=P.low.2.1;rw [keep id (by omega) (by omega) (by omega),hH3,B8 (by omega)]
     ·have:=n3 dM off m' sz hm;have hP:=P.low.2.1;have hb:=E1 h1;unfold Pr;omega
  ·have q1:=(P2.pr (Low.refl (E56 _)) (P.pr (h':=H2) (by rw [hH2,hH];exact ((Low.refl (E56 _)).new _).new _) hp).1).1;have q2:=(P.pr (h':=H2) (by rw [hH2,hH];exact ((Low.refl (E56 _)).new _).new _) hp).2;unfold Pr at *;exact ⟨by omega,by rw [keep id0 (by omega) (by omega) (by omega),hH3,B8 (by omega)];exact q2⟩
def E2h(hR:∀ x∈R,1<=x/\x<=128)(ha:1<=a/\a<=128):∀ x∈C1Q R a,1<=x/\x<=128:=by
 intro x hx;rcases D3A.1 hx with h | rfl
 ·exact hR x h
 ·exact ha
def C21{D:Dev}{n m:Int}{f:Cell}{g:A9}{q M:Nat}{L:List Ent}{y:Cell}{fc x6:Val}(hD:okD D)(hv:IsView g f D)(hL:∀ e∈L,1<=e.2/\e.2<=128)(h62:l_ L<=1000)
  (hfc:∀ a h,aD sG fc [a] h=uD [a,.c (.p (l_ g+3) 0),.c (.p (l_ g) 0),.c (.p (l_ g+5) 0)] h) :
  ∀ (e j M2:Nat) (R:List Int) (h:A9),j+e=l_ L->e<M2->(∀ x∈R,1<=x/\x<=128)->OfP D n (vwC (l_ D) n m f) g R h->Has h (.c y) 2 (l_ L) (J8 L)->(∀ id off k s,y=.sl id off k s->Pr (l_ g) h id) ->
   ∃ h',A9b q M M2 (.c (.p (l_ g+3) 0)) (.c (.p (l_ g+5) 0)) fc x6 (.c y) (.c (cI (l_ L:Int))) (.c (cI (j:Int))) h=bnd (N5 .add x6 (.c (cI 1))) (λv29=>A0H q M (.c (.p (l_ g+3) 0)) (.c (.p (l_ g+5) 0)) fc v29 h') /\
    OfP D n (vwC (l_ D) n m f) g (C64 R (L.drop j)) h'
 | e,j,0,R,h,_,hm,_,_,_,_=>by omega
 | 0,j,M2+1,R,h,hj,hm,hR,P,hy,hp=>by
  have c0:¬ ((j:Int)<(l_ L:Nat)):=by omega
  rw [A2J,E6f (by omega)];exact ⟨h,by simp only [C6,G3,c0,decide_false,Y0],P⟩
 | e+1,j,M2+1,R,h,hj,hm,hR,P,hy,hp=>by
  have hjl:j<(l_ L):=by omega
  have c0:(j:Int)<(l_ L:Nat):=by omega
  have w1:=D9 (a:=j) (by omega);obtain ⟨ad,a1,a2⟩:=A3C hy hjl;rw [E6b hjl,B4Y];have hx:=hL L[j] (E6w hjl);obtain ⟨x,hxe⟩:=xEq (L[j]);rw [<-hxe] at a2 hx ⊢;have P1:=P.more [rT (W0 (A4 x))];have E2D:Low (l_ h) h (h++[rT (W0 (A4 x))]):=(Low.refl (E56 _)).new _;have hRl:=A6s P.nd hR;obtain ⟨h2,f1,f2,f3⟩:=E0G (a:=x.2) hD hv P1 (by omega);have hy2:Has h2 (.c y) 2 (l_ L) (J8 L):=C6g hy λid off k s ey=>by
   have q1:=P.pr E2D (hp id off k s ey);rw [(f3 id q1.1).2,q1.2]
  obtain ⟨h',k1,k2⟩:=C21 (q:=q) (M:=M) (x6:=x6) hD hv hL h62 hfc e (j+1) M2 (C1Q R x.2) h2 (by omega) (by omega) (E2h hR hx) f2 hy2 (λid off k s ey=>(f3 id (P.pr E2D (hp id off k s ey)).1).1);refine ⟨h',?_,k2⟩;rw [A2J];simp only [C6,G3,c0,decide_true,W9,a1,a2,B4e,Q8,E6j,E7a,C5V,hfc,f1,L7,w1];exact k1
def D3u{D:Dev}{n m:Int}{f:Cell}{g:A9}{q:Nat}{fc:Val}(hD:okD D)(hv:IsView g f D)(hq:1000<q)
  (hfc:∀ a h,aD sG fc [a] h=uD [a,.c (.p (l_ g+3) 0),.c (.p (l_ g) 0),.c (.p (l_ g+5) 0)] h) :
  ∀ (e i M:Nat) (R:List Int) (h:A9),e<M->130<=e+i->i<=1000->RowI (A3o D n) i R->OfP D n (vwC (l_ D) n m f) g R h ->
   ∃ h',A0H q M (.c (.p (l_ g+3) 0)) (.c (.p (l_ g+5) 0)) fc (.c (cI (i:Int))) h=A0I q q (.c (.p (l_ g+3) 0)) (.c (.sl (l_ h') 0 0 7)) (.c o0) (h'++[rT []])/\OfP D n (vwC (l_ D) n m f) g (A9c (A3o D n) e i R) h'
 | e,i,0,R,h,hm,_,_,_,_=>by omega
 | e,i,M+1,R,h,hm,E5U,hi,hI,P=>by
  obtain ⟨L,es,h1,h2,h3,h4,h5,h6,h7⟩:=P.rw_;have hRl:=A6s hI.nd hI.rg;have t4:=C4 (off:=0) h1 rfl rfl;have t3:=C4 (off:=0) P.r3 rfl rfl;have w1:=D9 (a:=i) (by omega);by_cases c:i<(1::R).length
  ·have c':i<l_ R+1:=by simpa using c
   have c0:(i:Int)<(l_ R+1:Nat):=by omega
   obtain ⟨e,rfl⟩:=aP e (by omega);have ad:E9 1 (.c (.sl L 0 (l_ R+1) 1)) (.c (cI (i:Int)))=A4 (.c (.p L i)):=by rw [E3 c'];simp
   have l1:B9 h (.c (.p L i))=A4 (.c (cI (1::R)[i])):=C4 h2 (by rw [G6,E51 c];rfl) rfl;have kY:(1::R)[i]∈R:=by
    have:=E6w c;rw [E68] at this;rcases this with e | e
    ·rw [e];exact hI.hd
    ·exact e
   obtain ⟨cs,g1,g2,g3⟩:=P.look kY;have mM:=hI.step (λa=>D0Z) c;rw [A9c,dif_pos c];obtain ⟨a,ha⟩:=xEq ((1::R)[i]);rw [<-ha] at l1 g1 g3 mM ⊢;obtain ⟨x,y,rfl,hx,hy⟩:=g1;have hyl:=hy.len;have f6:B5S (.a (ndC (rZ D n a).ino (rZ D n a).kind (rZ D n a).links (rZ D n a).parent (rZ D n a).size x y)) 6=A4 (.c y):=rfl;have hny:(rZ D n a).names=A3o D n a:=rfl;rw [hny] at hy hyl;have n224:=D2W (D:=D) (n:=n) (i:=a);obtain ⟨h8,k1,k2⟩:=C21 (q:=q) (M:=M) (x6:=.c (cI (i:Int))) hD hv (L:=A3o D n a) (y:=y) D0Z (by omega) hfc (A3o D n a).length 0 q R h (by omega) (by omega) hI.rg P hy (λid off k s ey=>g2 id off k s (by simp [ndC,ey]));rw [E6i] at k2;rw [L7,C6,w1] at k1;obtain ⟨h',p1,p2⟩:=D3u (q:=q) hD hv hq hfc e (i+1) M _ h8 (by omega) (by omega) (by omega) mM k2;refine ⟨h',?_,p2⟩;rw [A2I];simp only [C6,t4,B0c,G3,c0,decide_true,W9,t3,ad,l1,g3,vB,f6,hyl,E6k];exact k1.trans p1
  ·have c':¬ i<l_ R+1:=by simpa using c
   have c0:¬ ((i:Int)<(l_ R+1:Nat)):=by omega
   have ew:A9c (A3o D n) e i R=R:=by
    cases e with
    | zero=>rfl
    | succ e=>rw [A9c,dif_neg c]
   rw [ew];refine ⟨h,?_,P⟩;rw [A2I];simp only [C6,t4,B0c,G3,c0,decide_false,Y0]
def IsNds.snoc{h:A9}{cs:List Cell}{x:Nd}(hx:IsNd h cs x):∀ {t:List Nd} {C:List Cell},IsNds h C t->IsNds h (C++cs) (t++[x])
 | [],C,hC=>by
  have hC:C=[]:=hC;subst hC;exact ⟨cs,[],by simp,hx,rfl⟩
 | y::t,C,⟨c1,c2,e,h1,h2⟩=>by
  subst e;exact ⟨c1,c2++cs,by simp,h1,IsNds.snoc hx h2⟩
def A43(D:Dev)(n:Int)(R:List Int)(k:Nat):List Nd:=((E6z k).filter λ(i:Nat)=>decide ((i:Int)∈R)).map λ(i:Nat)=>rZ D n (i:Int)
def C9Z{k:Nat}(h:(k:Int)∈R):A43 D n R (k+1)=A43 D n R k++[rZ D n k]:=by
 simp [A43,List.range_succ,E66,h]
def D3Q{k:Nat}(h:¬ (k:Int)∈R):A43 D n R (k+1)=A43 D n R k:=by
 simp [A43,List.range_succ,E66,h]
def D8m{k:Nat}:(A43 D n R k).length<=k:=by
 have:=E6R (λ(i:Nat)=>decide ((i:Int)∈R)) (E6z k);simpa [A43] using this
def E2S(b:Nat)(h:A9)(v:Val)(t:List Nd):Prop:=∀ h',(∀ id r,b<=id->rd h id=A4 r->rd h' id=A4 r)->IsTree h' v t
def IsNds.stay{b:Nat}{h h':A9}(hk:∀ id r,b<=id->rd h id=A4 r->rd h' id=A4 r):∀ {t:List Nd} {cs:List Cell},IsNds h cs t->NdF (λj=>b<=j) cs->IsNds h' cs t
 | [],_,hx,_=>hx
 | x::t,_,⟨c1,c2,e,⟨a,y,e2,h1,h2⟩,h3⟩,hf=>by
  subst e;have st:∀ {x:Cell} {sz n:Nat} {cs:List Cell},Has h (.c x) sz n cs->(∀ id off m s,x=.sl id off m s->b<=id)->Has h' (.c x) sz n cs:=λhv hb=>by
   rcases hv with hv | ⟨id,off,r,e,hr,h2⟩
   ·exact .inl hv
   ·cases e;exact .inr ⟨id,off,r,rfl,hk id r (hb id off _ _ rfl) hr,h2⟩
  refine ⟨c1,c2,rfl,⟨a,y,e2,st h1 λid off m s e=>hf id off m s ?_,st h2 λid off m s e=>hf id off m s ?_⟩,IsNds.stay hk h3 λid off m sz hm=>hf id off m sz (by simp [hm])⟩
  ·rw [e2];simp [ndC,e]
  ·rw [e2];simp [ndC,e]
def C1K{D:Dev}{n:Int}{V:List Cell}{g H:A9}{R:List Int}{q:Nat}(P:OfP D n V g R H):∀ (e k M id:Nat) (C:List Cell) (h:A9),k+e=129->e<M->Low (l_ H) H h->Ow (l_ g) h->l_ H<=id->rd h id=rT C->IsNds H C (A43 D n R k)->NdF (λj=>l_ g<=j) C ->
  ∃ v h',A0I q M (.c (.p (l_ g+3) 0)) (.c (.sl id 0 (A43 D n R k).length 7)) (.c (cI (k:Int))) h=A4 (v,h')/\IsTree h' v (A43 D n R 129)/\Low (l_ H) H h'/\Ow (l_ g) h'/\E2S (l_ g) h' v (A43 D n R 129)
 | e,k,0,id,C,h,_,hm,_,_,_,_,_,_=>by omega
 | 0,k,M+1,id,C,h,hk,hm,hlow,how,hid,hr,hC,hF=>by
  have e0:k=129:=by omega
  subst e0;have c0:¬ ((129:Nat):Int)<129:=by omega
  rw [qX];have hx:=hC.noX;exact ⟨_,h,by simp only [C6,G3,c0,decide_false,Y0]<;>rfl,⟨C,Has.row hr hx.2 hx.1,hC.since hlow⟩,hlow,how,λh'' E1G=>⟨C,Has.row (E1G id _ (by have:=P.low.2.1;omega) hr) hx.2 hx.1,(hC.since hlow).stay E1G hF⟩⟩
 | e+1,k,M+1,id,C,h,hk,hm,hlow,how,hid,hr,hC,hF=>by
  have c0:(k:Int)<129:=by omega
  have w1:=D9 (a:=k) (by omega);have Ph:=P.since hlow how;have t3:=C4 (off:=0) Ph.r3 rfl rfl;have ht:=D8m (D:=D) (n:=n) (R:=R) (k:=k);by_cases c:(k:Int)∈R
  ·obtain ⟨cs,g1,g2,g3⟩:=P.look c;obtain ⟨cs',g1',_,g3'⟩:=Ph.look c;have ecs:cs'=cs:=by
    have r2:∀ z ok,xJ h (A4 .i64) z ok (.c (.m (l_ g+2))) (.c (cI (k:Int)))=A4 (vB ok (.a cs) A5):=by
     intro z ok;rw [<-g3 z ok];obtain ⟨L,es,_,_,_,_,h5,_⟩:=P.rw_;simp only [xJ,D0P,h5,hlow.rd h5]
    have h3:=r2 (.c .ns) A6;rw [g3' (.c .ns) A6] at h3;simpa [vB] using h3
   subst ecs;have s0:=B4f (h:=h) g1.length;have oG:=g1.length;have l7:D1 (h++[rT cs']) 7 (.c (.p (l_ h) 0))=A4 (.a cs'):=C7 N6 oG;have ef:F5 [o0,o0,o0,o0,o0,.ns,.ns] [(0,7,.a cs')]=A4 cs':=by
    simp only [F5,eH];rw [if_pos ⟨oG,by decide⟩];rw [lay_all (by rw [oG];rfl)]
   have hx:=hC.noX;obtain ⟨h2,a1,a2,a3,a4,a5⟩:=push (g:=H) (n:=(A43 D n R k).length) (sz:=7) (ys:=cs') (h:=h++[rT cs']) (hlow.new _) (B7 hr) hx.2 hid oG (by omega) (by omega);obtain ⟨v,h',f1,f2,f3⟩:=C1K (q:=q) P e (k+1) M ((h++[rT cs']).length+1) (C++cs') h2 (by omega) (by omega) a3 (how.more.more.app a1) (by omega) a2 (by rw [C9Z c];exact hC.snoc g1) (λj off m sz hm=>(List.mem_append.1 hm).elim (λh=>hF j off m sz h) λh=>by have:=(g2 j off m sz h).1;omega);refine ⟨v,h',?_,f2,f3⟩;have el:(A43 D n R (k+1)).length=(A43 D n R k).length+1:=by rw [C9Z c];simp
   rw [el] at f1;rw [qX];simp only [C6,G3,c0,decide_true,W9,t3,g3',vB,xH,E6K,E6o,E6I,eY,eZ,s0,l7,ef,a1,A2H,L7,w1];exact f1
  ·obtain ⟨L,es,_,_,_,_,h5,h6,_⟩:=Ph.rw_;have lk:=D2K (z:=.a [o0,o0,o0,o0,o0,.ns,.ns]) (ok:=A5) h5 h6 c;have s0:=B4f (h:=h) (cs:=[o0,o0,o0,o0,o0,.ns,.ns]) rfl;obtain ⟨v,h',f1,f2,f3⟩:=C1K (q:=q) P e (k+1) M id C (h++[rT [o0,o0,o0,o0,o0,.ns,.ns]]) (by omega) (by omega) (hlow.new _) how.more hid (B7 hr) (by rw [D3Q c];exact hC) hF;refine ⟨v,h',?_,f2,f3⟩;rw [D3Q c] at f1;rw [qX];simp only [C6,G3,c0,decide_true,W9,t3,lk,vB,xH,E6K,E6o,E6I,eY,eZ,s0,Y0,A2H,L7,w1];exact f1
def C7s(hD:okD D)(hv:IsView h f D) :
  ∃ v h',dR [.a (vwC (l_ D) n m f)] h=A4 (v,h')/\IsTree h' v (E4 D n)/\Low (l_ h) h h'/\Ow (l_ h) h'/\E2S (l_ h) h' v (E4 D n):=by
 obtain ⟨V,hV⟩:=xEq (vwC (l_ D) n m f);have hVl:l_ V=4:=by rw [hV];rfl
 have D4G:=V1 (n:=n) (m:=m) (i:=1) (h:=h++[rT V,rT []]) hD (hv.more _);rw [pN,<-hV] at D4G;have f0:∀ k l s p d,B5S (.a (C8 k l s p d)) 0=A4 (.c (cI k)):=λ_ _ _ _ _=>rfl
 unfold E4;by_cases c:kdV D n 1=2
 ·rw [if_pos c];have ef:F5 [o0] [(0,1,.c (cI 1))]=A4 [cI 1]:=rfl;obtain ⟨H,hH⟩:=xEq (h++[rT V,rT [],A4 (P6 []),rT [.m (l_ h+2)],rT [cI 1],rT [.sl (l_ h+4) 0 1 1]]);have lH:l_ H=l_ h+6:=by rw [hH];simp
  have emk:A3f 49 [.c (.p (l_ h+3) 0),.c (.p (l_ h) 0),.c (.p (l_ h+5) 0)]=A4 (.c (.f 49 [(l_ h+3,0),(l_ h,0),(l_ h+5,0)])):=rfl;have hfc:∀ a h',aD sG (.c (.f 49 [(l_ h+3,0),(l_ h,0),(l_ h+5,0)])) [a] h'=uD [a,.c (.p (l_ h+3) 0),.c (.p (l_ h) 0),.c (.p (l_ h+5) 0)] h':=λ_ _=>Eq.trans rfl rfl
  have P0:OfP D n (vwC (l_ D) n m f) h [] H:=by
   rw [<-hV,hH];refine ⟨(Low.refl (E56 _)).new _,Ow.self.more (by simp [B33];exact ⟨rfl,rfl,Row.own_mrow _,rfl,rfl,rfl⟩),by simp,by simp,by simp,l_ h+4,[],by simp,by simp [encI],by omega,by omega,by simp,rfl,λj e he=>by simp at he⟩
  obtain ⟨h2,f1,f2,_⟩:=E0G (a:=1) hD hv P0 (by simp);have es:C1Q [] 1=[1]:=rfl;rw [es] at f2;obtain ⟨h3,g1,g2⟩:=D3u (q:=2000) hD hv (by omega) hfc 130 0 2000 [1] h2 (by omega) (by omega) (by omega) RowI.one f2;change OfP D n (vwC (l_ D) n m f) h (C1O D n) h3 at g2;obtain ⟨v,h',k1,k2,k3,k4,k5⟩:=C1K (q:=2000) g2 129 0 2000 h3.length [] (h3++[rT []]) (by omega) (by omega) ((Low.refl (E56 _)).new _) g2.ow.more (E56 _) (by simp) rfl (λ_ _ _ _ h=>by cases h);refine ⟨v,h',A4n (n:=2000) ?_,k2,?_,k4,k5⟩
  ·have e5:(h++[rT V,rT [],A4 (P6 [])]).length=l_ h+3:=by simp
   have s1:I8 (h++[rT V,rT [],A4 (P6 []),rT [.nm]]) (.c (.p (l_ h+3) 0)) (.c (.m (l_ h+2)))=A4 (h++[rT V,rT [],A4 (P6 []),rT [.m (l_ h+2)]]):=by rw [nQ];rfl
   have s2:I8 (h++[rT V,rT [],A4 (P6 []),rT [.m (l_ h+2)],rT [cI 1],rT [.ns]]) (.c (.p (l_ h+5) 0)) (.c (.sl (l_ h+4) 0 1 1))=A4 H:=by rw [nQ,hH];rfl
   rw [A35,<-hV];simp only [esc,G8,K8,hVl,D4G,f0,c,Nat.add_assoc,Nat.reduceAdd,s1,ef,s2,emk,hfc,f1];exact g1.trans k1
  ·exact g2.low.trans ⟨by have:=g2.low.2.1;omega,k3.2.1,λid hid=>by
    have:=g2.low.2.1;rw [k3.2.2 id (by omega)]⟩
 ·rw [if_neg c];refine ⟨.c (.sl (l_ h+2) 0 0 7),h++[rT V,rT [],rT []],A4n (n:=0) ?_,⟨[],Has.row (rw:=A5) (by simp) rfl rfl,rfl⟩,(Low.refl (E56 _)).new _,Ow.self.more,λh'' E1G=>⟨[],Has.row (rw:=A5) (E1G (l_ h+2) _ (by omega) (by simp)) rfl rfl,rfl⟩⟩;rw [A35,<-hV];simp only [esc,G8,K8,hVl,D4G,f0,c]
def C8l(hD:okD D)(hv:IsView h f D) :
  ∃ v h',dR [.a (vwC (l_ D) n m f)] h=A4 (v,h')/\IsTree h' v (E4 D n)/\Grows h h':=by
 obtain ⟨v,h',h1,h2,h3,h4⟩:=C7s (n:=n) (m:=m) hD hv;exact ⟨v,h',h1,h2,h4.1.grows h3⟩
def nmC:Cell->Option Nat
 | .sl id _ _ _=>A4 id
 | .m id=>A4 id
 | _=>A7
def Nam(h:A9)(r id:Nat):Prop:=∃ R x,rd h r=A4 R/\x∈R.cells/\nmC x=A4 id
structure Fr(r:Nat)(h h':A9):Prop where
 size:l_ h<=(l_ h')
 keep:∀ id,id<l_ h->id≠r->¬ Nam h r id->rd h' id=rd h id
 nam:∀ id,Nam h' r id->Nam h r id\/(l_ h)<=id
def Fr.refl(r:Nat)(h:A9):Fr r h h:=⟨E56 _,λ_ _ _ _=>rfl,λ_ hn=>.inl hn⟩
def Fr.trans{h'':A9}(a:Fr r h h')(b:Fr r h' h''):Fr r h h'':=by
 refine ⟨E6J a.size b.size,λid hid hr hn=>?_,λid hn=>?_⟩
 ·rw [b.keep id (by have:=a.size;omega) hr λhm=>?_,a.keep id hid hr hn];rcases a.nam id hm with h1 | h1
  ·exact hn h1
  ·omega
 ·rcases b.nam id hn with h1 | h1
  ·exact a.nam id h1
  ·exact .inr (by have:=a.size;omega)
def Nam.same{id:Nat}(e:rd h' r=rd h r):Nam h' r id↔Nam h r id:=by unfold Nam;rw [e]
def Fr.low(hl:Low (l_ h) h h')(hr:r<l_ h):Fr r h h' :=
 ⟨hl.2.1,λid hid _ _=>hl.2.2 id hid,λid hn=>.inl ((Nam.same (hl.2.2 r hr)).1 hn)⟩
def Loc(h:A9)(r id:Nat):Prop:=id<l_ h/\id≠r/\¬ Nam h r id
def Fr.loc{id:Nat}(a:Fr r h h')(hl:Loc h r id):Loc h' r id/\rd h' id=rd h id:=by
 refine ⟨⟨Nat.lt_of_lt_of_le hl.1 a.size,hl.2.1,λhn=>?_⟩,a.keep id hl.1 hl.2.1 hl.2.2⟩;rcases a.nam id hn with h1 | h1
 ·exact hl.2.2 h1
 ·have:=hl.1;omega
def Apt(cs:List Cell)(r:Nat):Prop:=(∀ (i j a:Nat) (x y:Cell),cs[i]?=A4 x->cs[j]?=A4 y->nmC x=A4 a->nmC y=A4 a->i=j)/\∀ x∈cs,nmC x≠A4 r
def Apt.set{cs:List Cell}{r:Nat}(ha:Apt cs r)(off:Nat){x:Cell}(hx:∀ id,nmC x=A4 id->id≠r/\∀ (j:Nat) y,j≠off->cs[j]?=A4 y->nmC y≠A4 id):Apt (cs.set off x) r:=by
 have look:∀ (j:Nat) (y:Cell),(cs.set off x)[j]?=A4 y->(j=off/\y=x)\/(j≠off/\cs[j]?=A4 y):=by
  intro j y hj;by_cases e:j=off
  ·subst e
   left
   rw [E63] at hj;simp only [if_true] at hj;split at hj
   ·cases hj;exact ⟨rfl,rfl⟩
   ·cases hj
  ·right
   rw [E60 (Ne.symm e)] at hj;exact ⟨e,hj⟩
 refine ⟨λi j a y z hi hj hy hz=>?_,λy hy=>?_⟩
 ·rcases look i y hi with ⟨e1,e2⟩ | ⟨e1,e2⟩<;>rcases look j z hj with ⟨e3,e4⟩ | ⟨e3,e4⟩
  ·rw [e1,e3]
  ·subst e2;exact absurd hz ((hx a hy).2 j z e3 e4)
  ·subst e4;exact absurd hy ((hx a hz).2 i y e1 e2)
  ·exact ha.1 i j a y z e2 e4 hy hz
 ·obtain ⟨j,hj⟩:=List.mem_iff_getElem?.1 hy;rcases look j y hj with ⟨e1,e2⟩ | ⟨e1,e2⟩
  ·subst e2;intro e;exact (hx r e).1 rfl
  ·exact ha.2 y (E6n e2)
def Apt.ne(ha:Apt cs r){a b:Nat}(hi:cs[i]?=A4 x)(hj:cs[j]?=A4 y)(hx:nmC x=A4 a)(hy:nmC y=A4 b)(aR:i≠j):a≠b:=by
 intro e;subst e;exact aR (ha.1 i j a x y hi hj hx hy)
def HeldX.nm{n:Nat}(hx:HeldX h x cs n sz r){id:Nat}(e:nmC x=A4 id):x=.sl id 0 n sz/\rd h id=rT cs/\(l_ cs)=n*sz/\id≠r:=by
 rcases hx with ⟨_,_,e2⟩ | ⟨dM,e2,h1,h2,h3⟩
 ·rw [e2] at e;cases e
 ·subst e2;cases e;exact ⟨rfl,h1,h2,h3⟩
def HeldX.kept{n:Nat}(hx:HeldX h x cs n sz r)(hk:∀ id,nmC x=A4 id->rd h' id=rd h id):HeldX h' x cs n sz r :=
 hx.keep λid m e=>hk id (by rw [e];rfl)
structure Cl where
 row:List Int
 ino:List (List Int)
 taken:List Bool
 blocks:List Int
 made:List (List UInt8)
 lost:Int
 lnk:Int->Option Int
 par:Int->Option Int
def MapI(es:V3)(F:Int->Option Int):Prop:=(∀ e∈es,∃ i,e.1=cI i)/\∀ i,(A81 (cI i) es).map (·.2)=(F i).map λv=>Part.c (cI v)
def A0J(F:Int->Option Int)(a v:Int):Int->Option Int:=λi=>if i=a then A4 v else F i
def E2I(h:∀ e∈es,∃ i,e.1=cI i):A2j (A4 .i64) (cI a) es=A5:=by
 simp only [A2j,uQ,decide_true,E6t,E6X];intro e he;obtain ⟨x,hx⟩:=h e he;rw [hx];simp
def MapI.nil:MapI [] λ_=>A7:=⟨λe he=>by simp at he,λi=>rfl⟩
def MapI.put{F:Int->Option Int}(hm:MapI es F)(a v:Int):MapI (A82 (cI a) (.c (cI v)) es) (A0J F a v):=by
 refine ⟨C1A (Q:=λc=>∃ i,c=cI i) ⟨a,rfl⟩ hm.1,λi=>?_⟩;unfold A0J;by_cases c:i=a
 ·subst c;rw [if_pos rfl,(A3E (k':=.mh)).1];rfl
 ·rw [if_neg c,(A3E (k:=cI a) (k':=cI i)).2 (by simpa using c)];exact hm.2 i
def E2J{F:Int->Option Int}{ok:Bool}(hr:rd h mid=A4 (P6 es))(hm:MapI es F):xJ h (A4 .i64) (.c o0) ok (.c (.m mid)) (.c (cI a))=A4 (vB ok (.c (cI ((F a).getD 0))) (F a).isSome):=by
 simp only [xJ,B9j,D0P,hr,E6h,pO];rw [if_pos (E2I hm.1)];have h2:=hm.2 a;cases hg:A81 (cI a) es with
 | none =>
  rw [hg] at h2;cases hF:F a with
  | none=>rfl
  | some v=>rw [hF] at h2;cases h2
 | some ip =>
  obtain ⟨i,p⟩:=ip;rw [hg] at h2;cases hF:F a with
  | none=>rw [hF] at h2;cases h2
  | some v=>rw [hF] at h2;simp at h2;subst h2;rfl
def E3O{F:Int->Option Int}{x:Int}(hr:rd h mid=A4 (P6 es))(hm:MapI es F):A2A h (A4 .i64) (.c (.m mid)) (.c (cI a)) (.c (cI x))=A4 (h.set mid (A4 (P6 (A82 (cI a) (.c (cI x)) es)))):=by
 simp only [A2A,B9j,C2Y,hr,E6h,pO];rw [if_pos (E2I hm.1)]
def wkC(D:Dev)(n m:Int)(f xr xi xt xb xm:Cell)(lost:Int)(ml mp:Nat):List Cell:=[cI (l_ D),cI n,.i .u64 m,f,xr,xi,xt,xb,xm,cI lost,.m ml,.m mp]
def oL(l:List (List Int)):List Cell:=(l.map encI).flatten
def gJ(l:List Bool):List Cell:=l.map .b
structure WP(D:Dev)(n m:Int)(f:Cell)(g:A9)(r:Nat)(c:Cl)(h:A9):Prop where
 lo:Low (l_ g) g h
 ge:l_ g<=r
 low:∀ id,Nam h r id->l_ g<=id
 il:∀ x∈c.ino,x.length=11
 ilen:c.ino.length=(n+1).toNat
 tlen:c.taken.length=(l_ D)
 row:∃ xr xi xt xb xm ml mp es1 es2,rd h r=rT (wkC D n m f xr xi xt xb xm c.lost ml mp)/\Apt (wkC D n m f xr xi xt xb xm c.lost ml mp) r /\
  HeldX h xr (encI c.row) c.row.length 1 r/\HeldX h xi (oL c.ino) c.ino.length 11 r/\HeldX h xt (gJ c.taken) c.taken.length 1 r /\
  HeldX h xb (encI c.blocks) c.blocks.length 1 r/\HeldX h xm (E8 c.made) c.made.length 256 r /\
  rd h ml=A4 (P6 es1)/\MapI es1 c.lnk/\rd h mp=A4 (P6 es2)/\MapI es2 c.par
section
variable {D:Dev} {n m:Int} {f:Cell} {g:A9} {r:Nat} {c:Cl} {h:A9}
def WP.rlt(P:WP D n m f g r c h):r<(l_ h):=by
 obtain ⟨_,_,_,_,_,_,_,_,_,h1,_⟩:=P.row;exact E1 h1
def B7n{R:Row}{id:Nat}(hr:rd h r=A4 R)(hi:R.cells[i]?=A4 x)(hx:nmC x=A4 id):Nam h r id:=⟨R,x,hr,E6n hi,hx⟩
def C1C(hv:∃ id cs,f=.f id cs)(P:WP D n m f g r c h){id:Nat}(hn:Nam h r id):id<(l_ h):=by
 obtain ⟨xr,xi,xt,xb,xm,ml,mp,es1,es2,h1,h2,h3,h4,h5,h6,h7,h8,h9,h10,h11⟩:=P.row;obtain ⟨R,x,hR,hx,hnm⟩:=hn;rw [h1] at hR;cases hR;obtain ⟨fi,fc,rfl⟩:=hv;simp only [wkC,E68,List.not_mem_nil,or_false] at hx;rcases hx with rfl | rfl | rfl | rfl | rfl | rfl | rfl | rfl | rfl | rfl | rfl | rfl
 ·cases hnm
 ·cases hnm
 ·cases hnm
 ·cases hnm
 ·exact E1 (h3.nm hnm).2.1
 ·exact E1 (h4.nm hnm).2.1
 ·exact E1 (h5.nm hnm).2.1
 ·exact E1 (h6.nm hnm).2.1
 ·exact E1 (h7.nm hnm).2.1
 ·cases hnm
 ·cases hnm;exact E1 h8
 ·cases hnm;exact E1 h10
def WP.keep(P:WP D n m f g r c h)(hlo:Low (l_ g) g h')(hr:rd h' r=rd h r)(hk:∀ id,Nam h r id->rd h' id=rd h id):WP D n m f g r c h':=by
 obtain ⟨xr,xi,xt,xb,xm,ml,mp,es1,es2,h1,h2,h3,h4,h5,h6,h7,h8,h9,h10,h11⟩:=P.row;have k:∀ (i:Nat) (x:Cell) (id:Nat),(wkC D n m f xr xi xt xb xm c.lost ml mp)[i]?=A4 x->nmC x=A4 id->rd h' id=rd h id:=λi x id hi hx=>hk id (B7n h1 hi hx)
 refine ⟨hlo,P.ge,λid hn=>P.low id ((Nam.same hr).1 hn),P.il,P.ilen,P.tlen,xr,xi,xt,xb,xm,ml,mp,es1,es2,by rw [hr];exact h1,h2,h3.kept λid e=>k 4 _ _ rfl e,h4.kept λid e=>k 5 _ _ rfl e,h5.kept λid e=>k 6 _ _ rfl e,h6.kept λid e=>k 7 _ _ rfl e,h7.kept λid e=>k 8 _ _ rfl e,?_,h9,?_,h11⟩
 ·rw [k 10 (.m ml) ml rfl rfl];exact h8
 ·rw [k 11 (.m mp) mp rfl rfl];exact h10
def WP.since(hv:∃ id cs,f=.f id cs)(P:WP D n m f g r c h)(hl:Low (l_ h) h h'):WP D n m f g r c h' :=
 P.keep ⟨P.lo.1,E6J P.lo.2.1 hl.2.1,λid hid=>by rw [hl.2.2 id (by have:=P.lo.2.1;omega)];exact P.lo.2.2 id hid⟩ (hl.2.2 r P.rlt) λid hn=>hl.2.2 id (C1C hv P hn)
def WP.more(hv:∃ id cs,f=.f id cs)(P:WP D n m f g r c h)(t:A9):WP D n m f g r c (h++t):=P.since hv ((Low.refl (E56 _)).new t)
def WP.set{id:Nat}{x:Option Row}(P:WP D n m f g r c h)(hl:Loc h r id)(hg:l_ g<=id):WP D n m f g r c (h.set id x):=by
 refine P.keep (P.lo.set hg x) (B8 hl.2.1) λj hj=>B8 λe=>hl.2.2 (by rw [e];exact hj)
def Fr.set{id:Nat}{x:Option Row}{h0:A9}(a:Fr r h0 h)(hl:Loc h r id)(h0l:h0.length<=id):Fr r h0 (h.set id x):=by
 have e:rd (h.set id x) r=rd h r:=B8 hl.2.1;exact ⟨by simpa using a.size,λj hj h1 h2=>by rw [B8 (by omega)];exact a.keep j hj h1 h2,λj hj=>a.nam j ((Nam.same e).1 hj)⟩
end
section
variable (n m m2:Nat) (a0 a1 a2 a3 x0 x1 x2 x3 x4 x5 x6 x7 x8 x9 x10 x11 x12 x13 x17 x18 x19 x20 x21 x22 x27 x28 x29 x30 x31 x32 x37 x38 x39 x72 x73 x74 x75 x76 x77 x78 x79 x88 x89 x90 E4K E4L E4M E2s E2t E2u:Val) (h:A9)
def lD:FD A8:=⟨px 0X13ef407a126a0521b22a0411d6e10420540503d72f01860520114014c0000722401b2a1903a1e0413a4f4c3a703a1e203a1f403a1f03a6c73a70103f042032a1031800500503d712a5d4203140130182,[],[],[.tmp 4],[D7 W4 Z2]⟩
def A5I:=lD.R
def mW:=mR A5I lD (tT []) n [a0,a1] h
def dW:=lD.K Tryz.func73
def W7:=lD.Q
def nC:OfT A5I W7:=dW.of
def fV:FD A8:=⟨px 0X128f60301a191032f1a04202f2f382f72a2f1e0104121e439002711b0000017236017530282,[],[],[.tmp 6],[fU W7 dW]⟩
def A2u:=fV.R
def vR:=mR A2u fV (tT []) n [a0,a1,a2,a3] h
def A2p:=fV.K Tryz.func76
def fY:=fV.Q
def wG:OfT A2u fY:=A2p.of
def M5:FD A8:=⟨px 0X126e48867a4883f1c2111002323ef7055e02218026e488611906413019625c1684881851824301c1904f4d04264f6e484f7484f74e4f7013061903f4e3e3f70110321e1d01d6b4521cf60042031c1284881a1c41d4219f5041264215011a070244131889012129420060517011f61820131c41b422e219531c2,[],[.eqN A5 A5 (.t 16)],[.cellN 4 256],[cal C3J,D7 sZ A3K,fU fY A2p]⟩
def zF:=M5.R
def yU:K6:=M5.E
def yC:AtH:=M5.lj 0 n [m] [x1,x2,x4,x7]
def B0D:AtH:=M5.lj 1 n [m] [x1,x2,x4,x7]
def kU:TT:=⟨yU,[⟨2,4,yC⟩,⟨2,4,B0D⟩]⟩
def A6Z:=mR zF M5 kU n [a0,a1] h
def qJ:=mL M5 kU 0 n [m] [x1,x2,x4,x7] h
def dN:=mJ M5 kU 1 n [m] [x1,x2,x4,x7] h
def yZ:=M5.K Tryz.func75
def kP:=M5.Q
def A7h:OfT zF kP:=yZ.of
def lE:FD A8:=⟨px 0X622a4054052a3d4006488390488011c148807f4e488180440540503d71711811b622a3054052a3d0613901011113e2e10430540503d71711d112652e11b301c2,[],[],[],[]⟩
def A5J:=lE.R
def B19:=mR A5J lE (tT []) n [a0,a1,a2] h
def vM:=lE.K Tryz.func74
def mA:=lE.Q
def B2H:OfT A5J mA:=vM.of
def U3:FD A8:=⟨px 0X2c3835312c16f2f16d2042432f6f219c5e06233041a5f5041800503d2f4041a5f52f41b01b01241022041a5f531d94203021b6461b1d25f1b181f10410540503d2f470193100330022a1a5f506223041a4f52f461824390527a4b5921994c18244421311a4af2e053802218422a280164918c2001a223f5c46e482b0440162d46855816844c390701b38f704124842150307024713401215f4200605110383c2c5935d5b182032bf22a161b01130423a292b51d4228f21b63b51b01251151033b3b0422c1e2b51b421df21b63b41b042032e1041800503d1c1859181942422e153182,[],[.min (.t 20) (.v (.c (cI 6)))],[],[D7 F8 K1,D7 wR A3J,fU W7 dW,D7 D8 E7,fU kP yZ,fU mA vM]⟩
def A5H:=U3.R
def jD:AtH:=U3.lj 0 n [m] [x1,x2,x4,x5,x6,x21,x22]
def tM:AtH:=U3.lj 1 n [] [x1,x2,x5,x6]
def xE:=tT [⟨2,7,jD⟩,⟨1,4,tM⟩]
def B17:=mR A5H U3 xE n [a0,a1] h
def kV:=mL U3 xE 0 n [m] [x1,x2,x4,x5,x6,x21,x22] h
def zO:=mJ U3 xE 1 n [] [x1,x2,x5,x6] h
def A5v:=U3.K Tryz.func37
def lY:=U3.Q
def B2G:OfT A5H lY:=A5v.of
def J0:FD A8:=⟨px 0X127e4963f494b1c21111111006324af1d055a04a4921849f2d0538022180122a401482d17855e14182404225c104401482d15c54a38067b422ff704123e4235031a27024181328901215d42026251115b752017241032042233817290459420328f600441811d3284215011a07024613401213d42006051102901131e491843b392f128201321c49601031a49181c3021f4c432e219701c2,[],[],[.cellN 4 33],[cal C4V,cal sY,fU W7 dW]⟩
def A1n:=J0.R
def zM:AtH:=J0.lj 0 n [m] [x0,x3,x4,x11,x12,x13]
def zL:AtH:=J0.lj 1 n [m] [x0,x3,x4,x11,x12,x13]
def zN:AtH:=J0.lj 2 n [m,m2] [x0,x3,x4,x6,x11,x12,x13,x21]
def B1J:AtH:=J0.lj 3 n [m,m2] [x0,x3,x4,x6,x11,x12,x13,x21]
def Z9:=tT [⟨2,6,zM⟩,⟨2,6,zL⟩,⟨3,8,zN⟩,⟨3,8,B1J⟩]
def A7R:=mR A1n J0 Z9 n [a0,a1] h
def fL:=mL J0 Z9 0 n [m] [x0,x3,x4,x11,x12,x13] h
def rS:=mJ J0 Z9 1 n [m] [x0,x3,x4,x11,x12,x13] h
def fM:=mL J0 Z9 2 n [m,m2] [x0,x3,x4,x6,x11,x12,x13,x21] h
def rU:=mJ J0 Z9 3 n [m,m2] [x0,x3,x4,x6,x11,x12,x13,x21] h
def A1f:=J0.K Tryz.func78
def dX:=J0.Q
def A70:OfT A1n dX:=A1f.of
def lC:FD A8:=⟨px 0X14bf7007a466a103141022f3b6831868480661110723ff13ef2362c191b12c2802a3e2c3df2d0042336c1042234c1041800503d72e01e2d2b2911d20137023c4602f3b33811001722410222c2a024f420329f18004401482d312e50621301032c11e491b1c501929253312f61b642e31d1950282,[],[],[.cellN 6 4,.tmp 7],[D7 B2R B7P,cal C0K,D7 D8 E7,cal C0C]⟩
def vS:=lC.R
def B18:=mR vS lC (tT []) n [a0,a1,a2] h
def vL:=lC.K Tryz.func125
def lZ:=lC.S
def A9T:G0 vS lZ:=vL.flat
def K2:FD A8:=⟨px 0X11b9f402b81b902190000003721b8f19c053801b8492181aff1d001e239020129123e01118102293b33829815f128c128e1a80191819ff1f00441811d33f42550347024513401212bb42026451102901436f199042b92af2ad28282002321d4811e2222222200772198f2c051d801984921818ff480519e018f49218018ef6001a13901013113e0400511e856f171826f0410511d850400511ca55f1181c1224301a1911d94e1ba31d93c031d93c11ac1d91f01301a190421bd1a1aa1bd701bd1e01981bd1f0118a5d01d1eb66625cf15bf2462f1b1b1282801e5b2c5af4c00181a3330400517a53f491874d01c392f1824bf2362c1a1b031841831d45e4235031a270241b134012118b420162511029012304213581041800503d7380191897f7d1c22ff1800441811d33a42150307024713401215b42006051102901033c49291c4594f4d612c2002314a11d4228f500287d21b4224a432e270182,[],[.mkMap,.eqA A6 ([.i .i64,.s,.i .i64]) (.t 54) (.t 55),.mput A7 (.t 58) (.t 61) (.t 64),.look A7 (.c o0) A6 (.t 82) (.t 83)],[.tmp 4],[cal sY,D7 D8 E7,cal A7Y,D7 lZ vL,cal C40]⟩
def sT:=K2.R
def bI:AtH:=K2.lj 0 n [m] [x0,x3,x5,x6,x18,x19,x20]
def bJ:AtH:=K2.lj 1 n [m,m2] [x0,x3,x5,x6,x8,x18,x19,x20,x30,x31,x32]
def A2C:AtH:=K2.lj 2 n [m] [x5,x13,x74,x75,x76]
def B5k:AtH:=K2.lj 3 n [m,m2] [x0,x3,x5,x6,x8,x18,x19,x20,x30,x31,x32]
def cL:=tT [⟨2,7,bI⟩,⟨3,11,bJ⟩,⟨2,5,A2C⟩,⟨3,11,B5k⟩]
def B1v:=mR sT K2 cL n [a0,a1] h
def xQ:=mL K2 cL 0 n [m] [x0,x3,x5,x6,x18,x19,x20] h
def jE:=mL K2 cL 1 n [m,m2] [x0,x3,x5,x6,x8,x18,x19,x20,x30,x31,x32] h
def xR:=mL K2 cL 2 n [m] [x5,x13,x74,x75,x76] h
def bO:=mJ K2 cL 3 n [m,m2] [x0,x3,x5,x6,x8,x18,x19,x20,x30,x31,x32] h
def A3F:=K2.K Tryz.func79
def iX:=K2.S
def A9U:A3T sT iX:=A3F.out
def aS:FD A8:=⟨px 0X11b6011d00620622a0054052a3d0613901011113e2f10400540503d71711d1836f1f12f1041b0503d71721222403f19a121bf53128200001301a26f50021382f1041a0503d74f0182b53102920136011d000002722401b1c193041887b6e18f70188719021881a6c18870101b619102781a5c787015022683a01d19d4231339f138f1801282801e382c2ff290038581041b0503d72a01b2b4228f70007904203381041800503d71a0181f4236015301c2,[],[.look (A4 .i64) (.c o0) A5 (.t 21) (.t 22),.look (A4 .i64) (.c o0) A6 (.t 42) (.t 43),.mput (A4 .i64) (.t 42) (.t 43) (.t 45),.mput (A4 .i64) (.t 51) (.t 52) (.t 53)],[.tmp 6],[D7 F8 K1]⟩
def A5K:=aS.R
def B69:AtH:=aS.lj 0 n [] []
def A50:=tT [⟨1,0,B69⟩]
def mX:=mR A5K aS A50 n [a0,a1,a2] h
def kW:=mJ aS A50 0 n [] [] h
def A5w:=aS.K Tryz.func80
def mB:=aS.Q
def nD:OfT A5K mB:=A5w.of
def P8:FD A8:=⟨px 0X122c848862be4881b81c21111100006321aff3d051ec0221822ba48860425329c2182ae4881ac1c4181abf11aaf2262d1f1b11e2801c1aa2c1a9f19c0062430218128e504028a19d2b1b3f42017622a5054051c3d50020450540503d711a196222401b2c1901831e81a01e81e101e81f11cc1e81f11e84e01e81e001e81f11bc1e81f3f1e870101b1a1901cc4e1aa31cc3c031cc3c119c1cc1f0101b1a190431b81a2f1b8701b81e01881b81f0103f785a03928d42772359f158f2462f1d1b1282801e582c4ff4900181a3330400516857c491874a01c3d3b18248f2362c1c1b031841831d44c4215011a070241913401217d4200605110290123042135e1041800503d72d0197b796f1a7513c200001332cf12bf248861c191b1628042b2c2af2902b102a5c72b421c181b1852e2291b7502c2,[.c .ns],[.eqA A5 ([.i .i64,.s,.i .i64]) (.t 52) (.t 53),.look A7 (.c o0) A6 (.t 57) (.t 60)],[.cellN 8 256],[cal C3x,D7 D8 E7,cal A7Y,D7 lZ vL,cal C3y,D7 A5U B10]⟩
def A1o:=P8.R
def dB:AtH:=P8.lj 0 n [m] [x0,x2,x3,x5,x8,x9,x27,x28,x29]
def B1K:AtH:=P8.lj 1 n [m] [x0,x2,x3,x5,x8,x9,x27,x28,x29]
def nJ:=tT [⟨2,9,dB⟩,⟨2,9,B1K⟩]
def A7S:=mR A1o P8 nJ n [a0,a1,a2,a3] h
def fN:=mL P8 nJ 0 n [m] [x0,x2,x3,x5,x8,x9,x27,x28,x29] h
def U6:=mJ P8 nJ 1 n [m] [x0,x2,x3,x5,x8,x9,x27,x28,x29] h
def A1g:=P8.K Tryz.func83
def nB:=P8.Q
def A71:OfT A1o nB:=A1g.of
def N0:FD A8:=⟨px 0X1ebf1cf05380221801c1e31830461841a33a8138a16f4918712fc171db018181daf1e00441811d33d42350327024613401213a9420362511029011936f4918439f39d39b1c2041a31832de488180410162d44f571be0631221bdf11bcf248861c1b1b11828061bc2c1bbf1b9001736f491ba1c182f4444413721b8f19a053c02218026f0412b850402ac52ae161824061836304129c51f1719e052cd4219df226291a1b021841821d42d4215021a070241813401212af420160511029042536f4918718e052ad2ab2a9328211318df1801382294226f496042436f4918714412012410220410162d44f5428b4203021b6461b1d24f1b181f10410540503d71701943230422a10162d44f50182330410162d45f571181824306191021af1a7f1af701190220405f582b71bd418243201a4ff1104ef24961f065a12e2802c4e2c4df3c001230182130410162d4785041800503d73d01d11b1f1d1833bf21b63b51b042036a1041800503d72e0181b422df21b63b41b013511191033b3b0384c1041b0503d71f01919301c2,[],[.look (A4 .i64) (.c o0) A6 (.t 18) (.t 19),.mkMap,.mput A7 (.t 83) (.t 85) (.t 87)],[],[D7 F8 K1,D7 D8 E7,cal C4W,fU W7 dW,fU dX A1f,D7 iX A3F,fU mB A5w,cal C4X,fU mA vM,cal sY,fU nB A1g]⟩
def A7T:=N0.R
def mH:AtH:=N0.lj 0 n [] [x0,x1,x4,x6]
def mK:AtH:=N0.lj 1 n [m] [x0,x1,x4,x6,x8,x72,x73,x74]
def B8P:AtH:=N0.lj 2 n [m] [x0,x1,x4,x6,x8,x72,x73,x74]
def A6c:AtH:=N0.lj 3 n [m] [x0,x6,x8,E4K,E4L,E4M]
def gG:=tT [⟨1,4,mH⟩,⟨2,8,mK⟩,⟨2,8,B8P⟩,⟨2,6,A6c⟩]
def B44:=mR A7T N0 gG n [a0,a1] h
def B3o:=mJ N0 gG 0 n [] [x0,x1,x4,x6] h
def nW:=mL N0 gG 1 n [m] [x0,x1,x4,x6,x8,x72,x73,x74] h
def A1D:=mJ N0 gG 2 n [m] [x0,x1,x4,x6,x8,x72,x73,x74] h
def A1E:=mL N0 gG 3 n [m] [x0,x6,x8,E4K,E4L,E4M] h
def A7L:=N0.K Tryz.func38
def pE:=N0.Q
def B5a:OfT A7T pE:=A7L.of
def W6:FD A8:=⟨px 0X122f66061840503d3f1ef051111113321eef1ba0578022180422a1051e281b1d33383aa1041a0503d3f139810410540503d3f11c01924502204005041b1d2ec10410540503d3f1be01a39f421bdf1900441811d32b4255041a47024513401212ef4203645110290400540503d3f1ac072ed2eb2e91c222201337cf6050026f7b0318042437f13f1318042337f13f131824301c1950229f1a0029f188042229f2f7f29f71f429f3c0150327f18d0192bb4218cf70040411d6f10400540503d3f7d0191f42354121a2702401e120290400540503d3f16f6b0181ed42030162516011d3182222202336af4f052e022181b22a0411d5f10420540503d3f5b018185af500441811d31b42150307024613401211a94200605110290113031801f5519f19d19b1c2034266405383d30121a112c1033e3b001427c0400506e5001b3b17c50020410505c5510111107f4c2d01c319032cf3003a2380116f0380383c4181873182012386603e3b210222410320103031802a1a2b43b42033e4c03a253182,[],[.mkMap,.mput (A4 .i64) (.t 17) (.v (.c (cI 1))) (.v (.c (cI 1))),.build ([o0,o0,.i .u64 0,.nf,.ns,.ns,.ns,.ns,.ns,o0,.nm,.nm]) [(0,4,(.t 15)),(10,1,(.t 16)),(11,1,(.t 18))],.look (A4 .i64) (.c o0) A6 (.t 113) (.t 114)],[.cellN 2 6],[D7 fJ jZ,D7 A4k A9k,D7 F8 K1,fU lY A5v,fU pE A7L]⟩
def B6r:=W6.R
def C2z:AtH:=W6.lj 0 n [m] [x1,x2,x3,x37,x38,x39]
def uI:AtH:=W6.lj 1 n [m] [x1,x2,x3,x6]
def D1Z:AtH:=W6.lj 2 n [m] [x1,x2,x3,x6]
def B3m:AtH:=W6.lj 3 n [m] [x2,x3,x88,x89,x90]
def D10:AtH:=W6.lj 4 n [m] [x2,x3,x88,x89,x90]
def A0o:=tT [⟨2,6,C2z⟩,⟨2,4,uI⟩,⟨2,4,D1Z⟩,⟨2,5,B3m⟩,⟨2,5,D10⟩]
def C7F:=mR B6r W6 A0o n [a0] h
def B3k:=mL W6 A0o 0 n [m] [x1,x2,x3,x37,x38,x39] h
def B3l:=mL W6 A0o 1 n [m] [x1,x2,x3,x6] h
def A4D:=mJ W6 A0o 2 n [m] [x1,x2,x3,x6] h
def B3n:=mL W6 A0o 3 n [m] [x2,x3,x88,x89,x90] h
def B3j:=mJ W6 A0o 4 n [m] [x2,x3,x88,x89,x90] h
def B6p:=W6.K Tryz.func10
def A4g:=W6.S
def C3z:C8F B6r A4g:=B6p.tidy
def sI:FD A8:=⟨px 0X24886464881d2e48818712e451824301a190611f1a01f4b1e1f1e71f701104271183942642e119501c2,[],[],[],[]⟩
def B0Y:=sI.R
def sS:=mR B0Y sI (tT []) n [a0,a1,a2] h
def B0T:=sI.K Tryz.func29
def sN:=sI.Q
def sW:OfT B0Y sN:=B0T.of
def E5:FD A8:=⟨px 0X128cf405f4219052062185f01533c810436f1ff0511111114321fef1ec052c01fe4921801fdf2900613901011113e3aa13aa15182439c1f9013eb4521f8f11eef2a00461a11d4154f4d18275061a67024613401213db4205665110290423f1e92b43d93cf3cd1c20131294814b333333305721e8f19f0518a022180004248862c2e4881d12e2802c1dd2c1dcf1cb00463332fc1b182ee1048818044881d2ea15f42de15f1cc591d01b24301a190612fb1a02fb4b5f2fb1e2c82fb7012b81bc0738d7521bbf11baf11b9f1e021e2811c2801a1b92c1b8f1ac0042232ae1031802f1ad2b1b493f3d41d21abf1df1b61a9f1c03b1d1b01b1861a1b1d4163b3918255041a47024713401212c94203645110290413f19c2b42bf2bd2bb5282333013318ff1b050021ee18e031804265f01c3b1fc16f198041835713270240181204021ea11ea11dc1890529b420302625188f1b01de188022f021c244237ff17ef19011a280187e2c7df7a00113031802f7b2b187a7c44444431b279f4f054c02218001c21e5f048818044881d7f10443f51ac16f1181824018120290443f57f5c051c9425bf159f700461a11d415291f18215011a07024713401211a94200605110290433f4c2b419f19d19b1c2034bf607c13d4b18921d424af22a251b01037e4491c41b2401d2014884481780000722401b28190183681a0681e00681f06c681f0684b0681e25c681f0110220290404a2c2b1d18942034884a43a422e375182,[],[],[.tmp 4],[D7 wU A5B,D7 pH vP,D7 A29 A9l,D7 wS A9o,D7 sX A3H,D7 pD A24,fU sN B0T]⟩
def iW:=E5.R
def vD:K6:=E5.E
def gK:AtH:=E5.lj 0 n [m] [x2,x3,x5,x6,x37,x38,x39]
def A8v:AtH:=E5.lj 1 n [m] [x2,x3,x5,x6,x37,x38,x39]
def gL:AtH:=E5.lj 2 n [m] [x2,x3,x5,x6,x9,x10,x11]
def gM:AtH:=E5.lj 3 n [m] [x2,x3,x5,x6,x77,x78,x79]
def A8w:AtH:=E5.lj 4 n [m] [x2,x3,x5,x6,x77,x78,x79]
def uH:AtH:=E5.lj 5 n [m] [x5,x6,x17,E2s,E2t,E2u]
def A8x:AtH:=E5.lj 6 n [m] [x5,x6,x17,E2s,E2t,E2u]
def N4:TT:=⟨vD,[⟨2,7,gK⟩,⟨2,7,A8v⟩,⟨2,7,gL⟩,⟨2,7,gM⟩,⟨2,7,A8w⟩,⟨2,6,uH⟩,⟨2,6,A8x⟩]⟩
def A5c:=mR iW E5 N4 n [a0,a1] h
def nU:=mL E5 N4 0 n [m] [x2,x3,x5,x6,x37,x38,x39] h
def A4C:=mJ E5 N4 1 n [m] [x2,x3,x5,x6,x37,x38,x39] h
def nV:=mL E5 N4 2 n [m] [x2,x3,x5,x6,x9,x10,x11] h
def cO:=mL E5 N4 3 n [m] [x2,x3,x5,x6,x77,x78,x79] h
def nS:=mJ E5 N4 4 n [m] [x2,x3,x5,x6,x77,x78,x79] h
def cP:=mL E5 N4 5 n [m] [x5,x6,x17,E2s,E2t,E2u] h
def nT:=mJ E5 N4 6 n [m] [x5,x6,x17,E2s,E2t,E2u] h
def iT:=E5.K Tryz.func9
def T7:=E5.S
def A4f:A3T iW T7:=iT.out
def oV:FD A8:=⟨px 0X134010229f1a051e02949218011b40138000002722404223c1281e03491521df600441811d31a42150307024413401212f4200605110290401a72b42d2b2962820023340422e253182,[],[],[.tmp 4],[]⟩
def A9v:=oV.R
def B5Y:AtH:=oV.lj 0 n [m] [x1,x8,x9,x10]
def B8B:=tT [⟨2,4,B5Y⟩]
def C3f:=mR A9v oV B8B n [a0,a1] h
def A8y:=mL oV B8B 0 n [m] [x1,x8,x9,x10] h
def B7L:=oV.K Tryz.func25
def A9S:=oV.S
def B8g:G0 A9v A9S:=B7L.flat
end
def cR(D:Dev)(n:Int)(c:Cl)(no:Int):Bool:=G5 (l_ D) n no && !(c.taken.getD no.toNat A5)
def K3(D:Dev)(n:Int)(c:Cl)(no:Int):Int:=bif cR D n c no then no else 0
def J7(D:Dev)(n:Int)(c:Cl)(no:Int):Cl:=bif cR D n c no then { c with taken:=c.taken.set no.toNat A5 } else c
def D2E{b i:Int}(h:G5 b n i=A5):0<=i/\i<b:=by
 unfold G5 at h;simp only [E53,decide_eq_true_eq] at h;have:=oA (b:=b) (n:=n);omega
section
variable {D:Dev} {n m:Int} {f:Cell} {g:A9} {r:Nat} {c:Cl} {h:A9}
def WP.take(P:WP D n m f g r c h){k:Nat}{v:Bool}{xr xi xt xb xm:Cell}{ml mp:Nat}(h1:rd h r=rT (wkC D n m f xr xi xt xb xm c.lost ml mp))(h0:(l_ D)≠0) :
  ∃ t,xt=.sl t 0 (l_ D) 1/\rd h t=rT (gJ c.taken)/\WP D n m f g r { c with taken:=c.taken.set k v } (h.set t (rT (gJ (c.taken.set k v))))/\Fr r h (h.set t (rT (gJ (c.taken.set k v)))):=by
 obtain ⟨xr',xi',xt',xb',xm',ml',mp',es1,es2,g1,g2,g3,g4,g5,g6,g7,g8,g9,g10,g11⟩:=P.row;have:=h1.symm.trans g1;simp only [E57,Row.mk.injEq,and_true,wkC,List.cons.injEq,true_and,Cell.m.injEq] at this;obtain ⟨rfl,rfl,rfl,rfl,rfl,rfl,rfl⟩:=this;rcases g5 with ⟨e,_,_⟩ | ⟨t,rfl,t1,t2,t3⟩
 ·rw [P.tlen] at e;exact absurd e h0
 ·rw [P.tlen] at t2 ⊢;have nt:Nam h r t:=B7n (i:=6) g1 rfl rfl;have tg:=P.low t nt;have hr':rd (h.set t (rT (gJ (c.taken.set k v)))) r=rd h r:=B8 t3;have oth:∀ (i:Nat) (x:Cell) (id:Nat),(wkC D n m f xr xi (.sl t 0 c.taken.length 1) xb xm c.lost ml mp)[i]?=A4 x->nmC x=A4 id->i≠6->rd (h.set t (rT (gJ (c.taken.set k v)))) id=rd h id:=by
   intro i x id hi hx aR;exact B8 (λe=>(g2.ne hi (show (wkC D n m f xr xi (.sl t 0 c.taken.length 1) xb xm c.lost ml mp)[6]?=A4 (.sl t 0 c.taken.length 1) from rfl) hx rfl aR) e.symm)
  refine ⟨t,rfl,t1,⟨P.lo.set tg _,P.ge,λid hn=>P.low id ((Nam.same hr').1 hn),P.il,P.ilen,by simpa using P.tlen,xr,xi,.sl t 0 c.taken.length 1,xb,xm,ml,mp,es1,es2,by rw [hr'];exact g1,g2,g3.kept λid e=>oth 4 _ _ rfl e (by decide),g4.kept λid e=>oth 5 _ _ rfl e (by decide),.inr ⟨t,by simp,D6 (E1 t1),by simp [gJ],t3⟩,g6.kept λid e=>oth 7 _ _ rfl e (by decide),g7.kept λid e=>oth 8 _ _ rfl e (by decide),?_,g9,?_,g11⟩,by simp,λid hid h1 h2=>B8 λe=>h2 (by rw [<-e];exact nt),λid hn=>.inl ((Nam.same hr').1 hn)⟩
  ·rw [oth 10 (.m ml) ml rfl rfl (by decide)];exact g8
  ·rw [oth 11 (.m mp) mp rfl rfl (by decide)];exact g10
def B9i(P:WP D n m f g r c h):∃ h',W7 [pV r 0,iV no] h=A4 (iV (K3 D n c no),h')/\WP D n m f g r (J7 D n c no) h'/\Fr r h h':=by
 obtain ⟨xr,xi,xt,xb,xm,ml,mp,es1,es2,g1,g2,g3,g4,g5,g6,g7,g8,g9,g10,g11⟩:=id P.row;have lL:D1 h 3 (pV r 0)=A4 (.a (K9 (l_ D) n m)):=T1 g1 (by simp [wkC]) rfl;have lT:B9 h (pV r 6)=A4 (.c xt):=C4 g1 rfl rfl;have hD:=X3 (b:=l_ D) (n:=n) (m:=m) (i:=no) (h:=h);unfold K3 J7 cR;cases hd:G5 (l_ D) n no with
 | false =>
  rw [hd] at hD;refine ⟨h,nC (n:=0) ?_,P,Fr.refl r h⟩;rw [mW];simp only [esc,Nat.reduceAdd,lL,hD,E6p]
 | true =>
  rw [hd] at hD;obtain ⟨i0,i1⟩:=D2E hd;obtain ⟨k,rfl⟩:=E61 i0;have hk:k<(l_ D):=by omega
  obtain ⟨t,rfl,t1,t2,t3⟩:=P.take (k:=k) (v:=A5) g1 (by omega);have hkt:k<c.taken.length:=by rw [P.tlen];exact hk
  have ad:=E3 (sz:=1) (id:=t) (off:=0) (k:=.i64) hk;have l1:B9 h (pV t (0+k*1))=A4 (bV c.taken[k]):=C4 t1 (by simp [gJ,hkt]) rfl;have s1:I8 h (pV t (0+k*1)) (bV A5)=A4 (h.set t (rT (gJ (c.taken.set k A5)))):=by
   rw [I9 t1 (by simp [gJ,hkt])];simp [gJ,List.map_set]
  rw [E6j,E69] at ad l1 s1;have eg:c.taken.getD (Int.toNat (k:Int)) A5=c.taken[k]:=by simp [List.getD,hkt]
  rw [eg,E6q];cases hb:c.taken[k] with
  | true =>
   rw [hb] at l1;refine ⟨h,nC (n:=0) ?_,P,Fr.refl r h⟩;rw [mW];simp only [esc,Nat.reduceAdd,lL,lT,ad,l1,hD,Bool.and_false]
  | false =>
   rw [hb] at l1;refine ⟨_,nC (n:=0) ?_,t2,t3⟩;rw [mW];simp only [esc,Nat.reduceAdd,lL,lT,ad,l1,s1,hD]
end
section
variable {D:Dev} {n m:Int} {f:Cell} {g:A9} {r:Nat} {c:Cl} {h:A9}
def WP.apt(P:WP D n m f g r c h)(g1:rd h r=rT cs):Apt cs r:=by
 obtain ⟨xr,xi,xt,xb,xm,ml,mp,es1,es2,h1,h2,_⟩:=P.row;rw [h1] at g1;cases g1;exact h2
def WP.pushed{h3:A9}(hv:∃ id cs,f=.f id cs)(P:WP D n m f g r c h)(g1:rd h r=rT cs)(hx:cs[off]?=A4 x)(r3:rd h3 r=rT (cs.set off y))
  (hid:∀ id,nmC y=A4 id->l_ h<=id) (hk:∀ j,j<l_ h->j≠r->nmC x≠A4 j->rd h3 j=rd h j) (hl:l_ h<=h3.length) :
  Fr r h h3/\Low (l_ g) g h3/\Apt (cs.set off y) r/\(∀ id,Nam h3 r id->l_ g<=id)/\∀ (i:Nat) (z:Cell) (j:Nat),i≠off->cs[i]?=A4 z->nmC z=A4 j->rd h3 j=rd h j:=by
 have ha:=P.apt g1;have lt:∀ (i:Nat) (z:Cell) (j:Nat),cs[i]?=A4 z->nmC z=A4 j->j<(l_ h):=λi z j hi hz=>C1C hv P (B7n g1 hi hz)
 have nam3:∀ id,Nam h3 r id->Nam h r id\/(l_ h)<=id:=by
  intro id hn;obtain ⟨R,z,hR,hz,hnm⟩:=hn;rw [r3] at hR;cases hR;rcases List.mem_or_eq_of_mem_set hz with h1 | h1
  ·exact .inl ⟨_,z,g1,h1,hnm⟩
  ·subst h1;exact .inr (hid id hnm)
 have lg:=P.lo.2.1;refine ⟨⟨hl,λid hid hr hn=>hk id hid hr λe=>hn (B7n g1 hx e),nam3⟩,⟨P.lo.1,by omega,λid hid=>?_⟩,ha.set off λid e=>?_,λid hn=>?_,λi z j hi hz hj=>?_⟩
 ·rw [hk id (by omega) (by have:=P.ge;omega) λe=>?_]
  ·exact P.lo.2.2 id hid
  ·have:=P.low id (B7n g1 hx e);omega
 ·have h1:=hid id e;exact ⟨by have:=P.rlt;omega,λj z _ hz hj=>by have:=lt j z id hz hj;omega⟩
 ·rcases nam3 id hn with h1 | h1
  ·exact P.low id h1
  ·omega
 ·exact hk j (lt i z j hz hj) (λe=>ha.2 z (E6n hz) (by rw [hj,e])) λe=>ha.ne hz hx hj e hi rfl
def WP.mod{t:Nat}(P:WP D n m f g r c h)(hv:∃ id cs,f=.f id cs)(g1:rd h r=rT cs)(hx:cs[off]?=A4 x)(hn:nmC x=A4 t)(R:Option Row) :
  Fr r h (h.set t R)/\Low (l_ g) g (h.set t R)/\rd (h.set t R) r=rd h r/\(∀ (i:Nat) (z:Cell) (j:Nat),i≠off->cs[i]?=A4 z->nmC z=A4 j->rd (h.set t R) j=rd h j)/\rd (h.set t R) t=R:=by
 have nt:=B7n g1 hx hn;have tne:t≠r:=λe=>(P.apt g1).2 x (E6n hx) (by rw [hn,e])
 have hr':rd (h.set t R) r=rd h r:=B8 tne;exact ⟨⟨by simp,λid hid h1 h2=>B8 λe=>h2 (by rw [<-e];exact nt),λid hn=>.inl ((Nam.same hr').1 hn)⟩,P.lo.set (P.low t nt) _,hr',λi z j hi hz hj=>B8 λe=>(P.apt g1).ne hx hz hn hj (Ne.symm hi) e,D6 (C1C hv P nt)⟩
def WP.push(hv:∃ id cs,f=.f id cs)(P:WP D n m f g r c h){nn:Nat}{l ys:List Cell}(g1:rd h r=rT cs)(hx:cs[off]?=A4 x)(hd:HeldX h x l nn sz r)(hl:nn<=100000)(hy:l_ ys=sz)(hsz:0<sz) :
  ∃ id h2 h3,B9 h (pV r off)=A4 (.c x)/\tJ (h++[rT ys]) sz (.c x) (sV (l_ h) 0 1 sz)=A4 (sV id 0 (nn+1) sz,h2)/\I8 h2 (pV r off) (sV id 0 (nn+1) sz)=A4 h3 /\
   rd h3 r=rT (cs.set off (.sl id 0 (nn+1) sz))/\HeldX h3 (.sl id 0 (nn+1) sz) (l++ys) (nn+1) sz r /\
   Fr r h h3/\Low (l_ g) g h3/\Apt (cs.set off (.sl id 0 (nn+1) sz)) r/\(∀ id,Nam h3 r id->l_ g<=id)/\∀ (i:Nat) (z:Cell) (j:Nat),i≠off->cs[i]?=A4 z->nmC z=A4 j->rd h3 j=rd h j:=by
 obtain ⟨id,h2,h3,p1,p2,p3,p4,p5,p6,p7,p8,p9⟩:=D9v g1 hx hd hl hy hsz;obtain ⟨q1,q2,q3,q4,q5⟩:=P.pushed (h3:=h3) (y:=.sl id 0 (nn+1) sz) hv g1 hx p4 (λj e=>by cases e;omega) (λj hj hr hn=>p8 j hj hr λmm e=>hn (by rw [e];rfl)) (by omega);exact ⟨id,h2,h3,p1,p2,p3,p4,.inr ⟨id,rfl,p6,p7,by have:=P.rlt;omega⟩,q1,q2,q3,q4,q5⟩
def WP.pushRow(hv:∃ id cs,f=.f id cs)(P:WP D n m f g r c h)(a:Int)(hl:c.row.length<=100000) :
  ∃ x id h2 h3,B9 h (pV r 4)=A4 (.c x)/\tJ (h++[rT [cI a]]) 1 (.c x) (sV (l_ h) 0 1 1)=A4 (sV id 0 (c.row.length+1) 1,h2)/\I8 h2 (pV r 4) (sV id 0 (c.row.length+1) 1)=A4 h3 /\
   WP D n m f g r { c with row:=c.row++[a] } h3/\Fr r h h3:=by
 obtain ⟨xr,xi,xt,xb,xm,ml,mp,es1,es2,g1,g2,g3,g4,g5,g6,g7,g8,g9,g10,g11⟩:=id P.row;obtain ⟨id,h2,h3,p1,p2,p3,p4,p5,q1,q2,q3,q4,q5⟩:=P.push (off:=4) (ys:=[cI a]) hv g1 rfl g3 hl rfl (by decide);refine ⟨xr,id,h2,h3,p1,p2,p3,⟨q2,P.ge,q4,P.il,P.ilen,P.tlen,_,xi,xt,xb,xm,ml,mp,es1,es2,p4,q3,?_,g4.kept λid e=>q5 5 _ _ (by decide) rfl e,g5.kept λid e=>q5 6 _ _ (by decide) rfl e,g6.kept λid e=>q5 7 _ _ (by decide) rfl e,g7.kept λid e=>q5 8 _ _ (by decide) rfl e,?_,g9,?_,g11⟩,q1⟩
 ·have e1:encI (c.row++[a])=encI c.row++[cI a]:=iN _ _;rw [e1,E58];exact p5
 ·rw [q5 10 (.m ml) ml (by decide) rfl rfl];exact g8
 ·rw [q5 11 (.m mp) mp (by decide) rfl rfl];exact g10
def WP.pushBlk(hv:∃ id cs,f=.f id cs)(P:WP D n m f g r c h)(a:Int)(hl:c.blocks.length<=100000) :
  ∃ x id h2 h3,B9 h (pV r 7)=A4 (.c x)/\tJ (h++[rT [cI a]]) 1 (.c x) (sV (l_ h) 0 1 1)=A4 (sV id 0 (c.blocks.length+1) 1,h2)/\I8 h2 (pV r 7) (sV id 0 (c.blocks.length+1) 1)=A4 h3 /\
   WP D n m f g r { c with blocks:=c.blocks++[a] } h3/\Fr r h h3:=by
 obtain ⟨xr,xi,xt,xb,xm,ml,mp,es1,es2,g1,g2,g3,g4,g5,g6,g7,g8,g9,g10,g11⟩:=id P.row;obtain ⟨id,h2,h3,p1,p2,p3,p4,p5,q1,q2,q3,q4,q5⟩:=P.push (off:=7) (ys:=[cI a]) hv g1 rfl g6 hl rfl (by decide);refine ⟨xb,id,h2,h3,p1,p2,p3,⟨q2,P.ge,q4,P.il,P.ilen,P.tlen,xr,xi,xt,_,xm,ml,mp,es1,es2,p4,q3,g3.kept λid e=>q5 4 _ _ (by decide) rfl e,g4.kept λid e=>q5 5 _ _ (by decide) rfl e,g5.kept λid e=>q5 6 _ _ (by decide) rfl e,?_,g7.kept λid e=>q5 8 _ _ (by decide) rfl e,?_,g9,?_,g11⟩,q1⟩
 ·have e1:encI (c.blocks++[a])=encI c.blocks++[cI a]:=iN _ _;rw [e1,E58];exact p5
 ·rw [q5 10 (.m ml) ml (by decide) rfl rfl];exact g8
 ·rw [q5 11 (.m mp) mp (by decide) rfl rfl];exact g10
def WP.pushMade(hv:∃ id cs,f=.f id cs)(P:WP D n m f g r c h)(hb:l_ b=256)(hl:c.made.length<=100000) :
  ∃ x id h2 h3,B9 h (pV r 8)=A4 (.c x)/\tJ (h++[rT (B5 b)]) 256 (.c x) (sV (l_ h) 0 1 256)=A4 (sV id 0 (c.made.length+1) 256,h2)/\I8 h2 (pV r 8) (sV id 0 (c.made.length+1) 256)=A4 h3 /\
   WP D n m f g r { c with made:=c.made++[b] } h3/\Fr r h h3:=by
 obtain ⟨xr,xi,xt,xb,xm,ml,mp,es1,es2,g1,g2,g3,g4,g5,g6,g7,g8,g9,g10,g11⟩:=id P.row;obtain ⟨id,h2,h3,p1,p2,p3,p4,p5,q1,q2,q3,q4,q5⟩:=P.push (off:=8) (ys:=B5 b) hv g1 rfl g7 hl (by rw [B6,hb]) (by decide);refine ⟨xm,id,h2,h3,p1,p2,p3,⟨q2,P.ge,q4,P.il,P.ilen,P.tlen,xr,xi,xt,xb,_,ml,mp,es1,es2,p4,q3,g3.kept λid e=>q5 4 _ _ (by decide) rfl e,g4.kept λid e=>q5 5 _ _ (by decide) rfl e,g5.kept λid e=>q5 6 _ _ (by decide) rfl e,g6.kept λid e=>q5 7 _ _ (by decide) rfl e,?_,?_,g9,?_,g11⟩,q1⟩
 ·have e1:E8 (c.made++[b])=E8 c.made++B5 b:=by simp [E8]
  rw [e1,E58];exact p5
 ·rw [q5 10 (.m ml) ml (by decide) rfl rfl];exact g8
 ·rw [q5 11 (.m mp) mp (by decide) rfl rfl];exact g10
def dG(c:Cl)(no:Int)(b:List UInt8):Cl:={ c with blocks:=c.blocks++[no],made:=c.made++[b] }
def D0N(hv:∃ id cs,f=.f id cs)(P:WP D n m f g r c h)(hb:l_ b=256)(h1:c.blocks.length<=100000)(h2:c.made.length<=100000) :
  ∃ h',mA [pV r 0,iV no,.a (B5 b)] h=A4 (.t [],h')/\WP D n m f g r (dG c no b) h'/\Fr r h h':=by
 have hbl:(B5 b).length=256:=by rw [B6,hb]
 have P1:=P.more hv [rT (B5 b)];have F1:Fr r h (h++[rT (B5 b)]):=Fr.low ((Low.refl (E56 _)).new _) P.rlt;obtain ⟨G,hG⟩:=xEq (h++[rT (B5 b)]);have hl0:Loc G r (l_ h):=by
  rw [hG];refine ⟨by simp,by have:=P.rlt;omega,λhn=>?_⟩;have:=C1C hv P ((Nam.same (D3 P.rlt)).1 hn);omega
 have hr0:rd G (l_ h)=rT (B5 b):=by rw [hG];exact N6
 rw [<-hG] at P1 F1;obtain ⟨x,id,g2,g3,a1,a2,a3,a4,a5⟩:=P1.pushBlk hv no h1;obtain ⟨l1,l2⟩:=a5.loc hl0;rw [hr0] at l2;have lB:D1 g3 256 (pV (l_ h) 0)=A4 (.a (B5 b)):=C7 l2 hbl;obtain ⟨x',dM,g4,g5,b1,b2,b3,b4,b5⟩:=a4.pushMade hv hb h2;refine ⟨g5,B2H (n:=0) ?_,b4,F1.trans (a5.trans b5)⟩;rw [B19];have ef:F5 (E55 256 (Cell.i .u8 0)) [(0,256,.a (B5 b))]=A4 (B5 b):=C8H hb;have ef0:F5 [o0] [(0,1,iV no)]=A4 [cI no]:=rfl;have es:(g3++[A7]).set g3.length (rT (B5 b))=g3++[rT (B5 b)]:=by simp
 rw [hG] at a1 a2;simp only [E6d,E6Y,E6s,E58,E6g,E6E,E6j] at a2;generalize B5 b=B at *;generalize E55 256 (Cell.i .u8 0)=Z at *;simp only [esc,Nat.reduceAdd,ef0,a1,a2,a3,lB,ef,b1,b2,b3];rfl
end
def Q7(D:Dev)(n:Int)(c:Cl)(ino:Int):Bool:=!(decide (ino=1)||decide (kdV D n ino=0)||decide (kdV D n ino=2)&&(c.par ino).isSome)
def A1V(c:Cl)(ino:Int):Cl:={ c with lnk:=A0J c.lnk ino ((c.lnk ino).getD 0+1) }
def C3Y(c:Cl)(dir ino:Int):Cl:={ c with par:=A0J c.par ino dir,row:=c.row++[ino] }
def T4(D:Dev)(n:Int)(c:Cl)(dir ino:Int):Cl:=bif Q7 D n c ino then (bif (c.par ino).isSome then A1V c ino else C3Y (A1V c ino) dir ino) else c
section
variable {D:Dev} {n m:Int} {f:Cell} {g:A9} {r:Nat} {c:Cl} {h:A9}
def WP.setLnk(hv:∃ id cs,f=.f id cs)(P:WP D n m f g r c h)(a v:Int):∃ ml h',B9 h (.c (.p r 10))=A4 (.c (.m ml))/\(∀ ok i,xJ h (A4 .i64) (.c o0) ok (.c (.m ml)) (.c (cI i))=A4 (vB ok (.c (cI ((c.lnk i).getD 0))) (c.lnk i).isSome)) /\
  A2A h (A4 .i64) (.c (.m ml)) (.c (cI a)) (.c (cI v))=A4 h'/\WP D n m f g r { c with lnk:=A0J c.lnk a v } h'/\Fr r h h':=by
 obtain ⟨xr,xi,xt,xb,xm,ml,mp,es1,es2,g1,g2,g3,g4,g5,g6,g7,g8,g9,g10,g11⟩:=id P.row;have l1:B9 h (.c (.p r 10))=A4 (.c (.m ml)):=C4 g1 rfl rfl;obtain ⟨q1,q2,q3,q4,q5⟩:=P.mod (off:=10) (x:=.m ml) hv g1 rfl rfl (A4 (P6 (A82 (cI a) (.c (cI v)) es1)));refine ⟨ml,_,l1,λok i=>E2J g8 g9,E3O g8 g9,⟨q2,P.ge,λid hn=>P.low id ((Nam.same q3).1 hn),P.il,P.ilen,P.tlen,xr,xi,xt,xb,xm,ml,mp,_,es2,by rw [q3];exact g1,g2,g3.kept λid e=>q4 4 _ _ (by decide) rfl e,g4.kept λid e=>q4 5 _ _ (by decide) rfl e,g5.kept λid e=>q4 6 _ _ (by decide) rfl e,g6.kept λid e=>q4 7 _ _ (by decide) rfl e,g7.kept λid e=>q4 8 _ _ (by decide) rfl e,q5,g9.put a v,?_,g11⟩,q1⟩;rw [q4 11 (.m mp) mp (by decide) rfl rfl];exact g10
def WP.setPar(hv:∃ id cs,f=.f id cs)(P:WP D n m f g r c h)(a v:Int):∃ mp h',B9 h (.c (.p r 11))=A4 (.c (.m mp))/\(∀ ok i,xJ h (A4 .i64) (.c o0) ok (.c (.m mp)) (.c (cI i))=A4 (vB ok (.c (cI ((c.par i).getD 0))) (c.par i).isSome)) /\
  A2A h (A4 .i64) (.c (.m mp)) (.c (cI a)) (.c (cI v))=A4 h'/\WP D n m f g r { c with par:=A0J c.par a v } h'/\Fr r h h':=by
 obtain ⟨xr,xi,xt,xb,xm,ml,mp,es1,es2,g1,g2,g3,g4,g5,g6,g7,g8,g9,g10,g11⟩:=id P.row;have l1:B9 h (.c (.p r 11))=A4 (.c (.m mp)):=C4 g1 rfl rfl;obtain ⟨q1,q2,q3,q4,q5⟩:=P.mod (off:=11) (x:=.m mp) hv g1 rfl rfl (A4 (P6 (A82 (cI a) (.c (cI v)) es2)));refine ⟨mp,_,l1,λok i=>E2J g10 g11,E3O g10 g11,⟨q2,P.ge,λid hn=>P.low id ((Nam.same q3).1 hn),P.il,P.ilen,P.tlen,xr,xi,xt,xb,xm,ml,mp,es1,_,by rw [q3];exact g1,g2,g3.kept λid e=>q4 4 _ _ (by decide) rfl e,g4.kept λid e=>q4 5 _ _ (by decide) rfl e,g5.kept λid e=>q4 6 _ _ (by decide) rfl e,g6.kept λid e=>q4 7 _ _ (by decide) rfl e,g7.kept λid e=>q4 8 _ _ (by decide) rfl e,?_,g9,q5,g11.put a v⟩,q1⟩;rw [q4 10 (.m ml) ml (by decide) rfl rfl];exact g8
def WP.view(P:WP D n m f g r c h):D1 h 4 (pV r 0)=A4 (.a (vwC (l_ D) n m f)):=by
 obtain ⟨xr,xi,xt,xb,xm,ml,mp,es1,es2,g1,_⟩:=P.row;exact T1 g1 (by simp [wkC]) rfl
def E2q{dir ino:Int}(hD:okD D)(hv:IsView g f D)(P:WP D n m f g r c h)(hl:c.row.length<=100000)(hk:0<=(c.lnk ino).getD 0/\(c.lnk ino).getD 0<1000000) :
  ∃ h',mB [pV r 0,iV dir,iV ino] h=A4 (bV (Q7 D n c ino),h')/\WP D n m f g r (T4 D n c dir ino) h'/\Fr r h h':=by
 have hv2:=hv.get;have lV:=P.view;have hI:=V1 (n:=n) (m:=m) (i:=ino) hD (hv.since P.lo);rw [pN] at hI;have f0:∀ k l s p d,B5S (.a (C8 k l s p d)) 0=A4 (iV k):=λ_ _ _ _ _=>rfl
 obtain ⟨mp,h9,b1,b2,b3,b4,b5⟩:=P.setPar hv2 ino dir;have b2':=b2 A5 ino;obtain ⟨ml,h1,a1,a2,a3,a4,a5⟩:=P.setLnk hv2 ino ((c.lnk ino).getD 0+1);have a2':=a2 A6 ino;have w1:E6a .i64 ((c.lnk ino).getD 0+1)=(c.lnk ino).getD 0+1:=wrap_i64 (by omega) (by omega);have no:Q7 D n c ino=A6->∃ h',mB [pV r 0,iV dir,iV ino] h=A4 (bV A6,h')/\WP D n m f g r c h'/\Fr r h h':=by
  intro hb;refine ⟨h,nD (n:=0) ?_,P,Fr.refl r h⟩;rw [mX];unfold Q7 at hb;simp only [Bool.not_eq_false',Bool.or_eq_true,E53,decide_eq_true_eq] at hb;by_cases c1:ino=1
  ·have n1:(1:Int)=1:=rfl;subst c1;generalize vwC (l_ D) n m f=V at *;simp only [esc,lV,hI,f0,b1,b2',vB]
  ·by_cases c2:kdV D n ino=0
   ·generalize vwC (l_ D) n m f=V at *;simp only [esc,lV,hI,f0,b1,b2',vB,c1,c2]
   ·have c3:kdV D n ino=2/\(c.par ino).isSome=A5:=by
     rcases hb with (h | h) | h
     ·exact absurd h c1
     ·exact absurd h c2
     ·exact h
    obtain ⟨c3,c4⟩:=c3;have n20:¬ (2:Int)=0:=by decide
    generalize vwC (l_ D) n m f=V at *;simp only [esc,lV,hI,f0,b1,b2',vB,c1,c3,c4,n20]
 cases hb:Q7 D n c ino with
 | false =>
  obtain ⟨h',e1,e2,e3⟩:=no hb;exact ⟨h',e1,by unfold T4;rw [hb];exact e2,e3⟩
 | true =>
  unfold T4;rw [hb];unfold Q7 at hb;simp only [E6M,Bool.or_eq_false_iff,Bool.and_eq_false_iff,decide_eq_false_iff_not] at hb;obtain ⟨⟨c1,c2⟩,c3⟩:=hb;have P1:WP D n m f g r (A1V c ino) h1:=a4;cases hs:(c.par ino).isSome with
  | true =>
   have c4:¬ kdV D n ino=2:=by
    rcases c3 with h | h
    ·exact h
    ·rw [hs] at h;cases h
   refine ⟨h1,nD (n:=0) ?_,P1,a5⟩;rw [mX];rw [hs] at b2';generalize vwC (l_ D) n m f=V at *;simp only [esc,lV,hI,f0,b1,b2',vB,c1,c2,c4,a1,a2',w1,a3,kW]
  | false =>
   obtain ⟨mp',h2,d1,d2,d3,d4,d5⟩:=P1.setPar hv2 ino dir;obtain ⟨x,id,g2,g3,e1,e2,e3,e4,e5⟩:=d4.pushRow hv2 ino hl;have e4':WP D n m f g r (C3Y (A1V c ino) dir ino) g3:=e4;refine ⟨g3,nD (n:=0) ?_,e4',(a5.trans d5).trans e5⟩;rw [mX];rw [hs] at b2';have ef0:F5 [o0] [(0,1,iV ino)]=A4 [cI ino]:=rfl;generalize vwC (l_ D) n m f=V at *;by_cases c4:kdV D n ino=2
   ·have n20:¬ (2:Int)=0:=by decide
    simp only [esc,lV,hI,f0,b1,b2',vB,c1,c4,n20,a1,a2',w1,a3,d1,d3,ef0,e1,e2,e3,kW]
   ·simp only [esc,lV,hI,f0,b1,b2',vB,c1,c2,c4,a1,a2',w1,a3,d1,d3,ef0,e1,e2,e3,kW]
end
def hmS(D:Dev)(X:List Int)(nm:List UInt8):Option Slt:=if R6 X nm=0 then A7 else T9 (blk D (R6 X nm)) nm
def C1S(no:Int)(o:Option Slt):List Cell:=cI no::slC o
def E1S{xr xi xt xb xm:Cell}{lost:Int}{ml mp:Nat}(hf:f.isX=A6)(h1:xr.isX=A6)(h2:xi.isX=A6)(h3:xt.isX=A6)(h4:xb.isX=A6)(h5:xm.isX=A6):noX (wkC D n m f xr xi xt xb xm lost ml mp)=A5:=by
 simp only [noX,wkC,E62,List.all_nil,hf,h1,h2,h3,h4,h5];rfl
def HeldX.isX{h:A9}{x:Cell}{cs:List Cell}{n sz r:Nat}(hx:HeldX h x cs n sz r):x.isX=A6:=by
 rcases hx with ⟨_,_,rfl⟩ | ⟨id,rfl,_⟩<;>rfl
section
variable {D:Dev} {n m:Int} {f:Cell} {g:A9} {r:Nat} {c:Cl} {h:A9}
def VwR(h:A9)(r:Nat)(V:List Cell):Prop:=∃ cs w,rd h r=A4 ⟨cs,w⟩/\cs.take 4=V/\4<=l_ cs/\noX cs=A5
def VwR.ro{V:List Cell}(a:VwR h r V):VwR (ro h) r V:=by
 obtain ⟨cs,w,h1,h2,h3,h4⟩:=a;exact ⟨cs,A6,sR h1 h4,h2,h3,h4⟩
def VwR.more(a:VwR h r V)(t:A9):VwR (h++t) r V:=by
 obtain ⟨cs,w,h1,h2⟩:=a;exact ⟨cs,w,B7 h1,h2⟩
def VwR.since(a:VwR h r V)(hl:Low (l_ h) h h'):VwR h' r V:=by
 obtain ⟨cs,w,h1,h2⟩:=a;exact ⟨cs,w,hl.rd h1,h2⟩
def VwR.load(a:VwR h r V):D1 h 4 (pV r 0)=A4 (.a V):=by
 obtain ⟨cs,w,h1,h2,h3,h4⟩:=a;rw [T1 h1 (by omega) (by
  rw [E6i];have:noX (cs.take 4)=A5:=by
   unfold noX at h4 ⊢;rw [E6X] at h4 ⊢;exact λx hx=>h4 x (List.mem_of_mem_take hx)
  rw [this];simp),E6i,h2]
def WP.vw(hv:∃ id cs,f=.f id cs)(P:WP D n m f g r c h):VwR h r (vwC (l_ D) n m f):=by
 obtain ⟨xr,xi,xt,xb,xm,ml,mp,es1,es2,g1,g2,g3,g4,g5,g6,g7,_⟩:=P.row;obtain ⟨_,_,rfl⟩:=hv;exact ⟨_,A5,g1,rfl,by simp [wkC],E1S rfl g3.isX g4.isX g5.isX g6.isX g7.isX⟩
def D53{d:Int}{nm:List UInt8}(hD:okD D)(hv:IsView h f D)(hr:VwR h r (vwC (l_ D) n m f))(ht:l_ t=32)(hs:nm.length<9223372036854775807) :
  lZ [pV r 0,.a (encI (d::t)),.c (.s nm)] h=A4 (.t [.a (C1S (R6 (d::t) nm) (hmS D (d::t) nm)),.c (.b (hmS D (d::t) nm).isSome)],h):=by
 have hX:(encI (d::t)).length=33:=by simp [C1,ht]
 have hv1:=hv.ro;have lV:=λtt=>(hr.ro.more tt).load
 have key:∃ g',vS 0 [pV r 0,.a (encI (d::t)),.c (.s nm)] (ro h)=A4 (.t [.a (C1S (R6 (d::t) nm) (hmS D (d::t) nm)),.c (.b (hmS D (d::t) nm).isSome)],g'):=by
  generalize ro h=g at *;have hM:=λh=>C1B (s:=nm) hs (h:=h)
  have hP:=λh=>B3J (d:=d) (h:=h) ht (D0S (s:=nm))
  have W5:=D2y (d::t) nm;have eP:C3W nm%C5 d=A1P (d::t) nm:=rfl;rw [eP] at hP;have ad:∀ q,K5 32 1 (pV q 1) (iV (A1P (d::t) nm:Nat))=A4 (pV q (1+A1P (d::t) nm)):=λq=>by
   rw [D8A (by omega) (by omega)];simp
  have l1:ld1 (rT (encI (d::t))) (1+A1P (d::t) nm)=A4 (iV (R6 (d::t) nm)):=by
   rw [yB];have:(encI (d::t))[1+A1P (d::t) nm]?=A4 (cI (R6 (d::t) nm)):=by
    rw [G6,Nat.add_comm,E6o,E51 (by omega)];unfold R6;rw [List.tail_cons,E54,E51 (by omega)];rfl
   rw [this];rfl
  have ef0:F5 [o0,o0,.s [],o0] []=A4 (C1S 0 A7):=rfl;have ef1:∀ (no:Int) (o:Option Slt),F5 [o0,o0,.s [],o0] [(0,1,iV no),(1,3,.a (slC o))]=A4 (C1S no o):=λno o=>by cases o<;>rfl
  have z4:∀ o no,stN (rT [o0,o0,.s [],o0]) 0 4 (C1S no o)=rT (C1S no o):=λo no=>by cases o<;>rfl
  have l4:∀ o no,ldN (rT (C1S no o)) 0 4=A4 (.a (C1S no o)):=λo no=>by cases o<;>rfl
  have s3:∀ o,stN (rT [o0,.s [],o0]) 0 3 (slC o)=rT (slC o):=λo=>by cases o<;>rfl
  have l3:∀ o,ldN (rT (slC o)) 0 3=A4 (.a (slC o)):=λo=>by cases o<;>rfl
  have l33:ldN (rT (encI (d::t))) 0 33=A4 (.a (encI (d::t))):=K8 hX;rw [B18];unfold hmS;have hB:=λtt=>M7 (n:=n) (m:=m) (no:=R6 (d::t) nm) (h:=g++tt) hD (hv1.more _)
  have hF:=λh=>xN (b:=blk D (R6 (d::t) nm)) (nm:=nm) (h:=h) (J9 hD)
  generalize R6 (d::t) nm=B at *;generalize A1P (d::t) nm=P at *;by_cases c0:B=0
  ·rw [if_pos c0,c0];rw [c0] at l1;generalize encI (d::t)=X at *;generalize vwC (l_ D) n m f=V at *;exact ⟨_,by simp only [esc,O7,G8,Y9,I7,S3,G9,K8,fD,hM,hP,ad,l1,l33,ef0,z4,l4,E6Z]<;>rfl⟩
  ·rw [if_neg c0];generalize T9 (blk D B) nm=o at *;generalize B5 (blk D B)=y at *;generalize encI (d::t)=X at *;generalize vwC (l_ D) n m f=V at *;exact ⟨_,by simp only [esc,O7,G8,Y9,I7,S3,G9,K8,fD,Nat.reduceAdd,hM,hP,ad,l1,l33,c0,lV,hB,hF,ef1,z4,l4,s3,l3]<;>rfl⟩
 obtain ⟨g',e⟩:=key;exact A9T e (by cases hmS D (d::t) nm<;>rfl)
end
def LocV(h:A9)(r id:Nat)(cs:List Cell):Prop:=Loc h r id/\rd h id=rT cs
section
variable {D:Dev} {n m:Int} {f:Cell} {g:A9} {r:Nat} {c:Cl} {h:A9}
def LocV.fr{id:Nat}(a:LocV h r id cs)(b:Fr r h h'):LocV h' r id cs:=by
 obtain ⟨h1,h2⟩:=b.loc a.1;exact ⟨h1,by rw [h2];exact a.2⟩
def LocV.set{id j:Nat}{cs:List Cell}{x:Option Row}(a:LocV h r id cs)(hj:j≠id)(hl:j≠r):LocV (h.set j x) r id cs:=by
 refine ⟨⟨by simpa using a.1.1,a.1.2.1,λhn=>a.1.2.2 ((Nam.same (B8 hl)).1 hn)⟩,by rw [B8 hj];exact a.2⟩
def LocV.self{id:Nat}{cs':List Cell}(a:LocV h r id cs):LocV (h.set id (rT cs')) r id cs' :=
 ⟨⟨by simpa using a.1.1,a.1.2.1,λhn=>a.1.2.2 ((Nam.same (B8 a.1.2.1)).1 hn)⟩,D6 a.1.1⟩
def LocV.new(hv:∃ id cs,f=.f id cs)(P:WP D n m f g r c h){t:A9}{k:Nat}(hk:t[k]?=A4 (rT cs)):LocV (h++t) r (l_ h+k) cs:=by
 have hk2:=(List.getElem?_eq_some_iff.1 hk).1;refine ⟨⟨by simp;omega,by have:=P.rlt;omega,λhn=>?_⟩,?_⟩
 ·have:=C1C hv P ((Nam.same (D3 P.rlt)).1 hn);omega
 ·unfold rd;rw [E6r (by omega),show (l_ h)+k-l_ h=k by omega,hk];rfl
def D9o{k:Nat}{x:Int}{pm pw:Nat}(P:WP D n m f g r c h)(hm:LocV h r pm [cI many])(hw:LocV h r pw [.p r 0])(hk:k<128) :
  ∃ h',fY [iV (k:Int),iV x,pV pm 0,pV pw 0] h=A4 (bV (decide ((k:Int)+6<many) && !decide (K3 D n c x=0)),h') /\
   WP D n m f g r (if (k:Int)+6<many then J7 D n c x else c) h'/\Fr r h h':=by
 have l1:B9 h (pV pm 0)=A4 (iV many):=C4 hm.2 rfl rfl;have l2:B9 h (pV pw 0)=A4 (pV r 0):=C4 hw.2 rfl rfl;have w1:E6a .i64 ((k:Int)+6)=(k:Int)+6:=wrap_i64 (by omega) (by omega);by_cases c1:(k:Int)+6<many
 ·obtain ⟨h',e1,e2,e3⟩:=B9i (no:=x) P;refine ⟨h',wG (n:=0) ?_,by rw [if_pos c1];exact e2,e3⟩;rw [vR];simp only [esc,w1,l1,l2,c1,e1,E6t]
 ·refine ⟨h,wG (n:=0) ?_,by rw [if_neg c1];exact P,Fr.refl r h⟩;rw [vR];simp only [esc,w1,l1,l2,c1,E6p]
def R5(D:Dev)(n many:Int)(s:Cl × List UInt8)(k:Nat):Cl × List UInt8 :=
 if ptP s.2 k=0 then s else
  (if (k:Int)+6<many then J7 D n s.1 (ptP s.2 k) else s.1,bif decide ((k:Int)+6<many) && !decide (K3 D n s.1 (ptP s.2 k)=0) then s.2 else H5 s.2 (2*k) (D4 2 0))
def L9(D:Dev)(n many:Int):Nat->Nat->Cl × List UInt8->Cl × List UInt8
 | 0,_,s=>s
 | e+1,k,s=>L9 D n many e (k+1) (R5 D n many s k)
def A3D{D:Dev}{n:Int}{s:Cl × List UInt8}{k:Nat}(hs:s.2.length=256)(hk:k<128):(R5 D n many s k).2.length=256:=by
 unfold R5;split
 ·exact hs
 ·dsimp only;cases (decide ((k:Int)+6<many) && !decide (K3 D n s.1 (ptP s.2 k)=0)) with
  | true=>exact hs
  | false=>rw [cond_false,O2 (by rw [hs,R2];omega)];exact hs
def C1o{D:Dev}{n many:Int}:∀ {e k:Nat} {s:Cl × List UInt8},k+e<=128->s.2.length=256->(L9 D n many e k s).2.length=256
 | 0,_,s,_,hs=>hs
 | e+1,k,s,hk,hs=>by
  rw [L9];exact C1o (by omega) (A3D hs (by omega))
def D3h{many:Int}{pm pw q0 q1 q:Nat}{h0:A9}(h0g:l_ g<=h0.length)(a0:h0.length<=q0)(a1:h0.length<=q1)(n1:q0≠q1)(n2:q0≠pm)(n3:q0≠pw):∀ (e k M:Nat) (s:Cl × List UInt8) (h:A9),k+e=128->e<M->s.2.length=256 ->
  WP D n m f g r s.1 h->Fr r h0 h->LocV h r pm [cI many]->LocV h r pw [.p r 0]->LocV h r q0 (B5 s.2)->(∃ z,z.length=256/\LocV h r q1 z) ->
  ∃ h',yC q M (.c (.f 76 [(pm,0),(pw,0)])) (pV q0 0) (pV q1 0) (iV (k:Int)) h=A4 (.a (B5 (L9 D n many e k s).2),h')/\WP D n m f g r (L9 D n many e k s).1 h'/\Fr r h0 h'
 | e,k,0,s,h,_,hM,_,_,_,_,_,_,_=>by omega
 | 0,k,M+1,s,h,hk,hM,hs,P,F,hm,hw,hb,hz=>by
  have c0:¬ ((k:Int)<128):=by omega
  obtain ⟨z,hzl,hz⟩:=hz;have hl:(B5 s.2).length=256:=by rw [B6,hs]
  have l1:=C7 (n:=256) hb.2 hl;have s1:=storeAll (n:=256) (xs:=B5 s.2) hz.2 hzl hl;have hz2:=hz.self (cs':=B5 s.2);have l2:=C7 (n:=256) hz2.2 hl;refine ⟨h.set q1 (rT (B5 s.2)),?_,P.set hz.1 (by omega),F.set hz.1 a1⟩;rw [qJ];unfold L9;generalize B5 s.2=B at *;simp only [esc,c0,l1,s1,l2]
 | e+1,k,M+1,s,h,hk,hM,hs,P,F,hm,hw,hb,hz=>by
  have c0:((k:Int)<128):=by omega
  have hk1:k<128:=by omega
  have hl:(B5 s.2).length=256:=by rw [B6,hs]
  have l1:=C7 (n:=256) hb.2 hl;have hG:=A7C (h:=h) hs hk1;have w1:=D9 (a:=k) (by omega);have hfs:=A3D (D:=D) (n:=n) (many:=many) hs hk1;have ih:=λh=>D3h (q:=q) (many:=many) h0g a0 a1 n1 n2 n3 e (k+1) M (R5 D n many s k) h (by omega) (by omega) hfs
  have hcv:∀ (k x:Val) (h:A9),aD yU (.c (.f 76 [(pm,0),(pw,0)])) [k,x] h=fY [k,x,pV pm 0,pV pw 0] h:=λ_ _ _=>Eq.trans rfl rfl
  rw [qJ,L9];by_cases cz:ptP s.2 k=0
  ·have ef:R5 D n many s k=s:=by unfold R5;rw [if_pos cz]
   rw [ef] at ih ⊢;obtain ⟨h',e1,e2⟩:=ih h P F hm hw hb hz;refine ⟨h',?_,e2⟩;rw [cz] at hG;generalize B5 s.2=B at *;simp only [esc,c0,l1,hG,dN,w1];exact e1
  ·obtain ⟨h1,f1,f2,f3⟩:=D9o (x:=ptP s.2 k) P hm hw hk1;have hb1:=hb.fr f3;have hm1:=hm.fr f3;have hw1:=hw.fr f3;obtain ⟨z,hzl,hz⟩:=hz;have hz1:=hz.fr f3;cases vA:(decide ((k:Int)+6<many) && !decide (K3 D n s.1 (ptP s.2 k)=0)) with
   | true =>
    have ef:R5 D n many s k=(if (k:Int)+6<many then J7 D n s.1 (ptP s.2 k) else s.1,s.2):=by unfold R5;rw [if_neg cz,vA];rfl
    rw [ef] at ih ⊢;obtain ⟨h',e1,e2⟩:=ih h1 f2 (F.trans f3) hm1 hw1 hb1 ⟨z,hzl,hz1⟩;refine ⟨h',?_,e2⟩;rw [vA] at f1
    try dsimp only at e1
    generalize B5 s.2=B at *;simp only [esc,c0,l1,hG,cz,hcv,f1,dN,w1];exact e1
   | false =>
    have ef:R5 D n many s k=(if (k:Int)+6<many then J7 D n s.1 (ptP s.2 k) else s.1,H5 s.2 (2*k) (D4 2 0)):=by unfold R5;rw [if_neg cz,vA];rfl
    rw [ef] at ih hfs ⊢;have hW:=λh=>aK (h:=h) (l:=s.2) hs (a:=((2*k:Nat):Int)) (w:=2) (v:=0)
    rw [E0X (by omega)] at hW;have lb1:=C7 (n:=256) hb1.2 hl;have hl2:(B5 (H5 s.2 (2*k) (D4 2 0))).length=256:=by rw [B6];exact hfs
    have sb1:=storeAll (n:=256) (xs:=B5 (H5 s.2 (2*k) (D4 2 0))) hb1.2 hl hl2;obtain ⟨h',e1,e2⟩:=ih _ (f2.set hb1.1 (by omega)) ((F.trans f3).set hb1.1 a0) (hm1.set n2 hb1.1.2.1) (hw1.set n3 hb1.1.2.1) hb1.self ⟨z,hzl,hz1.set n1 hb1.1.2.1⟩;refine ⟨h',?_,e2⟩;rw [vA] at f1
    try dsimp only at e1
    generalize B5 (H5 s.2 (2*k) (D4 2 0))=B2 at *;generalize B5 s.2=B at *;simp only [esc,c0,l1,hG,cz,hcv,f1,lb1,E0W (show k<128 by omega),hW,sb1,dN,w1];exact e1
end
def bF{x:List Int}{l:List (List Int)}:oL (x::l)=encI x++oL l:=rfl
def xZ:∀ {l:List (List Int)},(∀ x∈l,x.length=11)->(oL l).length=l_ l*11
 | [],_=>rfl
 | x::l,h=>by
  rw [bF,E58,C1,h x (E6e ..),xZ λy hy=>h y (E59 _ hy),E6g];omega
def D7I(l:List (List Int)):noX (oL l)=A5:=by
 induction l with
 | nil=>rfl
 | cons x l ih =>
  rw [bF];have h1:=A4U x;simp only [noX,List.all_append,E53] at h1 ih ⊢;exact ⟨h1,ih⟩
def D2C:∀ {l:List (List Int)} {i:Nat} (h:∀ x∈l,x.length=11) (hi:i<l_ l),((oL l).drop (i*11)).take 11=encI l[i]
 | x::l,0,h,_=>by
  have:=h x (E6e ..);rw [bF,Nat.zero_mul,E6i,List.take_left' (by rw [C1,this])];rfl
 | x::l,i+1,h,hi=>by
  have:=h x (E6e ..);rw [bF,show (i+1)*11=11+i*11 by omega,<-E7e,List.drop_left' (by rw [C1,this])];exact D2C (λy hy=>h y (E59 _ hy)) (by simpa using hi)
def D2H:∀ {l:List (List Int)} {i:Nat} {y:List Int} (h:∀ x∈l,x.length=11) (hy:y.length=11) (hi:i<l_ l),lay (oL l) (i*11) (encI y)=oL (l.set i y)
 | x::l,0,y,h,hy,_=>by
  have:=h x (E6e ..);unfold lay;rw [bF,Nat.zero_mul,E6S,E6s,C1,E6j,hy,List.drop_left' (by rw [C1,this])];rfl
 | x::l,i+1,y,h,hy,hi=>by
  have hx:=h x (E6e ..);have ih:=D2H (l:=l) (i:=i) (y:=y) (λy hy=>h y (E59 _ hy)) hy (by simpa using hi);rw [List.set_cons_succ,bF,bF,<-ih];unfold lay;rw [show (i+1)*11=(encI x).length+i*11 by rw [C1,hx];omega,List.take_length_add_append,Nat.add_assoc,List.drop_length_add_append,E6d]
section
variable {D:Dev} {n m:Int} {f:Cell} {g:A9} {r:Nat} {c:Cl} {h:A9}
def WP.setIno(hv:∃ id cs,f=.f id cs)(P:WP D n m f g r c h){k:Nat}{l:List Int}(hk:k<c.ino.length)(hl:l_ l=11) :
  ∃ id h',B9 h (pV r 5)=A4 (sV id 0 c.ino.length 11)/\rd h id=rT (oL c.ino)/\F9 h 11 (pV id (k*11)) (.a (encI l))=A4 h'/\WP D n m f g r { c with ino:=c.ino.set k l } h'/\Fr r h h':=by
 obtain ⟨xr,xi,xt,xb,xm,ml,mp,es1,es2,g1,g2,g3,g4,g5,g6,g7,g8,g9,g10,g11⟩:=id P.row;rcases g4 with ⟨e,_,_⟩ | ⟨t,rfl,t1,t2,t3⟩
 ·omega
 ·have l1:B9 h (pV r 5)=A4 (sV t 0 c.ino.length 11):=C4 g1 rfl rfl;have st:=C1T (n:=11) (off:=k*11) (xs:=encI l) t1 (by rw [C1,hl]) (by rw [t2];omega);rw [D2H P.il hl hk] at st;obtain ⟨q1,q2,q3,q4,q5⟩:=P.mod (off:=5) (x:=.sl t 0 c.ino.length 11) hv g1 rfl rfl (rT (oL (c.ino.set k l)));have K7:∀ x∈c.ino.set k l,x.length=11:=λx hx=>by
   rcases List.mem_or_eq_of_mem_set hx with h1 | h1
   ·exact P.il x h1
   ·rw [h1];exact hl
  refine ⟨t,_,l1,t1,st,⟨q2,P.ge,λid hn=>P.low id ((Nam.same q3).1 hn),K7,by simpa using P.ilen,P.tlen,xr,_,xt,xb,xm,ml,mp,es1,es2,by rw [q3];exact g1,g2,g3.kept λid e=>q4 4 _ _ (by decide) rfl e,.inr ⟨t,by simp,q5,by rw [xZ K7],t3⟩,g5.kept λid e=>q4 6 _ _ (by decide) rfl e,g6.kept λid e=>q4 7 _ _ (by decide) rfl e,g7.kept λid e=>q4 8 _ _ (by decide) rfl e,?_,g9,?_,g11⟩,q1⟩
  ·rw [q4 10 (.m ml) ml (by decide) rfl rfl];exact g8
  ·rw [q4 11 (.m mp) mp (by decide) rfl rfl];exact g10
def WP.setLost(hv:∃ id cs,f=.f id cs)(P:WP D n m f g r c h)(a:Int):∃ h',B9 h (pV r 9)=A4 (iV c.lost)/\I8 h (pV r 9) (iV a)=A4 h'/\WP D n m f g r { c with lost:=a } h'/\Fr r h h':=by
 obtain ⟨xr,xi,xt,xb,xm,ml,mp,es1,es2,g1,g2,g3,g4,g5,g6,g7,g8,g9,g10,g11⟩:=id P.row;have l1:B9 h (pV r 9)=A4 (iV c.lost):=C4 g1 rfl rfl;have s1:=I9 (x:=cI a) (off:=9) g1 (by simp [wkC]);obtain ⟨q1,q2,q3,q4,q5⟩:=P.pushed (off:=9) (y:=cI a) (h3:=h.set r (rT ((wkC D n m f xr xi xt xb xm c.lost ml mp).set 9 (cI a)))) hv g1 rfl (D6 (E1 g1)) (λj e=>by cases e) (λj hj hr hn=>B8 (Ne.symm hr)) (by simp);refine ⟨_,l1,s1,⟨q2,P.ge,q4,P.il,P.ilen,P.tlen,xr,xi,xt,xb,xm,ml,mp,es1,es2,D6 (E1 g1),q3,g3.kept λid e=>q5 4 _ _ (by decide) rfl e,g4.kept λid e=>q5 5 _ _ (by decide) rfl e,g5.kept λid e=>q5 6 _ _ (by decide) rfl e,g6.kept λid e=>q5 7 _ _ (by decide) rfl e,g7.kept λid e=>q5 8 _ _ (by decide) rfl e,?_,g9,?_,g11⟩,q1⟩
 ·rw [q5 10 (.m ml) ml (by decide) rfl rfl];exact g8
 ·rw [q5 11 (.m mp) mp (by decide) rfl rfl];exact g10
def E1Z{pm pw:Nat}(hv:∃ id cs,f=.f id cs)(P:WP D n m f g r c h)(hm:LocV h r pm [cI many])(hw:LocV h r pw [.p r 0])(hb:l_ b=256) :
  ∃ h',kP [.a (B5 b),.c (.f 76 [(pm,0),(pw,0)])] h=A4 (.a (B5 (L9 D n many 128 0 (c,b)).2),h')/\WP D n m f g r (L9 D n many 128 0 (c,b)).1 h'/\Fr r h h':=by
 have P1:=P.more hv [rT (B5 b),rT (B5 (zeros 256))];have F1:Fr r h (h++[rT (B5 b),rT (B5 (zeros 256))]):=Fr.low ((Low.refl (E56 _)).new _) P.rlt;obtain ⟨h',e1,e2,e3⟩:=D3h (q:=200) (many:=many) (h0:=h) (q0:=l_ h) (q1:=l_ h+1) (pm:=pm) (pw:=pw) P.lo.2.1 (E56 _) (by omega) (by omega) (by have:=hm.1.1;omega) (by have:=hw.1.1;omega) 128 0 200 (c,b) _ (by omega) (by omega) hb P1 F1 (hm.fr F1) (hw.fr F1) (LocV.new (k:=0) hv P rfl) ⟨B5 (zeros 256),by rw [B6];exact zeros_length,LocV.new (k:=1) hv P rfl⟩;refine ⟨h',A7h (n:=200) ?_,e2,e3⟩;rw [A6Z,J3];generalize zeros 256=z at *;simp only [esc];exact e1
end
def dD(D:Dev)(n:Int)(d:List Int):Nat->Nat->Cl × List Int->Cl × List Int
 | 0,_,s=>s
 | e+1,k,s=>dD D n d e (k+1) (J7 D n s.1 (d.getD k 0),s.2.set k (K3 D n s.1 (d.getD k 0)))
def A1R(D:Dev)(n:Int)(d:List Int)(many:Int)(s:Cl × List Int):Cl × List Int :=
 if 6<many then (J7 D n s.1 (d.getD 6 0),s.2.set 6 (K3 D n s.1 (d.getD 6 0))) else s
def H9(D:Dev)(n:Int)(c:Cl)(ino:Int):Cl × List Int:=A1R D n (drV D n ino) (T5 (szV D n ino)) (dD D n (drV D n ino) (min (T5 (szV D n ino)) 6).toNat 0 (c,zI 7))
def L8(D:Dev)(n:Int)(c:Cl)(ino:Int):Cl:={ (H9 D n c ino).1 with ino:=(H9 D n c ino).1.ino.set ino.toNat (1::1::szV D n ino::0::(H9 D n c ino).2) }
def U8(D:Dev)(n:Int)(c:Cl)(ino:Int):Cl:=
 if (H9 D n c ino).2.getD 6 0=0 then L8 D n c ino else
  dG (L9 D n (T5 (szV D n ino)) 128 0 (L8 D n c ino,blk D ((H9 D n c ino).2.getD 6 0))).1 ((H9 D n c ino).2.getD 6 0) (L9 D n (T5 (szV D n ino)) 128 0 (L8 D n c ino,blk D ((H9 D n c ino).2.getD 6 0))).2
structure SameC(c c':Cl):Prop where
 row:c'.row=c.row
 ino:c'.ino=c.ino
 blocks:c'.blocks=c.blocks
 made:c'.made=c.made
 lost:c'.lost=c.lost
 lnk:c'.lnk=c.lnk
 par:c'.par=c.par
def SameC.rfl'(c:Cl):SameC c c:=⟨rfl,rfl,rfl,rfl,rfl,rfl,rfl⟩
def SameC.trans{a b c:Cl}(x:SameC a b)(y:SameC b c):SameC a c:=⟨y.row.trans x.row,y.ino.trans x.ino,y.blocks.trans x.blocks,y.made.trans x.made,y.lost.trans x.lost,y.lnk.trans x.lnk,y.par.trans x.par⟩
def A0r(D:Dev)(n:Int)(c:Cl)(no:Int):SameC c (J7 D n c no):=by
 unfold J7;cases cR D n c no<;>exact ⟨rfl,rfl,rfl,rfl,rfl,rfl,rfl⟩
def D4E{s:Cl × List UInt8}{k:Nat}:SameC s.1 (R5 D n many s k).1:=by
 unfold R5;split
 ·exact .rfl' _
 ·dsimp only;split
  ·exact A0r ..
  ·exact .rfl' _
def jF{D:Dev}{n many:Int}:∀ {e k:Nat} {s:Cl × List UInt8},SameC s.1 (L9 D n many e k s).1
 | 0,_,s=>.rfl' _
 | e+1,k,s=>by
  rw [L9];exact (D4E).trans jF
def A0t{D:Dev}{n:Int}{d:List Int}:∀ {e k:Nat} {s:Cl × List Int},SameC s.1 (dD D n d e k s).1/\(dD D n d e k s).2.length=s.2.length
 | 0,_,s=>⟨.rfl' _,rfl⟩
 | e+1,k,s=>by
  rw [dD];have:=A0t (D:=D) (n:=n) (d:=d) (e:=e) (k:=k+1) (s:=(J7 D n s.1 (d.getD k 0),s.2.set k (K3 D n s.1 (d.getD k 0))));exact ⟨(A0r ..).trans this.1,by rw [this.2];simp⟩
def D7k{s:Cl × List Int}:SameC s.1 (A1R D n d many s).1/\(A1R D n d many s).2.length=s.2.length:=by
 unfold A1R;split
 ·exact ⟨A0r ..,by simp⟩
 ·exact ⟨.rfl' _,rfl⟩
def oD{ino:Int}{c:Cl}:SameC c (H9 D n c ino).1/\(H9 D n c ino).2.length=7:=by
 unfold H9;have h1:=A0t (D:=D) (n:=n) (d:=drV D n ino) (e:=(min (T5 (szV D n ino)) 6).toNat) (k:=0) (s:=(c,zI 7));have h2:=D7k (D:=D) (n:=n) (d:=drV D n ino) (many:=T5 (szV D n ino)) (s:=dD D n (drV D n ino) (min (T5 (szV D n ino)) 6).toNat 0 (c,zI 7));exact ⟨h1.1.trans h2.1,by rw [h2.2,h1.2];rfl⟩
section
variable {D:Dev} {n m:Int} {f:Cell} {g:A9} {r:Nat} {c:Cl} {h:A9}
def C84{ino lim kd ln sz pa many:Int}{d:List Int}{pb pw pi pm q:Nat}{h0:A9}(h0g:l_ g<=h0.length)(a0:h0.length<=pi)(n1:pi≠pb)(n2:pi≠pw)(n3:pi≠pm)(hd:l_ d=7)(E5j:lim<=6) :
  ∀ (e k M:Nat) (s:Cl × List Int) (h:A9),(k:Int)+e=lim->e<M->s.2.length=7->WP D n m f g r s.1 h->Fr r h0 h->LocV h r pb [.p r 0]->LocV h r pw (C8 kd ln sz pa d)->LocV h r pi (C8 1 1 sz 0 s.2)->LocV h r pm [cI many] ->
  ∃ M' h',jD q M (iV ino) (pV pb 0) (pV pw 0) (pV pi 0) (pV pm 0) (iV lim) (iV (k:Int)) h=jD q (M'+1) (iV ino) (pV pb 0) (pV pw 0) (pV pi 0) (pV pm 0) (iV lim) (iV lim) h' /\
   WP D n m f g r (dD D n d e k s).1 h'/\Fr r h0 h'/\LocV h' r pb [.p r 0]/\LocV h' r pw (C8 kd ln sz pa d)/\LocV h' r pi (C8 1 1 sz 0 (dD D n d e k s).2)/\LocV h' r pm [cI many]
 | e,k,0,s,h,_,hM,_,_,_,_,_,_,_=>by omega
 | 0,k,M+1,s,h,hk,hM,hs,P,F,hb,hw,hi,hm=>by
  have:(k:Int)=lim:=by omega
  rw [this];exact ⟨M,h,rfl,P,F,hb,hw,hi,hm⟩
 | e+1,k,M+1,s,h,hk,hM,hs,P,F,hb,hw,hi,hm=>by
  have c0:(k:Int)<lim:=by omega
  have hk6:k<6:=by omega
  have w1:=D9 (a:=k) (by omega);have lb:B9 h (pV pb 0)=A4 (pV r 0):=C4 hb.2 rfl rfl;have ad:∀ p,K5 6 1 (pV p 4) (iV (k:Int))=A4 (pV p (4+k)):=λp=>by
   rw [Q1 hk6];simp
  have lw:B9 h (pV pw (4+k))=A4 (iV (d.getD k 0)):=by
   refine C4 hw.2 ?_ rfl;rw [Nat.add_comm];simp only [C8,E6o];rw [G6,E54,E51 (by omega)];rfl
  obtain ⟨h1,f1,f2,f3⟩:=B9i (no:=d.getD k 0) P;have hb1:=hb.fr f3;have hw1:=hw.fr f3;have hm1:=hm.fr f3;have hi1:=hi.fr f3;have K7:(C8 1 1 sz 0 s.2).length=11:=by simp [C8,C1,hs]
  have s1:=I9 (x:=cI (K3 D n s.1 (d.getD k 0))) (off:=4+k) hi1.2 (by rw [K7];omega);have es:(C8 1 1 sz 0 s.2).set (4+k) (cI (K3 D n s.1 (d.getD k 0)))=C8 1 1 sz 0 (s.2.set k (K3 D n s.1 (d.getD k 0))):=by
   rw [Nat.add_comm];simp only [C8,List.set_cons_succ,A1H]
  rw [es] at s1;obtain ⟨M',h',e1,e2⟩:=C84 (q:=q) (ino:=ino) (lim:=lim) (kd:=kd) (ln:=ln) (sz:=sz) (pa:=pa) (many:=many) h0g a0 n1 n2 n3 hd E5j e (k+1) M (J7 D n s.1 (d.getD k 0),s.2.set k (K3 D n s.1 (d.getD k 0))) _ (by omega) (by omega) (by simp [hs]) (f2.set hi1.1 (by omega)) ((F.trans f3).set hi1.1 a0) (hb1.set n1 hi1.1.2.1) (hw1.set n2 hi1.1.2.1) hi1.self (hm1.set n3 hi1.1.2.1);refine ⟨M',h',?_,e2⟩;rw [kV];simp only [esc,c0,lb,ad,lw,f1,s1,w1];exact e1
def E1y{ino:Int}(hD:okD D)(hv:IsView g f D)(P:WP D n m f g r c h)(h1:c.blocks.length<=100000)(h2:c.made.length<=100000)(i0:0<=ino)(i1:ino.toNat<c.ino.length) :
  ∃ h',lY [pV r 0,iV ino] h=A4 (.t [],h')/\WP D n m f g r (U8 D n c ino) h'/\Fr r h h':=by
 have hv2:=hv.get;obtain ⟨k,rfl⟩:=E61 i0;rw [E6q] at i1;obtain ⟨I,hI⟩:=xEq (C8 (kdV D n k) (lnV D n k) (szV D n k) (paV D n k) (drV D n k));have hIl:l_ I=11:=by rw [hI];simp [C8,C1,O8]
 have hVI:=λt=>V1 (n:=n) (m:=m) (i:=(k:Int)) (h:=h++t) hD ((hv.since P.lo).more t)
 rw [pN,<-hI] at hVI;have lV:=(P.more hv2 [rT [Cell.p r 0]]).view;obtain ⟨z,hz⟩:=xEq (C8 1 1 (szV D n k) 0 (zI 7));have hzl:z.length=11:=by rw [hz];rfl
 have z11:[o0,o0,o0,o0,o0,o0,o0,o0,o0,o0,o0].length=11:=rfl;have ef:F5 [o0,o0,o0,o0,o0,o0,o0,o0,o0,o0,o0] [(0,1,iV 1),(1,1,iV 1),(2,1,iV (szV D n k))]=A4 z:=by rw [hz];rfl
 have I2:I[2]?=A4 (cI (szV D n k)):=by rw [hI];rfl
 have hBl:=λh=>B1f (n:=szV D n k) (h:=h)
 have eB:(if szV D n k<1 then (0:Int) else if 34304<szV D n k then 134 else (szV D n k+255)/256)=T5 (szV D n k):=rfl;rw [eB] at hBl;have hmr:0<=T5 (szV D n k):=by unfold T5;split<;>(try split)<;>omega
 obtain ⟨many,D9K⟩:=xEq (T5 (szV D n k));rw [<-D9K] at hBl hmr;have E1H:B5i (iV many) (iV 6)=A4 (iV (min many 6)):=by
  simp only [B5i];rw [show (if (6:Int)<many then 6 else many)=min many 6 by split<;>omega]
 obtain ⟨T,hT⟩:=xEq ([rT [Cell.p r 0],rT I,rT z,rT [cI many]]);have P1:=P.more hv2 T;have F1:Fr r h (h++T):=Fr.low ((Low.refl (E56 _)).new _) P.rlt;have L0:LocV (h++T) r (l_ h) [.p r 0]:=LocV.new (k:=0) hv2 P (by rw [hT];rfl);have L1:LocV (h++T) r (l_ h+1) I:=LocV.new (k:=1) hv2 P (by rw [hT];rfl);have L2:LocV (h++T) r (l_ h+2) z:=LocV.new (k:=2) hv2 P (by rw [hT];rfl);have L3:LocV (h++T) r (l_ h+3) [cI many]:=LocV.new (k:=3) hv2 P (by rw [hT];rfl);rw [hI] at L1;rw [hz] at L2;obtain ⟨M',hA,e1,PA,FA,A0,A1,A2,A3⟩:=C84 (q:=200) (ino:=(k:Int)) (lim:=min many 6) P.lo.2.1 (show (l_ h)<=l_ h+2 by omega) (by omega) (by omega) (by omega) O8 (by omega) (min many 6).toNat 0 200 (c,zI 7) (h++T) (by omega) (by omega) rfl P1 F1 L0 L1 L2 L3;obtain ⟨s,hs⟩:=xEq (dD D n (drV D n k) (min many 6).toNat 0 (c,zI 7));have hsame:=A0t (D:=D) (n:=n) (d:=drV D n k) (e:=(min many 6).toNat) (k:=0) (s:=(c,zI 7));rw [<-hs] at PA A2 hsame;have hs7:s.2.length=7:=hsame.2;have lb:B9 hA (pV (l_ h) 0)=A4 (pV r 0):=C4 A0.2 rfl rfl;have lm:B9 hA (pV (l_ h+3) 0)=A4 (iV many):=C4 A3.2 rfl rfl;have step:∃ hB,jD 200 (M'+1) (iV (k:Int)) (pV (l_ h) 0) (pV (l_ h+1) 0) (pV (l_ h+2) 0) (pV (l_ h+3) 0) (iV (min many 6)) (iV (min many 6)) hA =
   tM 200 (iV (k:Int)) (pV (l_ h) 0) (pV (l_ h+2) 0) (pV (l_ h+3) 0) hB/\WP D n m f g r (A1R D n (drV D n k) many s).1 hB/\Fr r h hB/\LocV hB r (l_ h) [.p r 0]/\LocV hB r (l_ h+2) (C8 1 1 (szV D n k) 0 (A1R D n (drV D n k) many s).2)/\LocV hB r (l_ h+3) [cI many]:=by
  have c0:¬ (min many 6<min many 6):=by omega
  unfold A1R;by_cases c6:6<many
  ·rw [if_pos c6];have lw:B9 hA (pV (l_ h+1) 10)=A4 (iV ((drV D n k).getD 6 0)):=by
    refine C4 A1.2 ?_ rfl;simp only [C8,E6o];rw [G6,E54,E51 (by rw [O8];omega)];rfl
   obtain ⟨h1,f1,f2,f3⟩:=B9i (no:=(drV D n k).getD 6 0) PA;have B0:=A0.fr f3;have B2:=A2.fr f3;have B3:=A3.fr f3;have K7:(C8 1 1 (szV D n k) 0 s.2).length=11:=by simp [C8,C1,hs7]
   have s1:=I9 (x:=cI (K3 D n s.1 ((drV D n k).getD 6 0))) (off:=10) B2.2 (by rw [K7];omega);have es:(C8 1 1 (szV D n k) 0 s.2).set 10 (cI (K3 D n s.1 ((drV D n k).getD 6 0)))=C8 1 1 (szV D n k) 0 (s.2.set 6 (K3 D n s.1 ((drV D n k).getD 6 0))):=by
    simp only [C8,List.set_cons_succ,A1H]
   rw [es] at s1;refine ⟨_,?_,f2.set B2.1 (by have:=P.lo.2.1;omega),(FA.trans f3).set B2.1 (by omega),B0.set (by omega) B2.1.2.1,B2.self,B3.set (by omega) B2.1.2.1⟩;rw [kV];simp only [esc,c0,lm,c6,lb,lw,f1,s1]
  ·rw [if_neg c6];refine ⟨hA,?_,PA,FA,A0,A2,A3⟩;rw [kV];simp only [esc,c0,lm,c6]
 obtain ⟨hB,e2,PB,FB,B0,B2,B3⟩:=step;have hfd:H9 D n c k=A1R D n (drV D n k) many s:=by unfold H9;rw [<-D9K,<-hs]
 have hfs:=oD (D:=D) (n:=n) (ino:=(k:Int)) (c:=c);rw [<-hfd] at PB B2;obtain ⟨S,hS⟩:=xEq (H9 D n c k);rw [<-hS] at PB B2 hfs;have kin:k<S.1.ino.length:=by rw [hfs.1.ino];exact i1
 obtain ⟨id,hC,c1,c2,c3,PC,FC⟩:=PB.setIno hv2 (k:=k) (l:=1::1::szV D n k::0::S.2) kin (by simp [hfs.2]);have C0:=B0.fr FC;have C2:=B2.fr FC;have C3:=B3.fr FC;have lB0:B9 hB (pV (l_ h) 0)=A4 (pV r 0):=C4 B0.2 rfl rfl;have lB2:D1 hB 11 (pV (l_ h+2) 0)=A4 (.a (encI (1::1::szV D n k::0::S.2))):=C7 B2.2 (by simp [C1,hfs.2]);have adI:E9 11 (sV id 0 S.1.ino.length 11) (iV (k:Int))=A4 (pV id (k*11)):=by rw [E3 kin];simp
 have E3C:B9 hC (pV (l_ h+2) 10)=A4 (iV (S.2.getD 6 0)):=by
  refine C4 C2.2 ?_ rfl;simp only [C8,E6o];rw [G6,E54,E51 (by rw [hfs.2];omega)];rfl
 have hfi:L8 D n c k={ S.1 with ino:=S.1.ino.set k (1::1::szV D n k::0::S.2) }:=by unfold L8;rw [<-hS,E6q]
 rw [<-hfi] at PC;have run:∀ {v:Val} {h':A9},tM 200 (iV (k:Int)) (pV (l_ h) 0) (pV (l_ h+2) 0) (pV (l_ h+3) 0) hB=A4 (v,h')->lY [pV r 0,iV (k:Int)] h=A4 (v,h'):=by
  intro v h' hj;refine B2G (n:=200) ?_;rw [B17];have eT:=e1.trans (e2.trans hj);rw [hT] at eT;have hB0:=hVI [rT [Cell.p r 0]];have l2:ld1 (rT I) 2=A4 (iV (szV D n k)):=by rw [yB,I2];rfl
  have lm1:ld1 (rT [cI many]) 0=A4 (iV many):=rfl;have lp:ld1 (rT [Cell.p r 0]) 0=A4 (pV r 0):=rfl;have sm:st1 (rT [o0]) 0 (cI many)=rT [cI many]:=rfl;generalize [o0,o0,o0,o0,o0,o0,o0,o0,o0,o0,o0]=zz at *;generalize vwC (l_ D) n m f=V at *;simp only [esc,O7,G8,Y9,I7,S3,G9,nQ,A56,K8,fD,Nat.reduceAdd,lV,hB0,hIl,hzl,z11,l2,lp,sm,lm1,ef,hBl,E1H];exact eT
 unfold U8;rw [<-hS,<-D9K];by_cases cz:S.2.getD 6 0=0
 ·rw [if_pos cz];refine ⟨hC,run ?_,PC,FB.trans FC⟩;rw [zO];rw [cz] at E3C;simp only [esc,Nat.reduceAdd,lB0,c1,lB2,adI,c3,E3C];rfl
 ·rw [if_neg cz];have hBk:=M7 (n:=n) (m:=m) (no:=S.2.getD 6 0) (h:=hC) hD (hv.since PC.lo);obtain ⟨hE,f1,f2,f3⟩:=E1Z (many:=many) (b:=blk D (S.2.getD 6 0)) hv2 PC C3 C0 (J9 hD);have D0:=C0.fr f3;have D2:=C2.fr f3;have hsm:=jF (D:=D) (n:=n) (many:=many) (e:=128) (k:=0) (s:=(L8 D n c k,blk D (S.2.getD 6 0)));have bl:(L9 D n many 128 0 (L8 D n c k,blk D (S.2.getD 6 0))).1.blocks.length<=100000:=by
   rw [hsm.blocks];dsimp only;rw [hfi];dsimp only;rw [hfs.1.blocks];exact h1
  have ml:(L9 D n many 128 0 (L8 D n c k,blk D (S.2.getD 6 0))).1.made.length<=100000:=by
   rw [hsm.made];dsimp only;rw [hfi];dsimp only;rw [hfs.1.made];exact h2
  obtain ⟨hF,g1,g2,g3⟩:=D0N (no:=S.2.getD 6 0) hv2 f2 (C1o (e:=128) (k:=0) (s:=(L8 D n c k,blk D (S.2.getD 6 0))) (by omega) (J9 hD)) bl ml;refine ⟨hF,run ?_,g2,((FB.trans FC).trans f3).trans g3⟩;have lC0:B9 hC (pV (l_ h) 0)=A4 (pV r 0):=C4 C0.2 rfl rfl;have lE0:B9 hE (pV (l_ h) 0)=A4 (pV r 0):=C4 D0.2 rfl rfl;have E5z:B9 hE (pV (l_ h+2) 10)=A4 (iV (S.2.getD 6 0)):=by
   refine C4 D2.2 ?_ rfl;simp only [C8,E6o];rw [G6,E54,E51 (by rw [hfs.2];omega)];rfl
  have lCV:=PC.view;have emk:A3f 76 [pV (l_ h+3) 0,pV (l_ h) 0]=A4 (.c (.f 76 [(l_ h+3,0),(l_ h,0)])):=rfl;rw [zO];generalize S.2.getD 6 0=no at *;generalize B5 (L9 D n many 128 0 (L8 D n c k,blk D no)).2=B2 at *;generalize B5 (blk D no)=B1 at *;generalize vwC (l_ D) n m f=V at *;simp only [esc,Nat.reduceAdd,lB0,c1,lB2,adI,c3,E3C,cz,lC0,lCV,hBk,emk,f1,lE0,E5z,g1];rfl
end
def A0a(no:Int):Nat->Nat->List Int->List Int
 | 0,_,t=>t
 | e+1,i,t=>A0a no e (i+1) (if t.getD i 0=no then t.set i 0 else t)
def A3t{no:Int}:∀ {e i:Nat} {t:List Int},(A0a no e i t).length=(l_ t)
 | 0,_,_=>rfl
 | e+1,i,t=>by
  rw [A0a,A3t];split<;>simp
def B04(D:Dev)(n:Int)(s:Cl × List Int)(no:Int):Cl × List Int:=(J7 D n s.1 no,if K3 D n s.1 no=0 then A0a no 32 0 s.2 else s.2)
def V6(D:Dev)(n:Int)(s:Cl × List Int)(L:List Int):Cl × List Int:=L.foldl (B04 D n) s
def C8T{s:Cl × List Int}:(B04 D n s no).2.length=s.2.length:=by
 unfold B04;dsimp only;split
 ·exact A3t
 ·rfl
def C09{D:Dev}{n:Int}:∀ {L:List Int} {s:Cl × List Int},(V6 D n s L).2.length=s.2.length
 | [],_=>rfl
 | no::L,s=>by
  show (V6 D n (B04 D n s no) L).2.length=_;rw [C09,C8T]
def bC{D:Dev}{n:Int}:∀ {L:List Int} {s:Cl × List Int},SameC s.1 (V6 D n s L).1
 | [],_=>.rfl' _
 | no::L,s=>by
  show SameC s.1 (V6 D n (B04 D n s no) L).1;have h2:SameC (J7 D n s.1 no) (V6 D n (B04 D n s no) L).1:=bC (D:=D) (n:=n) (L:=L) (s:=B04 D n s no);exact (A0r ..).trans h2
section
variable {D:Dev} {n m:Int} {f:Cell} {g:A9} {r:Nat} {c:Cl} {h:A9}
def C11{no d:Int}{px q M:Nat}{w x4 v11 v12 v13:Val}{h0:A9}(h0g:l_ g<=h0.length)(a0:h0.length<=px):∀ (e i M2:Nat) (t:List Int) (h:A9),i+e=32->e<M2->l_ t=32->WP D n m f g r c h->Fr r h0 h->LocV h r px (encI (d::t)) ->
  ∃ h',zN q M M2 w (pV px 0) x4 (iV no) v11 v12 v13 (iV (i:Int)) h=zL q M w (pV px 0) x4 v11 v12 v13 h'/\WP D n m f g r c h'/\Fr r h0 h'/\LocV h' r px (encI (d::A0a no e i t))/\(l_ h')=l_ h/\∀ j,j≠px->rd h' j=rd h j
 | e,i,0,t,h,_,hM,_,_,_,_=>by omega
 | 0,i,M2+1,t,h,hi,hM,ht,P,F,hx=>by
  have c0:¬ ((i:Int)<32):=by omega
  refine ⟨h,?_,P,F,hx,rfl,λ_ _=>rfl⟩;rw [fM];simp only [esc,c0]
 | e+1,i,M2+1,t,h,hi,hM,ht,P,F,hx=>by
  have c0:((i:Int)<32):=by omega
  have E5c:i<32:=by omega
  have ad:K5 32 1 (pV px 1) (iV (i:Int))=A4 (pV px (1+i)):=by rw [Q1 E5c];simp
  have l1:B9 h (pV px (1+i))=A4 (iV (t.getD i 0)):=by
   refine C4 hx.2 ?_ rfl;rw [Nat.add_comm,G6,E6o,E54,E51 (by omega)];rfl
  have w1:=D9 (a:=i) (by omega);by_cases cz:t.getD i 0=no
  ·have s1:=I9 (x:=o0) (off:=1+i) hx.2 (by simp [C1,ht];omega);have es:(encI (d::t)).set (1+i) o0=encI (d::t.set i 0):=by rw [A1H,Nat.add_comm,List.set_cons_succ]
   rw [es] at s1;obtain ⟨h',e1,e2,e3,e4,e5,e6⟩:=C11 (no:=no) (d:=d) (q:=q) (M:=M) (w:=w) (x4:=x4) (v11:=v11) (v12:=v12) (v13:=v13) h0g a0 e (i+1) M2 (t.set i 0) _ (by omega) (by omega) (by simp [ht]) (P.set hx.1 (by omega)) (F.set hx.1 a0) hx.self;refine ⟨h',?_,e2,e3,by rw [A0a,if_pos cz];exact e4,by rw [e5];simp,λj hj=>by rw [e6 j hj,B8 (Ne.symm hj)]⟩;rw [fM];simp only [esc,c0,ad,l1,cz,s1,rU,w1];exact e1
  ·obtain ⟨h',e1,e2,e3,e4,e5,e6⟩:=C11 (no:=no) (d:=d) (q:=q) (M:=M) (w:=w) (x4:=x4) (v11:=v11) (v12:=v12) (v13:=v13) h0g a0 e (i+1) M2 t h (by omega) (by omega) ht P F hx;refine ⟨h',?_,e2,e3,by rw [A0a,if_neg cz];exact e4,e5,e6⟩;rw [fM];simp only [esc,c0,ad,l1,cz,rU,w1];exact e1
def C1a{d:Int}{L:List Int}{px p4 sid q:Nat}{h0:A9}(h0g:l_ g<=h0.length)(a0:h0.length<=px)(a1:h0.length<=p4)(n1:px≠p4)(n2:px≠sid)(hq:40<=q)(hL:l_ L<1000000):∀ (e i M:Nat) (s:Cl × List Int) (h:A9),i+e=l_ L->e<M->s.2.length=32->WP D n m f g r s.1 h->Fr r h0 h->LocV h r px (encI (d::s.2))->(∃ z,z.length=33/\LocV h r p4 z)->LocV h r sid (encI L) ->
  ∃ h',zM q M (pV r 0) (pV px 0) (pV p4 0) (sV sid 0 (l_ L) 1) (iV (l_ L:Nat)) (iV (i:Int)) h=A4 (.a (encI (d::(V6 D n s (L.drop i)).2)),h')/\WP D n m f g r (V6 D n s (L.drop i)).1 h'/\Fr r h0 h'
 | e,i,0,s,h,_,hM,_,_,_,_,_,_=>by omega
 | 0,i,M+1,s,h,hi,hM,hs,P,F,hx,hz,hl=>by
  have c0:¬ ((i:Int)<(l_ L:Nat)):=by omega
  obtain ⟨z,hzl,hz⟩:=hz;have h33:(encI (d::s.2)).length=33:=by simp [C1,hs]
  have l1:=C7 (n:=33) hx.2 h33;have s1:=storeAll (n:=33) (xs:=encI (d::s.2)) hz.2 hzl h33;have hz2:=hz.self (cs':=encI (d::s.2));have l2:=C7 (n:=33) hz2.2 h33;rw [E6f (by omega)];refine ⟨h.set p4 (rT (encI (d::s.2))),?_,P.set hz.1 (by omega),F.set hz.1 a1⟩;rw [fL];show _=A4 (Val.a (encI (d::s.2)),_);generalize encI (d::s.2)=B at *;simp only [esc,c0,l1,s1,l2]
 | e+1,i,M+1,s,h,hi,hM,hs,P,F,hx,hz,hl=>by
  have c0:((i:Int)<(l_ L:Nat)):=by omega
  have K7:i<(l_ L):=by omega
  have ad:E9 1 (sV sid 0 (l_ L) 1) (iV (i:Int))=A4 (pV sid i):=by rw [E3 K7];simp
  have l1:B9 h (pV sid i)=A4 (iV L[i]):=C4 hl.2 (by rw [G6,E51 K7];rfl) rfl;have w1:=D9 (a:=i) (by omega);obtain ⟨h1,f1,f2,f3⟩:=B9i (no:=L[i]) P;have hx1:=hx.fr f3;have hl1:=hl.fr f3;obtain ⟨z,hzl,hz⟩:=hz;have hz1:=hz.fr f3;rw [E6b K7];have eb:∀ T,V6 D n s (L[i]::T)=V6 D n (B04 D n s L[i]) T:=λT=>rfl
  rw [eb];have hbl:=C8T (D:=D) (n:=n) (s:=s) (no:=L[i]);by_cases cz:K3 D n s.1 L[i]=0
  ·have eB:B04 D n s L[i]=(J7 D n s.1 L[i],A0a L[i] 32 0 s.2):=by unfold B04;rw [if_pos cz]
   obtain ⟨h2,e1,e2,e3,e4,e5,e6⟩:=C11 (no:=L[i]) (d:=d) (q:=q) (M:=M) (w:=pV r 0) (x4:=pV p4 0) (v11:=sV sid 0 (l_ L) 1) (v12:=iV (l_ L:Nat)) (v13:=iV (i:Int)) h0g a0 32 0 q s.2 h1 (by omega) (by omega) hs f2 (F.trans f3) hx1;have keep:∀ {id:Nat} {cs:List Cell},LocV h1 r id cs->px≠id->LocV h2 r id cs:=λ{id cs} a aR=>by
    have er:rd h2 r=rd h1 r:=e6 r (Ne.symm hx1.1.2.1);exact ⟨⟨by rw [e5];exact a.1.1,a.1.2.1,λhn=>a.1.2.2 ((Nam.same er).1 hn)⟩,by rw [e6 id (Ne.symm aR)];exact a.2⟩
   have E5y:(A0a L[i] 32 0 s.2).length=32:=by rw [A3t];exact hs
   rw [eB];generalize A0a L[i] 32 0 s.2=Z at *;obtain ⟨h',k1,k2⟩:=C1a (d:=d) (q:=q) h0g a0 a1 n1 n2 hq hL e (i+1) M (J7 D n s.1 L[i],Z) h2 (by omega) (by omega) E5y e2 e3 e4 ⟨z,hzl,keep hz1 n1⟩ (keep hl1 n2);refine ⟨h',?_,k2⟩;rw [fL];rw [cz] at f1;rw [rS] at e1;have c00:((0:Nat):Int)=0:=rfl;rw [c00] at e1;simp only [esc,c0,ad,l1,f1];refine e1.trans ?_;simp only [esc,w1];exact k1
  ·have eB:B04 D n s L[i]=(J7 D n s.1 L[i],s.2):=by unfold B04;rw [if_neg cz]
   rw [eB] at hbl ⊢;obtain ⟨h',k1,k2⟩:=C1a (d:=d) (q:=q) h0g a0 a1 n1 n2 hq hL e (i+1) M (J7 D n s.1 L[i],s.2) h1 (by omega) (by omega) hs f2 (F.trans f3) hx1 ⟨z,hzl,hz1⟩ hl1;refine ⟨h',?_,k2⟩;rw [fL];simp only [esc,c0,ad,l1,f1,cz,rS,w1];exact k1
def O9(d:Int)(t:List Int):Int:=if 0<=d/\d<=5 then d else 0
def bL(d:Int)(t:List Int):List Int:=if 0<=d/\d<=5 then mN d t (C5 d) else zI 32
def B0n(d:Int)(t:List Int):A8J d t=O9 d t::bL d t:=by
 unfold A8J O9 bL;split<;>rfl
def B3x{d:Int}:(bL d t).length=32:=by
 have:=C2L (d:=d) (t:=t);rw [B0n] at this;simpa using this
def D4g{d:Int}(hv:∃ id cs,f=.f id cs)(P:WP D n m f g r c h)(ht:l_ t=32) :
  ∃ h',dX [pV r 0,.a (encI (d::t))] h=A4 (.a (encI (O9 d t::(V6 D n (c,bL d t) (J4 (bL d t) (C5 (O9 d t)))).2)),h')/\WP D n m f g r (V6 D n (c,bL d t) (J4 (bL d t) (C5 (O9 d t)))).1 h'/\Fr r h h':=by
 have hft:=B3x (d:=d) (t:=t);have h33:(encI (d::t)).length=33:=by simp [C1,ht]
 have hF:=λh=>B86 (d:=d) (h:=h) ht
 rw [B0n] at hF;have D2t:(encI (O9 d t::bL d t)).length=33:=by simp [C1,hft]
 have E3s:(o0::E55 32 o0).length=33:=by simp
 obtain ⟨z,hz⟩:=xEq (o0::E55 32 o0);obtain ⟨d',hd'⟩:=xEq (O9 d t);obtain ⟨t',ht'⟩:=xEq (bL d t);rw [<-hd',<-ht'] at hF D2t ⊢;rw [<-ht'] at hft;have hB:=gP (d:=d') (t:=t') (h:=h++[rT (encI (d'::t')),rT z]) hft;obtain ⟨L,hL⟩:=xEq (J4 t' (C5 d'));rw [<-hL] at hB ⊢;obtain ⟨T,hT⟩:=xEq ([rT (encI (d'::t')),rT z,rT (encI L)]);have P1:=P.more hv T;have F1:Fr r h (h++T):=Fr.low ((Low.refl (E56 _)).new _) P.rlt;have L0:LocV (h++T) r (l_ h) (encI (d'::t')):=LocV.new (k:=0) hv P (by rw [hT];rfl);have L1:LocV (h++T) r (l_ h+1) z:=LocV.new (k:=1) hv P (by rw [hT];rfl);have L2:LocV (h++T) r (l_ h+2) (encI L):=LocV.new (k:=2) hv P (by rw [hT];rfl);have hLl:l_ L<=32:=by rw [hL];exact E6J (iL _ _) (T2 _)
 obtain ⟨h',e1,e2,e3⟩:=C1a (q:=100) P.lo.2.1 (E56 _) (show (l_ h)<=l_ h+1 by omega) (by omega) (show (l_ h)≠(l_ h)+2 by omega) (by omega) (by omega) (l_ L) 0 100 (c,t') (h++T) (by omega) (by omega) hft P1 F1 L0 ⟨z,by rw [hz];exact E3s,L1⟩ L2;rw [E6i] at e1 e2;refine ⟨h',A70 (n:=100) ?_,e2,e3⟩;rw [A7R];have ez:([o0]++E55 32 o0)=z:=by rw [hz];rfl
 rw [ez];rw [hT] at e1;have l33:ldN (rT (encI (d::t))) 0 33=A4 (.a (encI (d::t))):=K8 h33;have l33':ldN (rT (encI (d'::t'))) 0 33=A4 (.a (encI (d'::t'))):=K8 D2t;have s33:stN (rT (encI (d::t))) 0 33 (encI (d'::t'))=rT (encI (d'::t')):=fD h33 D2t;generalize encI (d::t)=X at *;generalize encI (d'::t')=X' at *;simp only [esc,O7,G8,S3,G9,l33,l33',s33,hF];simp only [esc] at hB;simp only [esc,hB];exact e1
end
abbrev Spt:=Int × Slt
def xI(D:Dev)(L:List Int):List Spt:=L.flatMap λno=>(J1 (blk D no)).map λs=>(no,s)
def atH(D:Dev)(X:List Int)(e:Spt):Bool:=decide (R6 X e.2.2.1=e.1)&&decide (hmS D X e.2.2.1=A4 e.2)
def P5(D:Dev)(X:List Int)(l:List Spt):rN:=(l.filter (atH D X)).map (·.2.2.1)
def B3G(D:Dev)(X:List Int)(nm:List UInt8):Int:=((hmS D X nm).getD (0,[],0)).2.2
def S5(D:Dev)(X:List Int)(L:List Int):List Ent:=(fC (P5 D X (xI D L))).map λs=>(s,B3G D X s)
def D6x{neg:Bool}(p q:Slt):aeq neg [.i .i64,.s,.i .i64] (.a (slC (A4 p))) (.a (slC (A4 q)))=A4 (bV (bif neg then !(decide (A4 p=A4 q)) else decide (A4 p=A4 q))):=by
 simp only [aeq];rw [if_pos ⟨rfl,rfl⟩];have:decide (slC (A4 p)=slC (A4 q))=decide (A4 p=A4 q):=by
  apply Bool.eq_iff_iff.2;simp only [decide_eq_true_eq,slC,List.cons.injEq,Cell.i.injEq,Cell.s.injEq,true_and,and_true,E57];obtain ⟨p1,p2,p3⟩:=p;obtain ⟨q1,q2,q3⟩:=q;simp only [E6c];constructor
  ·rintro ⟨h1,h2,h3⟩;exact ⟨by omega,h2,h3⟩
  ·rintro ⟨h1,h2,h3⟩;exact ⟨by omega,h2,h3⟩
 rw [this]
def C2T{X:List Int}{s:List Spt}{e:Spt}:P5 D X (s++[e])=P5 D X s++(if atH D X e=A5 then [e.2.2.1] else []):=by
 unfold P5;rw [E66,E6Q,List.filter_cons];by_cases c:atH D X e=A5<;>simp [c]
structure NmS(D:Dev)(X L:List Int)(g:A9)(s:List Spt)(id:Nat)(h:A9):Prop where
 low:Low (l_ g) g h
 rx:rd h (l_ g)=rT (encI X)
 rm:∃ es,rd h (l_ g+2)=A4 (P6 es)/\MapN es (B3G D X) (P5 D X s)
 rs:rd h (l_ g+4)=rT (encI L)
 rl:rd h id=rT (encS (P5 D X s))
 idg:id=l_ g+3\/(l_ g)+5<=id
def NmS.more{X:List Int}{s:List Spt}{id:Nat}(S:NmS D X L g s id h)(t:A9):NmS D X L g s id (h++t) :=
 ⟨S.low.new _,B7 S.rx,by obtain ⟨es,h1,h2⟩:=S.rm;exact ⟨es,B7 h1,h2⟩,B7 S.rs,B7 S.rl,S.idg⟩
section
variable {D:Dev} {n m:Int} {f:Cell} {g:A9} {r:Nat} {h:A9}
def E3F{d:Int}{s:List Spt}{id lst q m0 M:Nat}{l:List Slt}{x:Slt}{x18 x19 x20:Val}(hD:okD D)(hv:IsView g f D)(hw:VwR g r (vwC (l_ D) n m f))(ht:l_ t=32)(S:NmS D (d::t) L g s id h)(hN:(P5 D (d::t) s).length<=1000000)(hs:x.2.1.length<=24)
  (hl:rd h lst=rT (pU l)) (hx:l[j]?=A4 x) (hl5:l_ g+5<=lst) (aR:lst≠id) (hj:l_ l<=7) :
  ∃ dM h',bJ q m0 (M+1) (.c (.p r 0)) (.c (.p (l_ g) 0)) (.c (.m (l_ g+2))) (.c (.sl id 0 (P5 D (d::t) s).length 1)) (.c (cI no)) x18 x19 x20 (.c (.sl lst 0 (l_ l) 3)) (.c (cI (l_ l:Nat))) (.c (cI (j:Int))) h =
   bJ q m0 M (.c (.p r 0)) (.c (.p (l_ g) 0)) (.c (.m (l_ g+2))) (.c (.sl dM 0 (P5 D (d::t) (s++[(no,x)])).length 1)) (.c (cI no)) x18 x19 x20 (.c (.sl lst 0 (l_ l) 3)) (.c (cI (l_ l:Nat))) (.c (cI ((j+1:Nat):Int))) h' /\
   NmS D (d::t) L g (s++[(no,x)]) dM h'/\rd h' lst=rT (pU l)/\lst≠dM:=by
 have hjl:j<(l_ l):=(List.getElem?_eq_some_iff.1 hx).1;have c0:((j:Int)<(l_ l:Nat)):=by omega
 have ad:E9 3 (.c (.sl lst 0 (l_ l) 3)) (.c (cI (j:Int)))=A4 (.c (.p lst (j*3))):=by rw [E3 hjl];simp
 have hlen:=uV (l:=l);have l3:D1 h 3 (.c (.p lst (j*3)))=A4 (.a (slC (A4 x))):=by rw [T1 hl (by rw [hlen];omega) rfl,D1f hx]
 obtain ⟨k,nm,i⟩:=x;have w1:=D9 (a:=j) (by omega);obtain ⟨h1,e1⟩:=xEq (h++[rT (slC (A4 (k,nm,i)))]);have s3:F9 (h++[rT [o0,.s [],o0]]) 3 (.c (.p (l_ h) 0)) (.a (slC (A4 (k,nm,i))))=A4 h1:=by rw [G9,e1];rfl
 have S1:NmS D (d::t) L g s id h1:=e1 ▸ S.more _;have lX:D1 h1 33 (.c (.p (l_ g) 0))=A4 (.a (encI (d::t))):=C7 S1.rx (by simp [C1,ht]);have lN:B9 h1 (.c (.p (l_ h) 1))=A4 (.c (.s nm)):=by rw [e1,I7];rfl
 have hH:=D53 (n:=n) (m:=m) (f:=f) (r:=r) (d:=d) (t:=t) (nm:=nm) (h:=h1) hD (hv.since S1.low) (hw.since S1.low) ht (by dsimp only at hs;omega);obtain ⟨h2,e2⟩:=xEq (h1++[rT (C1S (R6 (d::t) nm) (hmS D (d::t) nm))]);have s4:F9 (h1++[rT [o0,o0,.s [],o0]]) 4 (.c (.p h1.length 0)) (.a (C1S (R6 (d::t) nm) (hmS D (d::t) nm)))=A4 h2:=by
  rw [G9,e2];cases hmS D (d::t) nm<;>rfl
 have S2:NmS D (d::t) L g s id h2:=e2 ▸ S1.more _;have lB:B9 h2 (.c (.p h1.length 0))=A4 (.c (cI (R6 (d::t) nm))):=by rw [e2,I7];rfl
 have lS:D1 h2 3 (.c (.p h1.length 1))=A4 (.a (slC (hmS D (d::t) nm))):=by rw [e2,G8];cases hmS D (d::t) nm<;>rfl
 have rp:rd h2 (l_ h)=rT (slC (A4 (k,nm,i))):=by rw [e2,e1];simp
 have lP:D1 h2 3 (.c (.p (l_ h) 0))=A4 (.a (slC (A4 (k,nm,i)))):=C7 rp rfl;have lP1:B9 h2 (.c (.p (l_ h) 1))=A4 (.c (.s nm)):=C4 rp rfl rfl;have lP2:B9 h2 (.c (.p (l_ h) 2))=A4 (.c (cI i)):=C4 rp rfl rfl;have rl2:rd h2 lst=rT (pU l):=by rw [e2,e1];exact B7 (B7 hl)
 have no1:atH D (d::t) (no,k,nm,i)=A6->NmS D (d::t) L g (s++[(no,k,nm,i)]) id h2/\(P5 D (d::t) (s++[(no,k,nm,i)])).length=(P5 D (d::t) s).length:=by
  intro hb;have en:P5 D (d::t) (s++[(no,k,nm,i)])=P5 D (d::t) s:=by rw [C2T,hb];simp
  exact ⟨{ S2 with rm:=by rw [en];exact S2.rm,rl:=by rw [en];exact S2.rl },by rw [en]⟩
 rw [jE];cases ho:hmS D (d::t) nm with
 | none =>
  obtain ⟨n1,n2⟩:=no1 (by unfold atH;simp only [ho];simp);refine ⟨id,h2,?_,n1,rl2,aR⟩;rw [n2];rw [ho] at hH s4 lS;generalize encI (d::t)=X at *;simp only [esc,Nat.reduceAdd,c0,ad,l3,s3,lX,lN,hH,E6Z,s4,bO,w1]
 | some p =>
  rw [ho] at hH s4 lS;have ea:=D6x (neg:=A6) p (k,nm,i);by_cases c1:R6 (d::t) nm=no
  ·rw [c1] at hH s4 lB;by_cases c2:p=(k,nm,i)
   ·have hb:atH D (d::t) (no,k,nm,i)=A5:=by unfold atH;simp only [ho,c1,c2];simp
    have en:P5 D (d::t) (s++[(no,k,nm,i)])=P5 D (d::t) s++[nm]:=by rw [C2T,if_pos hb]
    have hin:B3G D (d::t) nm=i:=by unfold B3G;rw [ho,c2];rfl
    obtain ⟨es,r4,hm⟩:=S2.rm;have mp:=D6m (s:=nm) (x:=i) r4 hm;have hm':=hm.put nm;rw [hin] at hm';have lt2:=E1 r4;have idr:id≠(l_ g)+2:=by have:=S.idg;omega
    obtain ⟨h3,e3⟩:=xEq (h2.set (l_ g+2) (A4 (P6 (A82 (.s nm) (.c (cI i)) es))));rw [<-e3] at mp;have hh:h2.length=l_ h+2:=by rw [e2,e1];simp
    have q1:B9 h3 (.c (.p (l_ h) 1))=A4 (.c (.s nm)):=C4 (by rw [e3,B8 (by have:=E1 hl;omega)];exact rp) rfl rfl;have ef:F5 [Cell.s []] [(0,1,.c (.s nm))]=A4 [.s nm]:=rfl;have ril:rd h3 id=rT (encS (P5 D (d::t) s)):=by rw [e3,B8 (Ne.symm idr)];exact S2.rl
    obtain ⟨h4,b1,b2,b3,b4⟩:=B7t (n:=(P5 D (d::t) s).length) (sz:=1) (ys:=[Cell.s nm]) ril (by rw [bY];omega) rfl (by omega) (by omega);have h3l:h3.length=l_ h+2:=by rw [e3];simp [hh]
    have gS:=E1 S.rs;have ea2:aeq A6 [.i .i64,.s,.i .i64] (.a (slC (A4 p))) (.a (slC (A4 (k,nm,i))))=A4 (.c (.b A5)):=by rw [ea,c2];simp
    refine ⟨h3.length+1,h4,?_,⟨?_,?_,⟨_,?_,by rw [en];exact hm'⟩,?_,?_,by omega⟩,?_,by have:=E1 hl;omega⟩
    ·rw [en,E58];generalize encI (d::t)=X at *;simp only [esc,Nat.reduceAdd,c0,ad,l3,s3,lX,lN,hH,E6G,s4,lB,eq_self,lS,lP,ea2,lP1,lP2,mp,q1,ef,b1,bO,w1]
    ·have l3':Low (l_ g) g h3:=by rw [e3];exact S2.low.set (by omega) _
     exact l3'.trans (b4 _ (by have:=S.idg;omega) (by omega))
    ·exact b3 _ _ (by have:=S.idg;omega) (by rw [e3,B8 (by omega)];exact S2.rx)
    ·exact b3 _ _ (Ne.symm idr) (by rw [e3];exact D6 lt2)
    ·exact b3 _ _ (by have:=S.idg;intro e;omega) (by rw [e3,B8 (by omega)];exact S2.rs)
    ·rw [en,show encS (P5 D (d::t) s++[nm])=encS (P5 D (d::t) s)++[Cell.s nm] by simp [encS]];exact b2
    ·exact b3 _ _ aR (by rw [e3,B8 (by omega)];exact rl2)
   ·obtain ⟨n1,n2⟩:=no1 (by unfold atH;simp only [ho];simp [c2]);have ea2:aeq A6 [.i .i64,.s,.i .i64] (.a (slC (A4 p))) (.a (slC (A4 (k,nm,i))))=A4 (.c (.b A6)):=by rw [ea];simp [c2]
    refine ⟨id,h2,?_,n1,rl2,aR⟩;rw [n2];generalize encI (d::t)=X at *;simp only [esc,Nat.reduceAdd,c0,ad,l3,s3,lX,lN,hH,E6G,s4,lB,eq_self,lS,lP,ea2,bO,w1]
  ·obtain ⟨n1,n2⟩:=no1 (by unfold atH;simp only [ho];simp [c1]);refine ⟨id,h2,?_,n1,rl2,aR⟩;rw [n2];generalize encI (d::t)=X at *;simp only [esc,Nat.reduceAdd,c0,ad,l3,s3,lX,lN,hH,E6G,s4,lB,c1,bO,w1]
end
def C1E{X:List Int}{s:List Spt}:(P5 D X s).length<=(l_ s):=by
 unfold P5;rw [List.length_map];exact E6R _ _
def C8L:xI D (no::L)=(J1 (blk D no)).map (λs=>(no,s))++xI D L:=by simp [xI]
section
variable {D:Dev} {n m:Int} {f:Cell} {g:A9} {r:Nat} {h:A9}
def D2V{d:Int}{t L:List Int}{lst q m0:Nat}{l:List Slt}{no:Int}{x18 x19 x20:Val}(hD:okD D)(hv:IsView g f D)(hw:VwR g r (vwC (l_ D) n m f))(ht:l_ t=32)(hl7:l_ l<=7)(hsl:∀ x∈l,x.2.1.length<=24)(hl5:l_ g+5<=lst) :
  ∀ (e j M:Nat) (s:List Spt) (id:Nat) (h:A9),j+e=l_ l->e<M->l_ s+e<=100000->NmS D (d::t) L g s id h->rd h lst=rT (pU l)->lst≠id ->
  ∃ dM h',bJ q m0 M (pV r 0) (pV (l_ g) 0) (.c (.m (l_ g+2))) (sV id 0 (P5 D (d::t) s).length 1) (iV no) x18 x19 x20 (sV lst 0 (l_ l) 3) (iV (l_ l:Nat)) (iV (j:Int)) h =
   bnd (N5 .add x20 (iV 1)) (λv=>bI q m0 (pV r 0) (pV (l_ g) 0) (.c (.m (l_ g+2))) (sV dM 0 (P5 D (d::t) (s++(l.drop j).map λx=>(no,x))).length 1) x18 x19 v h')/\NmS D (d::t) L g (s++(l.drop j).map λx=>(no,x)) dM h'
 | e,j,0,s,id,h,_,hM,_,_,_,_=>by omega
 | 0,j,M+1,s,id,h,hj,hM,hn,S,hr,aR=>by
  have c0:¬ ((j:Int)<(l_ l:Nat)):=by omega
  rw [E6f (by omega),List.map_nil,E6k];refine ⟨id,h,?_,S⟩;rw [jE];simp only [C6,G3,c0,decide_false,Y0]
 | e+1,j,M+1,s,id,h,hj,hM,hn,S,hr,aR=>by
  have hjl:j<(l_ l):=by omega
  have kX:=C1E (D:=D) (X:=d::t) (s:=s);obtain ⟨id1,h1,e1,e2,e3,e4⟩:=E3F (q:=q) (m0:=m0) (M:=M) (no:=no) (x18:=x18) (x19:=x19) (x20:=x20) hD hv hw ht S (by omega) (hsl _ (E6w hjl)) hr (E51 hjl) hl5 aR hl7;obtain ⟨dM,h',f1,f2⟩:=D2V (q:=q) (m0:=m0) (no:=no) (x18:=x18) (x19:=x19) (x20:=x20) hD hv hw ht hl7 hsl hl5 e (j+1) M (s++[(no,l[j])]) id1 h1 (by omega) (by omega) (by simp;omega) e2 e3 e4;rw [E6d,List.singleton_append] at f1 f2;rw [E6b hjl,E6N];exact ⟨dM,h',e1.trans f1,f2⟩
def D4X{d:Int}{q:Nat}(hD:okD D)(hv:IsView g f D)(hw:VwR g r (vwC (l_ D) n m f))(ht:l_ t=32)(hq:8<=q)(hL:l_ L<=32) :
  ∀ (e i M:Nat) (s:List Spt) (id:Nat) (h:A9),i+e=l_ L->e<M->l_ s<=7*i->NmS D (d::t) L g s id h ->
  ∃ M' dM h',bI q M (pV r 0) (pV (l_ g) 0) (.c (.m (l_ g+2))) (sV id 0 (P5 D (d::t) s).length 1) (sV (l_ g+4) 0 (l_ L) 1) (iV (l_ L:Nat)) (iV (i:Int)) h =
   bI q (M'+1) (pV r 0) (pV (l_ g) 0) (.c (.m (l_ g+2))) (sV dM 0 (P5 D (d::t) (s++xI D (L.drop i))).length 1) (sV (l_ g+4) 0 (l_ L) 1) (iV (l_ L:Nat)) (iV (l_ L:Nat)) h'/\NmS D (d::t) L g (s++xI D (L.drop i)) dM h'/\(s++xI D (L.drop i)).length<=7*(l_ L):=by
 intro e
 induction e with
 | zero =>
  intro i M s id h hi hM hn S;obtain ⟨M,rfl⟩:=aP M (by omega);have ei:i=(l_ L):=by omega
  subst ei;rw [List.drop_length,show xI D []=[] from rfl,E6k];exact ⟨M,id,h,rfl,S,hn⟩
 | succ e ih =>
  intro i M s id h hi hM hn S;obtain ⟨M,rfl⟩:=aP M (by omega);have K7:i<(l_ L):=by omega
  have c0:(i:Int)<(l_ L:Nat):=by omega
  have ad:E9 1 (sV (l_ g+4) 0 (l_ L) 1) (iV (i:Int))=A4 (pV (l_ g+4) i):=by rw [E3 K7];simp
  have l1:B9 h (pV (l_ g+4) i)=A4 (iV L[i]):=C4 S.rs (by rw [G6,E51 K7];rfl) rfl;have lV:=(hw.since S.low).load;have hB:=M7 (n:=n) (m:=m) (no:=L[i]) hD (hv.since S.low);obtain ⟨v,tt,b1,b2,b3⟩:=A2f (b:=blk D L[i]) (h:=h) (J9 hD);have hlen:=b2.len;have h7:=kE (blk D L[i]);have w1:=D9 (a:=i) (by omega);have hsl:∀ x∈J1 (blk D L[i]),x.2.1.length<=24:=λx hx=>by
   have:=B4W (A8Y hx).1;exact this
  have main:∃ id1 h1,bJ q M q (pV r 0) (pV (l_ g) 0) (.c (.m (l_ g+2))) (sV id 0 (P5 D (d::t) s).length 1) (iV L[i]) (sV (l_ g+4) 0 (l_ L) 1) (iV (l_ L:Nat)) (iV (i:Int)) v (iV ((J1 (blk D L[i])).length:Nat)) (iV ((0:Nat):Int)) (h++tt) =
    bnd (N5 .add (iV (i:Int)) (iV 1)) (λv=>bI q M (pV r 0) (pV (l_ g) 0) (.c (.m (l_ g+2))) (sV id1 0 (P5 D (d::t) (s++(J1 (blk D L[i])).map λx=>(L[i],x))).length 1) (sV (l_ g+4) 0 (l_ L) 1) (iV (l_ L:Nat)) v h1)/\NmS D (d::t) L g (s++(J1 (blk D L[i])).map λx=>(L[i],x)) id1 h1:=by
   rcases b3 with ⟨rfl,rfl,b3⟩ | ⟨rfl,rfl⟩
   ·rw [b3];refine ⟨id,h,?_,by simpa using S⟩;obtain ⟨q',rfl⟩:∃ q',q=q'+1:=⟨q-1,by omega⟩;have c00:¬ ((0:Nat):Int)<((([]:List Slt).length:Nat):Int):=by simp
    rw [jE,E6k,List.map_nil,E6k];simp only [C6,G3,c00,decide_false,Y0]
   ·have gS:=E1 S.rs;have idl:=E1 S.rl;obtain ⟨dM,h',f1,f2⟩:=D2V (lst:=l_ h) (q:=q) (m0:=M) (no:=L[i]) (x18:=sV (l_ g+4) 0 (l_ L) 1) (x19:=iV (l_ L:Nat)) (x20:=iV (i:Int)) (l:=J1 (blk D L[i])) hD hv hw ht h7 hsl (by omega) (J1 (blk D L[i])).length 0 q s id (h++[rT (pU (J1 (blk D L[i])))]) (by omega) (by omega) (by omega) (S.more _) (by simp) (by omega);rw [E6i] at f1 f2;exact ⟨dM,h',f1,f2⟩
  obtain ⟨id1,h1,m1,m2⟩:=main;obtain ⟨M',dM,h',f1,f2,f3⟩:=ih (i+1) M _ id1 h1 (by omega) (by omega) (by simp;omega) m2;rw [E6d,<-C8L,<-E6b K7] at f1 f2 f3;refine ⟨M',dM,h',?_,f2,f3⟩;rw [xQ];have e00:((0:Nat):Int)=0:=rfl;rw [e00] at m1;generalize vwC (l_ D) n m f=V at *;simp only [esc,c0,ad,l1,lV,hB,b1,hlen];simp only [L7,C6,w1] at m1;exact m1.trans f1
def D97{F:List UInt8->Int}{B:A9}{b q mid sid:Nat}{S:rN}{es:V3}(hm:MapN es F S)(hb:b<=l_ B)(hs:rd B sid=rT (encS S))(h4:rd B mid=A4 (P6 es))(h62:l_ S<1000000) :
  ∀ (e i M id:Nat) (h:A9),i+e=l_ S->e<M->Low b B h->id≠sid->id≠mid->b<=id->(∀ j r,j=sid\/j=mid->rd B j=A4 r->rd h j=A4 r)->rd h id=rT (J8 ((S.take i).map λs=>(s,F s)))->l_ B<=(l_ h) ->
   ∃ v' h',A2C q M (.c (.m mid)) (.c (.sl id 0 i 2)) (.c (.sl sid 0 (l_ S) 1)) (.c (cI (l_ S:Int))) (.c (cI (i:Int))) h=A4 (v',h')/\Out b h' v' 2 (l_ S) (J8 (S.map λs=>(s,F s)))
 | e,i,0,id,h,_,hm,_,_,_,_,_,_,_=>by omega
 | 0,i,M+1,id,h,hi,hm0,hlow,ns,n4,hbi,hk,hr,hl=>by
  have c0:¬ (i:Int)<(l_ S:Nat):=by omega
  have ei:i=(l_ S):=by omega
  subst ei;rw [xR];rw [List.take_length] at hr;refine ⟨.c (.sl id 0 (l_ S) 2),h,by simp only [C6,G3,c0,decide_false,Y0],by rw [gN];simp,id,rfl,hbi,hr⟩
 | e+1,i,M+1,id,h,hi,hm0,hlow,ns,n4,hbi,hk,hr,hl=>by
  have K7:i<(l_ S):=by omega
  have c0:(i:Int)<(l_ S:Nat):=by omega
  have ad:E9 1 (.c (.sl sid 0 (l_ S) 1)) (.c (cI (i:Int)))=A4 (.c (.p sid i)):=by rw [E3 K7];simp
  have l1:B9 h (.c (.p sid i))=A4 (.c (.s S[i])):=C4 (hk sid _ (.inl rfl) hs) (by rw [B3s,E51 K7];rfl) rfl;have lk:=D2L (s:=S[i]) (hk _ _ (.inr rfl) h4) hm (E6w K7);have ef:F5 [Cell.s [],o0] [(0,1,.c (.s S[i])),(1,1,.c (cI (F S[i])))]=A4 (W0 (A4 (S[i],F S[i]))):=rfl;have ef2:F5 [Cell.s [],o0] [(0,2,.a (W0 (A4 (S[i],F S[i]))))]=A4 (W0 (A4 (S[i],F S[i]))):=rfl;have el:((S.take i).map λs=>(s,F s)).length=i:=by simp;omega
  obtain ⟨h2,a1,a2,a3,a4⟩:=B7t (n:=i) (sz:=2) (ys:=W0 (A4 (S[i],F S[i]))) hr (by rw [gN,el]) rfl (by omega) (by omega);have et:J8 ((S.take i).map λs=>(s,F s))++W0 (A4 (S[i],F S[i]))=J8 ((S.take (i+1)).map λs=>(s,F s)):=by
   rw [List.take_add_one,E51 K7,E6Q,J8];simp [J8]
  rw [et] at a2;have w1:=D9 (a:=i) (by omega);have E5n:=E1 a2;obtain ⟨v',h',f1,f2⟩:=D97 (q:=q) hm hb hs h4 h62 e (i+1) M (l_ h+1) h2 (by omega) (by omega) (hlow.trans (a4 _ hbi (by omega)))
   (λe1=>by have:=E1 hs;omega) (λe1=>by have:=E1 h4;omega) (by omega) (λj r hj hjr=>a3 _ _ (by rcases hj with rfl | rfl<;>omega) (hk j r hj hjr)) a2 (by omega)
  rw [xR];refine ⟨v',h',?_,f2⟩;simp only [C6,G3,c0,decide_true,W9,ad,l1,lk,ef,ef2,a1,L7,w1];exact f1
def D93{d:Int}(hD:okD D)(hv:IsView h f D)(hr:VwR h r (vwC (l_ D) n m f))(ht:l_ t=32) :
  iX [.c (.p r 0),.a (encI (d::t))] h=A4 (.c (.sl (l_ h) 0 (S5 D (d::t) (J4 t (C5 d))).length 2),h++[rT (J8 (S5 D (d::t) (J4 t (C5 d))))]):=by
 have h33:(encI (d::t)).length=33:=by simp [C1,ht]
 have hLl:(J4 t (C5 d)).length<=32:=E6J (iL _ _) (T2 _);have key:∀ g,IsView g f D->VwR g r (vwC (l_ D) n m f)->∃ v g',sT 300 [.c (.p r 0),.a (encI (d::t))] g=A4 (v,g')/\Out (l_ g) g' v 2 (S5 D (d::t) (J4 t (C5 d))).length (J8 (S5 D (d::t) (J4 t (C5 d)))):=by
  intro g hv hw;have hB:=gP (d:=d) (t:=t) (h:=g++[rT (encI (d::t)),rT [],A4 (P6 []),rT []]) ht;obtain ⟨L,hL⟩:=xEq (J4 t (C5 d));rw [<-hL] at hB hLl ⊢;obtain ⟨G,hG⟩:=xEq (g++[rT (encI (d::t)),rT [],A4 (P6 []),rT [],rT (encI L)]);have S0:NmS D (d::t) L g [] (l_ g+3) G:=by
   rw [hG];exact ⟨(Low.refl (E56 _)).new _,by simp,⟨[],by simp,MapN.nil _⟩,by simp,by simp [P5,encS],.inl rfl⟩
  obtain ⟨M',id,H,e1,S,hn⟩:=D4X (q:=300) hD hv hw ht (by omega) hLl (l_ L) 0 300 [] (l_ g+3) G (by omega) (by omega) (by simp) S0;rw [E6i,E6s] at e1 S hn;obtain ⟨N,hN⟩:=xEq (P5 D (d::t) (xI D L));have kX:=C1E (D:=D) (X:=d::t) (s:=xI D L);have hrl:=S.rl;rw [<-hN] at e1 kX hrl;have hH:Has (H++[rT []]) (.c (.sl id 0 N.length 1)) 1 N.length (encS N):=Has.row (rw:=A5) (B7 hrl) (by rw [bY];omega) (C6K _);have hSo:=B9u hH (by omega);obtain ⟨es,r4,hm⟩:=S.rm;rw [<-hN] at hm;have hm2:MapN es (B3G D (d::t)) (fC N):=⟨hm.1,λs hs=>hm.2 s ((dT _ _).1 hs)⟩;have hsl:=B0K N;have lh:(H++[rT []]).length=l_ H+1:=by simp
  rw [lh] at hSo;have W5:=E1 r4;have gl:=S.low.2.1;obtain ⟨v',g',o1,o2⟩:=D97 (F:=B3G D (d::t)) (B:=H++[rT []]++[rT (encS (fC N))]) (b:=l_ g) (q:=300) (mid:=l_ g+2) (sid:=l_ H+1) (S:=fC N) hm2 (by simp;omega) (by rw [<-lh];exact N6) (B7 (B7 r4)) (by omega)
   (fC N).length 0 300 (l_ H) (H++[rT []]++[rT (encS (fC N))]) (by omega) (by omega) (Low.refl (by simp;omega)) (by omega) (by omega) (by omega) (λj r _ hj=>hj) (by simp [J8]) (E56 _)
  have eL:S5 D (d::t) L=(fC N).map λs=>(s,B3G D (d::t) s):=by unfold S5;rw [<-hN]
  refine ⟨v',g',?_,by rw [eL,List.length_map];exact o2⟩;have c0:¬ ((l_ L:Nat):Int)<(l_ L:Nat):=by omega
  have l33:ldN (rT (encI (d::t))) 0 33=A4 (.a (encI (d::t))):=K8 h33;have n0:(P5 D (d::t) ([]:List Spt)).length=0:=rfl;have e00:((0:Nat):Int)=0:=rfl;rw [n0,e00] at e1;rw [hG] at e1;rw [e00] at o1;rw [B1v];simp only [esc] at hB;rw [xQ 300 M'] at e1;simp only [esc,c0,hSo] at e1 o1;generalize encI (d::t)=X at *;simp only [esc,O7,G8,Nat.reduceAdd,l33,hB];refine e1.trans ?_;exact o1
 obtain ⟨v,g',e,ho⟩:=key (ro h) hv.ro hr.ro;exact A9U e (by simpa [H6] using ho) B0k
end
end Go.Proofs.YtbipebfdappanaaGreat
