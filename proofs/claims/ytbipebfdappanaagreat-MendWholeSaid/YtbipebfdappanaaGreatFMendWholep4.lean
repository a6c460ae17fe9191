/- What the proof of this claim leans on, part 4. -/
import Derived.Test.YtbipebfdappanaaGreatFMendWholep3
set_option linter.all false
set_option maxRecDepth 100000
open Go Go.Esc
noncomputable section
open List renaming length->l_,all_cons->E9p,all_eq_true->E8O,append_assoc->E8t,append_nil->E8C,cons_append->E89,drop_drop->E9D,drop_eq_getElem_cons->E8s,drop_left'->E9C,drop_of_length_le->E8x,drop_zero->E8y,ext_getElem?->E9z,filter_append->E9x,filter_cons_of_neg->E9k,filter_cons_of_pos->E9l,flatten_cons->E9v,foldl_cons->E9q,getD_eq_getElem?_getD->E8k,getElem?_append_right->E8L,getElem?_cons_succ->E8F,getElem?_cons_zero->E84,getElem?_eq_getElem->E8h,getElem?_eq_none->E8P,getElem?_eq_some_iff->E8p,getElem?_take_of_lt->E86,getElem_mem->E8M,length_append->E8o,length_cons->E8w,length_filter_le->E9f,length_nil->E8X,length_replicate->E8S,length_set->E80,length_take->E8Y,map_append->E9e,map_cons->E9c,mem_append->E8U,mem_cons->E8J,mem_cons_of_mem->E8q,mem_cons_self->E8u,mem_filter->E8Z,mem_iff_getElem?->E9g,mem_map->E8N,mem_of_getElem?->E8H,nil_append->E8I,prefix_refl->E9j,range->E8T,range'->E8Q,replicate->E8l,replicate_succ->E81,set_append_right->E9a,set_cons_zero->E9A,take_of_length_le->E8B,take_succ_eq_append_getElem->E8R,take_zero->E9i
open Bool renaming and_eq_true->E8j,false_and->E8E,true_and->E8K,false->A6,true->A5
open Int renaming eq_ofNat_of_zero_le->E9m,toNat_natCast->E8D
open IntKind renaming wrap->E8r
open Nat renaming add_zero->E9y,le_refl->E8m,le_trans->E83,mul_one->E9w,sub_self->E9t,zero_add->E8A
open Option renaming bind_eq_some_iff->E8i,bind_some->E8z,isSome_none->E9o,isSome_some->E87,map_some->E85,none->A7,some->A4
open Option.some renaming injEq->E8n
open Go.Proofs.Tryz renaming prog->A8
namespace Go.Proofs.YtbipebfdappanaaGreat
variable {h g h' h0:A9}{D:Dev}{n k a m s i l p many no ino:Int}{d t:List Int}{cs V:List Cell}{f x y:Cell}{q j r sz off mid pm pw:Nat}{b:List UInt8}{v:Val}{es:V8}
def A5S(D:Dev)(n k:Int)(d:List Int)(told:Bool)(ls:List Int):List Int:=if told=A6/\k=1/\G7 (l_ D) n (d.getD 6 0)=A5 then ls++[d.getD 6 0] else ls
def D7B{l:List Int}:A5S D n k d A5 l=l:=by
 unfold A5S;rw [C5 (by simp)]
def A3q(D:Dev)(n k:Int)(d:List Int)(s:Bool × List Int)(q:Nat × Int):Bool × List Int:=if 6<=q.1 then (A5,A5S D n k d s.1 s.2++[q.2]) else (s.1,s.2++[q.2])
def pO(D:Dev)(n k:Int)(d:List Int):List Int :=
 if k=2 then (if Z5 D n k d then [d.getD 0 0] else [])++T1 D n k d
 else (bT (atF D n k d) 6 0).map (·.2)++(if k=1/\G7 (l_ D) n (d.getD 6 0)=A5 then [d.getD 6 0] else [])++(bT (atF D n k d) 128 6).map (·.2)
def C4a(at':Int->Int):∀ (a b j:Nat),bT at' (a+b) j=bT at' a j++bT at' b (j+a)
 | 0,b,j=>by rw [E8A];rfl
 | a+1,b,j=>by
  rw [show a+1+b=(a+b)+1 by omega,bT,bT,C4a at' a b (j+1),show j+1+a=j+(a+1) by omega];split<;>rfl
def D00{D:Dev}{n k:Int}{d:List Int}:∀ (L:List (Nat × Int)) (t:Bool) (ls:List Int),(∀ q∈L,q.1<6)->L.foldl (A3q D n k d) (t,ls)=(t,ls++L.map (·.2))
 | [],t,ls,_=>by simp
 | q::L,t,ls,h=>by
  have hq:=h q (E8u ..);rw [E9q];unfold A3q;rw [C5 (by omega)];have:=D00 (D:=D) (n:=n) (k:=k) (d:=d) L t (ls++[q.2]) (λx hx=>h x (E8q _ hx));unfold A3q at this;rw [this];simp
def C7I:∀ (L:List (Nat × Int)) (ls:List Int),(∀ q∈L,6<=q.1)->L.foldl (A3q D n k d) (A5,ls)=(A5,ls++L.map (·.2))
 | [],ls,_=>by simp
 | q::L,ls,h=>by
  have hq:=h q (E8u ..);have e:A3q D n k d (A5,ls) q=(A5,ls++[q.2]):=by
   unfold A3q A5S;rw [C4 hq,C5 (by simp)]
  rw [E9q,e,C7I L (ls++[q.2]) (λx hx=>h x (E8q _ hx))];simp
def D9g(h2:k≠2):let r:=(bT (atF D n k d) 134 0).foldl (A3q D n k d) (A6,[]);A5S D n k d r.1 r.2=pO D n k d:=by
 intro r;have e1:bT (atF D n k d) 134 0=bT (atF D n k d) 6 0++bT (atF D n k d) 128 6:=C4a _ 6 128 0;have hl:∀ q∈bT (atF D n k d) 6 0,q.1<6:=λq hq=>by have:=A9D 6 0 q hq;omega
 have hh:∀ q∈bT (atF D n k d) 128 6,6<=q.1:=λq hq=>(A9D 128 6 q hq).1
 have er:r=(bT (atF D n k d) 128 6).foldl (A3q D n k d) (A6,(bT (atF D n k d) 6 0).map (·.2)):=by
  show (bT (atF D n k d) 134 0).foldl (A3q D n k d) (A6,[])=_;rw [e1,List.foldl_append,D00 _ _ _ hl,E8I]
 unfold pO;rw [C5 h2,er];generalize (bT (atF D n k d) 6 0).map (·.2)=A;cases hB:bT (atF D n k d) 128 6 with
 | nil =>
  simp only [List.foldl_nil,List.map_nil,E8C];unfold A5S;by_cases c:k=1/\G7 (l_ D) n (d.getD 6 0)=A5
  ·rw [C4 ⟨rfl,c⟩,C4 c]
  ·rw [C5 (λh=>c h.2),C5 c,E8C]
 | cons q L =>
  rw [hB] at hh;have hq:=hh q (E8u ..);have e2:A3q D n k d (A6,A) q=(A5,A5S D n k d A6 A++[q.2]):=by unfold A3q;rw [C4 hq]
  rw [E9q,e2,C7I L _ (λx hx=>hh x (E8q _ hx))];show A5S D n k d A5 _=_;rw [D7B];have e4:A5S D n k d A6 A=A++(if k=1/\G7 (l_ D) n (d.getD 6 0)=A5 then [d.getD 6 0] else []):=by
   unfold A5S;by_cases c:k=1/\G7 (l_ D) n (d.getD 6 0)=A5
   ·rw [C4 ⟨rfl,c⟩,C4 c]
   ·rw [C5 (λh=>c h.2),C5 c,E8C]
  rw [e4];simp
def RS(b:Nat):List Nat:=[b+3,b+4,b+5,b,b+1,b+6,b+7]
def fO(b:Nat):Cell:=.f 162 [(b+4,0),(b+1,0),(b,0),(b+3,0)]
structure OwnP(g h:A9)(V I:List Cell)(told:Bool)(ls:List Int):Prop where
 var:VarI h (l_ g+3) ls (l_ g) (RS (l_ g))
 low:Low (l_ g) g h
 len:l_ g+8<=(l_ h)
 t:rd h (l_ g+4)=rT [.b told]
 f:rd h (l_ g+5)=rT [fO (l_ g)]
 v:rd h (l_ g)=rT V
 i:rd h (l_ g+1)=rT I
 v2:rd h (l_ g+6)=rT V
 i2:rd h (l_ g+7)=rT I
def OwnP.push{I:List Cell}{told:Bool}{ls:List Int}(P:OwnP g h V I told ls)(hl:ls.length<=1000)(n:Int) :
  ∃ x v h2 h3,B9 h (pV (l_ g+3) 0)=A4 (.c x)/\uR (h++[rT [cI n]]) 1 (.c x) (sV (l_ h) 0 1 1)=A4 (.c v,h2)/\I8 h2 (pV (l_ g+3) 0) (.c v)=A4 h3/\OwnP g h3 V I told (ls++[n]):=by
 have hlen:=P.len;have hm:∀ j∈RS (l_ g),j<(l_ h):=by intro j hj;simp only [RS,E8J,List.not_mem_nil,or_false] at hj;omega
 obtain ⟨x,v,h2,h3,a1,a2,a3,a4,a5,a6,a7⟩:=P.var.push (by simp [RS]) (by omega) (by omega) hm (by omega) n;exact ⟨x,v,h2,h3,a1,a2,a3,a4,P.low.trans a5,by omega,by rw [a6 _ (by simp [RS]) (by omega)];exact P.t,by rw [a6 _ (by simp [RS]) (by omega)];exact P.f,by rw [a6 _ (by simp [RS]) (by omega)];exact P.v,by rw [a6 _ (by simp [RS]) (by omega)];exact P.i,by rw [a6 _ (by simp [RS]) (by omega)];exact P.v2,by rw [a6 _ (by simp [RS]) (by omega)];exact P.i2⟩
def OwnP.tell{I:List Cell}{told:Bool}{ls:List Int}(P:OwnP g h V I told ls):I8 h (pV (l_ g+4) 0) (bV A5)=A4 (h.set (l_ g+4) (rT [.b A5]))/\OwnP g (h.set (l_ g+4) (rT [.b A5])) V I A5 ls:=by
 have hlen:=P.len;refine ⟨I9 P.t (by simp),P.var.keep (by rw [B7 (by omega)]) (λid hid x hx=>by rw [B7 (λe=>hid (by rw [<-e];simp [RS]))];exact hx),P.low.set (by omega) _,by simpa using hlen,D3 (by omega),by rw [B7 (by omega)];exact P.f,by rw [B7 (by omega)];exact P.v,by rw [B7 (by omega)];exact P.i,by rw [B7 (by omega)];exact P.v2,by rw [B7 (by omega)];exact P.i2⟩
def D47{told:Bool}{ls:List Int}(hd:l_ d=7)(P:OwnP g h (vwC (l_ D) n m f) (D1 k l s p d) told ls)(hl:ls.length<=1000) :
  ∃ h',lF [pV (l_ g+4) 0,pV (l_ g+1) 0,pV (l_ g) 0,pV (l_ g+3) 0] h=A4 (.t [],h')/\OwnP g h' (vwC (l_ D) n m f) (D1 k l s p d) A5 (A5S D n k d told ls):=by
 have t1:B9 h (pV (l_ g+4) 0)=A4 (bV told):=B8 P.t rfl rfl;have fa0:∀ q,U2 (pV q 0) 0=A4 (pV q 0):=λq=>rfl
 have fa10:∀ q,U2 (pV q 0) 10=A4 (pV q 10):=λq=>by simp [U2]
 have i0:B9 h (pV (l_ g+1) 0)=A4 (iV k):=B8 P.i rfl rfl;have i10:B9 h (pV (l_ g+1) 10)=A4 (iV (d.getD 6 0)):=by
  refine B8 P.i ?_ rfl;have:(D1 k l s p d)[10]?=(encI d)[6]? := rfl;rw [this,G6,E8h (by omega),E8k,E8h (by omega)];rfl
 have l3:C9 h 3 (pV (l_ g) 0)=A4 (.a (L5 (l_ D) n m)):=by rw [S7 P.v (by simp [vwC]) rfl];rfl
 have hI:=X8 (b:=l_ D) (n:=n) (m:=m) (i:=d.getD 6 0) (h:=h);have hj:∀ h1,I8 h (pV (l_ g+4) 0) (bV A5)=A4 h1->A5A 0 (pV (l_ g+4) 0) h=A4 (.t [],h1):=λh1 e=>by rw [A66];simp only [C7,e];rfl
 unfold A5S;cases told with
 | true =>
  obtain ⟨b1,b2⟩:=P.tell;refine ⟨_,qN (n:=0) ?_,by rw [C5 (by simp)];exact b2⟩;rw [qJ];simp only [esc,t1,hj _ b1]
 | false =>
  by_cases c1:k=1
  ·cases c2:G7 (l_ D) n (d.getD 6 0) with
   | false =>
    rw [c2] at hI;obtain ⟨b1,b2⟩:=P.tell;refine ⟨_,qN (n:=0) ?_,by rw [C5 (by simp)];exact b2⟩;rw [qJ];simp only [C7,t1,yT,Bool.not_false,D03,fa0,fa10,i0,dG,c1,eq_self,decide_true,qQ,S8,l3,i10,hI,Y6,hj _ b1]
   | true =>
    rw [c2] at hI;obtain ⟨x,v,h2,h3,a1,a2,a3,a4⟩:=P.push hl (d.getD 6 0);obtain ⟨b1,b2⟩:=a4.tell;have ef:F6 [o0] [(0,1,iV (d.getD 6 0))]=A4 [cI (d.getD 6 0)]:=rfl;have hj3:A5A 0 (pV (l_ g+4) 0) h3=A4 (.t [],h3.set (l_ g+4) (rT [.b A5])):=by rw [A66];simp only [C7,b1];rfl
    refine ⟨_,qN (n:=0) ?_,by rw [C4 ⟨rfl,c1,rfl⟩];exact b2⟩;rw [qJ];simp only [C7,t1,yT,Bool.not_false,D03,fa0,fa10,i0,dG,c1,eq_self,decide_true,qQ,S8,l3,i10,hI,X6,a1,ef,a2,a3,hj3]
  ·obtain ⟨b1,b2⟩:=P.tell;refine ⟨_,qN (n:=0) ?_,by rw [C5 (by simp [c1])];exact b2⟩;rw [qJ];simp only [C7,t1,yT,Bool.not_false,D03,E1F,fa0,fa10,i0,dG,c1,eq_self,decide_false,qQ,S8,bZ,Y6,hj _ b1]
def E2p{st:Bool × List Int}(hd:l_ d=7)(P:OwnP g h (vwC (l_ D) n m f) (D1 k l s p d) st.1 st.2)(hl:st.2.length<=900) :
  ∃ h',dT [iV (j:Int),iV no,pV (l_ g+5) 0,pV (l_ g+3) 0] h=A4 (.t [],h')/\OwnP g h' (vwC (l_ D) n m f) (D1 k l s p d) (A3q D n k d st (j,no)).1 (A3q D n k d st (j,no)).2:=by
 have ef:F6 [o0] [(0,1,iV no)]=A4 [cI no]:=rfl;have f1:B9 h (pV (l_ g+5) 0)=A4 (.c (fO (l_ g))):=B8 P.f rfl rfl;have hcv:∀ h:A9,aQ A0d (.c (fO (l_ g))) [] h=lF [pV (l_ g+4) 0,pV (l_ g+1) 0,pV (l_ g) 0,pV (l_ g+3) 0] h:=λ_=>Eq.trans rfl rfl
 unfold A3q;by_cases c:6<=j
 ·rw [C4 c];obtain ⟨h1,g1,g2⟩:=D47 hd P (by omega);have W4:(A5S D n k d st.1 st.2).length<=1000:=by
   unfold A5S;split
   ·simp;omega
   ·omega
  obtain ⟨x,v,h2,h3,a1,a2,a3,a4⟩:=g2.push W4 no;refine ⟨h3,sX (n:=0) ?_,a4⟩;rw [sS];have c1:(6:Int)<=(j:Int):=by omega
  simp only [C7,C6G,c1,decide_true,X6,f1,hcv,g1,rU,a1,ef,a2,a3];rfl
 ·rw [C5 c];obtain ⟨x,v,h2,h3,a1,a2,a3,a4⟩:=P.push (by omega) no;refine ⟨h3,sX (n:=0) ?_,a4⟩;rw [sS];have c1:¬ (6:Int)<=(j:Int):=by omega
  simp only [C7,C6G,c1,decide_false,Y6,rU,a1,ef,a2,a3];rfl
def D49(hD:okD D)(hd:l_ d=7)(hv:IsView g f D)(hk:k=2) :
  ∃ x g',U6 0 [.a (vwC (l_ D) n m f),.a (D1 k l s p d)] g=A4 (.c x,g')/\D0e g' x (pO D n k d) (l_ g) []:=by
 have hIl:(D1 k l s p d).length=11:=by simp [D1,C1,hd]
 have l11:ldN (rT (D1 k l s p d)) 0 11=A4 (.a (D1 k l s p d)):=K9 hIl;have l4:=B5A (b:=l_ D) (n:=n) (m:=m) (f:=f);have i0:(D1 k l s p d)[0]?=A4 (cI k):=rfl;have hz:(encI (0::zI 32)).length=33:=G5 (d:=0) N5;have hX:=A7b D n k d;have hI:=A1Q (n:=n) (m:=m) (k:=k) (l:=l) (s:=s) (p:=p) (h:=g++[rT (vwC (l_ D) n m f),rT (D1 k l s p d),rT [],rT [.ns]]) hD hd (hv.more _);have eo:pO D n k d=(if Z5 D n k d then [d.getD 0 0] else [])++T1 D n k d:=by unfold pO;rw [C4 hk]
 have hbl:(T1 D n k d).length<=32:=by
  unfold T1;cases Z5 D n k d with
  | false=>simp
  | true =>
   have h1:=E9f (G7 (l_ D) n) (J3 (O5 (blk D (d.getD 0 0)) 32) (C6 (getD (blk D (d.getD 0 0)))));have h2:=jL (O5 (blk D (d.getD 0 0)) 32) (C6 (getD (blk D (d.getD 0 0))));have h3:=T5 (getD (blk D (d.getD 0 0)));simp only [S8];omega
 have fin:∀ (h:A9) (ls:List Int),VarI h (l_ g+3) ls (l_ g) [(l_ g)+3,l_ g,l_ g+1]->Low (l_ g) g h->rd h (l_ g)=rT (vwC (l_ D) n m f)->rd h (l_ g+1)=rT (D1 k l s p d)->ls.length<=1000 ->
   ∃ x g',A2q 0 (pV (l_ g) 0) (pV (l_ g+1) 0) (pV (l_ g+3) 0) h=A4 (.c x,g')/\D0e g' x (ls++T1 D n k d) (l_ g) []:=by
  intro h ls hV hlow h1 h2 hl;obtain ⟨x,hx,hd'⟩:=hV;have hgl:=hlow.2.1;have a1:B9 h (pV (l_ g+3) 0)=A4 (.c x):=B8 hx rfl (by simp);have a2:=C8 (n:=4) h1 rfl;have a3:=C8 (n:=11) h2 hIl;have hB:=A2Z (n:=n) (m:=m) (k:=k) (l:=l) (s:=s) (p:=p) hD hd (hv.since hlow);have hQ:=U9 (h:=h) (v:=sV (l_ h) 0 (T1 D n k d).length 1) (Grows.rfl'.new (encI (T1 D n k d)));rw [A9I];rcases hd' with ⟨rfl,rfl⟩ | ⟨id,rfl,hr,hb,_⟩
  ·have hA:=C5D (h:=h++[rT (encI (T1 D n k d))]) (jd:=l_ h) (m:=(T1 D n k d).length) (sz:=1) (ys:=encI (T1 D n k d)) (by simp) (by rw [C1,E9w]) (by omega) (by omega);have e1:(h++[rT (encI (T1 D n k d))]).length=l_ h+1:=by simp
   rw [e1] at hA;refine ⟨_,_,by simp only [C7,a1,a2,a3,E8C,hB,hQ,hA]<;>rfl,.inr ⟨l_ h+1,rfl,?_,by omega,by simp⟩⟩;have:=N8 (h:=h++[rT (encI (T1 D n k d))]) (r:=⟨encI (T1 D n k d),A5⟩);rw [e1] at this;exact this
  ·have hA:=A8h (h:=h++[rT (encI (T1 D n k d))]) (id:=id) (jd:=l_ h) (n:=ls.length) (m:=(T1 D n k d).length) (sz:=1) (cs:=encI ls) (ys:=encI (T1 D n k d)) (rw:=A5) (B6 hr) (by rw [C1,E9w]) (by simp) (by rw [C1,E9w]) rfl (by omega) (by omega);rw [<-jM] at hA;have el:ls.length+(T1 D n k d).length=(ls++T1 D n k d).length:=by simp
   rw [el] at hA;refine ⟨_,_,by simp only [C7,a1,a2,a3,E8C,hB,hQ,hA]<;>rfl,.inr ⟨_,rfl,?_,by simp;omega,by simp⟩⟩;have:=N8 (h:=(h++[rT (encI (T1 D n k d))]).set id A7) (r:=⟨encI (ls++T1 D n k d),A5⟩);rw [E80] at this;exact this
 rw [xO,B5D,eo];cases c:Z5 D n k d with
 | false =>
  rw [c] at hI;obtain ⟨x,g',f1,f2⟩:=fin (g++[rT (vwC (l_ D) n m f),rT (D1 k l s p d),rT [],rT [.ns],rT (encI (uY D n k d))]) [] (VarI.nil (by simp)) ((Low.refl (E8m _)).new _) (by simp) (by simp) (by simp);refine ⟨x,g',?_,f2⟩;generalize vwC (l_ D) n m f=V at *;generalize D1 k l s p d=I at *;generalize encI (uY D n k d)=X at *;generalize encI (0::zI 32)=z at *;simp only [esc,esh,Nat.reduceAdd,Nat.reduceMul,Nat.reduceLT,eq_self,i0,hk,l4,l11,hI,hz,hX];exact f1
 | true =>
  rw [c] at hI;obtain ⟨H,hH⟩:=xEq (g++[rT (vwC (l_ D) n m f),rT (D1 k l s p d),rT [],rT [.ns],rT (encI (uY D n k d))]);have lH:l_ H=l_ g+5:=by rw [hH];simp
  have hV0:VarI H (l_ g+3) [] (l_ g) [(l_ g)+3,l_ g,l_ g+1]:=VarI.nil (by rw [hH];simp);obtain ⟨x,v,h2,h3,a1,a2,a3,a4,a5,a6,a7⟩:=hV0.push (by simp) (by omega) (by omega) (by intro q hq;simp only [E8J,List.not_mem_nil,or_false] at hq;omega) (by simp) (d.getD 0 0);obtain ⟨x',g',f1,f2⟩:=fin h3 [d.getD 0 0] a4 ((by rw [hH];exact (Low.refl (E8m _)).new _:Low (l_ g) g H).trans a5) (by rw [a6 _ (by simp) (by omega),hH];simp) (by rw [a6 _ (by simp) (by omega),hH];simp) (by simp);have i4:B9 H (pV (l_ g+1) 4)=A4 (iV (d.getD 0 0)):=by
   refine B8 (cs:=D1 k l s p d) (rw:=A5) (by rw [hH];simp) ?_ rfl;have:(D1 k l s p d)[4]?=(encI d)[0]? := rfl;rw [this,G6,E8h (by omega),E8k,E8h (by omega)];rfl
  have ad:∀ q,K2 6 1 (pV q 4) (iV 0)=A4 (pV q 4):=λq=>rfl
  have ef:F6 [o0] [(0,1,iV (d.getD 0 0))]=A4 [cI (d.getD 0 0)]:=rfl;have s1:F7 (g++[rT (vwC (l_ D) n m f),rT (D1 k l s p d),rT [],rT [.ns],rT (encI (0::zI 32))]) 33 (pV (l_ g+4) 0) (.a (encI (uY D n k d)))=A4 H:=by
   rw [S5,hH];simp only [E8F,E84,Option.join_some,fZ hz hX,D2O,List.set_cons_succ,E9A]
  refine ⟨x',g',?_,f2⟩;generalize vwC (l_ D) n m f=V at *;generalize D1 k l s p d=I at *;generalize encI (uY D n k d)=X at *;generalize encI (0::zI 32)=z at *;have fa4:∀ q,U2 (pV q 0) 4=A4 (pV q 4):=λq=>by simp [U2]
  simp only [esc,P7,H6,Z4,J0,zN,eq_self,i0,hk,l4,l11,hI,s1,a1,i4,ad,ef,a2,a3];exact f1
def D2Z(hD:okD D)(hd:l_ d=7)(hv:IsView g f D)(hk:k≠2) :
  ∃ x g',U6 0 [.a (vwC (l_ D) n m f),.a (D1 k l s p d)] g=A4 (.c x,g')/\D0e g' x (pO D n k d) (l_ g) []:=by
 have hIl:(D1 k l s p d).length=11:=by simp [D1,C1,hd]
 have l11:ldN (rT (D1 k l s p d)) 0 11=A4 (.a (D1 k l s p d)):=K9 hIl;have l4:=B5A (b:=l_ D) (n:=n) (m:=m) (f:=f);have i0:(D1 k l s p d)[0]?=A4 (cI k):=rfl;obtain ⟨G,hG⟩:=xEq (g++[rT (vwC (l_ D) n m f),rT (D1 k l s p d),rT [],rT [.ns],rT [.b A6],rT [fO (l_ g)],rT (vwC (l_ D) n m f),rT (D1 k l s p d)]);have lG:l_ G=l_ g+8:=by rw [hG];simp
 have P0:OwnP g G (vwC (l_ D) n m f) (D1 k l s p d) A6 []:=by
  rw [hG];exact ⟨VarI.nil (by simp),(Low.refl (E8m _)).new _,by simp,by simp,by simp,by simp,by simp,by simp,by simp⟩
 have emk1:A32 162 [pV (l_ g+4) 0,pV (l_ g+1) 0,pV (l_ g) 0,pV (l_ g+3) 0]=A4 (.c (fO (l_ g))):=rfl;have emk2:A32 164 [pV (l_ g+5) 0,pV (l_ g+3) 0]=A4 (.c (.f 164 [(l_ g+5,0),(l_ g+3,0)])):=rfl;have hcv:∀ (x y:Val) (h:A9),aQ rX (.c (.f 164 [(l_ g+5,0),(l_ g+3,0)])) [x,y] h=dT [x,y,pV (l_ g+5) 0,pV (l_ g+3) 0] h:=λ_ _ _=>Eq.trans rfl rfl
 have E7m:∀ h:A9,aQ A26 (.c (fO (l_ g))) [] h=lF [pV (l_ g+4) 0,pV (l_ g+1) 0,pV (l_ g) 0,pV (l_ g+3) 0] h:=λ_=>Eq.trans rfl rfl
 obtain ⟨h',f1,f2⟩:=C7r (σ:=Bool × List Int) (L:=λM x h=>A2r 135 M (.c (.f 164 [(l_ g+5,0),(l_ g+3,0)])) (pV (l_ g+6) 0) (pV (l_ g+7) 0) x h) (C:=λx y h=>aQ rX (.c (.f 164 [(l_ g+5,0),(l_ g+3,0)])) [x,y] h)
  (x3:=pV (l_ g+6) 0) (x4:=pV (l_ g+7) 0) (n:=n) (m:=m) (k:=k) (l:=l) (s:=s) (p:=p) (f:=f) hD hd
  (λj st h=>OwnP g h (vwC (l_ D) n m f) (D1 k l s p d) st.1 st.2/\st.2.length<=2*j) (A3q D n k d)
  (λm x h=>by rw [A9K];simp only [A9J])
  (λj st h hP=>⟨hP.1,by omega⟩)
  (λj st h hP=>⟨C8 hP.1.v2 rfl,C8 hP.1.i2 hIl,hv.since hP.1.low⟩)
  (λj st h no hP hj Y8 _=>by
   obtain ⟨h',g1,g2⟩:=E2p (j:=j) (no:=no) hd hP.1 (by omega);refine ⟨h',by rw [hcv];exact g1,g2,?_⟩;have:=hP.2;unfold A3q A5S;split
   ·simp only [E8o,List.length_singleton];split
    ·simp only [E8o,List.length_singleton];omega
    ·omega
   ·simp only [E8o,List.length_singleton];omega) 134 0 135 (A6,[]) G (by omega) (by omega) ⟨P0,by simp⟩
 have hS:sC [.a (vwC (l_ D) n m f),.a (D1 k l s p d),.c (.f 164 [(l_ g+5,0),(l_ g+3,0)])] (g++[rT (vwC (l_ D) n m f),rT (D1 k l s p d),rT [],rT [.ns],rT [.b A6],rT [fO (l_ g)]])=A4 (.t [],h'):=by
  refine B07 (n:=135) ?_;rw [B0G];rw [hG] at f1;generalize vwC (l_ D) n m f=V at *;generalize D1 k l s p d=I at *;simp only [esc];exact f1
 have t5:B9 h' (pV (l_ g+5) 0)=A4 (.c (fO (l_ g))):=B8 f2.1.f rfl rfl;obtain ⟨h2,q1,q2⟩:=D47 hd f2.1 (by omega);have kR:=D9g (D:=D) (n:=n) (d:=d) hk;simp only at kR;rw [kR] at q2;obtain ⟨x,hx,hd'⟩:=q2.var;have t3:B9 h2 (pV (l_ g+3) 0)=A4 (.c x):=B8 hx rfl (by simp);refine ⟨x,h2,?_,?_⟩
 ·rw [xO];generalize hfo:fO (l_ g)=F at *;generalize vwC (l_ D) n m f=V at *;generalize D1 k l s p d=I at *;have s0:st1 (rT [.b A6]) 0 (.b A6)=rT [.b A6]:=rfl;have s1:st1 (rT [.nf]) 0 F=rT [F]:=rfl;simp only [esc,P7,H6,Z4,J0,oN,A6X,zN,eq_self,i0,hk,s0,emk1,s1,l4,l11,emk2,hS,t5,E7m,q1,t3]
 ·rcases hd' with hd' | ⟨id,e,hr,hb,_⟩
  ·exact .inl hd'
  ·exact .inr ⟨id,e,hr,hb,by simp⟩
def D2j(hD:okD D)(hd:l_ d=7)(hv:IsView h f D) :
  E41 h (Y0 [.a (vwC (l_ D) n m f),.a (D1 k l s p d)] h) (pO D n k d):=by
 have key:∃ x g',U6 0 [.a (vwC (l_ D) n m f),.a (D1 k l s p d)] (ro h)=A4 (.c x,g')/\D0e g' x (pO D n k d) (ro h).length []:=by
  by_cases hk:k=2
  ·exact D49 hD hd hv.ro hk
  ·exact D2Z hD hd hv.ro hk
 obtain ⟨x,g',e,hd'⟩:=key;exact E3p (S:=Y0) (R:=U6) (N:=0) A80 A81 e (by rw [G8] at hd';exact hd')
section
variable (n m m2:Nat) (a0 x0 x3 x4:Val) (h:A9)
def A4k:FD A8:=⟨px 0X12af203e2a0240000721af4050021a19031829f3001c488390488011c14883e048818044881d2a171281b018181531307024061202971014294203006051111961820134884a17424882481042,[],[],[.tmp 2],[]⟩
def C1H:=A4k.R
def C7s:AtH:=A4k.lj 0 n [m] [x0,x3,x4]
def D0l:=tT [⟨2,3,C7s⟩]
def D1S:=mR C1H A4k D0l n [a0] h
def B7j:=mL A4k D0l 0 n [m] [x0,x3,x4] h
def D0f:=A4k.K Tryz.func8
def C19:=A4k.S
def C9r:A3Q C1H C19:=D0f.out
end
def D2p(hv:Has h v 256 (l_ D) (E3 D))(hD:okD D){i:Nat}(hi:i<l_ D) :
  ∃ id off,v=sV id off (l_ D) 256/\id<l_ h/\F0 256 v (iV (i:Int))=A4 (pV id (off+i*256))/\C9 h 256 (pV id (off+i*256))=A4 (.a (B4 D[i])):=by
 obtain ⟨id,off,rfl,hid,_,h2⟩:=hv.sl (by omega);refine ⟨id,off,rfl,hid,E4 hi,?_⟩;rw [h2 (i*256) 256 (by rw [H9 hD];omega),qS hD hi]
def D0s(hb:l_ b=256):F6 (E8l 256 (Cell.i .u8 0)) [(0,256,.a (B4 b))]=A4 (B4 b):=by
 have hl:(B4 b).length=256:=by rw [B5,hb]
 have hz:(E8l 256 (Cell.i .u8 0)).length=256:=E8S;generalize E8l 256 (Cell.i .u8 0)=z at *;generalize B4 b=y at *;simp only [F6,bQ];rw [C4 ⟨hl,by omega⟩];simp only [lay_all (by omega:y.length=z.length)]
def D8C{q:Nat}(hv:Has g v 256 (l_ D) (E3 D))(hD:okD D)(h60:l_ D<=1073741823):∀ (e i m id:Nat) (h:A9),i+e=l_ D->e<m->Low (l_ g) g h->l_ g<=id->rd h id=rT (E3 (D.take i)) ->
  ∃ v' h',C7s q m v (sV id 0 i 256) (iV (i:Int)) h=A4 (v',h')/\Out (l_ g) h' v' 256 (l_ D) (E3 D)
 | e,i,0,id,h,_,hm,_,_,_=>by omega
 | 0,i,m+1,id,h,hi,hm,hlow,hid,hr=>by
  have e0:i=(l_ D):=by omega
  have c0:¬ (i:Int)<(l_ D:Nat):=by omega
  have hl:=(hv.since hlow).len;rw [e0,List.take_length] at hr;rw [B7j];exact ⟨_,_,by simp only [esc,hl,c0]<;>rfl,H9 hD,id,by rw [e0],hid,hr⟩
 | e+1,i,m+1,id,h,hi,hm,hlow,hid,hr=>by
  have K6:i<(l_ D):=by omega
  have c0:(i:Int)<(l_ D:Nat):=by omega
  have hvh:=hv.since hlow;have hl:=hvh.len;obtain ⟨jd,off,e1,hj,a1,l1⟩:=D2p hvh hD K6;have ef:=D0s (hD.at K6);have htl:(D.take i).length=i:=by rw [E8Y];omega
  obtain ⟨h',p1,p2,p3,p4,p5⟩:=push (ys:=B4 D[i]) hlow hr (by rw [H9 (hD.take i),htl]) hid (by rw [B5,hD.at K6]) (by omega) (by omega);have et:E3 (D.take i)++B4 D[i]=E3 (D.take (i+1)):=by
   rw [E8R K6,C9A,D6n]
  rw [et] at p2;obtain ⟨v',h'',f1,f2⟩:=D8C (q:=q) hv hD h60 e (i+1) m (l_ h+1) h' (by omega) (by omega) p3 p4 p2;refine ⟨v',h'',?_,f2⟩;rw [B7j];generalize B4 D[i]=y at *;simp only [esc,hl,c0,a1,l1,ef,p1,E2 (a:=i) (by omega)];exact f1
def E6X(hv:Has h v 256 (l_ D) (E3 D))(hD:okD D)(h60:l_ D<=1073741823):C19 [v] h=A4 (sV (l_ h) 0 (l_ D) 256,h++[rT (E3 D)]):=by
 have key:∀ g,Has g v 256 (l_ D) (E3 D)->∃ v' g',C1H (l_ D+1) [v] g=A4 (v',g')/\Out (l_ g) g' v' 256 (l_ D) (E3 D):=by
  intro g hv;obtain ⟨v',h',f1,f2⟩:=D8C (q:=l_ D+1) hv hD h60 (l_ D) 0 (l_ D+1) (l_ g+1) (g++[rT [],rT []]) (by omega) (by omega) ((Low.refl (E8m _)).new _) (by omega) (by simp [E3]);rw [D1S];exact ⟨v',h',by simp only [esc];exact f1,f2⟩
 obtain ⟨v',g',e,ho⟩:=key (ro h) hv.ro;exact C9r e (by simpa [G8] using ho) fQ
def C8y{a n:Nat}(hv:Has h (.c x) 1 n cs)(hn:1<=n)(han:a+n<=256) :
  A77 [.a [cI a,x]] h=A4 (iV 0,h):=by
 have key:∀ g,Has g (.c x) 1 n cs->∃ g',A7Q 0 [.a [cI a,x]] g=A4 (iV 0,g'):=by
  intro g hv;have c1:¬ (n:Int)<1:=by omega
  have c2:¬ (256:Int)<n:=by omega
  have c3:¬ (a:Int)<0:=by omega
  have e1:E8r .i64 (256-(n:Int))=256-n:=wrap_i64 (by omega) (by omega);have c4:¬ (256:Int)-n<a:=by omega
  rw [C10];exact ⟨_,by simp only [esc,esh,hv.len,c1,c2,c3,e1,c4]<;>rfl⟩
 obtain ⟨g',e⟩:=key (ro h) hv.ro;exact B8f e rfl
def B5i{x:Cell}{n:Nat}{data l:List UInt8}{z:List Cell}(hv:Has g (.c x) 1 n (B4 data)){a q:Nat}(han:a+n<=256)(hl:l_ l=256)(hz:z.length=256)(hn:data.length=n):∀ d i m,i+d=n->d<m ->
  C1b q m (pV (l_ g) 0) (pV (l_ g+1) 0) (pV (l_ g+2) 0) (.c x) (iV n) (iV i) (g++[rT (B4 (H7 l a (data.take i))),rT [cI a,x],rT z]) =
   A4 (.a (B4 (H7 l a data)),g++[rT (B4 (H7 l a data)),rT [cI a,x],rT (B4 (H7 l a data))])
 | d,i,0,_,hm=>by omega
 | 0,i,m+1,hi,hm=>by
  have e0:i=n:=by omega
  subst e0;have c0:¬ (i:Int)<i:=by omega
  have hE:(B4 (H7 l a data)).length=256:=by rw [B5,O6 (by omega),hl]
  rw [B2u,E8B (by omega)];simp only [esc,esh,c0,hE,hz]
 | d+1,i,m+1,hi,hm=>by
  have ih:=B5i hv (z:=z) (q:=q) han hl hz hn d (i+1) m (by omega) (by omega);obtain ⟨id,off,e,hid,h1,h2⟩:=(hv.more [rT (B4 (H7 l a (data.take i))),rT [cI a,x],rT z]).sl (by omega);cases e;have c0:(i:Int)<n:=by omega
  have hx:=h1 i (.i .u8 data[i].toNat) (by rw [zG,E8h (by omega)];rfl);have eb:F0 1 (sV id off n 1) (iV (i:Int))=A4 (pV id (off+i)):=by rw [E4 (by omega)];simp
  have ea:K2 256 1 (pV (l_ g) 0) (iV ((a+i:Nat):Int))=A4 (pV (l_ g) (a+i)):=by rw [O2 (by omega)];simp
  have hE:(B4 (H7 l a (data.take i))).length=256:=by rw [B5,O6 (by simp;omega),hl]
  have ho:a+i<256:=by omega
  have e5:(H7 l a (data.take i)).set (a+i) data[i]=H7 l a (data.take (i+1)):=by
   have:=B51 (l:=l) (xs:=data.take i) (a:=a) (x:=data[i]) (by simp;omega);rw [E8Y,Nat.min_eq_left (by omega)] at this;rw [this,E8R (by omega)]
  have es:(B4 (H7 l a (data.take i))).set (a+i) (.i .u8 data[i].toNat)=B4 (H7 l a (data.take (i+1))):=by rw [oZ,e5]
  rw [B2u];simp only [esc,esh,c0,eb,hx,A50 (show a+i<9223372036854775808 by omega),ea,hE,ho,es,E2 (a:=i) (by omega)];exact ih
def C1a{n a:Nat}{data l:List UInt8}(hv:Has h (.c x) 1 n (B4 data))(hn:1<=n)(han:a+n<=256)(hl:l_ l=256) :
  A6L [.a (B4 l),.a [cI a,x]] h=A4 (.a (B4 (H7 l a data)),h):=by
 have hd:data.length=n:=by simpa [B5] using hv.length
 have key:∀ N,n<N->∀ g,Has g (.c x) 1 n (B4 data)->∃ g',B3w N [.a (B4 l),.a [cI a,x]] g=A4 (.a (B4 (H7 l a data)),g'):=by
  intro N hN g hv;have hz:(E8l 256 (Cell.i .u8 0)).length=256:=E8S;have hE:(B4 l).length=256:=by rw [B5,hl]
  rw [C6g];generalize E8l 256 (Cell.i .u8 0)=z at *;have e:=B5i hv (l:=l) (z:=z) (q:=N) han hl hz hd n 0 N (by omega) (by omega);simp only [E9i,C0L] at e;have hc:=C8y (hv.more [rT (B4 l),rT [cI a,x],rT z]) hn han;exact ⟨_,by simp only [esc,esh,Nat.reduceAdd,hE,hz,hc,hv.len];exact e⟩
 obtain ⟨g',e⟩:=key (n+1) (by omega) (ro h) hv.ro;exact C2q e (by simp)
def D8J:F6 [o0,.ns] [(0,1,iV a),(1,1,.c x)]=A4 [cI a,x]:=rfl
def D57:F6 ([]:List Cell) []=A4 []:=rfl
def C8T(hd:l_ d=7)(h8:j<8)(c:A5J k l s p d=A5) :
  A8b [iV j,.a (D1 k l s p d)] h=A4 (.t [.a [cI ((32*j:Nat):Int),.sl (l_ h) 0 32 1],.c o0],h++[rT (B4 (cZ k l s p d))]):=by
 have key:∀ g,∃ g',A7U 0 [iV j,.a (D1 k l s p d)] g=A4 (.t [.a [cI ((32*j:Nat):Int),.sl (l_ g+4) 0 32 1],.c o0],g')/\rd g' (l_ g+4)=rT (B4 (cZ k l s p d)):=by
  intro g;have c1:¬ (j:Int)<0:=by omega
  have c2:¬ (8:Int)<=j:=by omega
  have hP:=λh=>C0E (k:=k) (l:=l) (s:=s) (p:=p) (h:=h) hd
  simp only [c,S8] at hP;have hE:(encI d).length=7:=by rw [C1,hd]
  have hz:(E8l 32 (Cell.i .u8 0)).length=32:=E8S;have hB:(B4 (cZ k l s p d)).length=32:=by rw [B5,A2x hd]
  have w1:E8r .i64 ((j:Int)*32)=((32*j:Nat):Int):=by rw [wrap_i64 (by omega) (by omega)];omega
  have p1:=A8h (h:=g++[rT (D1 k l s p d),rT [o0,.ns],rT (B4 (cZ k l s p d)),rT []]) (id:=l_ g+3) (jd:=l_ g+2) (n:=0) (m:=32) (sz:=1) (cs:=[]) (ys:=B4 (cZ k l s p d)) (rw:=A5) (by simp) (by simp) (by simp) (by rw [hB]) rfl (by omega) (by omega);generalize B4 (cZ k l s p d)=B at *;simp only [esc] at p1;rw [C14];generalize E8l 32 (Cell.i .u8 0)=z at *;exact ⟨_,by simp only [esc,esh,Nat.reduceAdd,c1,c2,hE,hP,hz,hB,w1,D57,p1,D8J,Int.cast_ofNat_Int]<;>rfl,by simp⟩
 obtain ⟨g',e,hr⟩:=key (ro h);have hr':=hr;rw [G8] at hr';have hc1:P8 g' (l_ h) [] [cI ((32*j:Nat):Int),.sl ((ro h).length+4) 0 32 1]=A4 ([cI ((32*j:Nat):Int),.sl (l_ h) 0 32 1],[(l_ h)+4]):=by
  rw [G8];simp [P8,Cell.low,Cell.flat,lQ hr' (by simp:M9 (B4 (cZ k l s p d))=A5)]
 have hc2:P8 g' (l_ h) [(l_ h)+4] [o0]=A4 ([o0],[(l_ h)+4]):=fM (by simp);have:=B8i e (v2:=.t [.a [cI ((32*j:Nat):Int),.sl (l_ h) 0 32 1],.c o0]) (ids:=[(l_ h)+4]) (by
  simp only [X5,iJ,hc1,hc2,E8z,E85])
 rw [this];simp [hr']
def B7F(hb:l_ b=256)(hd:l_ d=7)(h8:j<8)(c:A5J k l s p d=A5) :
  yH [.a (B4 b),iV j,.a (D1 k l s p d)] h=A4 (.t [.a (B4 (H7 b (32*j) (cZ k l s p d))),.c o0],h):=by
 have key:∀ g,∃ g',B0R 0 [.a (B4 b),iV j,.a (D1 k l s p d)] g=A4 (.t [.a (B4 (H7 b (32*j) (cZ k l s p d))),.c o0],g'):=by
  intro g;have hB:(B4 b).length=256:=by rw [B5,hb]
  have hE:(encI d).length=7:=by rw [C1,hd]
  have hI:(B4 (cZ k l s p d)).length=32:=by rw [B5,A2x hd]
  have hz:(E8l 256 (Cell.i .u8 0)).length=256:=E8S;have hP:=λh=>C8T (h:=h) hd h8 c
  rw [C4Y];generalize E8l 256 (Cell.i .u8 0)=z at *;have hL:=C1a (h:=g++[rT (B4 b),rT (D1 k l s p d),rT z,rT (B4 (cZ k l s p d)),rT [cI ((32*j:Nat):Int),.sl (l_ g+3) 0 32 1]]) (x:=.sl (l_ g+3) 0 32 1) (n:=32) (a:=32*j) (data:=cZ k l s p d) (l:=b) (Has.tr (by simp) (by rw [hI]) (V6 _)) (by omega) (by omega) hb;have hR:(B4 (H7 b (32*j) (cZ k l s p d))).length=256:=by rw [B5,O6 (by rw [A2x hd];omega),hb]
  exact ⟨_,by simp only [esc,esh,Nat.reduceAdd,hB,hE,hz,hP,hL,hR]<;>rfl⟩
 obtain ⟨g',e⟩:=key (ro h);exact B9X e (by simp)
def jD(b:List UInt8)(j:Nat):List UInt8:=(b.drop (32*j)).take 32
def A2G(hb:l_ b=256)(hj:j<8):(jD b j).length=32:=by unfold jD;simp;omega
def D5k{g:A9}{z:List Cell}{q:Nat}(hb:l_ b=256)(hz:z.length=32)(hj:j<8):∀ e i m:Nat,i+e=32->e<m ->
  C1p q m (iV j) (pV (l_ g) 0) (pV (l_ g+1) 0) (pV (l_ g+2) 0) (iV i) (g++[rT (B4 b),rT z,rT (B4 ((jD b j).take i++zeros (32-i)))]) =
   A4 (.a (B4 (jD b j)),g++[rT (B4 b),rT (B4 (jD b j)),rT (B4 (jD b j))])
 | e,i,0,_,hm=>by omega
 | 0,i,m+1,hi,hm=>by
  have e0:i=32:=by omega
  subst e0;have h1':¬ ((32:Nat):Int)<32:=by omega
  have hR:=A2G hb hj;have hl:(B4 (jD b j)).length=32:=by rw [B5,hR]
  have e1:B4 ((jD b j).take 32++zeros (32-32))=B4 (jD b j):=by rw [E8B (by omega)];simp [zeros]
  rw [B2x,e1];simp only [esc,esh,h1',hl,hz]
 | e+1,i,m+1,hi,hm=>by
  have ih:=D5k (g:=g) (q:=q) hb hz hj e (i+1) m (by omega) (by omega);have hR:=A2G hb hj;have h1':(i:Int)<32:=by omega
  have w1:E8r .i64 ((j:Int)*32)=((32*j:Nat):Int):=by rw [wrap_i64 (by omega) (by omega)];omega
  have a1:K2 256 1 (pV (l_ g) 0) (iV ((32*j+i:Nat):Int))=A4 (pV (l_ g) (32*j+i)):=by rw [O2 (by omega)];simp
  have a2:K2 32 1 (pV (l_ g+2) 0) (iV (i:Int))=A4 (pV (l_ g+2) i):=by rw [O2 (by omega)];simp
  have l1:(B4 b)[32*j+i]?=A4 (.i .u8 (jD b j)[i].toNat):=by
   rw [zG,E8h (by omega)];have:(jD b j)[i]=b[32*j+i]'(by omega):=by simp [jD]
   rw [this];rfl
  have ho:i<(B4 ((jD b j).take i++zeros (32-i))).length:=by rw [B5,E8o,zeros_length,E8Y];omega
  have es:(B4 ((jD b j).take i++zeros (32-i))).set i (.i .u8 (jD b j)[i].toNat)=B4 ((jD b j).take (i+1)++zeros (32-(i+1))):=by
   rw [oZ];refine congrArg B4 ?_;have h6:((jD b j).take i).length=i:=by simp;omega
   rw [E9a _ _ (by omega),h6,E9t,E8R (by omega),E8t];refine congrArg ((jD b j).take i ++ ·) ?_;rw [show 32-i=32-(i+1)+1 by omega];unfold zeros;rw [E81,E9A];rfl
  rw [B2x];simp only [esc,esh,h1',w1,A50 (show 32*j+i<9223372036854775808 by omega),a1,a2,l1,ho,es,E2 (a:=i) (by omega)];exact ih
def D3c(hb:l_ b=256)(hj:j<8):B31 [.a (B4 b),iV j] h=A4 (.a (B4 (jD b j)),h):=by
 have key:∀ N,32<N->∀ g,∃ g',B3B N [.a (B4 b),iV j] g=A4 (.a (B4 (jD b j)),g'):=by
  intro N hN g;have c1:¬ (j:Int)<0:=by omega
  have c2:¬ (8:Int)<=j:=by omega
  have hz:(B4 (zeros 32)).length=32:=by rw [B5];exact zeros_length
  have e:=D5k (g:=g) (z:=B4 (zeros 32)) (q:=N) hb hz hj 32 0 N (by omega) (by omega);simp only [E9i,E8I,Nat.sub_zero] at e;rw [C6k,G9];generalize zeros 32=zz at *;exact ⟨_,by simp only [esc,esh,Nat.reduceAdd,c1,c2];exact e⟩
 obtain ⟨g',e⟩:=key (l_ h+33) (by omega) (ro h);exact C2v e (by simp)
def A7g:(D1 0 0 0 0 (zI 7)).length=11:=rfl
def C5N:[o0,o0,o0,o0,o0,o0,o0,o0,o0,o0,o0]=D1 0 0 0 0 (zI 7):=rfl
def C6M:F6 (D1 0 0 0 0 (zI 7)) []=A4 (D1 0 0 0 0 (zI 7)):=rfl
def C1o(hb:l_ b=256)(hj:j<8):A6O [.a (B4 b),iV j] h=A4 (.t [.a (oU (jD b j)),.c (.b (cD (jD b j)))],h):=by
 have key:∀ g,∃ g',B3A 0 [.a (B4 b),iV j] g=A4 (.t [.a (oU (jD b j)),.c (.b (cD (jD b j)))],g'):=by
  intro g;have c1:¬ (j:Int)<0:=by omega
  have c2:¬ (8:Int)<=j:=by omega
  have hB:(B4 b).length=256:=by rw [B5,hb]
  have hR:=λh=>D3c (h:=h) hb hj
  have hC:=λh=>C7Z (b:=jD b j) (h:=h) (A2G hb hj)
  have hl:=A7g;have pE:=A8l (b:=jD b j);rw [C6j,C5N];generalize D1 0 0 0 0 (zI 7)=z at *;exact ⟨_,by simp only [esc,esh,c1,c2,hB,hR,hC,hl,pE]<;>rfl⟩
 obtain ⟨g',e⟩:=key (ro h);exact C2u e (by simp [C0n])
def uZ(D:Dev)(n i:Int):List UInt8:=jD (blk D (aY (l_ D) n i)) (kI (l_ D) n i).toNat
def A9R(D:Dev)(n i:Int):List Cell:=bif Q2 (l_ D) n i then oU (uZ D n i) else D1 0 0 0 0 (zI 7)
def kdV(D:Dev)(n i:Int):Int:=bif Q2 (l_ D) n i then (bif cD (uZ D n i) then B2U (uZ D n i) else 0) else 0
def D07(D:Dev)(n i:Int):∃ l s p d,A9R D n i=D1 (kdV D n i) l s p d/\(l_ d)=7:=by
 unfold A9R kdV;cases Q2 (l_ D) n i with
 | false=>exact ⟨0,0,0,zI 7,rfl,N5⟩
 | true =>
  unfold oU;cases cD (uZ D n i) with
  | false=>exact ⟨0,0,0,zI 7,rfl,N5⟩
  | true=>exact ⟨_,_,_,_,rfl,M7⟩
def D6F(D:Dev)(n i:Int):M9 (A9R D n i)=A5:=by
 obtain ⟨l,s,p,d,e,hd⟩:=D07 D n i;rw [e];exact B8D (l:=_::_::_::_::d)
def C98{b:Int}(hi:Q2 b n i=A6):F9 [.a (vwC b n m f),iV i] h=A4 (.a (D1 0 0 0 0 (zI 7)),h):=by
 have key:∀ g,∃ g',mY 0 [.a (vwC b n m f),iV i] g=A4 (.a (D1 0 0 0 0 (zI 7)),g'):=by
  intro g;have l3:=C1w (b:=b) (n:=n) (m:=m) (f:=f);have hW:=λh=>A8q (b:=b) (n:=n) (m:=m) (i:=i) (h:=h)
  simp only [hi] at hW;have hf:=C6M;have hl:=A7g;rw [A18,C5N];generalize vwC b n m f=V at *;generalize D1 0 0 0 0 (zI 7)=z at *;exact ⟨_,by simp only [esc,esh,l3,hW,hf,hl]<;>rfl⟩
 obtain ⟨g',e⟩:=key (ro h);exact yJ e rfl
def T8(hD:okD D)(hv:IsView h f D):F9 [.a (vwC (l_ D) n m f),iV i] h=A4 (.a (A9R D n i),h):=by
 cases hi:Q2 (l_ D) n i with
 | false =>
  rw [C98 hi];unfold A9R;rw [hi];rfl
 | true =>
  have key:∀ g,IsView g f D->∃ g',mY 0 [.a (vwC (l_ D) n m f),iV i] g=A4 (.a (A9R D n i),g'):=by
   intro g hv;have l3:=C1w (b:=l_ D) (n:=n) (m:=m) (f:=f);have l4:=B5A (b:=l_ D) (n:=n) (m:=m) (f:=f);have hW:=λh=>A8q (b:=l_ D) (n:=n) (m:=m) (i:=i) (h:=h)
   simp only [hi] at hW;have hf:=C6M;have hl:=A7g;have hK:∃ j:Nat,kI (l_ D) n i=j/\j<8:=by
    refine ⟨(kI (l_ D) n i).toNat,?_,?_⟩<;>unfold kI<;>rw [hi,S8]<;>omega
   obtain ⟨j,hj,hj8⟩:=hK;have hB:=K8 (n:=n) (m:=m) (no:=aY (l_ D) n i) (h:=g++[rT (vwC (l_ D) n m f),rT (D1 0 0 0 0 (zI 7))]) hD (hv.more _);have hG:=λh=>C1o (b:=blk D (aY (l_ D) n i)) (j:=j) (h:=h) (J6 hD) hj8
   have er:jD (blk D (aY (l_ D) n i)) j=uZ D n i:=by unfold uZ;rw [hj,E8D]
   simp only [er] at hG;simp only [hj] at hW;have pE:=A8l (b:=uZ D n i);have ei:A9R D n i=oU (uZ D n i):=by unfold A9R;rw [hi];rfl
   rw [A18,C5N,ei];generalize vwC (l_ D) n m f=V at *;generalize D1 0 0 0 0 (zI 7)=z at *;generalize oU (uZ D n i)=y at *;exact ⟨_,by simp only [esc,esh,Nat.reduceAdd,l3,l4,hW,hB,hG,hf,hl,pE]<;>rfl⟩
  obtain ⟨g',e⟩:=key (ro h) hv.ro;exact yJ e (D6F D n i)
def B6C(b:List UInt8)(i:Int):Bool:=decide (0<=i)&&decide (i<2048)&&decide ((b.getD (i/8).toNat 0).toNat/2 ^ (i%8).toNat%2=1)
def A0A(i:Nat):Nat:=2 ^ (i%8)
def B5b(i:Nat):A0A i<256:=by
 have h:i%8<8:=by omega
 unfold A0A;generalize i%8=j at *;have:j=0\/j=1\/j=2\/j=3\/j=4\/j=5\/j=6\/j=7:=by omega
 rcases this with rfl | rfl | rfl | rfl | rfl | rfl | rfl | rfl<;>decide
def B4l{i:Nat}(hi:i<2048):sU [iV (i:Int)] h=A4 (.t [.c (cI ((i/8:Nat):Int)),.c (.i .u8 (A0A i:Int)),.c (.b A5)],h):=by
 refine A45 (n:=0) (h2:=ro h) ?_ rfl;have c1:¬ (i:Int)<0:=by omega
 have c2:¬ (2048:Int)<=i:=by omega
 have q1:N4 .quo (iV (i:Int)) (iV 8)=A4 (iV ((i/8:Nat):Int)):=by
  rw [B1M (by omega) (by omega) (by omega)];congr 3
 have r1:N4 .rem (iV (i:Int)) (iV 8)=A4 (iV ((i%8:Nat):Int)):=by
  rw [D5n (by omega) (by omega)];congr 3
 have w1:E8r .u64 ((i%8:Nat):Int)=((i%8:Nat):Int):=wrap_u64 (by omega) (by omega);have s1:N4 .shl (.c (.i .u8 1)) (.c (.i .u64 ((i%8:Nat):Int)))=A4 (.c (.i .u8 (A0A i:Int))):=by
  have hm:=B5b i;rw [B96 (by omega),E8D];have e1:Nat.min (i%8) IntKind.u8.bits=i%8:=by
   have:IntKind.u8.bits=8:=rfl;rw [this];exact Nat.min_eq_left (by omega)
  have e2:(1:Int)*2 ^ (i%8)=(A0A i:Int):=by unfold A0A;rw [Int.natCast_pow];simp
  rw [e1,e2,wrap_u8 (by omega) (by omega)]
 rw [A8L];simp only [esc,c1,c2,q1,r1,w1,s1]
def C5l(hi:i<0\/2048<=i):sU [iV i] h=A4 (.t [.c o0,.c (.i .u8 0),.c (.b A6)],h):=by
 refine A45 (n:=0) (h2:=ro h) ?_ rfl;rw [A8L];by_cases c1:i<0
 ·simp only [esc,c1]
 ·have c2:2048<=i:=by omega
  simp only [esc,c1,c2]
def E5b{a b:Nat}(ha:a<256)(hb:b<256):N4 .and (.c (.i .u8 a)) (.c (.i .u8 b))=A4 (.c (.i .u8 ((a &&& b:Nat):Int))):=by
 have h1:a &&& b<2 ^ 8:=Nat.and_lt_two_pow _ hb;rw [D3v];have e:(BitVec.ofInt IntKind.u8.bits (a:Int) &&& BitVec.ofInt IntKind.u8.bits (b:Int)).toNat=a &&& b:=by
  have h8:IntKind.u8.bits=8:=rfl;rw [BitVec.toNat_and,BitVec.toNat_ofInt,BitVec.toNat_ofInt,h8];have e1:((a:Int)%(2 ^ 8:Nat)).toNat=a:=by omega
  have e2:((b:Int)%(2 ^ 8:Nat)).toNat=b:=by omega
  rw [e1,e2]
 rw [e,wrap_u8 (by omega) (by omega)]
def E6Q{a b:Nat}(ha:a<256)(hb:b<256):N4 .or (.c (.i .u8 a)) (.c (.i .u8 b))=A4 (.c (.i .u8 ((a ||| b:Nat):Int))):=by
 have h1:a ||| b<2 ^ 8:=Nat.or_lt_two_pow ha hb
 rw [D14];have e:(BitVec.ofInt IntKind.u8.bits (a:Int) ||| BitVec.ofInt IntKind.u8.bits (b:Int)).toNat=a ||| b:=by
  have h8:IntKind.u8.bits=8:=rfl;rw [BitVec.toNat_or,BitVec.toNat_ofInt,BitVec.toNat_ofInt,h8];have e1:((a:Int)%(2 ^ 8:Nat)).toNat=a:=by omega
  have e2:((b:Int)%(2 ^ 8:Nat)).toNat=b:=by omega
  rw [e1,e2]
 rw [e,wrap_u8 (by omega) (by omega)]
def E3m{a:Nat}:(a &&& 2 ^ j=0)↔¬ a/2 ^ j%2=1:=by
 have h:=Nat.testBit_eq_decide_div_mod_eq (x:=a) (i:=j);constructor
 ·intro h0 h1;rw [O4 h1] at h;have h2:(a &&& 2 ^ j).testBit j=A5:=by rw [Nat.testBit_and,h,Nat.testBit_two_pow,O4 rfl];rfl
  rw [h0,Nat.zero_testBit] at h2;cases h2
 ·intro h1;rw [W3 h1] at h;refine Nat.eq_of_testBit_eq λi=>?_
  rw [Nat.testBit_and,Nat.testBit_two_pow,Nat.zero_testBit];by_cases c:j=i
  ·subst c;rw [h];rfl
  ·rw [W3 c,Bool.and_false]
def D2e(hb:l_ b=256):B3P [.a (B4 b),iV i] h=A4 (bV (B6C b i),h):=by
 have key:∀ g,∃ g',B3f 0 [.a (B4 b),iV i] g=A4 (bV (B6C b i),g'):=by
  intro g;rw [C5Z];by_cases c:0<=i/\i<2048
  ·obtain ⟨k,rfl⟩:∃ k:Nat,i=k:=⟨i.toNat,by omega⟩;have hk:k<2048:=by omega
   have hW:=λh=>B4l (h:=h) hk
   have W4:k/8<(l_ b):=by omega
   have ad:=O2 (k:=.i64) (id:=l_ g) (off:=0) (sz:=1) (j:=k/8) (n:=256) (by omega);rw [E9w,E8A] at ad;have l1:(B4 b)[k/8]?=A4 (.i .u8 b[k/8].toNat):=by rw [zG,E8h W4];rfl
   have a1:=E5b (a:=b[k/8].toNat) (b:=A0A k) b[k/8].toNat_lt (B5b k);have e:B6C b k=decide (¬ (((b[k/8].toNat &&& A0A k:Nat):Int)=0)):=by
    have h1:(k:Int)/8=((k/8:Nat):Int):=rfl;have h2:(k:Int)%8=((k%8:Nat):Int):=rfl;unfold B6C;rw [O4 c.1,O4 c.2,E8K,E8K,h1,h2,E8D,E8D,E8k,E8h W4,Option.getD_some];have:=E3m (a:=b[k/8].toNat) (j:=k%8);unfold A0A;by_cases c:b[k/8].toNat/2 ^ (k%8)%2=1
    ·rw [O4 c,O4];intro h;exact this.1 (by omega) c
    ·rw [W3 c,W3];intro h;exact h (by have:=this.2 c;omega)
   rw [e];generalize B4 b=y at *;exact ⟨_,by simp only [esc,esh,hW,ad,l1,a1]<;>rfl⟩
  ·have hW:=λh=>C5l (i:=i) (h:=h) (by omega)
   have e:B6C b i=A6:=by
    unfold B6C;rw [Bool.and_eq_false_iff,Bool.and_eq_false_iff,decide_eq_false_iff_not,decide_eq_false_iff_not];omega
   rw [e];generalize B4 b=y at *;exact ⟨_,by simp only [esc,esh,hW]<;>rfl⟩
 obtain ⟨g',e⟩:=key (ro h);exact C17 e rfl
def vW(kd:Int->Int):Nat->Nat->List Int
 | 0,_=>[]
 | e+1,k=>if kd ((k:Int)+1)=0 then vW kd e (k+1) else ((k:Int)+1)::vW kd e (k+1)
def C0I(kd:Int->Int):∀ e k,(vW kd e k).length<=e
 | 0,k=>by simp [vW]
 | e+1,k=>by
  have:=C0I kd e (k+1);unfold vW;split<;>simp<;>omega
def B41{b n:Int}{kd:Int->Int}{p q:Nat}(h1:rd g p=rT (vwC b n m f))
  (hI:∀ (i:Int) (h:A9),Low (l_ g) g h->∃ l s q d,F9 [.a (vwC b n m f),iV i] h=A4 (.a (D1 (kd i) l s q d),h)) :
  ∀ (e k M id:Nat) (h:A9) (l:List Int),k+e=128->e<M->l_ l<=k->Low (l_ g) g h->l_ g<=id->rd h id=rT (encI l) ->
  ∃ v' h',A3u q M (pV p 0) (sV id 0 (l_ l) 1) (iV (k:Int)) h=A4 (v',h')/\Out (l_ g) h' v' 1 (l++vW kd e k).length (encI (l++vW kd e k))
 | e,k,0,id,h,l,_,hm,_,_,_,_=>by omega
 | 0,k,M+1,id,h,l,hk,hm,hl,hlow,hid,hr=>by
  have c0:¬ (k:Int)<128:=by omega
  rw [zS,vW,E8C];exact ⟨_,_,by simp only [esc,c0]<;>rfl,by rw [C1,E9w],id,rfl,hid,hr⟩
 | e+1,k,M+1,id,h,l,hk,hm,hl,hlow,hid,hr=>by
  have c0:(k:Int)<128:=by omega
  have w1:E8r .i64 ((k:Int)+1)=(k:Int)+1:=wrap_i64 (by omega) (by omega);have hV:=C8 (h:=h) (id:=p) (hlow.rd h1) (n:=4) rfl;obtain ⟨l',s',q',d',hi⟩:=hI ((k:Int)+1) h hlow;have f1:B7b (.a (D1 (kd ((k:Int)+1)) l' s' q' d')) 0=A4 (iV (kd ((k:Int)+1))):=rfl;have ek:(k:Int)+1=((k+1:Nat):Int):=by omega
  rw [zS,vW];by_cases c:kd ((k:Int)+1)=0
  ·obtain ⟨v',h',g1,g2⟩:=B41 (q:=q) h1 hI e (k+1) M id h l (by omega) (by omega) (by omega) hlow hid hr;rw [C4 c];rw [<-ek] at g1;refine ⟨v',h',?_,g2⟩;generalize vwC b n m f=V at *;simp only [esc,c0,hV,w1,hi,c,zR];exact g1
  ·have ef:F6 [o0] [(0,1,iV ((k:Int)+1))]=A4 (encI [(k:Int)+1]):=rfl;obtain ⟨h',a1,a2,a3,a4,a5⟩:=push (n:=l_ l) (sz:=1) (ys:=encI [(k:Int)+1]) hlow hr (by rw [C1,E9w]) hid rfl (by omega) (by omega);rw [<-jM] at a2;obtain ⟨v',h'',g1,g2⟩:=B41 (q:=q) h1 hI e (k+1) M (l_ h+1) h' (l++[(k:Int)+1]) (by omega) (by omega) (by simp;omega) a3 a4 a2;rw [E8t,List.singleton_append] at g2;have el:(l++[(k:Int)+1]).length=l_ l+1:=by simp
   rw [el,<-ek] at g1;rw [C5 c];refine ⟨v',h'',?_,g2⟩;generalize vwC b n m f=V at *;simp only [esc,c0,hV,w1,hi,f1,c,zR,ef,a1];exact g1
def C89{b:Int}{kd:Int->Int}(hI:∀ (i:Int) (g:A9),Low (l_ h) (ro h) g->∃ l s q d,F9 [.a (vwC b n m f),iV i] g=A4 (.a (D1 (kd i) l s q d),g)) :
  jX [.a (vwC b n m f)] h=A4 (sV (l_ h) 0 (vW kd 128 0).length 1,h++[rT (encI (vW kd 128 0))]):=by
 have key:∃ v g',uG 129 [.a (vwC b n m f)] (ro h)=A4 (v,g')/\Out (ro h).length g' v 1 (vW kd 128 0).length (encI (vW kd 128 0)):=by
  have hl:=G8 (h:=h);generalize hg:ro h=g at *;obtain ⟨v',h',g1,g2⟩:=B41 (p:=l_ g) (q:=129) (g:=g++[rT (vwC b n m f)]) (by simp) (λi k hk=>hI i k ⟨by omega,by have:=hk.2.1;simp at this;omega,λid hid=>by rw [hk.2.2 id (by simp;omega)];exact D5 (by omega)⟩)
   128 0 129 (l_ g+2) (g++[rT (vwC b n m f),rT [],rT []]) [] (by omega) (by omega) (by simp)
   (by
    have:=(Low.refl (h:=g++[rT (vwC b n m f)]) (E8m _)).new [rT [],rT []];simpa using this) (by simp) (by simp [encI])
  rw [E8I] at g2;rw [E8X] at g1;rw [B2D];refine ⟨v',h',?_,g2.1,?_⟩
  ·generalize vwC b n m f=V at *;simp only [esc];exact g1
  ·obtain ⟨id,e,hb,hr⟩:=g2.2;exact ⟨id,e,by simp at hb;omega,hr⟩
 obtain ⟨v,g',e,ho⟩:=key;exact B1b e (by simpa [G8] using ho) (by simp)
def C88(hD:okD D)(hv:IsView h f D):jX [.a (vwC (l_ D) n m f)] h=A4 (sV (l_ h) 0 (vW (kdV D n) 128 0).length 1,h++[rT (encI (vW (kdV D n) 128 0))]) :=
 C89 λi g hg=>by
  obtain ⟨l,s,p,d,e,hd⟩:=D07 D n i;have h2:Low (ro h).length (ro h) g:=by rw [G8];exact hg
  exact ⟨l,s,p,d,by rw [T8 hD (hv.ro.since h2),e]⟩
def B7I(D:Dev)(n i:Int):Bool:=P6 (l_ D) n&&decide (0<=i)&&decide (i<l_ D)&&B6C (blk D 1) i
def D3h(hD:okD D)(hv:IsView h f D):A0X [.a (vwC (l_ D) n m f),iV i] h=A4 (bV (B7I D n i),h):=by
 have key:∀ g,IsView g f D->∃ g',A0S 0 [.a (vwC (l_ D) n m f),iV i] g=A4 (bV (B7I D n i),g'):=by
  intro g hv;have l3:=C1w (b:=l_ D) (n:=n) (m:=m) (f:=f);have l4:=B5A (b:=l_ D) (n:=n) (m:=m) (f:=f);have l0:(vwC (l_ D) n m f)[0]?=A4 (cI (l_ D:Int)):=rfl;have hC:=λh=>aX (b:=l_ D) (n:=n) (m:=m) (h:=h)
  have n10:¬ (1:Int)=0:=by decide
  rw [B6l];unfold B7I;cases c1:P6 (l_ D) n with
  | false =>
   simp only [c1] at hC;generalize vwC (l_ D) n m f=V at *;exact ⟨_,by simp only [esc,esh,l3,hC,n10,E8E]<;>rfl⟩
  | true =>
   simp only [c1] at hC;by_cases c2:0<=i
   ·by_cases c3:i<(l_ D)
    ·have hB:=K8 (n:=n) (m:=m) (no:=1) (h:=g++[rT (vwC (l_ D) n m f)]) hD (hv.more _);have hH:=λh=>D2e (i:=i) (h:=h) (J6 hD (i:=1))
     generalize vwC (l_ D) n m f=V at *;exact ⟨_,by simp only [esc,esh,l3,l4,l0,hC,eq_self,c2,c3,pC,hB,hH,E8K]<;>rfl⟩
    ·generalize vwC (l_ D) n m f=V at *;exact ⟨_,by simp only [esc,esh,l3,l4,l0,hC,eq_self,c2,c3,E8K,E8E]<;>rfl⟩
   ·generalize vwC (l_ D) n m f=V at *;exact ⟨_,by simp only [esc,esh,l3,l4,hC,eq_self,c2,E8K,E8E]<;>rfl⟩
 obtain ⟨g',e⟩:=key (ro h) hv.ro;exact B2P e rfl
def D6a{N:Nat}(hN:N<=1073741823):C5h (iV (N:Int)) (iV (N:Int))=A4 N:=by
 have:B6G (iV (N:Int))=A4 N:=by simp only [B6G];rw [C4 (by omega)];simp
 simp [C5h,this]
def E2T{i:Nat}{z:List UInt8}(hi:i<l_ D):(D.take i++E8l (l_ D-i) z).set i D[i]=D.take (i+1)++E8l (l_ D-(i+1)) z:=by
 have hl:(D.take i).length=i:=by rw [E8Y];omega
 rw [E9a _ _ (by omega),hl,E9t,show (l_ D)-i=l_ D-(i+1)+1 by omega,E81,E9A,E8R hi,E8t];rfl
def E2l(hD:okD D)(i:Nat):okD (D.take i++E8l (l_ D-i) (zeros 256)):=λb hb=>by
 rcases E8U.1 hb with hb | hb
 ·exact hD.take i b hb
 ·exact C3d _ b hb
def C7T{n m:Int}{p q id:Nat}(hD:okD D)(h60:l_ D<=1073741823)(h1:rd g p=rT (vwC (l_ D) n m f))(hv:IsView g f D)(hid:l_ g<=id):∀ (e i M:Nat) (h:A9),i+e=l_ D->e<M->Low (l_ g) g h ->
  rd h id=rT (E3 (D.take i++E8l (l_ D-i) (zeros 256))) ->
  ∃ h',A5V q M (pV p 0) (sV id 0 (l_ D) 256) (iV (l_ D:Int)) (iV (i:Int)) h=A4 (sV id 0 (l_ D) 256,h')/\rd h' id=rT (E3 D)
 | e,i,0,h,_,hm,_,_=>by omega
 | 0,i,M+1,h,hi,hm,hlow,hr=>by
  have e0:i=(l_ D):=by omega
  have c0:¬ (i:Int)<(l_ D:Nat):=by omega
  rw [e0,List.take_length,E9t,List.replicate_zero,E8C] at hr;rw [A0C];exact ⟨h,by simp only [esc,c0],hr⟩
 | e+1,i,M+1,h,hi,hm,hlow,hr=>by
  have K6:i<(l_ D):=by omega
  have c0:(i:Int)<(l_ D:Nat):=by omega
  have hV:=C8 (h:=h) (id:=p) (hlow.rd h1) (n:=4) rfl;have hB:=K8 (n:=n) (m:=m) (no:=(i:Int)) hD (hv.since hlow);rw [B4e K6] at hB;have ad:F0 256 (sV id 0 (l_ D) 256) (iV (i:Int))=A4 (pV id (i*256)):=by rw [E4 K6,E8A]
  have hl:(D.take i).length=i:=by rw [E8Y];omega
  have hs:=A4w (i:=i) (b:=D[i]) hr (E2l hD i) (hD.at K6) (by rw [E8o,hl,E8S];omega);rw [E2T K6] at hs;have W4:=E1 hr;obtain ⟨h',g1,g2⟩:=C7T (q:=q) hD h60 h1 hv hid e (i+1) M (h.set id (rT (E3 (D.take (i+1)++E8l (l_ D-(i+1)) (zeros 256))))) (by omega) (by omega) (hlow.set hid _) (D3 W4);refine ⟨h',?_,g2⟩;rw [A0C];generalize vwC (l_ D) n m f=V at *;generalize B4 D[i]=y at *;simp only [C7,G4,c0,decide_true,X6,hV,hB,ad,hs,L8,E2 (a:=i) (by omega)];exact g1
def C97(hD:okD D)(hv:IsView h f D)(hm:P6 (l_ D) n=A5):yI [.a (vwC (l_ D) n m f)] h=A4 (sV (l_ h) 0 (l_ D) 256,h++[rT (E3 D)]):=by
 have key:∀ g,IsView g f D->∃ v g',xQ (l_ D+1) [.a (vwC (l_ D) n m f)] g=A4 (v,g')/\Out (l_ g) g' v 256 (l_ D) (E3 D):=by
  intro g hv;have h60:l_ D<=512:=by
   unfold P6 at hm;simp only [E8j,decide_eq_true_eq] at hm;omega
  have l3:=C1w (b:=l_ D) (n:=n) (m:=m) (f:=f);have l0:(vwC (l_ D) n m f)[0]?=A4 (cI (l_ D:Int)):=rfl;have hC:=λh=>aX (b:=l_ D) (n:=n) (m:=m) (h:=h)
  simp only [hm] at hC;have mk:=D6a (N:=l_ D) (by omega);obtain ⟨h',g1,g2⟩:=C7T (n:=n) (m:=m) (p:=l_ g) (q:=l_ D+1) (id:=l_ g+2) (g:=g++[rT (vwC (l_ D) n m f),rT []]) hD (by omega) (by simp) (hv.more _) (by simp) (l_ D) 0 (l_ D+1) (g++[rT (vwC (l_ D) n m f),rT [],rT (E3 (E8l (l_ D) (zeros 256)))]) (by omega) (by omega)
   (by
    have:=(Low.refl (h:=g++[rT (vwC (l_ D) n m f),rT []]) (E8m _)).new [rT (E3 (E8l (l_ D) (zeros 256)))];simpa using this) (by simp)
  rw [B3G];simp only [D5u];refine ⟨_,h',?_,H9 hD,l_ g+2,rfl,by omega,g2⟩;generalize vwC (l_ D) n m f=V at *;simp only [esc,esh,Nat.reduceAdd,l3,hC,eq_self,l0,mk];exact g1
 obtain ⟨v,g',e,ho⟩:=key (ro h) hv.ro;exact B2O e (by simpa [G8] using ho) fQ
def A4g(b:List UInt8)(i:Nat):List UInt8:=b.set (i/8) (UInt8.ofNat ((b.getD (i/8) 0).toNat ||| A0A i))
def B5p{i:Nat}:(A4g b i).length=(l_ b):=by simp [A4g]
def C9B{i:Nat}(hb:l_ b=256)(hi:i<2048):B0Z [.a (B4 b),iV (i:Int),bV A5] h=A4 (.a (B4 (A4g b i)),h):=by
 have key:∀ g,∃ g',B0A 0 [.a (B4 b),iV (i:Int),bV A5] g=A4 (.a (B4 (A4g b i)),g'):=by
  intro g;have hW:=λh=>B4l (h:=h) hi
  have W4:i/8<(l_ b):=by omega
  have ad:=O2 (k:=.i64) (id:=l_ g) (off:=0) (sz:=1) (j:=i/8) (n:=256) (by omega);rw [E9w,E8A] at ad;have l1:(B4 b)[i/8]?=A4 (.i .u8 b[i/8].toNat):=by rw [zG,E8h W4];rfl
  have a1:=E6Q (a:=b[i/8].toNat) (b:=A0A i) b[i/8].toNat_lt (B5b i);have hor:b[i/8].toNat ||| A0A i<2 ^ 8:=Nat.or_lt_two_pow b[i/8].toNat_lt (B5b i)
  have es:(B4 b).set (i/8) (.i .u8 ((b[i/8].toNat ||| A0A i:Nat):Int))=B4 (A4g b i):=by
   have ew:(b[i/8].toNat ||| A0A i)=(UInt8.ofNat (b[i/8].toNat ||| A0A i)).toNat:=by rw [UInt8.toNat_ofNat',Nat.mod_eq_of_lt hor]
   unfold A4g;rw [E8k,E8h W4,Option.getD_some,<-oZ,<-ew]
  have hB:(B4 b).length=256:=by rw [B5,hb]
  have hC:(B4 (A4g b i)).length=256:=by rw [B5,B5p,hb]
  have s1:=D8y (cs:=B4 b) (off:=i/8) (x:=.i .u8 ((b[i/8].toNat ||| A0A i:Nat):Int)) (by omega);rw [es] at s1;have hz:(E8l 256 (Cell.i .u8 0)).length=256:=E8S;rw [C4G];generalize E8l 256 (Cell.i .u8 0)=z at *;generalize B4 b=y at *;generalize B4 (A4g b i)=y2 at *;exact ⟨_,by simp only [esc,P7,H6,Z4,J0,S5,I3,oN,A6X,K9,zN,fZ,hW,ad,l1,a1,s1,C2I,hC,hz]<;>rfl⟩
 obtain ⟨g',e⟩:=key (ro h);exact B9E e (by simp [Val.flat])
def cQ(l:List Nat):List UInt8:=l.foldl A4g (zeros 256)
def fU{l:List Nat}:∀ {b:List UInt8},(l.foldl A4g b).length=(l_ b):=by
 induction l with
 | nil=>intro b;rfl
 | cons x l ih=>intro b;rw [E9q,ih,B5p]
def C7e{l:List Nat}{q p:Nat}{nv:Nat}(hl:∀ x∈l,x<2048)(h60:l_ l<=2048)(hv:Has g v 1 nv (encI (l.map λx:Nat=>(x:Int))))(hp:p=l_ g):∀ (e i m:Nat),i+e=l_ l->e<m ->
  B7f q m (pV p 0) (pV (p+1) 0) v (iV (l_ l:Int)) (iV (i:Int)) (g++[rT (B4 (zeros 256)),rT (B4 ((l.take i).foldl A4g (zeros 256)))]) =
   A4 (.a (B4 (cQ l)),g++[rT (B4 (cQ l)),rT (B4 (cQ l))])
 | e,i,0,_,hm=>by omega
 | 0,i,m+1,hi,hm=>by
  have e0:i=(l_ l):=by omega
  subst e0 hp;have c0:¬ (l_ l:Int)<(l_ l:Nat):=by omega
  have hB:(B4 (cQ l)).length=256:=by rw [B5];unfold cQ;rw [fU];exact zeros_length
  have hz:(B4 (zeros 256)).length=256:=by rw [B5];exact zeros_length
  rw [A9q,List.take_length];have em:l.foldl A4g (zeros 256)=cQ l:=rfl;rw [em];generalize B4 (zeros 256)=z at *;generalize B4 (cQ l)=y at *;simp only [esc,esh,c0,hB,hz]
 | e+1,i,m+1,hi,hm=>by
  have K6:i<(l_ l):=by omega
  have ih:=C7e (q:=q) hl h60 hv hp e (i+1) m (by omega) (by omega);subst hp;have c0:(i:Int)<(l_ l:Nat):=by omega
  have hnv:l_ l=nv:=by
   have:=hv.length;rw [C1,List.length_map] at this;omega
  obtain ⟨id,off,rfl,hid,h1,_⟩:=(hv.more [rT (B4 (zeros 256)),rT (B4 ((l.take i).foldl A4g (zeros 256)))]).sl (by omega);have hx:=h1 i (cI (l[i]:Int)) (by rw [G6,List.getElem?_map,E8h K6];rfl);have ea:F0 1 (sV id off nv 1) (iV (i:Int))=A4 (pV id (off+i)):=by rw [E4 (by omega)];simp
  have hfl:((l.take i).foldl A4g (zeros 256)).length=256:=by rw [fU];exact zeros_length
  have hW:=λh=>C9B (h:=h) hfl (hl _ (E8M K6))
  have et:A4g ((l.take i).foldl A4g (zeros 256)) l[i]=(l.take (i+1)).foldl A4g (zeros 256):=by
   rw [E8R K6,List.foldl_append];rfl
  rw [et] at hW;have hB:(B4 ((l.take i).foldl A4g (zeros 256))).length=256:=by rw [B5,hfl]
  have hB2:(B4 ((l.take (i+1)).foldl A4g (zeros 256))).length=256:=by rw [B5,fU];exact zeros_length
  rw [A9q];generalize B4 (zeros 256)=z at *;generalize B4 ((l.take i).foldl A4g (zeros 256))=y at *;generalize B4 ((l.take (i+1)).foldl A4g (zeros 256))=y2 at *;simp only [esc,esh,c0,ea,hx,hW,hB,hB2,E2 (a:=i) (by omega)];exact ih
def A8k{nv:Nat}{l:List Nat}(hl:∀ x∈l,x<2048)(h60:l_ l<=2048)(hv:Has h v 1 nv (encI (l.map λx:Nat=>(x:Int)))):qK [v] h=A4 (.a (B4 (cQ l)),h):=by
 have key:∀ g,Has g v 1 nv (encI (l.map λx:Nat=>(x:Int)))->∃ g',B0z (l_ l+1) [v] g=A4 (.a (B4 (cQ l)),g'):=by
  intro g hv;have hnv:l_ l=nv:=by
   have:=hv.length;rw [C1,List.length_map] at this;omega
  have hL:=C7e (q:=l_ l+1) hl h60 hv rfl (l_ l) 0 (l_ l+1) (by omega) (by omega);have hlen:=hv.len;rw [<-hnv] at hlen;rw [C4F,G9];rw [E9i,List.foldl_nil] at hL;generalize B4 (zeros 256)=z at *;exact ⟨_,by simp only [esc,hlen];exact hL⟩
 obtain ⟨g',e⟩:=key (ro h) hv.ro;exact B9D e (by simp [Val.flat])
def A5u(b:List UInt8):Nat->Nat->Bool
 | 0,_=>A5
 | e+1,i=>cD (jD b i)&&A5u b e (i+1)
def C66{b:List UInt8}{p q:Nat}(hb:l_ b=256):∀ (e i m:Nat) (h:A9),i+e=8->e<m->rd h p=rT (B4 b) ->
  ∃ h',B5w q m (pV p 0) (iV i) h=A4 (bV (A5u b e i),h')
 | e,i,0,h,_,hm,_=>by omega
 | 0,i,m+1,h,hi,hm,hr=>by
  have c0:¬ (i:Int)<8:=by omega
  rw [A7o];exact ⟨_,by simp only [esc,esh,c0,A5u]<;>rfl⟩
 | e+1,i,m+1,h,hi,hm,hr=>by
  have c0:(i:Int)<8:=by omega
  have hB:(B4 b).length=256:=by rw [B5,hb]
  have s1:=C8 (h:=h) (id:=p) (cs:=B4 b) hr hB;have hG:=λh=>C1o (h:=h) hb (show i<8 by omega)
  have hl:=A7g;have pE:=A8l (b:=jD b i);obtain ⟨h',ih⟩:=C66 (q:=q) hb e (i+1) m (h++[rT (oU (jD b i))]) (by omega) (by omega) (B6 hr);rw [A7o,C5N];unfold A5u;generalize D1 0 0 0 0 (zI 7)=z at *;cases c:cD (jD b i) with
  | false =>
   simp only [c] at hG;exact ⟨_,by simp only [esc,esh,c0,s1,hG,hl,pE,E8E]<;>rfl⟩
  | true =>
   simp only [c] at hG;refine ⟨h',?_⟩;simp only [esc,esh,c0,s1,hG,hl,pE,E2 (a:=i) (by omega),E8K];exact ih
def C8S(hb:l_ b=256):A8a [.a (B4 b)] h=A4 (bV (A5u b 8 0),h):=by
 have key:∀ N,8<N->∀ g,∃ g',A7T N [.a (B4 b)] g=A4 (bV (A5u b 8 0),g'):=by
  intro N hN g;obtain ⟨h',e⟩:=C66 (p:=l_ g) (q:=N) hb 8 0 N (g++[rT (B4 b)]) (by omega) (by omega) (by simp);rw [C13];exact ⟨h',by simp only [esc,esh];exact e⟩
 obtain ⟨g',e⟩:=key (l_ h+9) (by omega) (ro h);exact B8h e rfl
def C75{l xs:List UInt8}{a c n:Nat}(h:a+l_ xs<=l_ l)(hd:c+n<=a\/a+l_ xs<=c):((H7 l a xs).drop c).take n=(l.drop c).take n:=by
 apply E9z;intro j;by_cases hj:j<n
 ·rw [E86 hj,E86 hj,List.getElem?_drop,List.getElem?_drop,C76 h,C5 (by omega)]
 ·rw [E8P (by simp;omega),E8P (by simp;omega)]
def E28{n:Nat}{v:Int}(hn:n<128):kV b ((2*n:Nat):Int) 2 v=H7 b (2*n) (D6 2 v):=by
 unfold kV;rw [C4 ⟨by omega,Y7.2 (by omega)⟩,E8D];rfl
def E4b{n i:Nat}{v:Int}(hb:l_ b=256)(hn:n<128)(hi:i<128):ptP (H7 b (2*n) (D6 2 v)) i=if i=n then v%65536 else ptP b i:=by
 unfold ptP fieldN;by_cases c:i=n
 ·subst c;rw [C4 rfl];have:=D4C (l:=b) (xs:=D6 2 v) (a:=2*i) (by simp;omega);rw [R4] at this;rw [this,B52];rfl
 ·rw [C5 c,C75 (by simp;omega) (by simp;omega)]
def C4A:E8r .u8 a=a%256:=by
 simp only [E8r,IntKind.bits,IntKind.signed,E8E];rfl
def B8r:∀ k,(J3 t k).Nodup
 | 0=>by simp [J3]
 | k+1=>by
  rw [B5Q];by_cases c:yV t k=A5
  ·rw [C4 c];have hc:=c;unfold yV at hc;rw [E8j] at hc;have h0:toX t k≠0:=by simpa using hc.1
   have hn:toX t k ∉ J3 t k:=by
    have:=E3U h0;rw [hc.2] at this;simpa using this
   rw [List.nodup_append];refine ⟨B8r k,by simp,?_⟩;intro a ha b hb e;simp at hb;subst hb;subst e;exact hn ha
  ·rw [C5 c,E8C];exact B8r k
def D6l:(T1 D n k d).Nodup:=by
 unfold T1;cases Z5 D n k d with
 | false=>simp
 | true=>exact (B8r _).filter _
def B48:∀ e k,(Q5 b e k).Pairwise λx y=>x.1<y.1
 | 0,k=>by simp [Q5]
 | e+1,k=>by
  cases hr:O3 b k with
  | none=>rw [Z9 hr];exact B48 e (k+1)
  | some x =>
   rw [aA hr];refine List.pairwise_cons.2 ⟨λy hy=>?_,B48 e (k+1)⟩;have:=A4c hy;show k<y.1;omega
def D6x:(sJ D n k d).Pairwise λx y=>(x.1.1,x.1.2.1)≠(y.1.1,y.1.2.1):=by
 unfold sJ C6Q;rw [List.pairwise_flatMap];refine ⟨λb _=>?_,(D6l (D:=D) (n:=n) (k:=k) (d:=d)).imp λ{a b} hab=>?_⟩
 ·unfold C1s;rw [List.pairwise_map];refine (B48 7 0).imp λ{x y} hxy=>?_
  intro e;have:=congrArg Prod.snd e;dsimp only at this;omega
 ·intro x hx y hy e;unfold C1s at hx hy;rw [E8N] at hx hy;obtain ⟨x',_,rfl⟩:=hx;obtain ⟨y',_,rfl⟩:=hy;exact hab (congrArg Prod.fst e)
def A8p{nm:List UInt8}:∀ {e k:Nat} {x:Slt},X7 b nm e k=A4 x->x.2.1=nm
 | 0,k,x,h=>by simp [X7] at h
 | e+1,k,x,h=>by
  cases hr:O3 b k with
  | none=>rw [lM hr] at h;exact A8p h
  | some y =>
   obtain ⟨s,n⟩:=y;by_cases c:s=nm
   ·subst c;rw [zJ hr] at h;cases h;rfl
   ·rw [lJ hr c] at h;exact A8p h
def D4R:(T6 D n k d (sJ D n k d)).Nodup:=by
 unfold T6;rw [List.Nodup,List.pairwise_map];refine ((D6x (D:=D) (n:=n) (k:=k) (d:=d)).filter _).imp_of_mem λ{x y} hx hy hxy e=>?_
 have h1:=of_decide_eq_true (E8Z.1 hx).2;have h2:=of_decide_eq_true (E8Z.1 hy).2;rw [e,h2] at h1;have:=Option.some.inj h1;exact hxy (by rw [this])
def D5J(l:sY):(fY l).Nodup:=(C1l l).imp λ{a b} h e=>by
 subst e;rw [A9k] at h;cases h
def E0i{l:sY}(hl:l.Nodup):(fY l).length=(l_ l):=by
 have:=(List.perm_ext_iff_of_nodup (D5J l) hl).2 (fB l);exact this.length_eq
def D9W(l:List Tld):(T6 D n k d l).length+(eR D n k d l).length=(l_ l):=by
 unfold T6 eR;rw [List.length_map,List.length_map]
 induction l with
 | nil=>rfl
 | cons t l ih =>
  by_cases c:isL D n k d t=A5
  ·rw [E9l c,E9k (by simp [c])];simp;omega
  ·rw [E9k c,E9l (by simp [c])];simp;omega
def D9x:(iQ D n k d).length+(eR D n k d (sJ D n k d)).length=(sJ D n k d).length:=by
 rw [<-D9W (D:=D) (n:=n) (k:=k) (d:=d) (sJ D n k d)];unfold iQ;rw [List.length_map,E0i D4R]
abbrev Spn:=Nat × Nat × Nat
def spn:Nat->Nat->Nat->List Spn
 | 0,_,_=>[]
 | e+1,off,n=>if n=0 then [] else (off/256,off%256,min n (256-off%256))::spn e (off+min n (256-off%256)) (n-min n (256-off%256))
def A5Q:∀ e,spn e off 0=[]
 | 0=>rfl
 | e+1=>by rw [spn,C4 rfl]
def C1m{e n:Nat}(hn:0<n):spn (e+1) off n=(off/256,off%256,min n (256-off%256))::spn e (off+min n (256-off%256)) (n-min n (256-off%256)):=by
 rw [spn,C5 (by omega)]
def C8M:∀ (e off n:Nat),(spn e off n).length<=n
 | 0,off,n=>by simp [spn]
 | e+1,off,n=>by
  by_cases hn:n=0
  ·subst hn;rw [A5Q];simp
  ·rw [C1m (by omega),E8w];have:=C8M e (off+min n (256-off%256)) (n-min n (256-off%256));omega
def D8x:∀ (e off n:Nat),∀ s∈spn e off n,s.2.1<256/\1<=s.2.2/\s.2.1+s.2.2<=256/\s.1<=(off+n)/256/\(0<n->s.1*256+s.2.1+s.2.2<=off+n)
 | 0,off,n,s,h=>by simp [spn] at h
 | e+1,off,n,s,h=>by
  by_cases hn:n=0
  ·subst hn;rw [A5Q] at h;simp at h
  ·rw [C1m (by omega)] at h;rcases E8J.1 h with rfl | h
   ·refine ⟨by dsimp only;omega,by dsimp only;omega,by dsimp only;omega,by dsimp only;omega,λ_=>by dsimp only;omega⟩
   ·have ih:=D8x e _ _ s h;have e1:off+min n (256-off%256)+(n-min n (256-off%256))=off+n:=by omega
    rw [e1] at ih;refine ⟨ih.1,ih.2.1,ih.2.2.1,ih.2.2.2.1,λ_=>?_⟩;by_cases h0:0<n-min n (256-off%256)
    ·exact ih.2.2.2.2 h0
    ·have:n-min n (256-off%256)=0:=by omega
     rw [this,A5Q] at h;simp at h
def D1C(f:Nat->UInt8):∀ (e off n:Nat),n<=e->((spn e off n).map λs=>(E8Q (s.1*256+s.2.1) s.2.2).map f).flatten=(E8Q off n).map f
 | 0,off,n,h=>by
  have:n=0:=by omega
  subst this;rfl
 | e+1,off,n,h=>by
  by_cases hn:n=0
  ·subst hn;rw [A5Q];rfl
  ·rw [C1m (by omega),E9c,E9v,D1C f e _ _ (by omega),<-E9e];dsimp only;have e1:off/256*256+off%256=off:=by omega
   have e2:n=min n (256-off%256)+(n-min n (256-off%256)):=by omega
   rw [e1]
   conv=>rhs;rw [e2]
   rw [<-List.range'_append (step:=1),Nat.one_mul]
def spC(l:List Spn):List Cell:=(l.map λs=>[cI (s.1:Int),cI (s.2.1:Int),cI (s.2.2:Int)]).flatten
def B1T{l:List Spn}:(spC l).length=l_ l*3:=by
 induction l with
 | nil=>rfl
 | cons x l ih=>simp only [spC,E9c,E9v,E8o,E8w,E8X] at ih ⊢;omega
def D7t{l m:List Spn}:spC (l++m)=spC l++spC m:=by simp [spC]
def D5K{s:Spn}{l:List Spn}:spC (s::l)=[cI (s.1:Int),cI (s.2.1:Int),cI (s.2.2:Int)]++spC l:=rfl
def E2Z{l:List Spn}:M9 (spC l)=A5:=by
 induction l with
 | nil=>rfl
 | cons x l ih=>rw [D5K,kD,ih];rfl
def E2Y:∀ (l:List Spn) (i:Nat) (s:Spn),l[i]?=A4 s->((spC l).drop (i*3)).take 3=[cI (s.1:Int),cI (s.2.1:Int),cI (s.2.2:Int)]
 | [],i,s,h=>by simp at h
 | x::l,0,s,h=>by
  simp at h;subst h;rfl
 | x::l,i+1,s,h=>by
  rw [D5K,show (i+1)*3=3+i*3 by omega,<-E9D];exact E2Y l i s (by simpa using h)
section
variable (n m m2:Nat) (a0 a1 a2 a3 x0 x1 x4 x5 x9 x32 x33 x34:Val) (h:A9)
def A3F:FD A8:=⟨px 0X119f201380380421a62b502011201600622450320404531b42031103a2342,[],[.min (.t 7) (.v (.c (cI 34304))),.max (.v (.c o0)) (.t 8)],[.tmp 2],[]⟩
def B0I:=A3F.R
def C4N:=mR B0I A3F (tT []) n [a0] h
def B0o:=A3F.K Tryz.func98
def A3T:=A3F.S
def B9K:G0 B0I A3T:=B0o.flat
def kY:FD A8:=⟨px 0X14ff405f4f021900001724ef1004727c11f4c04184bf0004026e1749040248f5001e33903012b133e01241161032b3b5c15c1288901a271583901931238f703380288972481582d051f422cf602889018271338352150702410524829024d4203311806050023354811b4228f10238049c88972711382e1c0661019201344811e0000722449c88904271a022f420319f0003871803023448130182,[],[.max (.v (.c o0)) (.t 8),.max (.v (.c o0)) (.t 12),.min (.t 13) (.t 15),.min (.t 21) (.t 23)],[.tmp 4],[]⟩
def A7F:=kY.R
def B4J:AtH:=kY.lj 0 n [m] [x0,x1,x5]
def B65:=tT [⟨2,3,B4J⟩]
def C1J:=mR A7F kY B65 n [a0,a1] h
def zK:=mL kY B65 0 n [m] [x0,x1,x5] h
def B6L:=kY.K Tryz.func107
def A70:=kY.S
def B9L:A3Q A7F A70:=B6L.out
def fD:FD A8:=⟨px 0X17cf1801ce7c026c0000000006727bf4a056a07b492187af19013804191ba132d1bc6f05186ef19002a1392061a34304191a8132d04519c132d0423318e14f4181981190192410327e5b021b9425af1c006183230417a132d5f1b184f44e1c639424df2362b1b1b031841831d4684215011a070246134012118f42006051102901e21303804726e101035c1b185e15e3901a18d18b189181a2c2000013314a12b6187502d20111848148000002722401b6195015a1a4e5a70101b1a190643e1a0103e2f381b3e3c3c3e70110122e1d01c69420311848183a742e31b1975282,[],[.min (.t 26) (.t 30),.appZ 1 ([.i .u8 0]) (.t 55) (.t 57)],[.tmp 8],[D8 A3T B0o,D8 A70 B6L,cal D10,D8 D9 E5,D8 A84 B5I]⟩
def B0H:=fD.R
def B7k:AtH:=fD.lj 0 n [m] [x4,x5,x9,x32,x33,x34]
def C9N:AtH:=fD.lj 1 n [m] [x4,x5,x9,x32,x33,x34]
def B1j:=tT [⟨2,6,B7k⟩,⟨2,6,C9N⟩]
def C4M:=mR B0H fD B1j n [a0,a1,a2,a3] h
def A9M:=mL fD B1j 0 n [m] [x4,x5,x9,x32,x33,x34] h
def A9L:=mJ fD B1j 1 n [m] [x4,x5,x9,x32,x33,x34] h
def B9b:=fD.K Tryz.func56
def B08:=fD.S
def C2a:A3Q B0H B08:=B9b.out
def A6c:FD A8:=⟨px 0X17f4049c88910440361b18641840006214a43a422e375182,[],[],[.tmp 4],[D8 B08 B9b]⟩
def B3l:=A6c.R
def C51:=mR B3l A6c (tT []) n [a0,a1] h
def C3z:=A6c.K Tryz.func17
def B3W:=A6c.S
def C47:A3Q B3l B3W:=C3z.out
end
def D59{k:IntKind}{b:Int}:C5g (.c (.i k a)) (.c (.i k b))=A4 (.c (.i k (if a<b then b else a))):=rfl
def D18{k:IntKind}{b:Int}:B6z (.c (.i k a)) (.c (.i k b))=A4 (.c (.i k (if b<a then b else a))):=rfl
def C3c(off:Int):Int:=if 0<off then off else 0
def C4k(off n:Int):Nat:=if C3c off<34304 then (if 34304-C3c off<(if 0<n then n else 0) then 34304-C3c off else (if 0<n then n else 0)).toNat else 0
def B8V(off n:Int):List Spn:=spn (C4k off n) (C3c off).toNat (C4k off n)
def C4g{q:Nat}:∀ (e off n m id:Nat) (h:A9) (l:List Spn),n<=e->e<m->off+n<=34304->l_ l+n<=40000->Low (l_ g) g h->l_ g<=id->rd h id=rT (spC l) ->
  ∃ v' h',B4J q m (iV (off:Int)) (iV (n:Int)) (sV id 0 (l_ l) 3) h=A4 (v',h')/\Out (l_ g) h' v' 3 (l++spn e off n).length (spC (l++spn e off n))
 | e,off,n,0,id,h,l,_,hm,_,_,_,_,_=>by omega
 | 0,off,n,m+1,id,h,l,hn,hm,ho,hl,hlow,hb,hr=>by
  have e0:n=0:=by omega
  subst e0;have c0:¬ (0:Int)<((0:Nat):Int):=by omega
  rw [zK,A5Q,E8C];exact ⟨_,_,by simp only [esc,c0]<;>rfl,B1T,id,rfl,hb,hr⟩
 | e+1,off,n,m+1,id,h,l,hn,hm,ho,hl,hlow,hb,hr=>by
  by_cases h0:n=0
  ·subst h0;have c0:¬ (0:Int)<((0:Nat):Int):=by omega
   rw [zK,A5Q,E8C];exact ⟨_,_,by simp only [esc,c0]<;>rfl,B1T,id,rfl,hb,hr⟩
  ·have c0:(0:Int)<(n:Int):=by omega
   rw [C1m (by omega)];generalize hK:min n (256-off%256)=K;have r1:N4 .rem (iV (off:Int)) (iV 256)=A4 (iV ((off%256:Nat):Int)):=by
    rw [D5n (by omega) (by omega)];congr 3
   have w1:E8r .i64 (256-((off%256:Nat):Int))=((256-off%256:Nat):Int):=by rw [wrap_i64 (by omega) (by omega)];omega
   have m1:B6z (iV (n:Int)) (iV ((256-off%256:Nat):Int))=A4 (iV (K:Int)):=by
    rw [D18]
    congr 3
    split<;>omega
   have q1:N4 .quo (iV (off:Int)) (iV 256)=A4 (iV ((off/256:Nat):Int)):=by
    rw [B1M (by omega) (by omega) (by omega)];congr 3
   have ef1:F6 [o0,o0,o0] [(0,1,iV ((off/256:Nat):Int)),(1,1,iV ((off%256:Nat):Int)),(2,1,iV (K:Int))]=A4 (spC [(off/256,off%256,K)]):=rfl;have ef2:F6 [o0,o0,o0] [(0,3,.a (spC [(off/256,off%256,K)]))]=A4 (spC [(off/256,off%256,K)]):=rfl;obtain ⟨h',a1,a2,a3,a4,a5⟩:=push (ys:=spC [(off/256,off%256,K)]) hlow hr B1T hb rfl (by omega) (by omega);rw [<-D7t] at a2 a5;have w2:E8r .i64 ((off:Int)+(K:Int))=((off+K:Nat):Int):=A50 (by omega);have w3:E8r .i64 ((n:Int)-(K:Int))=((n-K:Nat):Int):=by rw [wrap_i64 (by omega) (by omega)];omega
   have el:(l++[(off/256,off%256,K)]).length=l_ l+1:=by simp
   obtain ⟨v',h'',f1,f2⟩:=C4g (q:=q) e (off+K) (n-K) m (l_ h+1) h' (l++[(off/256,off%256,K)]) (by omega) (by omega) (by omega) (by simp;omega) a3 a4 a2;rw [E8t,List.singleton_append] at f2;rw [el] at f1;refine ⟨v',h'',?_,f2⟩;rw [zK];simp only [esc,c0,r1,w1,m1,q1,ef1,ef2,a1,w2,w3];exact f1
def C7J{off:Int}(h1:off<9223372036854775808):A70 [iV off,iV n] h=A4 (sV (l_ h) 0 (B8V off n).length 3,h++[rT (spC (B8V off n))]):=by
 have key:∀ g,∃ v g',A7F (C4k off n+1) [iV off,iV n] g=A4 (v,g')/\Out (l_ g) g' v 3 (B8V off n).length (spC (B8V off n)):=by
  intro g;have x1:=D59 (k:=.i64) (a:=0) (b:=off);have x2:=D59 (k:=.i64) (a:=0) (b:=n);rw [C1J];unfold B8V;have ho:(if 0<off then off else 0)=C3c off:=rfl;rw [ho] at x1;have hN:C4k off n=if C3c off<34304 then (if 34304-C3c off<(if 0<n then n else 0) then 34304-C3c off else (if 0<n then n else 0)).toNat else 0:=rfl
  have p1:0<=C3c off:=by unfold C3c;split<;>omega
  have p2:0<=(if 0<n then n else 0):=by split<;>omega
  generalize (if 0<n then n else 0)=n1 at *;generalize C3c off=o1 at *;by_cases c1:34304<=o1
  ·rw [C5 (by omega)] at hN;rw [hN,A5Q];exact ⟨_,_,by simp only [esc,x1,c1]<;>rfl,rfl,l_ g+1,by simp,by omega,by simp [spC]⟩
  ·rw [C4 (by omega)] at hN;have w1:E8r .i64 (34304-o1)=34304-o1:=wrap_i64 (by omega) (by omega);have x3:=D18 (k:=.i64) (a:=n1) (b:=34304-o1);have e1:(if 34304-o1<n1 then 34304-o1 else n1)=((C4k off n:Nat):Int):=by rw [hN];split<;>omega
   rw [e1] at x3;generalize C4k off n=N at *;obtain ⟨o2,rfl⟩:∃ o2:Nat,o1=o2:=⟨o1.toNat,by omega⟩;obtain ⟨v',h',f1,f2⟩:=C4g (g:=g) (q:=N+1) N o2 N (N+1) (l_ g+1) (g++[rT [],rT []]) [] (by omega) (by omega) (by split at e1<;>omega) (by simp;split at e1<;>omega) ((Low.refl (E8m _)).new _) (by omega) (by simp [spC]);rw [E8I] at f2;rw [E8X] at f1;refine ⟨v',h',?_,f2⟩;simp only [esc,x1,x2,c1,w1,x3];exact f1
 obtain ⟨v,g',e,ho⟩:=key (ro h);exact B9L e (by simpa [G8] using ho) E2Z
def dZ(k s:Int):Int:=if k=1 then (if 0<(if 34304<s then 34304 else s) then (if 34304<s then 34304 else s) else 0) else 0
def D5F:0<=dZ k s/\dZ k s<=34304:=by
 unfold dZ;split
 ·split<;>split<;>omega
 ·omega
def D7p(h:0<dZ k s):k=1:=by
 unfold dZ at h;split at h
 ·assumption
 ·omega
def B7l:A3T [.a (D1 k l s p d)] h=A4 (iV (dZ k s),h):=by
 have key:∀ g,∃ g',B0I 0 [.a (D1 k l s p d)] g=A4 (iV (dZ k s),g'):=by
  intro g;have i0:(D1 k l s p d)[0]?=A4 (cI k):=rfl;have i2:(D1 k l s p d)[2]?=A4 (cI s):=rfl;have x1:=D18 (k:=.i64) (a:=s) (b:=34304);rw [C4N];generalize D1 k l s p d=I at *;unfold dZ;by_cases c1:k=1
  ·rw [C4 c1];generalize (if 34304<s then 34304 else s)=y at *;have x2:=D59 (k:=.i64) (a:=0) (b:=y);exact ⟨_,by simp only [esc,esh,Nat.reduceAdd,Nat.reduceMul,Nat.reduceLT,eq_self,i0,i2,c1,x1,x2]<;>rfl⟩
  ·rw [C5 c1];exact ⟨_,by simp only [esc,esh,Nat.reduceAdd,Nat.reduceMul,Nat.reduceLT,eq_self,i0,i2,c1]<;>rfl⟩
 obtain ⟨g',e⟩:=key (ro h);exact B9K e rfl
def D3Q(D:Dev)(n:Int)(d:List Int)(p:Nat):UInt8:=if vS D n d (p/256)=0 then 0 else (blk D (vS D n d (p/256))).getD (p%256) 0
def B8O(D:Dev)(n:Int)(d:List Int)(s:Spn):List UInt8:=(E8Q (s.1*256+s.2.1) s.2.2).map (D3Q D n d)
def D5e{a b c:Nat}(hc:b+c<=256)(h0:vS D n d a=0):B8O D n d (a,b,c)=zeros c:=by
 unfold B8O zeros;refine List.ext_getElem (by simp) λi h1 h2=>?_
 simp only [E8S] at h2;rw [List.getElem_map,List.getElem_range',List.getElem_replicate];unfold D3Q;have e:(a*256+b+1*i)/256=a:=by omega
 rw [e,C4 h0]
def D5f{a b c:Nat}(hD:okD D)(hc:b+c<=256)(h0:vS D n d a≠0):B8O D n d (a,b,c)=((blk D (vS D n d a)).drop b).take c:=by
 have hl:=J6 hD (i:=vS D n d a);unfold B8O;refine List.ext_getElem (by simp [hl];omega) λi h1 h2=>?_
 have hi:i<c:=by simpa using h1
 rw [List.getElem_map,List.getElem_range',List.getElem_take,List.getElem_drop];unfold D3Q;have e:(a*256+b+1*i)/256=a:=by omega
 have e2:(a*256+b+1*i)%256=b+i:=by omega
 rw [e,e2,C5 h0,E8k,E8h (by omega)];rfl
def E6S{id n m:Nat}{ys:List Cell}(hr:rd h id=rT cs)(hl:l_ cs=n*sz)(hy:l_ ys=m*sz)(hsz:0<sz)(hn:n+m<=1073741824) :
  ∃ h',uR (h++[rT ys]) sz (sV id 0 n sz) (sV (l_ h) 0 m sz)=A4 (sV (l_ h+1) 0 (n+m) sz,h')/\rd h' (l_ h+1)=rT (cs++ys)/\(∀ i r,i≠id->rd h i=A4 r->rd h' i=A4 r)/\(∀ b,b<=id->b<=l_ h->Low b h h'):=by
 have W4:=E1 hr;refine ⟨(h++[rT ys]).set id A7++[rT (cs++ys)],?_,?_,λi r hi hir=>?_,λb hb hb2=>(((Low.refl hb2).new _).set hb A7).new _⟩
 ·rw [A8h (h:=h++[rT ys]) (B6 hr) hl N8 hy rfl hsz hn];simp
 ·have:=N8 (h:=(h++[rT ys]).set id A7) (r:=Row.mk (cs++ys) A5);rw [E80] at this;simpa using this
 ·refine B6 ?_;rw [B7 (Ne.symm hi)];exact B6 hir
def E52{id n m:Nat}(hr:rd h id=rT cs)(hl:l_ cs=n)(hn:n+m<=1073741824) :
  ∃ h',C6F h 1 [.i .u8 0] (sV id 0 n 1) (iV (m:Int))=A4 (sV (l_ h) 0 (n+m) 1,h')/\rd h' (l_ h)=rT (cs++B4 (zeros m))/\(∀ i r,i≠id->rd h i=A4 r->rd h' i=A4 r)/\(∀ b,b<=id->b<=l_ h->Low b h h'):=by
 have hm:B6G (iV (m:Int))=A4 m:=by simp only [B6G];rw [C4 (by omega)];simp
 refine ⟨h.set id A7++[rT (cs++B4 (zeros m))],?_,?_,λi r hi hir=>?_,λb hb hb2=>((Low.refl hb2).set hb A7).new _⟩
 ·simp only [C6F,hm,E8z,hr,C3k];rw [C4 ⟨trivial,trivial,by omega,trivial,hn⟩]
 ·have:=N8 (h:=h.set id A7) (r:=Row.mk (cs++B4 (zeros m)) A5);rw [E80] at this;exact this
 ·refine B6 ?_;rw [B7 (Ne.symm hi)];exact hir
def E17(h1:Low (l_ g) g h)(h2:Low (l_ g) h h'):Low (l_ g) g h':=h1.trans h2
def C3i{n m k l s p:Int}{pv sid:Nat}{L:List Spn}(hD:okD D)(hd:l_ d=7)(hv:IsView g f D)(hk:k=1)
  (h1:rd g pv=rT (vwC (l_ D) n m f)) (h2:rd g (pv+1)=rT (D1 k l s p d)) (hL:∀ s∈L,s.2.1<256/\s.2.1+s.2.2<=256/\s.1<134) (hLl:l_ L<=40000) :
  ∀ (e i M id:Nat) (h:A9) (bs:List UInt8),i+e=l_ L->e<M->bs.length<=i*256->Low (l_ g) g h->l_ g<=id->id≠sid->rd h sid=rT (spC L)->rd h id=rT (B4 bs) ->
  ∃ v' h',B7k q M (pV pv 0) (pV (pv+1) 0) (sV id 0 bs.length 1) (sV sid 0 (l_ L) 3) (iV (l_ L:Int)) (iV (i:Int)) h=A4 (v',h') /\
   Out (l_ g) h' v' 1 (bs++((L.drop i).map (B8O D n d)).flatten).length (B4 (bs++((L.drop i).map (B8O D n d)).flatten))
 | e,i,0,id,h,bs,_,hM,_,_,_,_,_,_=>by omega
 | 0,i,M+1,id,h,bs,hi,hM,hb,hlow,hid,aZ,hs,hr=>by
  have e0:i=(l_ L):=by omega
  subst e0;have c0:¬ ((l_ L:Nat):Int)<(l_ L:Nat):=by omega
  have e1:(L.drop (l_ L))=[]:=E8x (E8m _);rw [A9M,e1,List.map_nil,List.flatten_nil,E8C];exact ⟨_,_,by simp only [esc,c0]<;>rfl,by rw [B5,E9w],id,rfl,hid,hr⟩
 | e+1,i,M+1,id,h,bs,hi,hM,hb,hlow,hid,aZ,hs,hr=>by
  have K6:i<(l_ L):=by omega
  have c0:(i:Int)<(l_ L:Nat):=by omega
  obtain ⟨a,b,c⟩:=xEq (L[i]);obtain ⟨sp,hsp⟩:=xEq (L[i]);obtain ⟨a,b,c⟩:=sp;have hm:=hL L[i] (E8M K6);rw [<-hsp] at hm;dsimp only at hm;have g1:=hlow.rd h1;have hgl:=hlow.2.1;have g2:=hlow.rd h2;have hvh:=hv.since hlow;have ad:F0 3 (sV sid 0 (l_ L) 3) (iV (i:Int))=A4 (pV sid (i*3)):=by rw [E4 K6,E8A]
  have t1:C9 h 3 (pV sid (i*3))=A4 (.a [cI (a:Int),cI (b:Int),cI (c:Int)]):=by
   rw [S7 hs (by rw [B1T];omega) (by simp),E2Y L i (a,b,c) (by rw [E8h K6,hsp])]
  obtain ⟨H,hH⟩:=xEq (h++[rT [cI (a:Int),cI (b:Int),cI (c:Int)]]);have lH:l_ H=l_ h+1:=by rw [hH];simp
  have k1:rd H pv=rT (vwC (l_ D) n m f):=by rw [hH];exact B6 g1
  have k2:rd H (pv+1)=rT (D1 k l s p d):=by rw [hH];exact B6 g2
  have k3:rd H (l_ h)=rT [cI (a:Int),cI (b:Int),cI (c:Int)]:=by rw [hH];exact N8
  have lowH:Low (l_ g) g H:=by rw [hH];exact hlow.new _
  have hs2:rd H sid=rT (spC L):=by rw [hH];exact B6 hs
  have hr2:rd H id=rT (B4 bs):=by rw [hH];exact B6 hr
  have hvH:=hv.since lowH;have st:F7 (h++[rT [o0,o0,o0]]) 3 (pV (l_ h) 0) (.a [cI (a:Int),cI (b:Int),cI (c:Int)])=A4 H:=by
   rw [hH,I3];rfl
  have q1:=C8 (h:=H) (id:=pv) k1 (n:=4) rfl;have q2:=C8 (h:=H) (id:=pv+1) k2 (n:=11) (by show (D1 k l s p d).length=11;simp [D1,C1,hd]);have q3:B9 H (pV (l_ h) 0)=A4 (iV (a:Int)):=B8 k3 rfl rfl;have q4:B9 H (pV (l_ h) 1)=A4 (iV (b:Int)):=B8 k3 rfl rfl;have q5:B9 H (pV (l_ h) 2)=A4 (iV (c:Int)):=B8 k3 rfl rfl;have ad0:K2 3 1 (pV (l_ h) 0) (iV 0)=A4 (pV (l_ h) 0):=rfl;have ad1:K2 3 1 (pV (l_ h) 0) (iV 1)=A4 (pV (l_ h) 1):=rfl;have ad2:K2 3 1 (pV (l_ h) 0) (iV 2)=A4 (pV (l_ h) 2):=rfl;have hA:=C7G (n:=n) (m:=m) (k:=k) (l:=l) (s:=s) (p:=p) (j:=(a:Int)) hD hd hvH;have hat:atF D n k d (a:Int)=vS D n d a:=by unfold atF;rw [C4 (by omega),E8D]
  rw [hat] at hA;have E6v:L.drop i=(a,b,c)::L.drop (i+1):=by rw [E8s K6,<-hsp]
  have w1:=E2 (a:=i) (by omega);rw [E6v,E9c,E9v,A9M];obtain ⟨V,hV0⟩:∃ V,vwC (l_ D) n m f=V:=⟨_,rfl⟩;rw [hV0] at q1 hA;obtain ⟨I,hI0⟩:∃ I,D1 k l s p d=I:=⟨_,rfl⟩;rw [hI0] at q2 hA;by_cases cz:vS D n d a=0
  ·rw [D5e (by omega) cz];rw [cz] at hA;obtain ⟨h',a1,a2,a3,a4⟩:=E52 (m:=c) hr2 (by rw [B5]) (by omega);rw [<-A64] at a2;have el:(bs++zeros c).length=bs.length+c:=by simp
   obtain ⟨v',h'',f1,f2⟩:=C3i hD hd hv hk h1 h2 hL hLl e (i+1) M (l_ H) h' (bs++zeros c) (by omega) (by omega) (by rw [el];omega) (E17 lowH (a4 _ hid (by omega))) (by omega) (by have:=E1 hs;omega) (a3 _ _ (Ne.symm aZ) hs2) a2;rw [E8t] at f2;rw [el] at f1;refine ⟨v',h'',?_,f2⟩;simp only [esc,c0,ad,t1,st,q1,q2,q5,ad0,q3,ad2,hA,eq_self,a1,A9L,w1];exact f1
  ·rw [D5f hD (by omega) cz];have hB:=K8 (n:=n) (m:=m) (no:=vS D n d a) hD hvH;rw [hV0] at hB;have hC:=B1G (h:=H) (J6 hD (i:=vS D n d a)) (a:=(b:Int)) (n:=(c:Int));have ecut:B2T (blk D (vS D n d a)) (b:Int) (c:Int)=((blk D (vS D n d a)).drop b).take c:=by
    unfold B2T;rw [C4 (by omega),E8D,E8D]
   rw [ecut] at hC;have pE:(((blk D (vS D n d a)).drop b).take c).length=c:=by
    rw [E8Y,List.length_drop,J6 hD];omega
   generalize ((blk D (vS D n d a)).drop b).take c=cc at *;rw [pE] at hC;have hQ:=U9 (h:=H) (v:=sV (l_ H) 0 c 1) (Grows.rfl'.new (B4 cc));obtain ⟨h',a1,a2,a3,a4⟩:=E6S (n:=bs.length) (m:=c) (sz:=1) (ys:=B4 cc) hr2 (by rw [B5];omega) (by rw [B5];omega) (by omega) (by omega);rw [<-A64] at a2;have el:(bs++cc).length=bs.length+c:=by simp [pE]
   obtain ⟨v',h'',f1,f2⟩:=C3i hD hd hv hk h1 h2 hL hLl e (i+1) M (l_ H+1) h' (bs++cc) (by omega) (by omega) (by rw [el];omega) (E17 lowH (a4 _ hid (by omega))) (by omega) (by have:=E1 hs;omega) (a3 _ _ (Ne.symm aZ) hs2) a2;rw [E8t] at f2;rw [el] at f1;refine ⟨v',h'',?_,f2⟩;simp only [esc,c0,cz,ad,t1,st,q1,q2,q4,q5,ad0,ad1,q3,ad2,hA,hB,hC,hQ,eq_self,a1,A9L,w1];exact f1
def iR(k s off cnt:Int):Nat:=if 0<=off/\off<dZ k s/\1<=cnt then (min cnt (dZ k s-off)).toNat else 0
def A2H(D:Dev)(n k s:Int)(d:List Int)(off cnt:Int):List UInt8:=(E8Q off.toNat (iR k s off cnt)).map (D3Q D n d)
def D26{off cnt:Int}:(A2H D n k s d off cnt).length=iR k s off cnt:=by simp [A2H]
def C9M{off cnt:Int}(hD:okD D)(hd:l_ d=7)(hv:IsView h f D) :
  B08 [.a (vwC (l_ D) n m f),.a (D1 k l s p d),iV off,iV cnt] h=A4 (sV (l_ h) 0 (A2H D n k s d off cnt).length 1,h++[rT (B4 (A2H D n k s d off cnt))]):=by
 have key:∀ g,IsView g f D->∃ v g',B0H 40001 [.a (vwC (l_ D) n m f),.a (D1 k l s p d),iV off,iV cnt] g=A4 (v,g')/\Out (l_ g) g' v 1 (A2H D n k s d off cnt).length (B4 (A2H D n k s d off cnt)):=by
  intro g hv;have hIl:(D1 k l s p d).length=11:=by simp [D1,C1,hd]
  have hS:=λh=>B7l (k:=k) (l:=l) (s:=s) (p:=p) (d:=d) (h:=h)
  have hsz:=D5F (k:=k) (s:=s);rw [C4M];by_cases c:0<=off/\off<dZ k s/\1<=cnt
  ·have hk:k=1:=D7p (s:=s) (by omega);have c1:¬ off<0:=by omega
   have c2:¬ dZ k s<=off:=by omega
   have c3:¬ cnt<1:=by omega
   have w1:E8r .i64 (dZ k s-off)=dZ k s-off:=wrap_i64 (by omega) (by omega);have m1:=D18 (k:=.i64) (a:=cnt) (b:=dZ k s-off);have hN:(if dZ k s-off<cnt then dZ k s-off else cnt)=((iR k s off cnt:Nat):Int):=by
    unfold iR;rw [C4 c];split<;>omega
   rw [hN] at m1;have hNo:off.toNat+iR k s off cnt<=34304:=by
    have:(iR k s off cnt:Int)<=dZ k s-off:=by rw [<-hN];split<;>omega
    omega
   have e1:B8V off (iR k s off cnt:Int)=spn (iR k s off cnt) off.toNat (iR k s off cnt):=by
    have eo:C3c off=off:=by unfold C3c;split<;>omega
    have em:C4k off (iR k s off cnt:Int)=iR k s off cnt:=by
     unfold C4k;rw [eo,C4 (by omega)];generalize iR k s off cnt=N at *;have e2:(if (0:Int)<(N:Int) then (N:Int) else 0)=N:=by split<;>omega
     rw [e2,C5 (by omega),E8D]
    unfold B8V;rw [em,eo]
   have eb:=D1C (D3Q D n d) (iR k s off cnt) off.toNat (iR k s off cnt) (E8m _);have mK:=D8x (iR k s off cnt) off.toNat (iR k s off cnt);have hlen:=C8M (iR k s off cnt) off.toNat (iR k s off cnt);have hSp:=λh=>C7J (off:=off) (n:=(iR k s off cnt:Int)) (h:=h) (by omega)
   rw [e1] at hSp;have B8E:0<iR k s off cnt:=by
    have:(0:Int)<(iR k s off cnt:Int):=by rw [<-hN];split<;>omega
    omega
   have er:A2H D n k s d off cnt=((spn (iR k s off cnt) off.toNat (iR k s off cnt)).map (B8O D n d)).flatten:=by
    unfold A2H;rw [<-eb];rfl
   rw [er];generalize spn (iR k s off cnt) off.toNat (iR k s off cnt)=L at *;have hLd:L.drop 0=L:=rfl;obtain ⟨v',h',f1,f2⟩:=C3i (l:=l) (n:=n) (m:=m) (s:=s) (p:=p) (g:=g++[rT (vwC (l_ D) n m f),rT (D1 k l s p d),rT []]) (pv:=l_ g) (q:=40001) (sid:=l_ g+4) (L:=L) hD hd (hv.more _) hk (by simp) (by simp)
    (λx hx=>by
     have h1:=mK x hx;have h2:=h1.2.2.2.2 B8E;exact ⟨h1.1,h1.2.2.1,by omega⟩) (by omega) (l_ L) 0 40001 (l_ g+3) (g++[rT (vwC (l_ D) n m f),rT (D1 k l s p d),rT [],rT [],rT (spC L)]) [] (by omega) (by omega) (by simp)
    (by
     have:=(Low.refl (h:=g++[rT (vwC (l_ D) n m f),rT (D1 k l s p d),rT []]) (E8m _)).new [rT [],rT (spC L)];simpa using this) (by simp) (by omega) (by simp) (by simp [B4])
   rw [hLd,E8I] at f2;rw [E8X] at f1;refine ⟨v',h',?_,f2.1,?_⟩
   ·have l11:ldN (rT (D1 k l s p d)) 0 11=A4 (.a (D1 k l s p d)):=K9 hIl;generalize vwC (l_ D) n m f=V at *;generalize D1 k l s p d=I at *;simp only [esc,esh,Nat.reduceAdd,Nat.reduceMul,Nat.reduceLT,c1,c2,c3,hS,w1,m1,hSp,l11];exact f1
   ·obtain ⟨id,e,hb,hr⟩:=f2.2;exact ⟨id,e,by simp at hb;omega,hr⟩
  ·have er:A2H D n k s d off cnt=[]:=by
    unfold A2H iR;rw [C5 c];rfl
   rw [er];have l11:ldN (rT (D1 k l s p d)) 0 11=A4 (.a (D1 k l s p d)):=K9 hIl;have fin:∀ h:A9,Out (l_ g) (g++[rT (vwC (l_ D) n m f),rT (D1 k l s p d),rT [],rT []]) (sV (l_ g+3) 0 0 1) 1 ([]:List UInt8).length (B4 []):=λh=>⟨rfl,l_ g+3,rfl,by omega,by simp [B4]⟩
   refine ⟨sV (l_ g+3) 0 0 1,_,?_,fin g⟩;generalize vwC (l_ D) n m f=V at *;generalize D1 k l s p d=I at *;by_cases c1:off<0
   ·simp only [esc,esh,Nat.reduceAdd,Nat.reduceMul,Nat.reduceLT,c1]
   ·by_cases c2:dZ k s<=off
    ·simp only [esc,esh,Nat.reduceAdd,Nat.reduceMul,Nat.reduceLT,c1,c2,hS,l11]
    ·have c3:cnt<1:=by omega
     simp only [esc,esh,Nat.reduceAdd,Nat.reduceMul,Nat.reduceLT,c1,c2,c3,hS,l11]
 obtain ⟨v,g',e,ho⟩:=key (ro h) hv.ro;exact C2a e (by simpa [G8] using ho) (by simp)
def D2m(hD:okD D)(hd:l_ d=7)(hv:IsView h f D) :
  B3W [.a (vwC (l_ D) n m f),.a (D1 k l s p d)] h=A4 (sV (l_ h) 0 (A2H D n k s d 0 34304).length 1,h++[rT (B4 (A2H D n k s d 0 34304))]):=by
 have key:∀ g,IsView g f D->∃ v g',B3l 0 [.a (vwC (l_ D) n m f),.a (D1 k l s p d)] g=A4 (v,g')/\Out (l_ g) g' v 1 (A2H D n k s d 0 34304).length (B4 (A2H D n k s d 0 34304)):=by
  intro g hv;have hIl:(D1 k l s p d).length=11:=by simp [D1,C1,hd]
  have l11:ldN (rT (D1 k l s p d)) 0 11=A4 (.a (D1 k l s p d)):=K9 hIl;have l4:=B5A (b:=l_ D) (n:=n) (m:=m) (f:=f);have hR:=C9M (n:=n) (m:=m) (k:=k) (l:=l) (s:=s) (p:=p) (off:=0) (cnt:=34304) (h:=g++[rT (vwC (l_ D) n m f),rT (D1 k l s p d),rT []]) hD hd (hv.more _);simp only [esc] at hR;rw [C51];generalize A2H D n k s d 0 34304=bs at *;generalize vwC (l_ D) n m f=V at *;generalize D1 k l s p d=I at *;exact ⟨_,_,by simp only [esc,esh,Nat.reduceAdd,Nat.reduceMul,Nat.reduceLT,l4,l11,hR]<;>rfl,by rw [B5,E9w],l_ g+3,rfl,by omega,by simp⟩
 obtain ⟨v,g',e,ho⟩:=key (ro h) hv.ro;exact C47 e (by simpa [G8] using ho) (by simp)
def B4x(D:Dev)(n i:Int):Bool:=Q2 (l_ D) n i&&cD (uZ D n i)
def lnV(D:Dev)(n i:Int):Int:=bif B4x D n i then B4N (uZ D n i) else 0
def szV(D:Dev)(n i:Int):Int:=bif B4x D n i then B4P (uZ D n i) else 0
def paV(D:Dev)(n i:Int):Int:=bif B4x D n i then B4O (uZ D n i) else 0
def drV(D:Dev)(n i:Int):List Int:=bif B4x D n i then bW (uZ D n i) else zI 7
def O0:(drV D n i).length=7:=by
 unfold drV;cases B4x D n i with
 | false=>exact N5
 | true=>exact M7
def D2z:kdV D n i=bif B4x D n i then B2U (uZ D n i) else 0:=by
 unfold kdV B4x;cases Q2 (l_ D) n i<;>rfl
def nK(D:Dev)(n i:Int):A9R D n i=D1 (kdV D n i) (lnV D n i) (szV D n i) (paV D n i) (drV D n i):=by
 rw [D2z];unfold A9R lnV szV paV drV B4x;cases Q2 (l_ D) n i with
 | false=>rfl
 | true =>
  rw [E8K,S8];unfold oU;cases cD (uZ D n i)<;>rfl
def D6R(h:kdV D n i≠0):P6 (l_ D) n=A5/\1<=i/\i<=n:=by
 rw [<-M8];unfold kdV at h;cases hi:Q2 (l_ D) n i with
 | false=>rw [hi] at h;exact absurd rfl h
 | true=>rfl
structure Nd where
 ino:Int
 kind:Int
 links:Int
 parent:Int
 size:Int
 data:List UInt8
 names:List Ent
 deriving DecidableEq
def C9S(D:Dev)(n:Int)(e:Ent):Bool:=decide (kdV D n e.2=1)||decide (kdV D n e.2=2)
def A4e(D:Dev)(n i:Int):List Ent:=(iQ D n (kdV D n i) (drV D n i)).filter (C9S D n)
def A2Y(D:Dev)(n i:Int):List UInt8:=A2H D n (kdV D n i) (szV D n i) (drV D n i) 0 34304
def tK(D:Dev)(n i:Int):Nd:=⟨i,kdV D n i,lnV D n i,paV D n i,dZ (kdV D n i) (szV D n i),A2Y D n i,A4e D n i⟩
def C23:(iQ D n k d).length<=224:=by
 have hbl:=A60 (D:=D) (n:=n) (k:=k) (d:=d);have:∀ L:List Int,(C6Q D L).length<=7*(l_ L):=by
  intro L
  induction L with
  | nil=>simp [C6Q]
  | cons b L ih =>
   have:=lO (blk D b);rw [D0u,E8o,E8w];simp [C1s];omega
 have h1:=this (T1 D n k d);have h2:=D9x (D:=D) (n:=n) (k:=k) (d:=d);unfold sJ at h2;omega
def D4T:(A4e D n i).length<=224:=by
 have h1:=C23 (D:=D) (n:=n) (k:=kdV D n i) (d:=drV D n i);have h2:=E9f (C9S D n) (iQ D n (kdV D n i) (drV D n i));unfold A4e;omega
def C3l(r:List Int)(i:Int):List Int:=if i∈r then r else r++[i]
def C8H(r:List Int)(es:List Ent):List Int:=es.foldl (λr e=>C3l r e.2) r
def B0f(N:Int->List Ent):Nat->Nat->List Int->List Int
 | 0,_,R=>R
 | e+1,i,R=>if h:i<(1::R).length then B0f N e (i+1) (C8H R (N ((1::R)[i]))) else R
def D5z{r:List Int}:a∈C3l r i↔a∈r\/a=i:=by
 unfold C3l;split
 ·constructor
  ·exact .inl
  ·rintro (h | rfl)<;>assumption
 ·simp
def E2Q(r:List Int)(i:Int):r <+: C3l r i:=by
 unfold C3l;split
 ·exact E9j _
 ·exact List.prefix_append _ _
def D7o{r:List Int}(h:r.Nodup):(C3l r i).Nodup:=by
 unfold C3l;split
 ·exact h
 ·rename_i hn;rw [List.nodup_append];exact ⟨h,by simp,λa ha b hb e=>by simp at hb;subst hb;subst e;exact hn ha⟩
def B6c{r:List Int}{e:Ent}{es:List Ent}:C8H r (e::es)=C8H (C3l r e.2) es:=rfl
def B5o:∀ {es:List Ent} {r:List Int},a∈C8H r es↔a∈r\/∃ e∈es,e.2=a
 | [],r=>by simp [C8H]
 | e::es,r=>by
  rw [B6c,B5o,D5z];constructor
  ·rintro ((h | rfl) | ⟨x,hx,rfl⟩)
   ·exact .inl h
   ·exact .inr ⟨e,by simp,rfl⟩
   ·exact .inr ⟨x,by simp [hx],rfl⟩
  ·rintro (h | ⟨x,hx,rfl⟩)
   ·exact .inl (.inl h)
   ·rw [E8J] at hx;rcases hx with rfl | hx
    ·exact .inl (.inr rfl)
    ·exact .inr ⟨x,hx,rfl⟩
def C8J:∀ (es:List Ent) (r:List Int),r <+: C8H r es
 | [],r=>E9j _
 | e::es,r=>by rw [B6c];exact (E2Q r e.2).trans (C8J es _)
def C8I:∀ {es:List Ent} {r:List Int},r.Nodup->(C8H r es).Nodup
 | [],r,h=>h
 | e::es,r,h=>by rw [B6c];exact C8I (D7o h)
structure RowI(N:Int->List Ent)(i:Nat)(R:List Int):Prop where
 nd:R.Nodup
 hd:1∈R
 rg:∀ a∈R,1<=a/\a<=128
 dn:∀ (j:Nat) (a:Int),j<i->(1::R)[j]?=A4 a->∀ e∈N a,e.2∈R
 by_:∀ a∈R,a≠1->∃ b∈R,∃ e∈N b,e.2=a
def RowI.one{N:Int->List Ent}:RowI N 0 [1] :=
 ⟨by simp,by simp,λa ha=>by simp at ha;omega,λj a hj=>by omega,λa ha hn=>by simp at ha;exact absurd ha hn⟩
def RowI.step{N:Int->List Ent}(hN:∀ a,∀ e∈N a,1<=e.2/\e.2<=128){i:Nat}{R:List Int}(h:RowI N i R)(hi:i<(1::R).length):RowI N (i+1) (C8H R (N ((1::R)[i]))):=by
 have hm:(1::R)[i]∈R:=by
  have:=E8M hi;rw [E8J] at this;rcases this with e | e
  ·rw [e];exact h.hd
  ·exact e
 have hp:=C8J (N ((1::R)[i])) R;refine ⟨C8I h.nd,hp.subset h.hd,λa ha=>?_,λj a hj hja e he=>?_,λa ha hn=>?_⟩
 ·rcases B5o.1 ha with ha | ⟨e,he,rfl⟩
  ·exact h.rg a ha
  ·exact hN _ e he
 ·by_cases hji:j=i
  ·subst hji;have:a=(1::R)[j]:=by
    have hpre:(1::R) <+: (1::C8H R (N ((1::R)[j]))):=List.cons_prefix_cons.2 ⟨rfl,hp⟩;have h2:=List.prefix_iff_getElem?.1 hpre j hi;rw [h2] at hja;exact (Option.some.inj hja).symm
   subst this;exact B5o.2 (.inr ⟨e,he,rfl⟩)
  ·have E7t:(1::R)[j]?=A4 a:=by
    have hpre:(1::R) <+: (1::C8H R (N ((1::R)[i]))):=List.cons_prefix_cons.2 ⟨rfl,hp⟩;have h2:=List.prefix_iff_getElem?.1 hpre j (by omega);rw [E8h (by omega),<-hja,h2]
   exact hp.subset (h.dn j a (by omega) E7t e he)
 ·rcases B5o.1 ha with ha | ⟨e,he,rfl⟩
  ·obtain ⟨b,hb,e,he,h3⟩:=h.by_ a ha hn;exact ⟨b,hp.subset hb,e,he,h3⟩
  ·exact ⟨_,hp.subset hm,e,he,rfl⟩
def A7j{R:List Int}(hn:R.Nodup)(hr:∀ a∈R,1<=a/\a<=128):l_ R<=128:=by
 have:(R.map Int.toNat).Nodup:=by
  rw [List.Nodup,List.pairwise_map];refine hn.imp_of_mem λ{a b} ha hb hab e=>?_
  have:=hr a ha;have:=hr b hb;omega
 have hs:∀ x∈R.map Int.toNat,x∈E8Q 1 128:=by
  intro x hx;rw [E8N] at hx;obtain ⟨a,ha,rfl⟩:=hx;have:=hr a ha;rw [List.mem_range'_1];omega
 have:=List.Nodup.length_le_of_subset this hs;simpa using this
def D5X{N:Int->List Ent}(hN:∀ a,∀ e∈N a,1<=e.2/\e.2<=128):∀ (e i:Nat) (R:List Int),130<=e+i->RowI N i R->(∃ j,(1::B0f N e i R).length<=j/\RowI N j (B0f N e i R))/\R <+: B0f N e i R
 | 0,i,R,h,hi=>by
  have:=A7j hi.nd hi.rg;exact ⟨⟨i,by simp [B0f];omega,hi⟩,E9j _⟩
 | e+1,i,R,h,hi=>by
  unfold B0f;by_cases hl:i<(1::R).length
  ·rw [dif_pos hl];obtain ⟨h1,h2⟩:=D5X hN e (i+1) _ (by omega) (hi.step hN hl);exact ⟨h1,(C8J _ _).trans h2⟩
  ·rw [dif_neg hl];exact ⟨⟨i,by omega,hi⟩,E9j _⟩
def C3j(D:Dev)(n:Int):List Int:=B0f (A4e D n) 130 0 [1]
def E6(D:Dev)(n:Int):List Nd:=if kdV D n 1=2 then ((E8T 129).filter λ(i:Nat)=>decide ((i:Int)∈C3j D n)).map λ(i:Nat)=>tK D n (i:Int) else []
def D4N{b:Int}(h:P6 b n=A5):n<=128:=by
 simp only [P6,E8j,decide_eq_true_eq] at h;omega
def D8i:∀ e∈A4e D n a,kdV D n e.2=1\/kdV D n e.2=2:=by
 intro e he;have:=(E8Z.1 he).2;unfold C9S at this;simpa using this
def D2T:∀ e∈A4e D n a,1<=e.2/\e.2<=128:=by
 intro e he;have h:=D6R (D:=D) (n:=n) (i:=e.2) (by rcases D8i e he with h | h<;>omega);have:=D4N h.1;omega
def C1i:∃ j,(1::C3j D n).length<=j/\RowI (A4e D n) j (C3j D n):=(D5X (λa=>D2T) 130 0 [1] (by omega) RowI.one).1
def E4f(ha:a∈C3j D n):∀ e∈A4e D n a,e.2∈C3j D n:=by
 obtain ⟨j,hj,hi⟩:=C1i (D:=D) (n:=n);obtain ⟨i,hi2⟩:=E9g.1 (E8q 1 ha);have:=(E8p.1 hi2).1;exact hi.dn i a (by omega) hi2
def B6d{x:Nd}:x∈E6 D n↔kdV D n 1=2/\x.ino∈C3j D n/\x=tK D n x.ino:=by
 obtain ⟨j,hj,hi⟩:=C1i (D:=D) (n:=n);unfold E6;by_cases h:kdV D n 1=2
 ·rw [C4 h,E8N];constructor
  ·rintro ⟨i,hi,rfl⟩;exact ⟨h,of_decide_eq_true (E8Z.1 hi).2,rfl⟩
  ·rintro ⟨_,h1,h2⟩;have:=hi.rg _ h1;refine ⟨x.ino.toNat,E8Z.2 ⟨by rw [List.mem_range];omega,?_⟩,?_⟩
   ·rw [show ((x.ino.toNat:Nat):Int)=x.ino by omega];simpa using h1
   ·rw [show ((x.ino.toNat:Nat):Int)=x.ino by omega];exact h2.symm
 ·rw [C5 h];simp [h]
def treeV_up:(E6 D n).Pairwise λx y=>x.ino<y.ino:=by
 unfold E6;split
 ·rw [List.pairwise_map];refine (List.pairwise_lt_range).filter _ |>.imp λ{a b} h=>?_
  show (a:Int)<b;omega
 ·exact List.Pairwise.nil
def iO(t:List Nd)(i:Int):Option Nd:=t.find? λx=>decide (x.ino=i)
def oW(t:List Nd)(i:Int):Nat:=(t.map λx=>(x.names.filter λe=>decide (e.2=i)).length).sum
def D6D(h:kdV D n 1=2)(hi:i∈C3j D n):iO (E6 D n) i=A4 (tK D n i):=by
 have hm:tK D n i∈E6 D n:=B6d.2 ⟨h,hi,rfl⟩;unfold iO;cases hf:(E6 D n).find? λx=>decide (x.ino=i) with
 | none =>
  rw [List.find?_eq_none] at hf;exact absurd (show (tK D n i).ino=i from rfl) (by simpa using hf _ hm)
 | some x =>
  have h1:=List.mem_of_find?_eq_some hf;have h2:=List.find?_some hf;have h3:=(B6d.1 h1).2.2;rw [of_decide_eq_true h2] at h3;rw [h3]
def small(t:List Nd):Prop:=l_ t<=1000000/\∀ x∈t,x.data.length<=1000000/\x.names.length<=1000000
def E21{α:Type}{l m:List α}{i:Nat}(h:l <+: m)(hi:i<=l_ l):m.take i=l.take i:=by
 obtain ⟨t,rfl⟩:=h;rw [List.take_append_of_le_length hi]
def D6E{k:Nat}{x:Ent}(hx:O3 b k=A4 x):aS x.1=A5:=by
 unfold O3 at hx;cases hu:gY (nameB b k) with
 | none=>rw [hu] at hx;cases hx
 | some s' =>
  rw [hu,E8z] at hx;split at hx
  ·cases hx;exact A4i hu
  ·cases hx
def D6V{e:Ent}(h:e∈iQ D n k d):aS e.1=A5:=by
 unfold iQ at h;rw [E8N] at h;obtain ⟨s,hs,rfl⟩:=h;rw [fB] at hs;unfold T6 at hs;rw [E8N] at hs;obtain ⟨t,ht,rfl⟩:=hs;have h1:=(E8Z.1 ht).1;unfold sJ C6Q at h1;rw [List.mem_flatMap] at h1;obtain ⟨b,_,h2⟩:=h1;unfold C1s at h2;rw [E8N] at h2;obtain ⟨x,hx,rfl⟩:=h2;have h3:=D6E (A9X hx).1;exact h3
section
variable (n m m2:Nat) (a0 a1 a2 a3 x1 x2 x3 x4 x5 x6 x8 x9 x10 x11 x12 x17 x18 x19 x28 x29 x30 x34 x35 x36 x45:Val) (h:A9)
def jJ:FD A8:=⟨px 0X124f766f76c1c211111104326bf3e055a022180022a66f506239020129123e19e2180466f57182401b61919021aa1a18a1aa70150227c4f061b94524ef1900079062030416e52f44a1c62b4249f22629181b021841821d45e4215011a07024613401217f420060511029042335c1b186843a1c57d7b795282102339f27613c065a01518141c1328122c11381063c3b042234c1b185841801133e1b180433a50412e50402a5381d01e1191d0531cf21b63b51b042032c12841a1c51b423c41b422e219531c2,[],[],[.cellN 4 7],[D8 F9 J5,D8 A3T B0o,D8 B3W C3z,D8 yA B0m]⟩
def B3E:=jJ.R
def C1u:AtH:=jJ.lj 0 n [m] [x2,x4,x6,x28,x29,x30]
def D3e:AtH:=jJ.lj 1 n [m] [x2,x4,x6,x28,x29,x30]
def B4a:=tT [⟨2,6,C1u⟩,⟨2,6,D3e⟩]
def C6l:=mR B3E jJ B4a n [a0,a1] h
def B2y:=mL jJ B4a 0 n [m] [x2,x4,x6,x28,x29,x30] h
def A24:=mJ jJ B4a 1 n [m] [x2,x4,x6,x28,x29,x30] h
def C3E:=jJ.K Tryz.func50
def A6P:=jJ.S
def A86:D0q B3E A6P:=C3E.tidy
def A6j:FD A8:=⟨px 0X2582a0613901011113e714a451816f104203713e418713c450192110332403f1e1d023d4521cf11bf2763c51b11a280181b2c1af70038711e1859191d75302c2,[],[.look (A4 .i64) (.a ([o0,o0,o0,o0,o0,.ns,.ns])) A5 (.t 8) (.t 9),.mput (A4 .i64) (.t 15) (.t 16) (.t 19)],[],[D8 A6P C3E]⟩
def C3J:=A6j.R
def B3D:=mR C3J A6j (tT []) n [a0,a1,a2,a3] h
def C3D:=A6j.K Tryz.func49
def vN:=A6j.Q
def B32:OfT C3J vN:=C3D.of
def N3:FD A8:=⟨px 0X17cf201ce7c025000002727bf5d053c07b4921807af1900673907013c173e1ba7181bc1518241ac6e011dd3526df16cf2763c1b1b11a280186c2c6bf6802381a813f695919392f21925ff1a04122d4255031a47024313188d01211bd420264515d011bb71820137194812b11111114723bf605002583a03185cf4c0528022180165f04118a55f5804184ff22629181b021841821d47a423503270247134012119b42016250110296079138040411d6816a46a3c591901919918f18d1c3154130702406120294e4482e046b42030060516013e484a1c211235105f3e2c02022bf503e4c483692b18921b0522af22a241b51011112a5d3194229f22a531b0297d372019201724815006224190320079502033841d1c449420374a03a2342,[],[.mkMap,.look (A4 .i64) (.a ([o0,o0,o0,o0,o0,.ns,.ns])) A6 (.t 28) (.t 32),.look (A4 .i64) (.a ([o0,o0,o0,o0,o0,.ns,.ns])) A5 (.t 49) (.t 50)],[.tmp 2],[D8 F9 J5,gG vN C3D]⟩
def B17:=N3.R
def tS:K7:=N3.E
def A1m:AtH:=N3.lj 0 n [m] [x3,x4,x5,x6]
def B0e:AtH:=N3.lj 1 n [m,m2] [x3,x4,x5,x6,x34,x35,x36]
def A1n:AtH:=N3.lj 2 n [m] [x3,x9,x45]
def C3s:AtH:=N3.lj 3 n [m] [x3,x9,x45]
def kN:TT:=⟨tS,[⟨2,4,A1m⟩,⟨3,7,B0e⟩,⟨2,3,A1n⟩,⟨2,3,C3s⟩]⟩
def A4V:=mR B17 N3 kN n [a0] h
def A3s:=mL N3 kN 0 n [m] [x3,x4,x5,x6] h
def A3t:=mL N3 kN 1 n [m,m2] [x3,x4,x5,x6,x34,x35,x36] h
def sL:=mL N3 kN 2 n [m] [x3,x9,x45] h
def A3r:=mJ N3 kN 3 n [m] [x3,x9,x45] h
def A2P:=N3.K Tryz.func14
def eY:=N3.Q
def A5d:OfT B17 eY:=A2P.of
def vJ:FD A8:=⟨px 0X135026c7603c3e18e3023df1a054e03d49218011b50268765a71835c152022a6585062390464a500023e602022a53e50613904538500013e6222202322404223e10401e1e2b44b421df2763c71b071841871d41842150307024513401212f420060511029718032d2b2932820023313c41b219301c2,[],[],[.cellN 4 7,.tmp 5],[]⟩
def A17:=vJ.R
def zQ:AtH:=vJ.lj 0 n [m] [x1,x4,x8,x9,x10]
def C3P:=tT [⟨2,5,zQ⟩]
def B3C:=mR A17 vJ C3P n [a0,a1] h
def A23:=mL vJ C3P 0 n [m] [x1,x4,x8,x9,x10] h
def A6q:=vJ.K Tryz.func132
def oE:=vJ.S
def C2w:G0 A17 oE:=A6q.flat
def C2x:D0q A17 oE:=A6q.tidy
def Z6:FD A8:=⟨px 0X13ff406c3f02280000000006723ef1c054c03e492183df2b052c03d4921803cf5050025c13182404226810413c2f2b46d2522ef22629191b021841821d42e4235021a27024181340121594201625110290462a282b44f4d4b21d21ff2763c71b071841871d41c42150307024513401213b42006051102971a03392f2d328200231111b42140130182,[],[],[.tmp 4],[]⟩
def B0S:=Z6.R
def A8B:AtH:=Z6.lj 0 n [m] [x1,x5,x10,x11,x12]
def B7H:AtH:=Z6.lj 1 n [m,m2] [x1,x5,x10,x11,x12,x17,x18,x19]
def C95:AtH:=Z6.lj 2 n [m,m2] [x1,x5,x10,x11,x12,x17,x18,x19]
def A31:=tT [⟨2,5,A8B⟩,⟨3,8,B7H⟩,⟨3,8,C95⟩]
def C4Z:=mR B0S Z6 A31 n [a0,a1] h
def B0d:=mL Z6 A31 0 n [m] [x1,x5,x10,x11,x12] h
def A1l:=mL Z6 A31 1 n [m,m2] [x1,x5,x10,x11,x12,x17,x18,x19] h
def B0c:=mJ Z6 A31 2 n [m,m2] [x1,x5,x10,x11,x12,x17,x18,x19] h
def B9g:=Z6.K Tryz.func87
def B1a:=Z6.S
def B9Y:G0 B0S B1a:=B9g.flat
end
def D6y{l:List Ent}{x:Ent}:K0 (l++[x])=K0 l++W8 (A4 x):=by simp [K0]
def iN{l:List Ent}:(K0 l).length=l_ l*2:=by
 induction l with
 | nil=>rfl
 | cons x l ih=>simp only [K0,E9c,E9v,E8o,E8w,W8,E8X] at ih ⊢;omega
def B1s{l:List Ent}:M9 (K0 l)=A5:=by
 induction l with
 | nil=>rfl
 | cons x l ih =>
  have:K0 (x::l)=W8 (A4 x)++K0 l:=rfl;rw [this,kD,ih];rfl
def A9F{l:List Ent}:noX (K0 l)=A5:=by
 induction l with
 | nil=>rfl
 | cons x l ih =>
  have:K0 (x::l)=[.s x.1,cI x.2]++K0 l:=rfl;rw [this];simp [noX,Cell.isX] at ih ⊢;exact ih
def D44{F:List UInt8->Int}{B:A9}{b q sid:Nat}{S:sY}(hm:MapN es F S)(hb:b+5<l_ B)(hs:rd B sid=rT (encS S))(h5:rd B (b+5)=rT [.m mid])(h4:rd B mid=A4 (Q1 es))(h62:l_ S<1000000) :
  ∀ (e i M id:Nat) (h:A9),i+e=l_ S->e<M->Low b B h->id≠b+5->id≠sid->id≠mid->b<=id->(∀ j r,j=b+5\/j=sid\/j=mid->rd B j=A4 r->rd h j=A4 r)->rd h id=rT (K0 ((S.take i).map λs=>(s,F s)))->l_ B<=(l_ h) ->
   ∃ v' h',B7i q M (.c (.p (b+5) 0)) (.c (.sl id 0 i 2)) (.c (.sl sid 0 (l_ S) 1)) (.c (cI (l_ S:Int))) (.c (cI (i:Int))) h=A4 (v',h')/\Out b h' v' 2 (l_ S) (K0 (S.map λs=>(s,F s)))
 | e,i,0,id,h,_,hm,_,_,_,_,_,_,_,_=>by omega
 | 0,i,M+1,id,h,hi,hm0,hlow,n5,ns,n4,hbi,hk,hr,hl=>by
  have c0:¬ (i:Int)<(l_ S:Nat):=by omega
  have ei:i=(l_ S):=by omega
  subst ei;rw [A9C];rw [List.take_length] at hr;refine ⟨.c (.sl id 0 (l_ S) 2),h,by simp only [C7,G4,c0,decide_false,Y6],by rw [iN];simp,id,rfl,hbi,hr⟩
 | e+1,i,M+1,id,h,hi,hm0,hlow,n5,ns,n4,hbi,hk,hr,hl=>by
  have K6:i<(l_ S):=by omega
  have c0:(i:Int)<(l_ S:Nat):=by omega
  have ad:F0 1 (.c (.sl sid 0 (l_ S) 1)) (.c (cI (i:Int)))=A4 (.c (.p sid i)):=by rw [E4 K6];simp
  have l1:B9 h (.c (.p sid i))=A4 (.c (.s S[i])):=B8 (hk sid _ (.inr (.inl rfl)) hs) (by rw [B4C,E8h K6];rfl) rfl;have l5:B9 h (.c (.p (b+5) 0))=A4 (.c (.m mid)):=B8 (hk _ _ (.inl rfl) h5) rfl rfl;have lk:=D4I (s:=S[i]) (hk _ _ (.inr (.inr rfl)) h4) hm (E8M K6);have ef:F6 [Cell.s [],o0] [(0,1,.c (.s S[i])),(1,1,.c (cI (F S[i])))]=A4 (W8 (A4 (S[i],F S[i]))):=rfl;have ef2:F6 [Cell.s [],o0] [(0,2,.a (W8 (A4 (S[i],F S[i]))))]=A4 (W8 (A4 (S[i],F S[i]))):=rfl;have el:((S.take i).map λs=>(s,F s)).length=i:=by simp;omega
  obtain ⟨h2,a1,a2,a3,a4⟩:=B5j (n:=i) (sz:=2) (ys:=W8 (A4 (S[i],F S[i]))) hr (by rw [iN,el]) rfl (by omega) (by omega);have et:K0 ((S.take i).map λs=>(s,F s))++W8 (A4 (S[i],F S[i]))=K0 ((S.take (i+1)).map λs=>(s,F s)):=by
   rw [List.take_add_one,E8h K6,E9e,K0];simp [K0]
  rw [et] at a2;have w1:=E2 (a:=i) (by omega);have E7B:=E1 a2;obtain ⟨v',h',f1,f2⟩:=D44 (q:=q) hm hb hs h5 h4 h62 e (i+1) M (l_ h+1) h2 (by omega) (by omega) (hlow.trans (a4 _ hbi (by have:=hlow.1;omega))) (by omega)
   (λe1=>by have:=E1 hs;omega) (λe1=>by have:=E1 h4;omega) (by omega) (λj r hj hjr=>a3 _ _ (by rcases hj with rfl | rfl | rfl<;>omega) (hk j r hj hjr)) a2 (by omega)
  rw [A9C];refine ⟨v',h',?_,f2⟩;simp only [C7,G4,c0,decide_true,X6,ad,l1,l5,lk,ef,ef2,a1,L8,w1];exact f1
def B7h(hD:okD D)(hd:l_ d=7)(hv:IsView h f D) :
  yA [.a (vwC (l_ D) n m f),.a (D1 k l s p d)] h=A4 (.c (.sl (l_ h) 0 (iQ D n k d).length 2),h++[rT (K0 (iQ D n k d))]):=by
 have key:∀ g,IsView g f D->∃ v g',B0D 300 [.a (vwC (l_ D) n m f),.a (D1 k l s p d)] g=A4 (v,g')/\Out (l_ g) g' v 2 (iQ D n k d).length (K0 (iQ D n k d)):=by
  intro g hv;have hIl:(D1 k l s p d).length=11:=by simp [D1,C1,hd]
  have hbl:=A60 (D:=D) (n:=n) (k:=k) (d:=d);obtain ⟨V,hV⟩:=xEq (vwC (l_ D) n m f);obtain ⟨I,hI⟩:=xEq (D1 k l s p d);have hVl:l_ V=4:=by rw [hV];rfl
  have E1L:l_ I=11:=by rw [hI];exact hIl
  obtain ⟨G,hG⟩:=xEq (g++[rT V,rT I,rT [],rT [.ns],A4 (Q1 []),rT [.m (l_ g+4)]]);obtain ⟨G2,hG2⟩:=xEq (G++[rT V,rT I,rT (encI (T1 D n k d))]);have lG:l_ G=l_ g+6:=by rw [hG];simp
  have lG2:G2.length=l_ g+9:=by rw [hG2];simp [lG]
  have hB:=A2Z (n:=n) (m:=m) (k:=k) (l:=l) (s:=s) (p:=p) (h:=G++[rT V,rT I]) hD hd (by rw [hG];exact (hv.more _).more _);rw [<-hV,<-hI] at hB;have hB2:(G++[rT V,rT I])++[rT (encI (T1 D n k d))]=G2:=by rw [hG2];simp
  rw [hB2] at hB;have lB:(G++[rT V,rT I]).length=l_ g+8:=by simp [lG]
  rw [lB] at hB;have emk:A32 134 [.c (.p (l_ g) 0),.c (.p (l_ g+1) 0),.c (.p (l_ g+3) 0),.c (.p (l_ g+5) 0)]=A4 (.c (.f 134 [(l_ g,0),(l_ g+1,0),(l_ g+3,0),(l_ g+5,0)])):=rfl;have hcv:∀ (x y:Val) (h:A9),aQ nP (.c (.f 134 [(l_ g,0),(l_ g+1,0),(l_ g+3,0),(l_ g+5,0)])) [x,y] h=yB [x,y,.c (.p (l_ g) 0),.c (.p (l_ g+1) 0),.c (.p (l_ g+3) 0),.c (.p (l_ g+5) 0)] h:=λ_ _ _=>Eq.trans rfl rfl
  have P0:ListP D n k d V I (T1 D n k d) g [] 0 [] G2:=by
   refine ⟨VarC.nil ?_,E8m _,?_,?_,?_,?_,?_,?_,⟨[],?_,MapN.nil _⟩,λj hj=>by simp at hj⟩
   ·rw [hG2,hG];simp
   ·rw [hG2,hG];exact ((Low.refl (E8m _)).new _).new _
   ·rw [hG2,hG];simp
   ·rw [hG2,hG];simp
   ·rw [hG2,<-lG];simp
   ·rw [hG2,show (l_ g)+8=l_ G+2 by omega];simp
   ·rw [hG2,hG];simp
   ·rw [hG2,hG];simp
  obtain ⟨h',f1,f2⟩:=B4i (σ:=List Tld) (L0:=λM x h=>A0x 300 M (.c (.f 134 [(l_ g,0),(l_ g+1,0),(l_ g+3,0),(l_ g+5,0)])) (.c (.p (l_ g+6) 0)) (.c (.sl (l_ g+8) 0 (T1 D n k d).length 1)) (.c (cI ((T1 D n k d).length:Nat))) x h)
   (L1:=λM m2 x7 x14 x21 x22 x23 h=>A0y 300 M m2 (.c (.f 134 [(l_ g,0),(l_ g+1,0),(l_ g+3,0),(l_ g+5,0)])) (.c (.p (l_ g+6) 0)) x7 (.c (.sl (l_ g+8) 0 (T1 D n k d).length 1)) (.c (cI ((T1 D n k d).length:Nat))) x14 x21 x22 x23 h)
   (C:=λx y h=>aQ nP (.c (.f 134 [(l_ g,0),(l_ g+1,0),(l_ g+3,0),(l_ g+5,0)])) [x,y] h)
   (N:=300) (x3:=.c (.p (l_ g+6) 0)) (n:=n) (m:=m) (f:=f) (sid:=l_ g+8) (L:=T1 D n k d) hD (λrs c s h=>ListP D n k d V I (T1 D n k d) g rs c s h) (λs t=>s++[t]) (by omega)
   (λM x h=>by rw [A8n])
   (λM v9 x v w M2 y h=>by rw [A8o])
   (λrs c s h P=>⟨by rw [<-hV];exact C8 P.r6 hVl,hv.since P.low,P.r8⟩)
   (λrs c s h t P=>P.more t) (λrs c s h r P=>P.one r) (λi rs c s h P=>P.less) (λrs c c' s h P hc=>P.wide hc)
   (λrs c st h1 no x P hc Y8 hx=>by
    obtain ⟨h2,e1,e2,e3⟩:=E5R (t:=((no,x.1,x.2.2),x.2.1)) (n:=n) (m:=m) (k:=k) (l:=l) (s0:=s) (p:=p) (c:=c) hD hd hv (by omega) (by have:=B6a (A9X hx).1;exact this) (by rw [<-hV,<-hI];exact P);rw [<-hV,<-hI] at e2;exact ⟨h2,by rw [hcv];exact e1,e2,e3⟩)
   (by omega) (T1 D n k d).length 0 300 [] [] G2 (by omega) (by omega) P0
  rw [E8y] at f2;have efold:∀ (L:List Tld) (s0:List Tld),L.foldl (λs t=>s++[t]) s0=s0++L:=by
   intro L
   induction L with
   | nil=>intro s0;simp
   | cons t L ih=>intro s0;rw [E9q,ih];simp
  rw [efold,E8I] at f2;change ListP D n k d V I (T1 D n k d) g [] (7*(T1 D n k d).length) (sJ D n k d) h' at f2;have hS:oB [.a V,.a I,.c (.f 134 [(l_ g,0),(l_ g+1,0),(l_ g+3,0),(l_ g+5,0)])] G=A4 (.t [],h'):=by
   refine A8Y (n:=300) ?_;rw [A8P];have g4:C9 (G++[rT V,rT I]) 4 (.c (.p (l_ G) 0))=A4 (.a V):=by rw [H6];exact K9 hVl
   have g11:C9 (G++[rT V,rT I]) 11 (.c (.p (l_ G+1) 0))=A4 (.a I):=by rw [P7];exact K9 E1L
   simp only [bQ,C7,E8t,E89,E8I,E8o,E8w,E8X,E8A,g4,g11,hB,A6U];rw [lG];exact f1
  obtain ⟨x,hx,hdx⟩:=f2.var;have hN:=C8g (D:=D) (n:=n) (k:=k) (d:=d) (s:=sJ D n k d);have hlen:=f2.len;have W4:=E1 f2.r8;have hH:Has (h'++[rT []]) (.c x) 1 (T6 D n k d (sJ D n k d)).length (encS (T6 D n k d (sJ D n k d))):=by
   rcases hdx with ⟨e1,e2,rfl⟩ | ⟨id,rfl,hr,hl,_,_⟩
   ·exact .inl ⟨rfl,e1,e2⟩
   ·exact Has.row (rw:=A5) (B6 hr) hl (C8l _)
  have hSo:=C0V hH (by omega);obtain ⟨es,r4,hm⟩:=f2.r4;have hm2:MapN es (D6P D n k d) (fY (T6 D n k d (sJ D n k d))):=⟨hm.1,λs hs=>hm.2 s ((fB _ _).1 hs)⟩;have hsl:=B1S (T6 D n k d (sJ D n k d));have lh:(h'++[rT []]).length=l_ h'+1:=by simp
  rw [lh] at hSo;obtain ⟨v',g',o1,o2⟩:=D44 (F:=D6P D n k d) (B:=h'++[rT []]++[rT (encS (fY (T6 D n k d (sJ D n k d))))]) (b:=l_ g) (q:=300) (mid:=l_ g+4) (sid:=l_ h'+1) (S:=fY (T6 D n k d (sJ D n k d))) hm2 (by simp;omega) (by rw [<-lh];exact N8) (B6 (B6 f2.r5)) (B6 (B6 r4)) (by omega)
   (fY (T6 D n k d (sJ D n k d))).length 0 300 (l_ h') (h'++[rT []]++[rT (encS (fY (T6 D n k d (sJ D n k d))))]) (by omega) (by omega) (Low.refl (by simp;omega)) (by omega) (by omega) (by omega) (by omega) (λj r _ hj=>hj) (by simp [K0]) (E8m _)
  have eL:(iQ D n k d).length=(fY (T6 D n k d (sJ D n k d))).length:=by simp [iQ]
  refine ⟨v',g',?_,by rw [eL];exact o2⟩;have t1:B9 (h'++[rT []]) (.c (.p (l_ g+3) 0))=A4 (.c x):=B8 (B6 hx) rfl (by
   rcases hdx with ⟨_,_,rfl⟩ | ⟨id,rfl,_⟩<;>rfl)
  have s5:I8 (g++[rT V,rT I,rT [],rT [.ns],A4 (Q1 []),rT [.nm]]) (.c (.p (l_ g+5) 0)) (.c (.m (l_ g+4)))=A4 G:=by
   rw [oN,hG];rfl
  have g4:C9 G 4 (.c (.p (l_ g) 0))=A4 (.a V):=by rw [hG,H6];exact K9 hVl
  have g11:C9 G 11 (.c (.p (l_ g+1) 0))=A4 (.a I):=by rw [hG,P7];exact K9 E1L
  rw [C4I,<-hV,<-hI];simp only [bQ,C7,E8t,E89,E8I,E8o,E8w,E8X,E8A,Nat.reduceAdd,s5,g4,g11,emk,hS,t1];rw [hSo];simp only [C7,A6U];exact o1
 obtain ⟨v,g',e,ho⟩:=key (ro h) hv.ro;exact C18 e (by simpa [G8] using ho) B1s
def ndC(i k l p s:Int)(x y:Cell):List Cell:=[cI i,cI k,cI l,cI p,cI s,x,y]
def IsNd(h:A9)(cs:List Cell)(nd:Nd):Prop:=∃ x y,cs=ndC nd.ino nd.kind nd.links nd.parent nd.size x y/\Has h (.c x) 1 nd.data.length (B4 nd.data)/\Has h (.c y) 2 nd.names.length (K0 nd.names)
def IsNds(h:A9):List Cell->List Nd->Prop
 | cs,[]=>cs=[]
 | cs,x::t=>∃ c1 c2,cs=c1++c2/\IsNd h c1 x/\IsNds h c2 t
def IsTree(h:A9)(v:Val)(t:List Nd):Prop:=∃ cs,Has h v 7 (l_ t) cs/\IsNds h cs t
def A9N{n:Nat}(hv:Has h (.c x) sz n cs):x.isX=A6:=by
 rcases hv with ⟨e,_⟩ | ⟨id,off,r,e,_⟩<;>cases e<;>rfl
def IsNd.length{x:Nd}(hx:IsNd h cs x):l_ cs=7:=by
 obtain ⟨a,b,rfl,_⟩:=hx;rfl
def IsNd.noX{x:Nd}(hx:IsNd h cs x):noX cs=A5:=by
 obtain ⟨a,b,rfl,h1,h2⟩:=hx;simp only [Esc.noX,ndC,E9p,List.all_nil,A9N h1,A9N h2];rfl
def IsNds.noX:∀ {t:List Nd} {cs:List Cell},IsNds h cs t->noX cs=A5/\(l_ cs)=l_ t*7
 | [],_,hx=>by
  have hx:_=[]:=hx;subst hx;exact ⟨rfl,rfl⟩
 | x::t,_,⟨c1,c2,e,h1,h2⟩=>by
  subst e;have h3:=h1.noX;have h4:=IsNds.noX h2;refine ⟨?_,by rw [E8o,h1.length,h4.2,E8w];omega⟩;have h5:=h4.1;unfold Esc.noX at h3 h5 ⊢;rw [List.all_append,h3,h5];rfl
def IsNd.ro{x:Nd}(hx:IsNd h cs x):IsNd (ro h) cs x:=by
 obtain ⟨a,b,e,h1,h2⟩:=hx;exact ⟨a,b,e,h1.ro,h2.ro⟩
def IsNd.since{x:Nd}(hx:IsNd g cs x)(h1:Low (l_ g) g h):IsNd h cs x:=by
 obtain ⟨a,b,e,h2,h3⟩:=hx;exact ⟨a,b,e,h2.since h1,h3.since h1⟩
def IsNds.ro:∀ {t:List Nd} {cs:List Cell},IsNds h cs t->IsNds (Esc.ro h) cs t
 | [],_,hx=>hx
 | x::t,_,⟨c1,c2,e,h1,h2⟩=>⟨c1,c2,e,h1.ro,IsNds.ro h2⟩
def IsNds.since(h1:Low (l_ g) g h):∀ {t:List Nd} {cs:List Cell},IsNds g cs t->IsNds h cs t
 | [],_,hx=>hx
 | x::t,_,⟨c1,c2,e,h2,h3⟩=>⟨c1,c2,e,h2.since h1,IsNds.since h1 h3⟩
def IsTree.ro{t:List Nd}(ht:IsTree h v t):IsTree (Esc.ro h) v t:=by
 obtain ⟨cs,h1,h2⟩:=ht;exact ⟨cs,h1.ro,h2.ro⟩
def IsTree.since{t:List Nd}(ht:IsTree g v t)(h1:Low (l_ g) g h):IsTree h v t:=by
 obtain ⟨cs,h2,h3⟩:=ht;exact ⟨cs,h2.since h1,h3.since h1⟩
def IsTree.more{t:List Nd}(ht:IsTree g v t)(l:A9):IsTree (g++l) v t:=ht.since ((Low.refl (E8m _)).new l)
def IsTree.len{t:List Nd}(ht:IsTree h v t):B6y v=A4 (iV (l_ t)):=by
 obtain ⟨cs,h1,_⟩:=ht;exact h1.len
def IsNds.at:∀ {t:List Nd} {cs:List Cell},IsNds h cs t->∀ {i:Nat} {x:Nd},t[i]?=A4 x->IsNd h ((cs.drop (i*7)).take 7) x
 | [],_,_,i,x,hx=>by simp at hx
 | y::t,_,⟨c1,c2,e,h1,h2⟩,0,x,hx=>by
  subst e;simp at hx;subst hx;rw [Nat.zero_mul,E8y,List.take_left' h1.length];exact h1
 | y::t,_,⟨c1,c2,e,h1,h2⟩,i+1,x,hx=>by
  subst e;rw [show (i+1)*7=7+i*7 by omega,<-E9D,E9C h1.length];exact IsNds.at h2 (by simpa using hx)
def IsTree.at{t:List Nd}(ht:IsTree h v t){i:Nat}(hi:i<l_ t) :
  ∃ a cs,F0 7 v (iV (i:Int))=A4 a/\C9 h 7 a=A4 (.a cs)/\IsNd h cs t[i]:=by
 obtain ⟨cs,h1,h2⟩:=ht;have hcs:=h2.noX;obtain ⟨id,off,rfl,hid,_,hB⟩:=h1.sl (by omega);refine ⟨pV id (off+i*7),_,E4 hi,hB (i*7) 7 (by rw [hcs.2];omega),h2.at (E8h hi)⟩
def B5v(hc:l_ cs=7):F7 (h++[rT [o0,o0,o0,o0,o0,.ns,.ns]]) 7 (pV (l_ h) 0) (.a cs)=A4 (h++[rT cs]):=by
 exact (storeAll N8 rfl hc).trans (by simp)
def C2V{t:List Nd}{a:Int}{q:Nat}(hv:IsTree g v t)(hs:small t):∀ (e i M:Nat) (h:A9),i+e=l_ t->e<M->Low (l_ g+1) (g++[rT (ndC 0 0 0 0 0 .ns .ns)]) h ->
  match iO (t.drop i) a with
  | some x=>∃ j1 j2 h',zQ q M (.c (cI a)) (.c (.p (l_ g) 0)) v (.c (cI (l_ t:Int))) (.c (cI (i:Int))) h=A4 (.t [.a (ndC x.ino x.kind x.links x.parent x.size (.sl j1 0 x.data.length 1) (.sl j2 0 x.names.length 2)),.c (.b A5)],h') /\
    (l_ g)<=j1/\(l_ g)<=j2/\j1≠j2/\rd h' j1=rT (B4 x.data)/\rd h' j2=rT (K0 x.names)/\Low (l_ g) g h'
  | none=>∃ h',zQ q M (.c (cI a)) (.c (.p (l_ g) 0)) v (.c (cI (l_ t:Int))) (.c (cI (i:Int))) h=A4 (.t [.a (ndC 0 0 0 0 0 .ns .ns),.c (.b A6)],h')
 | e,i,0,h,_,hm,_=>by omega
 | 0,i,M+1,h,hi,hm,hlow=>by
  have e0:i=(l_ t):=by omega
  subst e0;have c0:¬ ((l_ t:Nat):Int)<(l_ t:Nat):=by omega
  rw [List.drop_length];have hr:rd h (l_ g)=rT (ndC 0 0 0 0 0 .ns .ns):=by rw [hlow.2.2 _ (by omega)];exact N8
  have ef:F6 [o0,o0,o0,o0,o0,.ns,.ns] []=A4 (ndC 0 0 0 0 0 .ns .ns):=rfl;have s1:=storeAll (n:=7) hr rfl (xs:=ndC 0 0 0 0 0 .ns .ns) rfl;have l1:C9 (h.set (l_ g) (rT (ndC 0 0 0 0 0 .ns .ns))) 7 (.c (.p (l_ g) 0))=A4 (.a (ndC 0 0 0 0 0 .ns .ns)):=C8 (D3 (E1 hr)) rfl;show ∃ h',_;rw [A23];generalize ndC 0 0 0 0 0 .ns .ns=z at *;exact ⟨_,by simp only [C7,G4,c0,decide_false,Y6,ef,s1,l1,D7D,D20,D21]<;>rfl⟩
 | e+1,i,M+1,h,hi,hm,hlow=>by
  have K6:i<(l_ t):=by omega
  have c0:(i:Int)<(l_ t:Nat):=by omega
  have hgl:Low (l_ g) g h:=by
   refine ⟨E8m _,by have:=hlow.2.1;simp at this;omega,λid hid=>?_⟩;rw [hlow.2.2 id (by omega),D5 hid]
  obtain ⟨ad,cs,a1,a2,a3⟩:=(hv.since hgl).at K6;have s0:=B5v (h:=h) a3.length;obtain ⟨x,y,rfl,hx,hy⟩:=a3;obtain ⟨nd,hnd⟩:=xEq (t[i]);rw [<-hnd] at a2 s0 hx hy;have hsm:=hs.2 t[i] (E8M K6);rw [<-hnd] at hsm;have g0:B9 (h++[rT (ndC nd.ino nd.kind nd.links nd.parent nd.size x y)]) (.c (.p (l_ h) 0))=A4 (.c (cI nd.ino)):=by rw [J0];rfl
  have w1:=E2 (show i+1<9223372036854775808 by have:=hs.1;omega);rw [E8s K6,<-hnd];by_cases c:nd.ino=a
  ·subst c;have hf:iO (nd::t.drop (i+1)) nd.ino=A4 nd:=by
    unfold iO;rw [List.find?_cons_of_pos (by simp)]
   rw [hf];show ∃ j1 j2 h',_;obtain ⟨H,hH⟩:=xEq (h++[rT (ndC nd.ino nd.kind nd.links nd.parent nd.size x y)]);have lH:l_ H=l_ h+1:=by rw [hH];simp
   have hgr:l_ g+1<=(l_ h):=by have:=hlow.2.1;simpa using this
   have rH:rd H (l_ h)=rT (ndC nd.ino nd.kind nd.links nd.parent nd.size x y):=by rw [hH];exact N8
   have rg:rd H (l_ g)=rT (ndC 0 0 0 0 0 .ns .ns):=by rw [hH];exact B6 (by rw [hlow.2.2 _ (by omega)];exact N8)
   have hxH:Has (H++[rT []]) (.c x) 1 nd.data.length (B4 nd.data):=by rw [hH];exact (hx.more _).more _
   have p1:=D19 (h:=H++[rT []]) (id:=l_ H) (by rw [N8]) hxH (by omega) (by omega);have e1:(H++[rT []]).length=l_ h+2:=by simp [lH]
   rw [e1] at p1;obtain ⟨H1,hH1⟩:=xEq ((H++[rT []]).set (l_ H) A7++[rT (B4 nd.data)]);rw [<-hH1] at p1;have lH1:H1.length=l_ h+3:=by rw [hH1];simp [lH]
   have keep1:∀ id r,id<l_ H->rd H id=A4 r->rd H1 id=A4 r:=λid r hid hr=>by
    rw [hH1];refine B6 ?_;rw [B7 (by omega)];exact B6 hr
   have r1:rd H1 (l_ h)=rT (ndC nd.ino nd.kind nd.links nd.parent nd.size x y):=keep1 _ _ (by omega) rH;have s1:=I9 (x:=.sl (l_ h+2) 0 nd.data.length 1) (off:=5) r1 (by simp [ndC]);have eset:(ndC nd.ino nd.kind nd.links nd.parent nd.size x y).set 5 (.sl (l_ h+2) 0 nd.data.length 1)=ndC nd.ino nd.kind nd.links nd.parent nd.size (.sl (l_ h+2) 0 nd.data.length 1) y:=rfl;rw [eset] at s1;obtain ⟨H2,hH2⟩:=xEq (H1.set (l_ h) (rT (ndC nd.ino nd.kind nd.links nd.parent nd.size (.sl (l_ h+2) 0 nd.data.length 1) y)));rw [<-hH2] at s1;have lH2:H2.length=l_ h+3:=by rw [hH2];simp [lH1]
   have rdat2:rd H2 (l_ h+2)=rT (B4 nd.data):=by
    rw [hH2,B7 (by omega),hH1];have:=N8 (h:=(H++[rT []]).set (l_ H) A7) (r:=Row.mk (B4 nd.data) A5);rw [E80,e1] at this;exact this
   have r2:rd H2 (l_ h)=rT (ndC nd.ino nd.kind nd.links nd.parent nd.size (.sl (l_ h+2) 0 nd.data.length 1) y):=by rw [hH2];exact D3 (by omega)
   have lowH2:Low (l_ h) h H2:=by
    refine ⟨E8m _,by omega,λid hid=>?_⟩;rw [hH2,B7 (by omega),hH1,D5 (by simp [lH];omega),B7 (by omega),D5 (by omega),hH,D5 hid]
   have hyH:Has (H2++[rT []]) (.c y) 2 nd.names.length (K0 nd.names):=(hy.since lowH2).more _;have p2:=D19 (h:=H2++[rT []]) (id:=H2.length) (by rw [N8]) hyH (by omega) (by omega);have e2:(H2++[rT []]).length=l_ h+4:=by simp [lH2]
   rw [e2] at p2;obtain ⟨H3,hH3⟩:=xEq ((H2++[rT []]).set H2.length A7++[rT (K0 nd.names)]);rw [<-hH3] at p2;have lH3:H3.length=l_ h+5:=by rw [hH3];simp [lH2]
   have keep3:∀ id r,id<H2.length->rd H2 id=A4 r->rd H3 id=A4 r:=λid r hid hr=>by
    rw [hH3];refine B6 ?_;rw [B7 (by omega)];exact B6 hr
   have r3:=keep3 _ _ (by omega) r2;have s2:=I9 (x:=.sl (l_ h+4) 0 nd.names.length 2) (off:=6) r3 (by simp [ndC]);have eset2:(ndC nd.ino nd.kind nd.links nd.parent nd.size (.sl (l_ h+2) 0 nd.data.length 1) y).set 6 (.sl (l_ h+4) 0 nd.names.length 2)=ndC nd.ino nd.kind nd.links nd.parent nd.size (.sl (l_ h+2) 0 nd.data.length 1) (.sl (l_ h+4) 0 nd.names.length 2):=rfl;rw [eset2] at s2;obtain ⟨N,hN⟩:=xEq (ndC nd.ino nd.kind nd.links nd.parent nd.size (.sl (l_ h+2) 0 nd.data.length 1) (.sl (l_ h+4) 0 nd.names.length 2));have hNl:N.length=7:=by rw [hN];rfl
   rw [<-hN] at s2;obtain ⟨H4,hH4⟩:=xEq (H3.set (l_ h) (rT N));rw [<-hH4] at s2;have r4:rd H4 (l_ h)=rT N:=by rw [hH4];exact D3 (by omega)
   have rg4:rd H4 (l_ g)=rT (ndC 0 0 0 0 0 .ns .ns):=by
    rw [hH4,B7 (by omega)];refine keep3 _ _ (by omega) ?_;rw [hH2,B7 (by omega)];exact keep1 _ _ (by omega) rg
   have l4:=C8 (n:=7) r4 hNl;have s5:=storeAll (n:=7) rg4 rfl (xs:=N) hNl;have l5:C9 (H4.set (l_ g) (rT N)) 7 (.c (.p (l_ g) 0))=A4 (.a N):=C8 (D3 (E1 rg4)) hNl;have v5:B9 (H++[rT []]) (.c (.p (l_ h) 5))=A4 (.c x):=B8 (B6 rH) rfl (by simp);have v6:B9 (H2++[rT []]) (.c (.p (l_ h) 6))=A4 (.c y):=B8 (B6 r2) rfl (by simp);refine ⟨l_ h+2,l_ h+4,H4.set (l_ g) (rT N),?_,by omega,by omega,by omega,?_,?_,?_⟩
   ·rw [<-hH] at g0;rw [A23,<-hN];have ef:F6 ([]:List Cell) []=A4 []:=rfl;simp only [C7,G4,c0,decide_true,X6,a1,a2,s0,R1,E9y,E8A,g0,dG,eq_self,decide_true,ef,<-hH,v5,p1,s1,v6,p2,s2,l4,s5,l5,D7D,D20,D21]
   ·rw [B7 (by omega),hH4,B7 (by omega)];exact keep3 _ _ (by omega) rdat2
   ·rw [B7 (by omega),hH4,B7 (by omega),hH3];have:=N8 (h:=(H2++[rT []]).set H2.length A7) (r:=Row.mk (K0 nd.names) A5);rw [E80,e2] at this;exact this
   ·refine ⟨E8m _,by simp [hH4,lH3];omega,λid hid=>?_⟩;rw [B7 (by omega),hH4,B7 (by omega),hH3,D5 (by simp [lH2];omega),B7 (by omega),D5 (by omega),lowH2.2.2 id (by omega)];exact hgl.2.2 id hid
  ·have hf:iO (nd::t.drop (i+1)) a=iO (t.drop (i+1)) a:=by
    unfold iO;rw [List.find?_cons_of_neg (by simpa using c)]
   have ih:=C2V (q:=q) (a:=a) hv hs e (i+1) M (h++[rT (ndC nd.ino nd.kind nd.links nd.parent nd.size x y)]) (by omega) (by omega) (hlow.new _);have estep:zQ q (M+1) (.c (cI a)) (.c (.p (l_ g) 0)) v (.c (cI (l_ t:Int))) (.c (cI (i:Int))) h=zQ q M (.c (cI a)) (.c (.p (l_ g) 0)) v (.c (cI (l_ t:Int))) (.c (cI ((i+1:Nat):Int))) (h++[rT (ndC nd.ino nd.kind nd.links nd.parent nd.size x y)]):=by
    rw [A23];simp only [C7,G4,c0,decide_true,X6,a1,a2,s0,R1,E9y,E8A,g0,dG,c,decide_false,Y6,L8,w1]
   rw [hf,estep];exact ih
def C83{t:List Nd}{x:Nd}(hv:IsTree h v t)(hs:small t)(hf:iO t a=A4 x) :
  oE [v,.c (cI a)] h=A4 (.t [.a (ndC x.ino x.kind x.links x.parent x.size (.sl (l_ h) 0 x.data.length 1) (.sl (l_ h+1) 0 x.names.length 2)),.c (.b A5)],h++[rT (B4 x.data),rT (K0 x.names)]):=by
 have key:=C2V (q:=l_ t+1) (a:=a) hv.ro hs (l_ t) 0 (l_ t+1) (ro h++[rT (ndC 0 0 0 0 0 .ns .ns)]) (by omega) (by omega) (Low.refl (by simp));rw [E8y,hf] at key;obtain ⟨j1,j2,g',e,h1,h2,h3,h4,h5,h6⟩:=key;rw [G8] at h1 h2;have hl:=hv.ro.len;have e2:A17 (l_ t+1) [v,.c (cI a)] (ro h)=A4 (.t [.a (ndC x.ino x.kind x.links x.parent x.size (.sl j1 0 x.data.length 1) (.sl j2 0 x.names.length 2)),.c (.b A5)],g'):=by
  rw [B3C,hl,C7];exact e
 have n1:=lQ h4 (by simp);have n2:=lQ h5 B1s;have hc1:P8 g' (l_ h) [] (ndC x.ino x.kind x.links x.parent x.size (.sl j1 0 x.data.length 1) (.sl j2 0 x.names.length 2))=A4 (ndC x.ino x.kind x.links x.parent x.size (.sl (l_ h) 0 x.data.length 1) (.sl (l_ h+1) 0 x.names.length 2),[j1,j2]):=by
  have q1:¬ j1<(l_ h):=by omega
  have q2:¬ j2<(l_ h):=by omega
  simp [ndC,P8,Cell.low,Cell.flat,q1,q2,h1,h2,n1,n2,Ne.symm h3]
 have hc2:P8 g' (l_ h) [j1,j2] [.b A5]=A4 ([.b A5],[j1,j2]):=fM (by simp);rw [C2x e2 (v2:=.t [.a (ndC x.ino x.kind x.links x.parent x.size (.sl (l_ h) 0 x.data.length 1) (.sl (l_ h+1) 0 x.names.length 2)),.c (.b A5)]) (ids:=[j1,j2]) (by
  simp only [X5,iJ,hc1,hc2,E8z,E85])]
 simp [h4,h5]
def C82{t:List Nd}(hv:IsTree h v t)(hs:small t)(hf:iO t a=A7) :
  oE [v,iV a] h=A4 (.t [.a (ndC 0 0 0 0 0 .ns .ns),.c (.b A6)],h):=by
 have key:=C2V (q:=l_ t+1) (a:=a) hv.ro hs (l_ t) 0 (l_ t+1) (ro h++[rT (ndC 0 0 0 0 0 .ns .ns)]) (by omega) (by omega) (Low.refl (by simp));rw [E8y,hf] at key;obtain ⟨g',e⟩:=key;have hl:=hv.ro.len;have e2:A17 (l_ t+1) [v,iV a] (ro h)=A4 (.t [.a (ndC 0 0 0 0 0 .ns .ns),.c (.b A6)],g'):=by
  rw [B3C,hl,C7];exact e
 exact C2w e2 rfl
def C1t{t:List Nd}(hv:IsTree h v t)(hs:small t) :
  ∃ cs l,oE [v,iV a] h=A4 (.t [.a cs,.c (.b (iO t a).isSome)],h++l)/\IsNd (h++l) cs ((iO t a).getD ⟨0,0,0,0,0,[],[]⟩):=by
 cases hf:iO t a with
 | some x=>exact ⟨_,_,C83 hv hs hf,_,_,rfl,Has.tr (by simp) (show (B4 x.data).length=x.data.length*1 by rw [B5,E9w]) (V6 _),Has.tr (by simp) iN A9F⟩
 | none=>exact ⟨_,[],by rw [C82 hv hs hf,E8C];rfl,_,_,rfl,.inl ⟨rfl,rfl,rfl⟩,.inl ⟨rfl,rfl,rfl⟩⟩
def A4s{l:List Ent}(hy:Has h (.c y) 2 (l_ l) (K0 l)){i:Nat}(hi:i<l_ l):∃ a,F0 2 (.c y) (.c (cI (i:Int)))=A4 a/\C9 h 2 a=A4 (.a (W8 (A4 l[i]))):=by
 obtain ⟨id,off,e,hid,_,hB⟩:=hy.sl (by omega);cases e;refine ⟨.c (.p id (off+i*2)),E4 hi,?_⟩;rw [hB (i*2) 2 (by rw [iN];omega),C0j l i hi]
def B5u{x:Ent}:F7 (h++[rT [.s [],o0]]) 2 (.c (.p (l_ h) 0)) (.a (W8 (A4 x)))=A4 (h++[rT (W8 (A4 x))]):=by rw [I3];rfl
def C7u{x:Ent}:B9 (h++[rT (W8 (A4 x))]) (.c (.p (l_ h) 1))=A4 (.c (cI x.2)):=by rw [J0];rfl
def B4A{l:List Ent}{a:Int}{q:Nat}{x10 x11 x12:Val}(hy:Has g (.c y) 2 (l_ l) (K0 l))(h62:l_ l<=1000000):∀ (e i M2 M:Nat) (c:Nat) (h:A9),i+e=l_ l->e<M2->c+e<4000000000000000000->Low (l_ g) g h ->
  ∃ h',B7H q M M2 (.c (cI a)) (.c (cI (c:Int))) x10 x11 x12 (.c y) (.c (cI (l_ l:Int))) (.c (cI (i:Int))) h=bnd (N4 .add x12 (.c (cI 1))) (λv17=>A8B q M (.c (cI a)) (.c (cI ((c+((l.drop i).filter λe=>decide (e.2=a)).length:Nat):Int))) x10 x11 v17 h')/\Low (l_ g) g h'
 | e,i,0,M,c,h,_,hm,_,_=>by omega
 | 0,i,M2+1,M,c,h,hi,hm,hc,hlow=>by
  have c0:¬ ((i:Int)<(l_ l:Nat)):=by omega
  rw [A1l,E8x (by omega)];exact ⟨h,by simp only [C7,G4,c0,decide_false,Y6];rfl,hlow⟩
 | e+1,i,M2+1,M,c,h,hi,hm,hc,hlow=>by
  have K6:i<(l_ l):=by omega
  have c0:(i:Int)<(l_ l:Nat):=by omega
  obtain ⟨ad,a1,a2⟩:=A4s (hy.since hlow) K6;have w1:=E2 (a:=i) (by omega);have w2:=E2 (a:=c) (by omega);rw [E8s K6];obtain ⟨x,hx⟩:=xEq (l[i]);rw [<-hx] at a2 ⊢;by_cases ce:x.2=a
  ·obtain ⟨h',f1,f2⟩:=B4A (q:=q) (a:=a) (x10:=x10) (x11:=x11) (x12:=x12) hy h62 e (i+1) M2 M (c+1) (h++[rT (W8 (A4 x))]) (by omega) (by omega) (by omega) (hlow.new _);refine ⟨h',?_,f2⟩;rw [A1l,E9l (by simpa using ce),E8w,show c+(((l.drop (i+1)).filter λe=>decide (e.2=a)).length+1)=c+1+((l.drop (i+1)).filter λe=>decide (e.2=a)).length by omega];simp only [C7,G4,c0,decide_true,X6,a1,a2,B5u,R1,E8A,E9y,C7u,dG,ce,L8,w1,w2,B0c];exact f1
  ·obtain ⟨h',f1,f2⟩:=B4A (q:=q) (a:=a) (x10:=x10) (x11:=x11) (x12:=x12) hy h62 e (i+1) M2 M c (h++[rT (W8 (A4 x))]) (by omega) (by omega) (by omega) (hlow.new _);refine ⟨h',?_,f2⟩;rw [A1l,E9k (by simpa using ce)];simp only [C7,G4,c0,decide_true,X6,a1,a2,B5u,R1,E8A,E9y,C7u,dG,ce,decide_false,Y6,L8,w1,B0c];exact f1
def C4y{t:List Nd}{a:Int}{q:Nat}(hv:IsTree g v t)(hs:small t)(hq:1000000<q):∀ (e i M c:Nat) (h:A9),i+e=l_ t->e<M->c<=i*1000000->Low (l_ g) g h ->
  ∃ h',A8B q M (iV a) (iV (c:Int)) v (iV (l_ t:Int)) (iV (i:Int)) h=A4 (iV ((c+oW (t.drop i) a:Nat):Int),h')
 | e,i,0,c,h,_,hm,_,_=>by omega
 | 0,i,M+1,c,h,hi,hm,hc,hlow=>by
  have c0:¬ ((i:Int)<(l_ t:Nat)):=by omega
  rw [B0d,E8x (by omega)];exact ⟨h,by simp only [C7,G4,c0,decide_false,Y6];rfl⟩
 | e+1,i,M+1,c,h,hi,hm,hc,hlow=>by
  have K6:i<(l_ t):=by omega
  have c0:(i:Int)<(l_ t:Nat):=by omega
  have h6:=hs.1;have w1:=E2 (a:=i) (by omega);obtain ⟨ad,cs,a1,a2,a3⟩:=(hv.since hlow).at K6;have s0:=B5v (h:=h) a3.length;obtain ⟨x,y,rfl,hx,hy⟩:=a3;have hsm:=(hs.2 t[i] (E8M K6)).2;rw [E8s K6];obtain ⟨nd,hnd⟩:=xEq (t[i]);rw [<-hnd] at a2 s0 hx hy hsm ⊢;have hl:=hy.len;have g6:B9 (h++[rT (ndC nd.ino nd.kind nd.links nd.parent nd.size x y)]) (pV (l_ h) 6)=A4 (.c y):=by rw [J0];rfl
  obtain ⟨h1,f1,f2⟩:=B4A (q:=q) (a:=a) (x10:=v) (x11:=iV (l_ t:Int)) (x12:=iV (i:Int)) (hy.more [rT (ndC nd.ino nd.kind nd.links nd.parent nd.size x y)]) hsm nd.names.length 0 q M c _ (by omega) (by omega) (by omega) (Low.refl (E8m _));rw [E8y,L8,C7,w1] at f1;have hfl:(nd.names.filter λe=>decide (e.2=a)).length<=nd.names.length:=E9f _ _;obtain ⟨h',k1⟩:=C4y (a:=a) hv hs hq e (i+1) M (c+(nd.names.filter λe=>decide (e.2=a)).length) h1 (by omega) (by omega) (by omega) (hlow.trans (by
   have:=f2.2.1;refine ⟨hlow.2.1 |> λ_=>by have:=hlow.2.1;omega,by simp at this;omega,λid hid=>?_⟩;have h3:=hlow.2.1;rw [f2.2.2 id (by simp;omega),D5 (by omega)]))
  have ec:oW (nd::t.drop (i+1)) a=(nd.names.filter λe=>decide (e.2=a)).length+oW (t.drop (i+1)) a:=by simp [oW]
  rw [ec,<-Nat.add_assoc];refine ⟨h',?_⟩;rw [B0d];simp only [C7,G4,c0,decide_true,X6,a1,a2,s0,R1,E8A,g6,hl];exact f1.trans k1
def C94{t:List Nd}(hv:IsTree h v t)(hs:small t):B1a [v,iV a] h=A4 (iV (oW t a:Nat),h):=by
 have key:∀ g,IsTree g v t->∃ g',B0S (l_ t+1000001) [v,iV a] g=A4 (iV (oW t a:Nat),g'):=by
  intro g hv;obtain ⟨h',f1⟩:=C4y (q:=l_ t+1000001) (a:=a) hv hs (by omega) (l_ t) 0 (l_ t+1000001) 0 g (by omega) (by omega) (by omega) (Low.refl (E8m _));rw [E8y,E8A] at f1;rw [C4Z,hv.len,C7];exact ⟨h',f1⟩
 obtain ⟨g',e⟩:=key (ro h) hv.ro;exact B9Y e rfl
def HeldX(h:A9)(x:Cell)(cs:List Cell)(n sz r:Nat):Prop:=(n=0/\cs=[]/\x=.ns)\/∃ id,x=.sl id 0 n sz/\rd h id=rT cs/\(l_ cs)=n*sz/\id≠r
def HeldX.keep{n:Nat}(hx:HeldX h x cs n sz r)(hk:∀ id m,x=.sl id 0 m sz->rd h' id=rd h id):HeldX h' x cs n sz r:=by
 rcases hx with hx | ⟨id,e,hr,hl,aZ⟩
 ·exact .inl hx
 ·exact .inr ⟨id,e,by rw [hk id n e];exact hr,hl,aZ⟩
def HeldX.lt{n id m:Nat}(hx:HeldX h x cs n sz r)(e:x=.sl id 0 m sz):id<(l_ h):=by
 rcases hx with ⟨_,_,e2⟩ | ⟨cP,e2,hr,_,_⟩
 ·rw [e] at e2;cases e2
 ·rw [e] at e2;cases e2;exact E1 hr
def E1D{cs0 ys:List Cell}{n:Nat}(hr:rd h r=rT cs0)(hx:cs0[off]?=A4 x)(hd:HeldX h x cs n sz r)(hl:n<=100000)(hy:l_ ys=sz)(hsz:0<sz) :
  ∃ id h2 h3,B9 h (pV r off)=A4 (.c x)/\uR (h++[rT ys]) sz (.c x) (sV (l_ h) 0 1 sz)=A4 (sV id 0 (n+1) sz,h2)/\I8 h2 (pV r off) (sV id 0 (n+1) sz)=A4 h3 /\
   rd h3 r=rT (cs0.set off (.sl id 0 (n+1) sz))/\(l_ h)<id/\rd h3 id=rT (cs++ys)/\(cs++ys).length=(n+1)*sz/\(∀ j,j<l_ h->j≠r->(∀ m,x≠.sl j 0 m sz)->rd h3 j=rd h j)/\(l_ h)<h3.length:=by
 have hrl:=E1 hr;have l1:B9 h (pV r off)=A4 (.c x):=B8 hr hx (by simp);have hof:off<cs0.length:=(E8p.1 hx).1;have e1:(h++[rT ys]).length=l_ h+1:=by simp
 rcases hd with ⟨rfl,rfl,rfl⟩ | ⟨id,rfl,hi,pE,aZ⟩
 ·have hA:=C5D (h:=h++[rT ys]) (jd:=l_ h) (m:=1) (sz:=sz) (ys:=ys) (by simp) (by omega) hsz (by omega);rw [e1] at hA;have hr2:rd (h++[rT ys]++[rT ys]) r=rT cs0:=B6 (B6 hr);have s1:=I9 (x:=.sl (l_ h+1) 0 1 sz) (off:=off) hr2 hof;refine ⟨l_ h+1,_,_,l1,hA,s1,D3 (E1 hr2),by omega,?_,by simp [hy],λj hj hjr _=>?_,by simp⟩
  ·rw [B7 (by omega)];have:=N8 (h:=h++[rT ys]) (r:=⟨ys,A5⟩);rw [e1] at this;exact this
  ·rw [B7 (Ne.symm hjr),D5 (by simp;omega),D5 hj]
 ·have K6:=E1 hi;have hA:=A8h (h:=h++[rT ys]) (id:=id) (jd:=l_ h) (n:=n) (m:=1) (sz:=sz) (cs:=cs) (ys:=ys) (rw:=A5) (B6 hi) pE (by simp) (by omega) rfl hsz (by omega);rw [e1] at hA;have hr2:rd ((h++[rT ys]).set id A7++[rT (cs++ys)]) r=rT cs0:=by
   refine B6 ?_;rw [B7 aZ];exact B6 hr
  have s1:=I9 (x:=.sl (l_ h+1) 0 (n+1) sz) (off:=off) hr2 hof;refine ⟨l_ h+1,_,_,l1,hA,s1,D3 (E1 hr2),by omega,?_,by simp [pE,hy,Nat.add_mul],λj hj hjr hjx=>?_,by simp;omega⟩
  ·rw [B7 (by omega)];have:=N8 (h:=(h++[rT ys]).set id A7) (r:=⟨cs++ys,A5⟩);rw [E80,e1] at this;exact this
  ·have hji:j≠id:=λe=>hjx n (by rw [e])
   rw [B7 (Ne.symm hjr),D5 (by simp;omega),B7 (Ne.symm hji),D5 hj]
structure NodeP(D:Dev)(n:Int)(V:List Cell)(z:Nd)(L:List Ent)(g:A9)(F:List Ent)(h:A9):Prop where
 low:Low (l_ g) g h
 r0:rd h (l_ g)=rT V
 r1:rd h (l_ g+1)=rT (ndC 0 0 0 0 0 .ns .ns)
 r4:rd h (l_ g+4)=rT (B4 z.data)
 r5:rd h (l_ g+5)=rT (K0 L)
 r3:∃ x,rd h (l_ g+3)=rT (ndC z.ino z.kind z.links z.parent z.size (.sl (l_ g+4) 0 z.data.length 1) x)/\HeldX h x (K0 F) F.length 2 (l_ g+3)/\∀ id m,x=.sl id 0 m 2->l_ g+6<=id
def NodeP.more{z:Nd}{L:List Ent}{F:List Ent}(P:NodeP D n V z L g F h)(t:A9):NodeP D n V z L g F (h++t):=by
 obtain ⟨x,h1,h2,h3⟩:=P.r3;exact ⟨P.low.new _,B6 P.r0,B6 P.r1,B6 P.r4,B6 P.r5,x,B6 h1,h2.keep λid m e=>D5 (h2.lt e),h3⟩
def C3a{n m:Int}{q:Nat}{z:Nd}{L:List Ent}(hD:okD D)(hv:IsView g f D)(h62:l_ L<=10000):∀ (e i M:Nat) (F:List Ent) (h:A9),i+e=l_ L->e<M->F.length<=i->NodeP D n (vwC (l_ D) n m f) z L g F h ->
  ∃ x h',C1u q M (.c (.p (l_ g) 0)) (.c (.p (l_ g+1) 0)) (.c (.p (l_ g+3) 0)) (.c (.sl (l_ g+5) 0 (l_ L) 2)) (.c (cI (l_ L:Int))) (.c (cI (i:Int))) h =
   A4 (.a (ndC z.ino z.kind z.links z.parent z.size (.sl (l_ g+4) 0 z.data.length 1) x),h')/\rd h' (l_ g+4)=rT (B4 z.data) /\
   HeldX h' x (K0 (F++(L.drop i).filter (C9S D n))) (F++(L.drop i).filter (C9S D n)).length 2 (l_ g+3)/\(∀ id m,x=.sl id 0 m 2->l_ g+6<=id)/\Low (l_ g) g h'
 | e,i,0,F,h,_,hm,_,_=>by omega
 | 0,i,M+1,F,h,hi,hm,hF,P=>by
  have c0:¬ ((i:Int)<(l_ L:Nat)):=by omega
  obtain ⟨x,h1,h2,h3⟩:=P.r3;have l7:=C8 (n:=7) h1 rfl;have s7:=storeAll (n:=7) P.r1 rfl (xs:=ndC z.ino z.kind z.links z.parent z.size (.sl (l_ g+4) 0 z.data.length 1) x) rfl;have l8:C9 (h.set (l_ g+1) (rT (ndC z.ino z.kind z.links z.parent z.size (.sl (l_ g+4) 0 z.data.length 1) x))) 7 (.c (.p (l_ g+1) 0))=A4 (.a (ndC z.ino z.kind z.links z.parent z.size (.sl (l_ g+4) 0 z.data.length 1) x)):=C8 (D3 (E1 P.r1)) rfl;rw [E8x (by omega),List.filter_nil,E8C];refine ⟨x,h.set (l_ g+1) (rT (ndC z.ino z.kind z.links z.parent z.size (.sl (l_ g+4) 0 z.data.length 1) x)),?_,by rw [B7 (by omega)];exact P.r4,h2.keep λid m e=>B7 (by have:=h3 id m e;omega),h3,P.low.set (by omega) _⟩;rw [B2y];generalize ndC z.ino z.kind z.links z.parent z.size (.sl (l_ g+4) 0 z.data.length 1) x=N at *;simp only [C7,G4,c0,decide_false,Y6,l7,s7,l8,D2O]
 | e+1,i,M+1,F,h,hi,hm,hF,P=>by
  have K6:i<(l_ L):=by omega
  have c0:(i:Int)<(l_ L:Nat):=by omega
  have w1:=E2 (a:=i) (by omega);have hr5:Has h (.c (.sl (l_ g+5) 0 (l_ L) 2)) 2 (l_ L) (K0 L):=Has.row P.r5 iN A9F;obtain ⟨ad,a1,a2⟩:=A4s hr5 K6;have P1:=P.more [rT (W8 (A4 L[i]))];have hvh:=hv.since P1.low;have lV:=C8 (n:=4) P1.r0 rfl;have hI:=T8 (n:=n) (m:=m) (i:=(L[i]).2) hD hvh;rw [nK] at hI;have f0:∀ k l s p d,B7b (.a (D1 k l s p d)) 0=A4 (.c (cI k)):=λ_ _ _ _ _=>rfl
  rw [E8s K6];obtain ⟨x,hx⟩:=xEq (L[i]);rw [<-hx] at a2 hI P1 lV hvh ⊢;obtain ⟨hh,hhe⟩:=xEq (h++[rT (W8 (A4 x))]);have e1:B9 hh (.c (.p (l_ h) 1))=A4 (.c (cI x.2)):=by rw [hhe];exact C7u
  have se:F7 (h++[rT [.s [],o0]]) 2 (.c (.p (l_ h) 0)) (.a (W8 (A4 x)))=A4 hh:=by rw [hhe];exact B5u
  have le:C9 hh 2 (.c (.p (l_ h) 0))=A4 (.a (W8 (A4 x))):=by rw [hhe];exact C8 N8 rfl
  rw [<-hhe] at P1 lV hvh hI;rw [B2y];have step:∀ (b:Bool),C9S D n x=b->(kdV D n x.2=1\/kdV D n x.2=2)=(b=A5):=by
   intro b hb;subst hb;unfold C9S;simp
  cases hb:C9S D n x with
  | false =>
   have hk:=step A6 hb;have k1:¬ kdV D n x.2=1:=λe=>by rw [e] at hk;simp at hk
   have k2:¬ kdV D n x.2=2:=λe=>by rw [e] at hk;simp at hk
   rw [E9k (by simp [hb])];obtain ⟨y,h',f1,f2⟩:=C3a (q:=q) hD hv h62 e (i+1) M F hh (by omega) (by omega) (by omega) P1;refine ⟨y,h',?_,f2⟩;generalize vwC (l_ D) n m f=V at *;simp only [C7,G4,c0,decide_true,X6,a1,a2,se,R1,E8A,e1,lV,hI,f0,dG,k1,k2,decide_false,D4p,qQ,bZ,Y6,A24,L8,w1];exact f1
  | true =>
   rw [E9l hb];obtain ⟨xc,g1,g2,g3⟩:=P1.r3;have ef:F6 [Cell.s [],o0] [(0,2,.a (W8 (A4 x)))]=A4 (W8 (A4 x)):=rfl;obtain ⟨id,h2,h3,p1,p2,p3,p4,p5,p6,p7,p8,p9⟩:=E1D (off:=6) (ys:=W8 (A4 x)) g1 rfl g2 (by omega) rfl (by omega);have keep:∀ j,j<l_ g+6->j≠(l_ g)+3->rd h3 j=rd hh j:=λj hj hj3=>by
    have:=E1 P1.r5;refine p8 j (by omega) hj3 λmm e=>?_
    have:=g3 j mm e;omega
   have P3:NodeP D n (vwC (l_ D) n m f) z L g (F++[x]) h3:=by
    refine ⟨?_,by rw [keep _ (by omega) (by omega)];exact P1.r0,by rw [keep _ (by omega) (by omega)];exact P1.r1,by rw [keep _ (by omega) (by omega)];exact P1.r4,by rw [keep _ (by omega) (by omega)];exact P1.r5,.sl id 0 (F.length+1) 2,p4,.inr ⟨id,by simp,by rw [D6y];exact p6,by rw [iN],?_⟩,λcP m' e=>?_⟩
    ·refine ⟨E8m _,by have:=P1.low.2.1;omega,λj hj=>?_⟩;rw [keep j (by omega) (by omega)];exact P1.low.2.2 j hj
    ·have:=E1 P1.r5;omega
    ·cases e;have:=E1 P1.r5;omega
   obtain ⟨y,h',f1,f2⟩:=C3a (q:=q) hD hv h62 e (i+1) M (F++[x]) h3 (by omega) (by omega) (by simp;omega) P3;rw [E8t,List.singleton_append] at f2;refine ⟨y,h',?_,f2⟩;have k0:=step A5 hb;by_cases k1:kdV D n x.2=1
   ·generalize vwC (l_ D) n m f=V at *;simp only [C7,G4,c0,decide_true,X6,a1,a2,se,R1,E8A,e1,lV,hI,f0,dG,k1,E1G,qQ,S8,p1,le,ef,p2,p3,A24,L8,w1];exact f1
   ·have k2:kdV D n x.2=2:=by
     rcases (show kdV D n x.2=1\/kdV D n x.2=2 by rw [k0]) with h | h
     ·exact absurd h k1
     ·exact h
    have n21:¬ (2:Int)=1:=by decide
    generalize vwC (l_ D) n m f=V at *;simp only [C7,G4,c0,decide_true,X6,a1,a2,se,R1,E8A,e1,lV,hI,f0,dG,k2,n21,decide_false,D4p,qQ,bZ,p1,le,ef,p2,p3,A24,L8,w1];exact f1
def NdF(P:Nat->Prop)(cs:List Cell):Prop:=∀ id off m sz,Cell.sl id off m sz∈cs->P id
def C7Q{n:Nat}(hv:Has h (.c x) sz n cs)(hk:∀ id off m s,x=.sl id off m s->rd h' id=rd h id):Has h' (.c x) sz n cs:=by
 rcases hv with hv | ⟨id,off,r,e,hr,h2⟩
 ·exact .inl hv
 ·cases e;exact .inr ⟨id,off,r,rfl,by rw [hk id off n sz rfl];exact hr,h2⟩
def IsNd.keep{x:Nd}{P:Nat->Prop}(hx:IsNd h cs x)(hf:NdF P cs)(hk:∀ id,P id->rd h' id=rd h id):IsNd h' cs x:=by
 obtain ⟨a,b,rfl,h1,h2⟩:=hx;exact ⟨a,b,rfl,C7Q h1 λid off m s e=>hk id (hf id off m s (by simp [ndC,e])),C7Q h2 λid off m s e=>hk id (hf id off m s (by simp [ndC,e]))⟩
def E0x{P:Nat->Prop}(hx:∀ id off m sz,x=.sl id off m sz->P id)(hy:∀ id off m sz,y=.sl id off m sz->P id):NdF P (ndC i k l p s x y):=by
 intro id off m sz h;simp only [ndC,E8J,List.not_mem_nil,or_false] at h;rcases h with h | h | h | h | h | h | h
 ·cases h
 ·cases h
 ·cases h
 ·cases h
 ·cases h
 ·exact hx id off m sz h.symm
 ·exact hy id off m sz h.symm
def D7e{cs:List (List Cell)}:quiet h (A4 (v,h++cs.map λc=>rT c))=A4 (v,h++cs.map λc=>rT c):=by
 have:∀ (cs:List (List Cell)) (h':A9),Grows h h'->Grows h (h'++cs.map λc=>rT c):=by
  intro cs
  induction cs with
  | nil=>intro h' hg;simpa using hg
  | cons c cs ih =>
   intro h' hg;have:=ih _ (hg.new c);rw [E9c]
   rwa [E8t,List.singleton_append] at this
 exact U9 (this cs h Grows.rfl')
def D3d(hD:okD D)(hv:IsView h f D) :
  ∃ (cs:List Cell) (t:List (List Cell)),A6P [.a (vwC (l_ D) n m f),.c (cI i)] h=A4 (.a cs,h++t.map λc=>rT c)/\IsNd (h++t.map λc=>rT c) cs (tK D n i)/\NdF (λid=>l_ h<=id/\id<l_ h+l_ t) cs:=by
 have key:∀ g,IsView g f D->∃ x g',B3E (1000) [.a (vwC (l_ D) n m f),.c (cI i)] g=A4 (.a (ndC i (kdV D n i) (lnV D n i) (paV D n i) (dZ (kdV D n i) (szV D n i)) (.sl (l_ g+4) 0 (A2Y D n i).length 1) x),g')/\rd g' (l_ g+4)=rT (B4 (A2Y D n i)) /\
   HeldX g' x (K0 (A4e D n i)) (A4e D n i).length 2 (l_ g+3)/\(∀ id m,x=.sl id 0 m 2->l_ g+6<=id):=by
  intro g hv;obtain ⟨V,hV⟩:=xEq (vwC (l_ D) n m f);have hVl:l_ V=4:=by rw [hV];rfl
  have D6J:=T8 (n:=n) (m:=m) (i:=i) (h:=g++[rT V,rT (ndC 0 0 0 0 0 .ns .ns)]) hD (hv.more _);rw [nK,<-hV] at D6J;obtain ⟨I,hI⟩:=xEq (D1 (kdV D n i) (lnV D n i) (szV D n i) (paV D n i) (drV D n i));have hIl:l_ I=11:=by rw [hI];simp [D1,C1,O0]
  have i0:I[0]?=A4 (cI (kdV D n i)):=by rw [hI];rfl
  have i1:I[1]?=A4 (cI (lnV D n i)):=by rw [hI];rfl
  have i3:I[3]?=A4 (cI (paV D n i)):=by rw [hI];rfl
  have hSz:=λh=>B7l (k:=kdV D n i) (l:=lnV D n i) (s:=szV D n i) (p:=paV D n i) (d:=drV D n i) (h:=h)
  rw [<-hI] at D6J;simp only [<-hI] at hSz;have E3N:=D2m (n:=n) (m:=m) (k:=kdV D n i) (l:=lnV D n i) (s:=szV D n i) (p:=paV D n i) (d:=drV D n i) (h:=g++[rT V,rT (ndC 0 0 0 0 0 .ns .ns),rT I,A7]) hD O0 (hv.more _);rw [<-hI,<-hV] at E3N;have eL:(g++[rT V,rT (ndC 0 0 0 0 0 .ns .ns),rT I,A7]).length=l_ g+4:=by simp
  rw [eL] at E3N;have eD:A2H D n (kdV D n i) (szV D n i) (drV D n i) 0 34304=A2Y D n i:=rfl;rw [eD] at E3N;have ef:∀ s y,F6 [o0,o0,o0,o0,o0,.ns,.ns] [(0,1,.c (cI i)),(1,1,.c (cI (kdV D n i))),(2,1,.c (cI (lnV D n i))),(3,1,.c (cI (paV D n i))),(4,1,.c (cI s)),(5,1,.c y)]=A4 (ndC i (kdV D n i) (lnV D n i) (paV D n i) s y .ns):=λ_ _=>rfl
  obtain ⟨N,hN⟩:=xEq (ndC i (kdV D n i) (lnV D n i) (paV D n i) (dZ (kdV D n i) (szV D n i)) (.sl (l_ g+4) 0 (A2Y D n i).length 1) .ns);have hNl:N.length=7:=by rw [hN];rfl
  have z7:(ndC 0 0 0 0 0 .ns .ns).length=7:=rfl;obtain ⟨G,hG⟩:=xEq (g++[rT V,rT (ndC 0 0 0 0 0 .ns .ns),rT I,rT N,rT (B4 (A2Y D n i))]);have hLi:=B7h (n:=n) (m:=m) (k:=kdV D n i) (l:=lnV D n i) (s:=szV D n i) (p:=paV D n i) (d:=drV D n i) (h:=G) hD O0 (by rw [hG];exact hv.more _);rw [<-hI,<-hV] at hLi;have lG:l_ G=l_ g+5:=by rw [hG];simp
  rw [lG] at hLi;have hen:=C23 (D:=D) (n:=n) (k:=kdV D n i) (d:=drV D n i);obtain ⟨H,hH⟩:=xEq (G++[rT (K0 (iQ D n (kdV D n i) (drV D n i)))]);have P0:NodeP D n (vwC (l_ D) n m f) ⟨i,kdV D n i,lnV D n i,paV D n i,dZ (kdV D n i) (szV D n i),A2Y D n i,[]⟩ (iQ D n (kdV D n i) (drV D n i)) g [] H:=by
   rw [<-hV];refine ⟨by rw [hH,hG];exact ((Low.refl (E8m _)).new _).new _,by rw [hH,hG];simp,by rw [hH,hG];simp,by rw [hH,hG];simp,?_,.ns,?_,.inl ⟨rfl,rfl,rfl⟩,λid m e=>by cases e⟩
   ·rw [hH,show (l_ g)+5=(l_ G) by omega];exact N8
   ·rw [hH];refine B6 ?_;rw [hG,hN];simp
  obtain ⟨x,h',f1,f2,f3,f4,f5⟩:=C3a (q:=1000) (m:=m) (f:=f) hD hv (by omega) (iQ D n (kdV D n i) (drV D n i)).length 0 1000 [] H (by omega) (by omega) (by simp) P0;rw [E8y,E8I] at f3;refine ⟨x,h',?_,f2,f3,f4⟩;dsimp only at f1;have ez:[o0,o0,o0,o0,o0,.ns,.ns]=ndC 0 0 0 0 0 .ns .ns:=rfl;have eG:g++[rT V,rT (ndC 0 0 0 0 0 .ns .ns),rT I,rT N,rT (B4 (A2Y D n i))]=G:=hG.symm;have ei:[o0,o0,o0,o0,o0,o0,o0,o0,o0,o0,o0].length=11:=rfl;rw [C6l]
  replace ef:=ef (dZ (kdV D n i) (szV D n i)) (.sl (l_ g+4) 0 (A2Y D n i).length 1)
  rw [<-hN] at ef;rw [ez] at ef ⊢;rw [<-hV];generalize [o0,o0,o0,o0,o0,o0,o0,o0,o0,o0,o0]=zi at *;generalize ndC 0 0 0 0 0 .ns .ns=z at *;have gV:C9 G 4 (.c (.p (l_ g) 0))=A4 (.a V):=by rw [hG,H6];exact K9 hVl
  have gI:C9 G 11 (.c (.p (l_ g+2) 0))=A4 (.a I):=by rw [hG,P7];exact K9 hIl
  generalize B4 (A2Y D n i)=B at *;simp only [esc,P7,H6,Z4,J0,S5,I3,K9,fZ,zN,Nat.reduceAdd,hVl,hIl,z7,ei,D6J,i0,i1,i3,hSz,E3N,ef,hNl,eG,gV,gI,hLi];rw [hH] at f1;exact f1
 obtain ⟨x,g',e,h1,h2,h3⟩:=key (ro h) hv.ro;rw [G8] at e h1 h2 h3;have n1:=lQ h1 (by simp);have q1:¬ (l_ h)+4<(l_ h):=by omega
 rcases h2 with ⟨e1,e2,rfl⟩ | ⟨id,rfl,hr,hl,aZ⟩
 ·have hc:P8 g' (l_ h) [] (ndC i (kdV D n i) (lnV D n i) (paV D n i) (dZ (kdV D n i) (szV D n i)) (.sl (l_ h+4) 0 (A2Y D n i).length 1) .ns)=A4 (ndC i (kdV D n i) (lnV D n i) (paV D n i) (dZ (kdV D n i) (szV D n i)) (.sl (l_ h) 0 (A2Y D n i).length 1) .ns,[(l_ h)+4]):=by
   simp [ndC,P8,Cell.low,Cell.flat,n1]
  have:=A86 e (v2:=.a (ndC i (kdV D n i) (lnV D n i) (paV D n i) (dZ (kdV D n i) (szV D n i)) (.sl (l_ h) 0 (A2Y D n i).length 1) .ns)) (ids:=[(l_ h)+4]) (by simp only [X5,hc,E85]);rw [E9c,List.map_nil,h1] at this;refine ⟨_,[B4 (A2Y D n i)],this,⟨_,_,rfl,Has.tr N8 (show (B4 (A2Y D n i)).length=(A2Y D n i).length*1 by rw [B5,E9w]) (V6 _),.inl ⟨rfl,e1,e2⟩⟩,E0x (λid off m sz e=>?_) λid off m sz e=>by cases e⟩;cases e;exact ⟨E8m _,by simp⟩
 ·have hid:=h3 id _ rfl;have n2:=lQ hr B1s;have q2:¬ id<(l_ h):=by omega
  have hc:P8 g' (l_ h) [] (ndC i (kdV D n i) (lnV D n i) (paV D n i) (dZ (kdV D n i) (szV D n i)) (.sl (l_ h+4) 0 (A2Y D n i).length 1) (.sl id 0 (A4e D n i).length 2))=A4 (ndC i (kdV D n i) (lnV D n i) (paV D n i) (dZ (kdV D n i) (szV D n i)) (.sl (l_ h) 0 (A2Y D n i).length 1) (.sl (l_ h+1) 0 (A4e D n i).length 2),[(l_ h)+4,id]):=by
   have q3:l_ h<=id:=by omega
   have q4:¬ id=l_ h+4:=by omega
   simp [ndC,P8,Cell.low,Cell.flat,n1,n2,q2,q3,q4]
  have:=A86 e (v2:=.a (ndC i (kdV D n i) (lnV D n i) (paV D n i) (dZ (kdV D n i) (szV D n i)) (.sl (l_ h) 0 (A2Y D n i).length 1) (.sl (l_ h+1) 0 (A4e D n i).length 2))) (ids:=[(l_ h)+4,id]) (by simp only [X5,hc,E85]);rw [E9c,E9c,List.map_nil,h1,hr] at this;refine ⟨_,[B4 (A2Y D n i),K0 (A4e D n i)],this,?_,E0x (λid off m sz e=>by cases e;exact ⟨E8m _,by simp⟩) λid off m sz e=>by cases e;exact ⟨by omega,by simp⟩⟩;exact ⟨_,_,rfl,Has.tr (by simp [tK]) (show (B4 (A2Y D n i)).length=(A2Y D n i).length*1 by rw [B5,E9w]) (V6 _),Has.tr (by simp [tK]) iN A9F⟩
def KeysI(es:V8)(R:List Int):Prop:=es.map (·.1)=R.map λi=>cI i
def KeysI.len{R:List Int}(hk:KeysI es R):es.length=(l_ R):=by
 have:=congrArg List.length hk;simpa using this
def KeysI.ok{R:List Int}(hk:KeysI es R)(a:Int):A20 (A4 .i64) (cI a) es=A5:=by
 unfold A20;rw [E8j];refine ⟨by simp [vY],E8O.2 λe he=>?_⟩;have:e.1∈R.map λi=>cI i:=by rw [<-hk];exact E8N.2 ⟨e,he,rfl⟩
 rw [E8N] at this;obtain ⟨i,_,hi⟩:=this;rw [<-hi];simp [vY]
def KeysI.snoc{R:List Int}(hk:KeysI es R)(a:Int)(p:Part):KeysI (es++[(cI a,p)]) (R++[a]):=by
 unfold KeysI at *;rw [E9e,E9e,hk];rfl
def D6W:∀ {es:V8} {R:List Int} {i:Nat},KeysI es R->a ∉ R->mgo (cI a) es i=A7
 | [],_,_,_,_=>rfl
 | e::es,[],i,hk,_=>by simp [KeysI] at hk
 | e::es,r::R,i,hk,ha=>by
  have hk1:e.1=cI r:=(List.cons.inj hk).1;have hk2:KeysI es R:=(List.cons.inj hk).2;rw [E8J,not_or] at ha;rw [mgo,C5 (by rw [hk1];intro e;cases e;exact ha.1 rfl)];exact D6W hk2 ha.2
def D8f:∀ {es:V8} {R:List Int} {i j:Nat} {p:Part},KeysI es R->R.Nodup->es[j]?=A4 (cI a,p)->mgo (cI a) es i=A4 (i+j,p)
 | [],_,_,_,_,_,_,h=>by simp at h
 | e::es,[],i,j,p,hk,_,_=>by simp [KeysI] at hk
 | e::es,r::R,i,j,p,hk,hn,h=>by
  have hk1:e.1=cI r:=(List.cons.inj hk).1;have hk2:KeysI es R:=(List.cons.inj hk).2;cases j with
  | zero =>
   simp at h;subst h;rw [mgo,C4 rfl];simp
  | succ j =>
   have h':es[j]?=A4 (cI a,p):=by simpa using h
   have mK:a∈R:=by
    have h3:(es.map (·.1))[j]?=A4 (cI a):=by rw [List.getElem?_map,h'];rfl
    rw [hk2,List.getElem?_map,Option.map_eq_some_iff] at h3;obtain ⟨r',hr',e'⟩:=h3;cases e';exact E8H hr'
   have aZ:¬ e.1=cI a:=by
    rw [hk1];intro e';cases e';exact (List.nodup_cons.1 hn).1 mK
   rw [mgo,C5 aZ,D8f (i:=i+1) hk2 (List.nodup_cons.1 hn).2 h'];simp;omega
def D4H{R:List Int}{z:Part}{ok:Bool}(hr:rd h mid=A4 (Q1 es))(hk:KeysI es R)(ha:a ∉ R):yS h (A4 .i64) z ok (.c (.m mid)) (.c (cI a))=A4 (wN ok z A6):=by
 simp only [yS,C0K,D2H,hr,E8z,qW];rw [C4 (hk.ok a)];unfold A90;rw [D6W hk ha]
def D9A{R:List Int}{z p:Part}{ok:Bool}(hr:rd h mid=A4 (Q1 es))(hk:KeysI es R)(hn:R.Nodup)(hj:es[j]?=A4 (cI a,p)):yS h (A4 .i64) z ok (.c (.m mid)) (.c (cI a))=A4 (wN ok p A5):=by
 simp only [yS,C0K,D2H,hr,E8z,qW];rw [C4 (hk.ok a)];unfold A90;rw [D8f hk hn hj]
def E2v{R:List Int}{l:List Cell}(hr:rd h mid=A4 (Q1 es))(hk:KeysI es R)(ha:a ∉ R):A3k h (A4 .i64) (.c (.m mid)) (.c (cI a)) (.a l)=A4 (h.set mid (A4 (Q1 (es++[(cI a,.a l)])))):=by
 simp only [A3k,C0K,C4s,hr,E8z,qW];rw [C4 (hk.ok a)];unfold A91 A90;rw [D6W hk ha]
def Ow(b:Nat)(h:A9):Prop:=∀ id x,b<=id->rd h id=A4 x->x.own=A5
def Ow.self:Ow (l_ h) h:=λid x hid hx=>by have:=E1 hx;omega
def Ow.more{b:Nat}{t:A9}(a:Ow b h)(ht:t.all B7x=A5:=by rfl):Ow b (h++t):=λid x hid hx=>by
 by_cases hl:id<(l_ h)
 ·rw [D5 hl] at hx;exact a id x hid hx
 ·rw [rd_some,E8L (by omega)] at hx;exact E8O.1 ht _ (E8H hx)
def Ow.put{b:Nat}{i:Nat}{r:Option Row}(a:Ow b h)(hr:B7x r=A5):Ow b (h.set i r):=λid x hid hx=>by
 by_cases e:i=id
 ·subst e;have hl:=E1 hx;simp at hl;rw [D3 (by simpa using hl)] at hx;subst hx;exact hr
 ·rw [B7 e] at hx;exact a id x hid hx
def Ow.app{b:Nat}{x y:Val}(a:Ow b h)(e:uR h sz x y=A4 (v,h')):Ow b h':=by
 unfold uR at e;obtain ⟨ys,_,e⟩:=E8i.1 e;split at e
 ·split at e
  ·cases e;exact a.more
  ·cases e
 ·obtain ⟨r,_,e⟩:=E8i.1 e;split at e
  ·cases e;exact (a.put rfl).more
  ·cases e
 ·cases e
def Ow.st1{b:Nat}{x y:Val}(a:Ow b h)(e:I8 h x y=A4 h'):Ow b h':=by
 unfold I8 at e;split at e
 ·obtain ⟨r,_,e⟩:=E8i.1 e;split at e
  ·cases e;exact a.put rfl
  ·cases e
 ·cases e
def Ow.grows(a:Ow (l_ h) h')(hl:Low (l_ h) h h'):Grows h h':=by
 refine ⟨List.prefix_iff_eq_take.2 (E9z λi=>?_),a⟩;by_cases hi:i<(l_ h)
 ·have h1:=hl.2.2 i hi;have hl2:=hl.2.1;unfold rd at h1;rw [E86 hi];rw [E8h hi,E8h (by omega)] at h1 ⊢;have h1:h'[i]'(by omega)=h[i]:=h1;rw [h1]
 ·rw [E8P (by omega),E8P (by rw [E8Y];omega)]
def E3D(b:Nat)(h:A9):Nat:=match rd h (b+5) with
 | some ⟨.sl L _ _ _::_,_⟩=>L
 | _=>0
def Pr(b:Nat)(h:A9)(id:Nat):Prop:=b+6<=id/\id<l_ h/\id≠E3D b h
def B5Y{b L n:Nat}(hr:rd h (b+5)=rT [.sl L 0 n 1]):E3D b h=L:=by
 unfold E3D;rw [hr]
structure OfP(D:Dev)(n:Int)(V:List Cell)(g:A9)(R:List Int)(h:A9):Prop where
 low:Low (l_ g) g h
 ow:Ow (l_ g) h
 nd:R.Nodup
 r0:rd h (l_ g)=rT V
 r3:rd h (l_ g+3)=rT [.m (l_ g+2)]
 rw_:∃ L es,rd h (l_ g+5)=rT [.sl L 0 (l_ R+1) 1]/\rd h L=rT (encI (1::R))/\(l_ g)+4<=L/\L≠(l_ g)+5 /\
  rd h (l_ g+2)=A4 (Q1 es)/\KeysI es R/\∀ (j:Nat) (e:Cell × Part),es[j]?=A4 e->∃ a cs,e=(cI a,.a cs)/\IsNd h cs (tK D n a)/\NdF (Pr (l_ g) h) cs
def OfP.since{R:List Int}(P:OfP D n V g R h)(hl:Low (l_ h) h h')(ho:Ow (l_ g) h'):OfP D n V g R h':=by
 obtain ⟨L,es,h1,h2,h3,h4,h5,h6,h7⟩:=P.rw_;have W4:=hl.2.1;have c1:=B5Y h1;have c2:=B5Y (hl.rd h1);refine ⟨P.low.trans ⟨by have:=P.low.2.1;omega,W4,λid hid=>hl.2.2 id (by have:=P.low.2.1;omega)⟩,ho,P.nd,hl.rd P.r0,hl.rd P.r3,L,es,hl.rd h1,hl.rd h2,h3,h4,hl.rd h5,h6,λj e he=>?_⟩;obtain ⟨a,cs,e1,e2,e3⟩:=h7 j e he;exact ⟨a,cs,e1,e2.keep e3 λid hid=>hl.2.2 id hid.2.1,λid off m sz hm=>by have:=e3 id off m sz hm;unfold Pr at *;omega⟩
def OfP.more{R:List Int}(P:OfP D n V g R h)(t:A9)(ht:t.all B7x=A5:=by rfl):OfP D n V g R (h++t):=P.since ((Low.refl (E8m _)).new t) (P.ow.more ht)
def OfP.pr{R:List Int}(P:OfP D n V g R h)(hl:Low (l_ h) h h'){id:Nat}(hp:Pr (l_ g) h id):Pr (l_ g) h' id/\rd h' id=rd h id:=by
 obtain ⟨L,es,h1,_⟩:=P.rw_;have c1:=B5Y h1;have c2:=B5Y (hl.rd h1);have W4:=hl.2.1;unfold Pr at *;exact ⟨by omega,hl.2.2 id hp.2.1⟩
def OfP.look{R:List Int}(P:OfP D n V g R h)(ha:a∈R):∃ cs,IsNd h cs (tK D n a)/\NdF (Pr (l_ g) h) cs/\∀ z ok,yS h (A4 .i64) z ok (.c (.m (l_ g+2))) (.c (cI a))=A4 (wN ok (.a cs) A5):=by
 obtain ⟨L,es,h1,h2,h3,h4,h5,h6,h7⟩:=P.rw_;obtain ⟨j,hj⟩:=E9g.1 ha;have hlen:=h6.len;have hjl:j<es.length:=by rw [hlen];exact (E8p.1 hj).1
 obtain ⟨b,cs,e1,e2,e3⟩:=h7 j es[j] (E8h hjl);have hb:b=a:=by
  have h8:(es.map (·.1))[j]?=A4 (cI b):=by rw [List.getElem?_map,E8h hjl,e1];rfl
  rw [h6,List.getElem?_map,hj] at h8;simpa using h8.symm
 subst hb;exact ⟨cs,e2,e3,λz ok=>D9A h5 h6 P.nd (by rw [E8h hjl,e1])⟩
def E2R{R:List Int}(hD:okD D)(hv:IsView g f D)(P:OfP D n (vwC (l_ D) n m f) g R h)(h62:l_ R<=1000) :
  ∃ h',vN [.c (cI a),.c (.p (l_ g+3) 0),.c (.p (l_ g) 0),.c (.p (l_ g+5) 0)] h=A4 (.t [],h')/\OfP D n (vwC (l_ D) n m f) g (C3l R a) h'/\∀ id,Pr (l_ g) h id->Pr (l_ g) h' id/\rd h' id=rd h id:=by
 have la:=B8 (off:=0) P.r3 rfl rfl;have z7:ndC 0 0 0 0 0 .ns .ns=[o0,o0,o0,o0,o0,.ns,.ns]:=rfl;unfold C3l;by_cases c:a∈R
 ·obtain ⟨cs,g1,_,g2⟩:=P.look c;have s0:=B5v (h:=h) g1.length;rw [C4 c];refine ⟨h++[rT cs],B32 (n:=0) ?_,P.more _,λid hp=>P.pr ((Low.refl (E8m _)).new _) hp⟩;rw [B3D];simp only [C7,la,g2,wN,uS,E84,E8F,E85,dP,dQ,s0,yT,Bool.not_true,Y6];rfl
 ·rw [C5 c];obtain ⟨L,es,h1,h2,h3,h4,h5,h6,h7⟩:=P.rw_;have lk:=D4H (z:=.a (ndC 0 0 0 0 0 .ns .ns)) (ok:=A5) h5 h6 c;have s0:=B5v (h:=h) (cs:=ndC 0 0 0 0 0 .ns .ns) rfl;obtain ⟨H,hH⟩:=xEq (h++[rT (ndC 0 0 0 0 0 .ns .ns)]);have PH:OfP D n (vwC (l_ D) n m f) g R H:=by rw [hH];exact P.more _
  have lH:l_ H=l_ h+1:=by rw [hH];simp
  rw [<-hH] at s0;have la2:=B8 (off:=0) PH.r3 rfl rfl;have lV:=C8 (n:=4) PH.r0 rfl;obtain ⟨cs,t,n1,n2,n3⟩:=D3d (n:=n) (m:=m) (i:=a) hD (hv.since PH.low);obtain ⟨H2,hH2⟩:=xEq (H++t.map λc=>rT c);have n1q:quiet H (A6P [.a (vwC (l_ D) n m f),.c (cI a)] H)=A4 (.a cs,H2):=by rw [n1,D7e,hH2]
  rw [<-hH2] at n2;have P2:OfP D n (vwC (l_ D) n m f) g R H2:=by rw [hH2];exact PH.more _ (by rw [E8O];intro x hx;obtain ⟨c,_,rfl⟩:=E8N.1 hx;rfl)
  have lH2:H2.length=l_ H+(l_ t):=by rw [hH2];simp
  obtain ⟨L',es',k1,k2,k3,k4,k5,k6,k7⟩:=P2.rw_;have eL:L'=L:=by
   have:rd H2 (l_ g+5)=rT [.sl L 0 (l_ R+1) 1]:=by rw [hH2,hH];exact B6 (B6 h1)
   rw [this] at k1;injection k1 with e;injection e with e1;injection e1 with e2;injection e2 with e3
   exact e3.symm
  subst eL;have pm:=E2v (l:=cs) k5 k6 c;obtain ⟨H3,hH3⟩:=xEq (H2.set (l_ g+2) (A4 (Q1 (es'++[(cI a,.a cs)]))));rw [<-hH3] at pm;have lH3:H3.length=H2.length:=by rw [hH3];simp
  have r5:rd H3 (l_ g+5)=rT [.sl L' 0 (l_ R+1) 1]:=by rw [hH3,B7 (by omega)];exact k1
  have rL:rd H3 L'=rT (encI (1::R)):=by rw [hH3,B7 (by omega)];exact k2
  have E8b:=E1 h2;have ef:F6 [o0] [(0,1,.c (cI a))]=A4 (encI [a]):=rfl;obtain ⟨id,h8,h9,p1,p2,p3,p4,p5,p6,p7,p8,p9⟩:=E1D (off:=0) (ys:=encI [a]) (n:=l_ R+1) (sz:=1) r5 rfl (.inr ⟨L',rfl,rL,by simp [C1],k4⟩) (by omega) rfl (by omega);have keep:∀ j,j<H3.length->j≠(l_ g)+5->j≠L'->rd h9 j=rd H3 j:=λj h1 h2 h3=>p8 j h1 h2 λmm e=>by cases e;exact h3 rfl
  have b5:=E1 r5;have cH2:=B5Y k1;have c9:E3D (l_ g) h9=id:=B5Y (n:=l_ R+1+1) (by rw [p4];rfl);refine ⟨h9,B32 (n:=0) ?_,?_,λid0 hp=>?_⟩
  ·rw [B3D];rw [z7] at lk s0;simp only [C7,la,lk,wN,uS,E84,E8F,E85,dP,dQ,s0,yT,Bool.not_false,X6,la2,lV,E8C,n1q,pm,p1,ef,p2,p3];rfl
  ·refine ⟨?_,?_,?_,?_,?_,id,es'++[(cI a,.a cs)],?_,?_,by omega,by omega,?_,k6.snoc a _,λj e he=>?_⟩
   ·refine ⟨E8m _,by have:=P2.low.2.1;omega,λj hj=>?_⟩;rw [keep j (by omega) (by omega) (by omega),hH3,B7 (by omega)];exact P2.low.2.2 j hj
   ·have o3:Ow (l_ g) H3:=by rw [hH3];exact P2.ow.put D1g
    exact (o3.more.app p2).st1 p3
   ·rw [List.nodup_append];exact ⟨P.nd,by simp,λx hx y hy e=>by simp at hy;subst hy;subst e;exact c hx⟩
   ·rw [keep _ (by omega) (by omega) (by omega),hH3,B7 (by omega)];exact P2.r0
   ·rw [keep _ (by omega) (by omega) (by omega),hH3,B7 (by omega)];exact P2.r3
   ·rw [p4];simp
   ·rw [p6,<-jM];simp
   ·rw [keep _ (by omega) (by omega) (by omega),hH3,D3 (by omega)]
   ·by_cases hj:j<es'.length
    ·rw [List.getElem?_append_left hj] at he;obtain ⟨b,cs',e1,e2,e3⟩:=k7 j e he;refine ⟨b,cs',e1,e2.keep e3 λid hid=>?_,λcP off m' sz hm=>?_⟩
     ·unfold Pr at hid;rw [keep id (by omega) (by omega) (by omega),hH3,B7 (by omega)]
     ·have:=e3 cP off m' sz hm;unfold Pr at *;omega
    ·have hj2:j=es'.length:=by
      have:=(E8p.1 he).1;simp at this;omega
     subst hj2;rw [E8L (E8m _)] at he;simp at he;subst he;refine ⟨a,cs,rfl,n2.keep n3 λid hid=>?_,λcP off m' sz hm=>?_⟩
     ·have:=P.low.2.1;rw [keep id (by omega) (by omega) (by omega),hH3,B7 (by omega)]
     ·have:=n3 cP off m' sz hm;have hP:=P.low.2.1;have hb:=E1 h1;unfold Pr;omega
  ·have q1:=(P2.pr (Low.refl (E8m _)) (P.pr (h':=H2) (by rw [hH2,hH];exact ((Low.refl (E8m _)).new _).new _) hp).1).1;have q2:=(P.pr (h':=H2) (by rw [hH2,hH];exact ((Low.refl (E8m _)).new _).new _) hp).2;unfold Pr at *;exact ⟨by omega,by rw [keep id0 (by omega) (by omega) (by omega),hH3,B7 (by omega)];exact q2⟩
def E4u{R:List Int}(hR:∀ x∈R,1<=x/\x<=128)(ha:1<=a/\a<=128):∀ x∈C3l R a,1<=x/\x<=128:=by
 intro x hx;rcases D5z.1 hx with h | rfl
 ·exact hR x h
 ·exact ha
def C4v{q M:Nat}{L:List Ent}{fc x6:Val}(hD:okD D)(hv:IsView g f D)(hL:∀ e∈L,1<=e.2/\e.2<=128)(h62:l_ L<=1000)
  (hfc:∀ a h,aQ tS fc [a] h=vN [a,.c (.p (l_ g+3) 0),.c (.p (l_ g) 0),.c (.p (l_ g+5) 0)] h) :
  ∀ (e j M2:Nat) (R:List Int) (h:A9),j+e=l_ L->e<M2->(∀ x∈R,1<=x/\x<=128)->OfP D n (vwC (l_ D) n m f) g R h->Has h (.c y) 2 (l_ L) (K0 L)->(∀ id off k s,y=.sl id off k s->Pr (l_ g) h id) ->
   ∃ h',B0e q M M2 (.c (.p (l_ g+3) 0)) (.c (.p (l_ g+5) 0)) fc x6 (.c y) (.c (cI (l_ L:Int))) (.c (cI (j:Int))) h=bnd (N4 .add x6 (.c (cI 1))) (λv29=>A1m q M (.c (.p (l_ g+3) 0)) (.c (.p (l_ g+5) 0)) fc v29 h') /\
    OfP D n (vwC (l_ D) n m f) g (C8H R (L.drop j)) h'
 | e,j,0,R,h,_,hm,_,_,_,_=>by omega
 | 0,j,M2+1,R,h,hj,hm,hR,P,hy,hp=>by
  have c0:¬ ((j:Int)<(l_ L:Nat)):=by omega
  rw [A3t,E8x (by omega)];exact ⟨h,by simp only [C7,G4,c0,decide_false,Y6],P⟩
 | e+1,j,M2+1,R,h,hj,hm,hR,P,hy,hp=>by
  have hjl:j<(l_ L):=by omega
  have c0:(j:Int)<(l_ L:Nat):=by omega
  have w1:=E2 (a:=j) (by omega);obtain ⟨ad,a1,a2⟩:=A4s hy hjl;rw [E8s hjl,B6c];have hx:=hL L[j] (E8M hjl);obtain ⟨x,hxe⟩:=xEq (L[j]);rw [<-hxe] at a2 hx ⊢;have P1:=P.more [rT (W8 (A4 x))];have E4P:Low (l_ h) h (h++[rT (W8 (A4 x))]):=(Low.refl (E8m _)).new _;have hRl:=A7j P.nd hR;obtain ⟨h2,f1,f2,f3⟩:=E2R (a:=x.2) hD hv P1 (by omega);have hy2:Has h2 (.c y) 2 (l_ L) (K0 L):=C7Q hy λid off k s ey=>by
   have q1:=P.pr E4P (hp id off k s ey);rw [(f3 id q1.1).2,q1.2]
  obtain ⟨h',k1,k2⟩:=C4v (q:=q) (M:=M) (x6:=x6) hD hv hL h62 hfc e (j+1) M2 (C3l R x.2) h2 (by omega) (by omega) (E4u hR hx) f2 hy2 (λid off k s ey=>(f3 id (P.pr E4P (hp id off k s ey)).1).1);refine ⟨h',?_,k2⟩;rw [A3t];simp only [C7,G4,c0,decide_true,X6,a1,a2,B5u,R1,E8A,E9y,C7u,hfc,f1,L8,w1];exact k1
def D5t{D:Dev}{n:Int}{q:Nat}{fc:Val}(hD:okD D)(hv:IsView g f D)(hq:1000<q)
  (hfc:∀ a h,aQ tS fc [a] h=vN [a,.c (.p (l_ g+3) 0),.c (.p (l_ g) 0),.c (.p (l_ g+5) 0)] h) :
  ∀ (e i M:Nat) (R:List Int) (h:A9),e<M->130<=e+i->i<=1000->RowI (A4e D n) i R->OfP D n (vwC (l_ D) n m f) g R h ->
   ∃ h',A1m q M (.c (.p (l_ g+3) 0)) (.c (.p (l_ g+5) 0)) fc (.c (cI (i:Int))) h=A1n q q (.c (.p (l_ g+3) 0)) (.c (.sl (l_ h') 0 0 7)) (.c o0) (h'++[rT []])/\OfP D n (vwC (l_ D) n m f) g (B0f (A4e D n) e i R) h'
 | e,i,0,R,h,hm,_,_,_,_=>by omega
 | e,i,M+1,R,h,hm,E8a,hi,hI,P=>by
  obtain ⟨L,es,h1,h2,h3,h4,h5,h6,h7⟩:=P.rw_;have hRl:=A7j hI.nd hI.rg;have t4:=B8 (off:=0) h1 rfl rfl;have t3:=B8 (off:=0) P.r3 rfl rfl;have w1:=E2 (a:=i) (by omega);by_cases c:i<(1::R).length
  ·have c':i<l_ R+1:=by simpa using c
   have c0:(i:Int)<(l_ R+1:Nat):=by omega
   obtain ⟨e,rfl⟩:=X0 e (by omega);have ad:F0 1 (.c (.sl L 0 (l_ R+1) 1)) (.c (cI (i:Int)))=A4 (.c (.p L i)):=by rw [E4 c'];simp
   have l1:B9 h (.c (.p L i))=A4 (.c (cI (1::R)[i])):=B8 h2 (by rw [G6,E8h c];rfl) rfl;have mK:(1::R)[i]∈R:=by
    have:=E8M c;rw [E8J] at this;rcases this with e | e
    ·rw [e];exact hI.hd
    ·exact e
   obtain ⟨cs,g1,g2,g3⟩:=P.look mK;have nJ:=hI.step (λa=>D2T) c;rw [B0f,dif_pos c];obtain ⟨a,ha⟩:=xEq ((1::R)[i]);rw [<-ha] at l1 g1 g3 nJ ⊢;obtain ⟨x,y,rfl,hx,hy⟩:=g1;have hyl:=hy.len;have f6:B7b (.a (ndC (tK D n a).ino (tK D n a).kind (tK D n a).links (tK D n a).parent (tK D n a).size x y)) 6=A4 (.c y):=rfl;have hny:(tK D n a).names=A4e D n a:=rfl;rw [hny] at hy hyl;have n224:=D4T (D:=D) (n:=n) (i:=a);obtain ⟨h8,k1,k2⟩:=C4v (q:=q) (M:=M) (x6:=.c (cI (i:Int))) hD hv (L:=A4e D n a) (y:=y) D2T (by omega) hfc (A4e D n a).length 0 q R h (by omega) (by omega) hI.rg P hy (λid off k s ey=>g2 id off k s (by simp [ndC,ey]));rw [E8y] at k2;rw [L8,C7,w1] at k1;obtain ⟨h',p1,p2⟩:=D5t (q:=q) hD hv hq hfc e (i+1) M _ h8 (by omega) (by omega) (by omega) nJ k2;refine ⟨h',?_,p2⟩;rw [A3s];simp only [C7,t4,A6U,G4,c0,decide_true,X6,t3,ad,l1,g3,wN,f6,hyl,E8C];exact k1.trans p1
  ·have c':¬ i<l_ R+1:=by simpa using c
   have c0:¬ ((i:Int)<(l_ R+1:Nat)):=by omega
   have ew:B0f (A4e D n) e i R=R:=by
    cases e with
    | zero=>rfl
    | succ e=>rw [B0f,dif_neg c]
   rw [ew];refine ⟨h,?_,P⟩;rw [A3s];simp only [C7,t4,A6U,G4,c0,decide_false,Y6]
def IsNds.snoc{x:Nd}(hx:IsNd h cs x):∀ {t:List Nd} {C:List Cell},IsNds h C t->IsNds h (C++cs) (t++[x])
 | [],C,hC=>by
  have hC:C=[]:=hC;subst hC;exact ⟨cs,[],by simp,hx,rfl⟩
 | y::t,C,⟨c1,c2,e,h1,h2⟩=>by
  subst e;exact ⟨c1,c2++cs,by simp,h1,IsNds.snoc hx h2⟩
def A5T(D:Dev)(n:Int)(R:List Int)(k:Nat):List Nd:=((E8T k).filter λ(i:Nat)=>decide ((i:Int)∈R)).map λ(i:Nat)=>tK D n (i:Int)
def D1O{R:List Int}{k:Nat}(h:(k:Int)∈R):A5T D n R (k+1)=A5T D n R k++[tK D n k]:=by
 simp [A5T,List.range_succ,E9x,h]
def D5Q{R:List Int}{k:Nat}(h:¬ (k:Int)∈R):A5T D n R (k+1)=A5T D n R k:=by
 simp [A5T,List.range_succ,E9x,h]
def E0t{R:List Int}{k:Nat}:(A5T D n R k).length<=k:=by
 have:=E9f (λ(i:Nat)=>decide ((i:Int)∈R)) (E8T k);simpa [A5T] using this
def E45(b:Nat)(h:A9)(v:Val)(t:List Nd):Prop:=∀ h',(∀ id r,b<=id->rd h id=A4 r->rd h' id=A4 r)->IsTree h' v t
def IsNds.stay{b:Nat}(hk:∀ id r,b<=id->rd h id=A4 r->rd h' id=A4 r):∀ {t:List Nd} {cs:List Cell},IsNds h cs t->NdF (λj=>b<=j) cs->IsNds h' cs t
 | [],_,hx,_=>hx
 | x::t,_,⟨c1,c2,e,⟨a,y,e2,h1,h2⟩,h3⟩,hf=>by
  subst e;have st:∀ {x:Cell} {sz n:Nat} {cs:List Cell},Has h (.c x) sz n cs->(∀ id off m s,x=.sl id off m s->b<=id)->Has h' (.c x) sz n cs:=λhv hb=>by
   rcases hv with hv | ⟨id,off,r,e,hr,h2⟩
   ·exact .inl hv
   ·cases e;exact .inr ⟨id,off,r,rfl,hk id r (hb id off _ _ rfl) hr,h2⟩
  refine ⟨c1,c2,rfl,⟨a,y,e2,st h1 λid off m s e=>hf id off m s ?_,st h2 λid off m s e=>hf id off m s ?_⟩,IsNds.stay hk h3 λid off m sz hm=>hf id off m sz (by simp [hm])⟩
  ·rw [e2];simp [ndC,e]
  ·rw [e2];simp [ndC,e]
def C3f{D:Dev}{n:Int}{g H:A9}{R:List Int}{q:Nat}(P:OfP D n V g R H):∀ (e k M id:Nat) (C:List Cell) (h:A9),k+e=129->e<M->Low (l_ H) H h->Ow (l_ g) h->l_ H<=id->rd h id=rT C->IsNds H C (A5T D n R k)->NdF (λj=>l_ g<=j) C ->
  ∃ v h',A1n q M (.c (.p (l_ g+3) 0)) (.c (.sl id 0 (A5T D n R k).length 7)) (.c (cI (k:Int))) h=A4 (v,h')/\IsTree h' v (A5T D n R 129)/\Low (l_ H) H h'/\Ow (l_ g) h'/\E45 (l_ g) h' v (A5T D n R 129)
 | e,k,0,id,C,h,_,hm,_,_,_,_,_,_=>by omega
 | 0,k,M+1,id,C,h,hk,hm,hlow,how,hid,hr,hC,hF=>by
  have e0:k=129:=by omega
  subst e0;have c0:¬ ((129:Nat):Int)<129:=by omega
  rw [sL];have hx:=hC.noX;exact ⟨_,h,by simp only [C7,G4,c0,decide_false,Y6]<;>rfl,⟨C,Has.row hr hx.2 hx.1,hC.since hlow⟩,hlow,how,λh'' E3S=>⟨C,Has.row (E3S id _ (by have:=P.low.2.1;omega) hr) hx.2 hx.1,(hC.since hlow).stay E3S hF⟩⟩
 | e+1,k,M+1,id,C,h,hk,hm,hlow,how,hid,hr,hC,hF=>by
  have c0:(k:Int)<129:=by omega
  have w1:=E2 (a:=k) (by omega);have Ph:=P.since hlow how;have t3:=B8 (off:=0) Ph.r3 rfl rfl;have ht:=E0t (D:=D) (n:=n) (R:=R) (k:=k);by_cases c:(k:Int)∈R
  ·obtain ⟨cs,g1,g2,g3⟩:=P.look c;obtain ⟨cs',g1',_,g3'⟩:=Ph.look c;have ecs:cs'=cs:=by
    have r2:∀ z ok,yS h (A4 .i64) z ok (.c (.m (l_ g+2))) (.c (cI (k:Int)))=A4 (wN ok (.a cs) A5):=by
     intro z ok;rw [<-g3 z ok];obtain ⟨L,es,_,_,_,_,h5,_⟩:=P.rw_;simp only [yS,D2H,h5,hlow.rd h5]
    have h3:=r2 (.c .ns) A6;rw [g3' (.c .ns) A6] at h3;simpa [wN] using h3
   subst ecs;have s0:=B5v (h:=h) g1.length;have pE:=g1.length;have l7:C9 (h++[rT cs']) 7 (.c (.p (l_ h) 0))=A4 (.a cs'):=C8 N8 pE;have ef:F6 [o0,o0,o0,o0,o0,.ns,.ns] [(0,7,.a cs')]=A4 cs':=by
    simp only [F6,bQ];rw [C4 ⟨pE,by decide⟩];rw [lay_all (by rw [pE];rfl)]
   have hx:=hC.noX;obtain ⟨h2,a1,a2,a3,a4,a5⟩:=push (g:=H) (n:=(A5T D n R k).length) (sz:=7) (ys:=cs') (h:=h++[rT cs']) (hlow.new _) (B6 hr) hx.2 hid pE (by omega) (by omega);obtain ⟨v,h',f1,f2,f3⟩:=C3f (q:=q) P e (k+1) M ((h++[rT cs']).length+1) (C++cs') h2 (by omega) (by omega) a3 (how.more.more.app a1) (by omega) a2 (by rw [D1O c];exact hC.snoc g1) (λj off m sz hm=>(E8U.1 hm).elim (λh=>hF j off m sz h) λh=>by have:=(g2 j off m sz h).1;omega);refine ⟨v,h',?_,f2,f3⟩;have el:(A5T D n R (k+1)).length=(A5T D n R k).length+1:=by rw [D1O c];simp
   rw [el] at f1;rw [sL];simp only [C7,G4,c0,decide_true,X6,t3,g3',wN,uS,E84,E8F,E85,dP,dQ,s0,l7,ef,a1,A3r,L8,w1];exact f1
  ·obtain ⟨L,es,_,_,_,_,h5,h6,_⟩:=Ph.rw_;have lk:=D4H (z:=.a [o0,o0,o0,o0,o0,.ns,.ns]) (ok:=A5) h5 h6 c;have s0:=B5v (h:=h) (cs:=[o0,o0,o0,o0,o0,.ns,.ns]) rfl;obtain ⟨v,h',f1,f2,f3⟩:=C3f (q:=q) P e (k+1) M id C (h++[rT [o0,o0,o0,o0,o0,.ns,.ns]]) (by omega) (by omega) (hlow.new _) how.more hid (B6 hr) (by rw [D5Q c];exact hC) hF;refine ⟨v,h',?_,f2,f3⟩;rw [D5Q c] at f1;rw [sL];simp only [C7,G4,c0,decide_true,X6,t3,lk,wN,uS,E84,E8F,E85,dP,dQ,s0,Y6,A3r,L8,w1];exact f1
def C84(hD:okD D)(hv:IsView h f D) :
  ∃ v h',eY [.a (vwC (l_ D) n m f)] h=A4 (v,h')/\IsTree h' v (E6 D n)/\Low (l_ h) h h'/\Ow (l_ h) h'/\E45 (l_ h) h' v (E6 D n):=by
 obtain ⟨V,hV⟩:=xEq (vwC (l_ D) n m f);have hVl:l_ V=4:=by rw [hV];rfl
 have D6J:=T8 (n:=n) (m:=m) (i:=1) (h:=h++[rT V,rT []]) hD (hv.more _);rw [nK,<-hV] at D6J;have f0:∀ k l s p d,B7b (.a (D1 k l s p d)) 0=A4 (.c (cI k)):=λ_ _ _ _ _=>rfl
 unfold E6;by_cases c:kdV D n 1=2
 ·rw [C4 c];have ef:F6 [o0] [(0,1,.c (cI 1))]=A4 [cI 1]:=rfl;obtain ⟨H,hH⟩:=xEq (h++[rT V,rT [],A4 (Q1 []),rT [.m (l_ h+2)],rT [cI 1],rT [.sl (l_ h+4) 0 1 1]]);have lH:l_ H=l_ h+6:=by rw [hH];simp
  have emk:A32 49 [.c (.p (l_ h+3) 0),.c (.p (l_ h) 0),.c (.p (l_ h+5) 0)]=A4 (.c (.f 49 [(l_ h+3,0),(l_ h,0),(l_ h+5,0)])):=rfl;have hfc:∀ a h',aQ tS (.c (.f 49 [(l_ h+3,0),(l_ h,0),(l_ h+5,0)])) [a] h'=vN [a,.c (.p (l_ h+3) 0),.c (.p (l_ h) 0),.c (.p (l_ h+5) 0)] h':=λ_ _=>Eq.trans rfl rfl
  have P0:OfP D n (vwC (l_ D) n m f) h [] H:=by
   rw [<-hV,hH];refine ⟨(Low.refl (E8m _)).new _,Ow.self.more (by simp [B7x];exact ⟨rfl,rfl,Row.own_mrow _,rfl,rfl,rfl⟩),by simp,by simp,by simp,l_ h+4,[],by simp,by simp [encI],by omega,by omega,by simp,rfl,λj e he=>by simp at he⟩
  obtain ⟨h2,f1,f2,_⟩:=E2R (a:=1) hD hv P0 (by simp);have es:C3l [] 1=[1]:=rfl;rw [es] at f2;obtain ⟨h3,g1,g2⟩:=D5t (q:=2000) hD hv (by omega) hfc 130 0 2000 [1] h2 (by omega) (by omega) (by omega) RowI.one f2;change OfP D n (vwC (l_ D) n m f) h (C3j D n) h3 at g2;obtain ⟨v,h',k1,k2,k3,k4,k5⟩:=C3f (q:=2000) g2 129 0 2000 h3.length [] (h3++[rT []]) (by omega) (by omega) ((Low.refl (E8m _)).new _) g2.ow.more (E8m _) (by simp) rfl (λ_ _ _ _ h=>by cases h);refine ⟨v,h',A5d (n:=2000) ?_,k2,?_,k4,k5⟩
  ·have e5:(h++[rT V,rT [],A4 (Q1 [])]).length=l_ h+3:=by simp
   have s1:I8 (h++[rT V,rT [],A4 (Q1 []),rT [.nm]]) (.c (.p (l_ h+3) 0)) (.c (.m (l_ h+2)))=A4 (h++[rT V,rT [],A4 (Q1 []),rT [.m (l_ h+2)]]):=by rw [oN];rfl
   have s2:I8 (h++[rT V,rT [],A4 (Q1 []),rT [.m (l_ h+2)],rT [cI 1],rT [.ns]]) (.c (.p (l_ h+5) 0)) (.c (.sl (l_ h+4) 0 1 1))=A4 H:=by rw [oN,hH];rfl
   rw [A4V,<-hV];simp only [esc,H6,K9,hVl,D6J,f0,c,Nat.add_assoc,Nat.reduceAdd,s1,ef,s2,emk,hfc,f1];exact g1.trans k1
  ·exact g2.low.trans ⟨by have:=g2.low.2.1;omega,k3.2.1,λid hid=>by
    have:=g2.low.2.1;rw [k3.2.2 id (by omega)]⟩
 ·rw [C5 c];refine ⟨.c (.sl (l_ h+2) 0 0 7),h++[rT V,rT [],rT []],A5d (n:=0) ?_,⟨[],Has.row (rw:=A5) (by simp) rfl rfl,rfl⟩,(Low.refl (E8m _)).new _,Ow.self.more,λh'' E3S=>⟨[],Has.row (rw:=A5) (E3S (l_ h+2) _ (by omega) (by simp)) rfl rfl,rfl⟩⟩;rw [A4V,<-hV];simp only [esc,H6,K9,hVl,D6J,f0,c]
def C96(hD:okD D)(hv:IsView h f D) :
  ∃ v h',eY [.a (vwC (l_ D) n m f)] h=A4 (v,h')/\IsTree h' v (E6 D n)/\Grows h h':=by
 obtain ⟨v,h',h1,h2,h3,h4⟩:=C84 (n:=n) (m:=m) hD hv;exact ⟨v,h',h1,h2,h4.1.grows h3⟩
def nmC:Cell->Option Nat
 | .sl id _ _ _=>A4 id
 | .m id=>A4 id
 | _=>A7
def Nam(h:A9)(r id:Nat):Prop:=∃ R x,rd h r=A4 R/\x∈R.cells/\nmC x=A4 id
structure Fr(r:Nat)(h h':A9):Prop where
 size:l_ h<=(l_ h')
 keep:∀ id,id<l_ h->id≠r->¬ Nam h r id->rd h' id=rd h id
 nam:∀ id,Nam h' r id->Nam h r id\/(l_ h)<=id
def Fr.refl(r:Nat)(h:A9):Fr r h h:=⟨E8m _,λ_ _ _ _=>rfl,λ_ hn=>.inl hn⟩
def Fr.trans{h'':A9}(a:Fr r h h')(b:Fr r h' h''):Fr r h h'':=by
 refine ⟨E83 a.size b.size,λid hid hr hn=>?_,λid hn=>?_⟩
 ·rw [b.keep id (by have:=a.size;omega) hr λhm=>?_,a.keep id hid hr hn];rcases a.nam id hm with h1 | h1
  ·exact hn h1
  ·omega
 ·rcases b.nam id hn with h1 | h1
  ·exact a.nam id h1
  ·exact .inr (by have:=a.size;omega)
def Nam.same{id:Nat}(e:rd h' r=rd h r):Nam h' r id↔Nam h r id:=by unfold Nam;rw [e]
def Fr.low(hl:Low (l_ h) h h')(hr:r<l_ h):Fr r h h' :=
 ⟨hl.2.1,λid hid _ _=>hl.2.2 id hid,λid hn=>.inl ((Nam.same (hl.2.2 r hr)).1 hn)⟩
def Loc(h:A9)(r id:Nat):Prop:=id<l_ h/\id≠r/\¬ Nam h r id
def Fr.loc{id:Nat}(a:Fr r h h')(hl:Loc h r id):Loc h' r id/\rd h' id=rd h id:=by
 refine ⟨⟨Nat.lt_of_lt_of_le hl.1 a.size,hl.2.1,λhn=>?_⟩,a.keep id hl.1 hl.2.1 hl.2.2⟩;rcases a.nam id hn with h1 | h1
 ·exact hl.2.2 h1
 ·have:=hl.1;omega
def Apt(cs:List Cell)(r:Nat):Prop:=(∀ (i j a:Nat) (x y:Cell),cs[i]?=A4 x->cs[j]?=A4 y->nmC x=A4 a->nmC y=A4 a->i=j)/\∀ x∈cs,nmC x≠A4 r
def Apt.set(ha:Apt cs r)(off:Nat)(hx:∀ id,nmC x=A4 id->id≠r/\∀ (j:Nat) y,j≠off->cs[j]?=A4 y->nmC y≠A4 id):Apt (cs.set off x) r:=by
 have look:∀ (j:Nat) (y:Cell),(cs.set off x)[j]?=A4 y->(j=off/\y=x)\/(j≠off/\cs[j]?=A4 y):=by
  intro j y hj;by_cases e:j=off
  ·subst e
   left
   rw [List.getElem?_set] at hj;simp only [if_true] at hj;split at hj
   ·cases hj;exact ⟨rfl,rfl⟩
   ·cases hj
  ·right
   rw [List.getElem?_set_ne (Ne.symm e)] at hj;exact ⟨e,hj⟩
 refine ⟨λi j a y z hi hj hy hz=>?_,λy hy=>?_⟩
 ·rcases look i y hi with ⟨e1,e2⟩ | ⟨e1,e2⟩<;>rcases look j z hj with ⟨e3,e4⟩ | ⟨e3,e4⟩
  ·rw [e1,e3]
  ·subst e2;exact absurd hz ((hx a hy).2 j z e3 e4)
  ·subst e4;exact absurd hy ((hx a hz).2 i y e1 e2)
  ·exact ha.1 i j a y z e2 e4 hy hz
 ·obtain ⟨j,hj⟩:=E9g.1 hy;rcases look j y hj with ⟨e1,e2⟩ | ⟨e1,e2⟩
  ·subst e2;intro e;exact (hx r e).1 rfl
  ·exact ha.2 y (E8H e2)
def Apt.ne(ha:Apt cs r){i a b:Nat}(hi:cs[i]?=A4 x)(hj:cs[j]?=A4 y)(hx:nmC x=A4 a)(hy:nmC y=A4 b)(aZ:i≠j):a≠b:=by
 intro e;subst e;exact aZ (ha.1 i j a x y hi hj hx hy)
def HeldX.nm{n:Nat}(hx:HeldX h x cs n sz r){id:Nat}(e:nmC x=A4 id):x=.sl id 0 n sz/\rd h id=rT cs/\(l_ cs)=n*sz/\id≠r:=by
 rcases hx with ⟨_,_,e2⟩ | ⟨cP,e2,h1,h2,h3⟩
 ·rw [e2] at e;cases e
 ·subst e2;cases e;exact ⟨rfl,h1,h2,h3⟩
def HeldX.kept{n:Nat}(hx:HeldX h x cs n sz r)(hk:∀ id,nmC x=A4 id->rd h' id=rd h id):HeldX h' x cs n sz r :=
 hx.keep λid m e=>hk id (by rw [e];rfl)
structure Cl where
 row:List Int
 ino:List (List Int)
 taken:List Bool
 blocks:List Int
 made:List (List UInt8)
 lost:Int
 lnk:Int->Option Int
 par:Int->Option Int
def MapI(es:V8)(F:Int->Option Int):Prop:=(∀ e∈es,∃ i,e.1=cI i)/\∀ i,(A90 (cI i) es).map (·.2)=(F i).map λv=>Part.c (cI v)
def A1o(F:Int->Option Int)(a v:Int):Int->Option Int:=λi=>if i=a then A4 v else F i
def E4U(h:∀ e∈es,∃ i,e.1=cI i):A20 (A4 .i64) (cI a) es=A5:=by
 simp only [A20,vY,decide_true,E8K,E8O];intro e he;obtain ⟨x,hx⟩:=h e he;rw [hx];simp
def MapI.nil:MapI [] λ_=>A7:=⟨λe he=>by simp at he,λi=>rfl⟩
def MapI.put{F:Int->Option Int}(hm:MapI es F)(a v:Int):MapI (A91 (cI a) (.c (cI v)) es) (A1o F a v):=by
 refine ⟨C25 (Q:=λc=>∃ i,c=cI i) ⟨a,rfl⟩ hm.1,λi=>?_⟩;unfold A1o;by_cases c:i=a
 ·subst c;rw [C4 rfl,(A4u (k':=.mh)).1];rfl
 ·rw [C5 c,(A4u (k:=cI a) (k':=cI i)).2 (by simpa using c)];exact hm.2 i
def E4V{F:Int->Option Int}{ok:Bool}(hr:rd h mid=A4 (Q1 es))(hm:MapI es F):yS h (A4 .i64) (.c o0) ok (.c (.m mid)) (.c (cI a))=A4 (wN ok (.c (cI ((F a).getD 0))) (F a).isSome):=by
 simp only [yS,C0K,D2H,hr,E8z,qW];rw [C4 (E4U hm.1)];have h2:=hm.2 a;cases hg:A90 (cI a) es with
 | none =>
  rw [hg] at h2;cases hF:F a with
  | none=>rfl
  | some v=>rw [hF] at h2;cases h2
 | some ip =>
  obtain ⟨i,p⟩:=ip;rw [hg] at h2;cases hF:F a with
  | none=>rw [hF] at h2;cases h2
  | some v=>rw [hF] at h2;simp at h2;subst h2;rfl
def E53{F:Int->Option Int}{x:Int}(hr:rd h mid=A4 (Q1 es))(hm:MapI es F):A3k h (A4 .i64) (.c (.m mid)) (.c (cI a)) (.c (cI x))=A4 (h.set mid (A4 (Q1 (A91 (cI a) (.c (cI x)) es)))):=by
 simp only [A3k,C0K,C4s,hr,E8z,qW];rw [C4 (E4U hm.1)]
def wkC(D:Dev)(n m:Int)(f xr xi xt xb xm:Cell)(lost:Int)(ml mp:Nat):List Cell:=[cI (l_ D),cI n,.i .u64 m,f,xr,xi,xt,xb,xm,cI lost,.m ml,.m mp]
def pJ(l:List (List Int)):List Cell:=(l.map encI).flatten
def fL(l:List Bool):List Cell:=l.map .b
structure WP(D:Dev)(n m:Int)(f:Cell)(g:A9)(r:Nat)(c:Cl)(h:A9):Prop where
 lo:Low (l_ g) g h
 ge:l_ g<=r
 low:∀ id,Nam h r id->l_ g<=id
 il:∀ x∈c.ino,x.length=11
 ilen:c.ino.length=(n+1).toNat
 tlen:c.taken.length=(l_ D)
 row:∃ xr xi xt xb xm ml mp es1 es2,rd h r=rT (wkC D n m f xr xi xt xb xm c.lost ml mp)/\Apt (wkC D n m f xr xi xt xb xm c.lost ml mp) r /\
  HeldX h xr (encI c.row) c.row.length 1 r/\HeldX h xi (pJ c.ino) c.ino.length 11 r/\HeldX h xt (fL c.taken) c.taken.length 1 r /\
  HeldX h xb (encI c.blocks) c.blocks.length 1 r/\HeldX h xm (E3 c.made) c.made.length 256 r /\
  rd h ml=A4 (Q1 es1)/\MapI es1 c.lnk/\rd h mp=A4 (Q1 es2)/\MapI es2 c.par
section
variable {D:Dev} {n m:Int} {f:Cell} {g:A9} {r:Nat} {c:Cl} {h:A9}
def WP.rlt(P:WP D n m f g r c h):r<(l_ h):=by
 obtain ⟨_,_,_,_,_,_,_,_,_,h1,_⟩:=P.row;exact E1 h1
def B8K{R:Row}{i id:Nat}(hr:rd h r=A4 R)(hi:R.cells[i]?=A4 x)(hx:nmC x=A4 id):Nam h r id:=⟨R,x,hr,E8H hi,hx⟩
def C27(hv:∃ id cs,f=.f id cs)(P:WP D n m f g r c h){id:Nat}(hn:Nam h r id):id<(l_ h):=by
 obtain ⟨xr,xi,xt,xb,xm,ml,mp,es1,es2,h1,h2,h3,h4,h5,h6,h7,h8,h9,h10,h11⟩:=P.row;obtain ⟨R,x,hR,hx,hnm⟩:=hn;rw [h1] at hR;cases hR;obtain ⟨fi,fc,rfl⟩:=hv;simp only [wkC,E8J,List.not_mem_nil,or_false] at hx;rcases hx with rfl | rfl | rfl | rfl | rfl | rfl | rfl | rfl | rfl | rfl | rfl | rfl
 ·cases hnm
 ·cases hnm
 ·cases hnm
 ·cases hnm
 ·exact E1 (h3.nm hnm).2.1
 ·exact E1 (h4.nm hnm).2.1
 ·exact E1 (h5.nm hnm).2.1
 ·exact E1 (h6.nm hnm).2.1
 ·exact E1 (h7.nm hnm).2.1
 ·cases hnm
 ·cases hnm;exact E1 h8
 ·cases hnm;exact E1 h10
def WP.keep(P:WP D n m f g r c h)(hlo:Low (l_ g) g h')(hr:rd h' r=rd h r)(hk:∀ id,Nam h r id->rd h' id=rd h id):WP D n m f g r c h':=by
 obtain ⟨xr,xi,xt,xb,xm,ml,mp,es1,es2,h1,h2,h3,h4,h5,h6,h7,h8,h9,h10,h11⟩:=P.row;have k:∀ (i:Nat) (x:Cell) (id:Nat),(wkC D n m f xr xi xt xb xm c.lost ml mp)[i]?=A4 x->nmC x=A4 id->rd h' id=rd h id:=λi x id hi hx=>hk id (B8K h1 hi hx)
 refine ⟨hlo,P.ge,λid hn=>P.low id ((Nam.same hr).1 hn),P.il,P.ilen,P.tlen,xr,xi,xt,xb,xm,ml,mp,es1,es2,by rw [hr];exact h1,h2,h3.kept λid e=>k 4 _ _ rfl e,h4.kept λid e=>k 5 _ _ rfl e,h5.kept λid e=>k 6 _ _ rfl e,h6.kept λid e=>k 7 _ _ rfl e,h7.kept λid e=>k 8 _ _ rfl e,?_,h9,?_,h11⟩
 ·rw [k 10 (.m ml) ml rfl rfl];exact h8
 ·rw [k 11 (.m mp) mp rfl rfl];exact h10
def WP.since(hv:∃ id cs,f=.f id cs)(P:WP D n m f g r c h)(hl:Low (l_ h) h h'):WP D n m f g r c h' :=
 P.keep ⟨P.lo.1,E83 P.lo.2.1 hl.2.1,λid hid=>by rw [hl.2.2 id (by have:=P.lo.2.1;omega)];exact P.lo.2.2 id hid⟩ (hl.2.2 r P.rlt) λid hn=>hl.2.2 id (C27 hv P hn)
def WP.more(hv:∃ id cs,f=.f id cs)(P:WP D n m f g r c h)(t:A9):WP D n m f g r c (h++t):=P.since hv ((Low.refl (E8m _)).new t)
def WP.set{id:Nat}{x:Option Row}(P:WP D n m f g r c h)(hl:Loc h r id)(hg:l_ g<=id):WP D n m f g r c (h.set id x):=by
 refine P.keep (P.lo.set hg x) (B7 hl.2.1) λj hj=>B7 λe=>hl.2.2 (by rw [e];exact hj)
def Fr.set{id:Nat}{x:Option Row}(a:Fr r h0 h)(hl:Loc h r id)(h0l:h0.length<=id):Fr r h0 (h.set id x):=by
 have e:rd (h.set id x) r=rd h r:=B7 hl.2.1;exact ⟨by simpa using a.size,λj hj h1 h2=>by rw [B7 (by omega)];exact a.keep j hj h1 h2,λj hj=>a.nam j ((Nam.same e).1 hj)⟩
end
section
variable (n m m2:Nat) (a0 a1 a2 a3 x0 x1 x2 x3 x4 x5 x6 x7 x8 x9 x10 x11 x12 x13 x17 x18 x19 x20 x21 x22 x27 x28 x29 x30 x31 x32 x37 x38 x39 x72 x73 x74 x75 x76 x77 x78 x79 x88 x89 x90 E6Y E6Z E60 E4F E4G E4H:Val) (h:A9)
def mP:FD A8:=⟨px 0X13ef407a126a0521b22a0411d6e10420540503d72f01860520114014c0000722401b2a1903a1e0413a4f4c3a703a1e203a1f403a1f03a6c73a70103f042032a1031800500503d712a5d4203140130182,[],[],[.tmp 4],[D8 X1 Z7]⟩
def A6y:=mP.R
def nT:=mR A6y mP (tT []) n [a0,a1] h
def fG:=mP.K Tryz.func73
def X3:=mP.Q
def nZ:OfT A6y X3:=fG.of
def gR:FD A8:=⟨px 0X128f60301a191032f1a04202f2f382f72a2f1e0104121e439002711b0000017236017530282,[],[],[.tmp 6],[gG X3 fG]⟩
def A3d:=gR.R
def xK:=mR A3d gR (tT []) n [a0,a1,a2,a3] h
def A27:=gR.K Tryz.func76
def gW:=gR.Q
def xX:OfT A3d gW:=A27.of
def M6:FD A8:=⟨px 0X126e48867a4883f1c2111002323ef7055e02218026e488611906413019625c1684881851824301c1904f4d04264f6e484f7484f74e4f7013061903f4e3e3f70110321e1d01d6b4521cf60042031c1284881a1c41d4219f5041264215011a070244131889012129420060517011f61820131c41b422e219531c2,[],[.eqN A5 A5 (.t 16)],[.cellN 4 256],[cal C5e,D8 uJ A4B,gG gW A27]⟩
def A0o:=M6.R
def A0e:K7:=M6.E
def zP:AtH:=M6.lj 0 n [m] [x1,x2,x4,x7]
def B1K:AtH:=M6.lj 1 n [m] [x1,x2,x4,x7]
def mD:TT:=⟨A0e,[⟨2,4,zP⟩,⟨2,4,B1K⟩]⟩
def A7R:=mR A0o M6 mD n [a0,a1] h
def rW:=mL M6 mD 0 n [m] [x1,x2,x4,x7] h
def eQ:=mJ M6 mD 1 n [m] [x1,x2,x4,x7] h
def A0j:=M6.K Tryz.func75
def mB:=M6.Q
def A78:OfT A0o mB:=A0j.of
def mQ:FD A8:=⟨px 0X622a4054052a3d4006488390488011c148807f4e488180440540503d71711811b622a3054052a3d0613901011113e2e10430540503d71711d112652e11b301c2,[],[],[],[]⟩
def A6z:=mQ.R
def B3i:=mR A6z mQ (tT []) n [a0,a1,a2] h
def xD:=mQ.K Tryz.func74
def nB:=mQ.Q
def B3R:OfT A6z nB:=xD.of
def U7:FD A8:=⟨px 0X2c3835312c16f2f16d2042432f6f219c5e06233041a5f5041800503d2f4041a5f52f41b01b01241022041a5f531d94203021b6461b1d25f1b181f10410540503d2f470193100330022a1a5f506223041a4f52f461824390527a4b5921994c18244421311a4af2e053802218422a280164918c2001a223f5c46e482b0440162d46855816844c390701b38f704124842150307024713401215f4200605110383c2c5935d5b182032bf22a161b01130423a292b51d4228f21b63b51b01251151033b3b0422c1e2b51b421df21b63b41b042032e1041800503d1c1859181942422e153182,[],[.min (.t 20) (.v (.c (cI 6)))],[],[D8 F9 J5,D8 yF A4A,gG X3 fG,D8 D9 E5,gG mB A0j,gG nB xD]⟩
def A6x:=U7.R
def kA:AtH:=U7.lj 0 n [m] [x1,x2,x4,x5,x6,x21,x22]
def uV:AtH:=U7.lj 1 n [] [x1,x2,x5,x6]
def yP:=tT [⟨2,7,kA⟩,⟨1,4,uV⟩]
def B3g:=mR A6x U7 yP n [a0,a1] h
def mE:=mL U7 yP 0 n [m] [x1,x2,x4,x5,x6,x21,x22] h
def A0w:=mJ U7 yP 1 n [] [x1,x2,x5,x6] h
def A6l:=U7.K Tryz.func37
def mZ:=U7.Q
def B3Q:OfT A6x mZ:=A6l.of
def J1:FD A8:=⟨px 0X127e4963f494b1c21111111006324af1d055a04a4921849f2d0538022180122a401482d17855e14182404225c104401482d15c54a38067b422ff704123e4235031a27024181328901215d42026251115b752017241032042233817290459420328f600441811d3284215011a07024613401213d42006051102901131e491843b392f128201321c49601031a49181c3021f4c432e219701c2,[],[],[.cellN 4 33],[cal C6s,cal uI,gG X3 fG]⟩
def A14:=J1.R
def A0u:AtH:=J1.lj 0 n [m] [x0,x3,x4,x11,x12,x13]
def A0t:AtH:=J1.lj 1 n [m] [x0,x3,x4,x11,x12,x13]
def A0v:AtH:=J1.lj 2 n [m,m2] [x0,x3,x4,x6,x11,x12,x13,x21]
def B2R:AtH:=J1.lj 3 n [m,m2] [x0,x3,x4,x6,x11,x12,x13,x21]
def aJ:=tT [⟨2,6,A0u⟩,⟨2,6,A0t⟩,⟨3,8,A0v⟩,⟨3,8,B2R⟩]
def A8M:=mR A14 J1 aJ n [a0,a1] h
def gH:=mL J1 aJ 0 n [m] [x0,x3,x4,x11,x12,x13] h
def tD:=mJ J1 aJ 1 n [m] [x0,x3,x4,x11,x12,x13] h
def gJ:=mL J1 aJ 2 n [m,m2] [x0,x3,x4,x6,x11,x12,x13,x21] h
def tF:=mJ J1 aJ 3 n [m,m2] [x0,x3,x4,x6,x11,x12,x13,x21] h
def A1W:=J1.K Tryz.func78
def fH:=J1.Q
def A8V:OfT A14 fH:=A1W.of
def mO:FD A8:=⟨px 0X14bf7007a466a103141022f3b6831868480661110723ff13ef2362c191b12c2802a3e2c3df2d0042336c1042234c1041800503d72e01e2d2b2911d20137023c4602f3b33811001722410222c2a024f420329f18004401482d312e50621301032c11e491b1c501929253312f61b642e31d1950282,[],[],[.cellN 6 4,.tmp 7],[D8 B3Z B9e,cal C2e,D8 D9 E5,cal C16]⟩
def xL:=mO.R
def B3h:=mR xL mO (tT []) n [a0,a1,a2] h
def wZ:=mO.K Tryz.func125
def nA:=mO.S
def B02:G0 xL nA:=wZ.flat
def K3:FD A8:=⟨px 0X11b9f402b81b902190000003721b8f19c053801b8492181aff1d001e239020129123e01118102293b33829815f128c128e1a80191819ff1f00441811d33f42550347024513401212bb42026451102901436f199042b92af2ad28282002321d4811e2222222200772198f2c051d801984921818ff480519e018f49218018ef6001a13901013113e0400511e856f171826f0410511d850400511ca55f1181c1224301a1911d94e1ba31d93c031d93c11ac1d91f01301a190421bd1a1aa1bd701bd1e01981bd1f0118a5d01d1eb66625cf15bf2462f1b1b1282801e5b2c5af4c00181a3330400517a53f491874d01c392f1824bf2362c1a1b031841831d45e4235031a270241b134012118b420162511029012304213581041800503d7380191897f7d1c22ff1800441811d33a42150307024713401215b42006051102901033c49291c4594f4d612c2002314a11d4228f500287d21b4224a432e270182,[],[.mkMap,.eqA A6 ([.i .i64,.s,.i .i64]) (.t 54) (.t 55),.mput A7 (.t 58) (.t 61) (.t 64),.look A7 (.c o0) A6 (.t 82) (.t 83)],[.tmp 4],[cal uI,D8 D9 E5,cal A8T,D8 nA wZ,cal C6x]⟩
def uF:=K3.R
def bR:AtH:=K3.lj 0 n [m] [x0,x3,x5,x6,x18,x19,x20]
def bS:AtH:=K3.lj 1 n [m,m2] [x0,x3,x5,x6,x8,x18,x19,x20,x30,x31,x32]
def A3m:AtH:=K3.lj 2 n [m] [x5,x13,x74,x75,x76]
def B6B:AtH:=K3.lj 3 n [m,m2] [x0,x3,x5,x6,x8,x18,x19,x20,x30,x31,x32]
def dF:=tT [⟨2,7,bR⟩,⟨3,11,bS⟩,⟨2,5,A3m⟩,⟨3,11,B6B⟩]
def B2B:=mR uF K3 dF n [a0,a1] h
def yZ:=mL K3 dF 0 n [m] [x0,x3,x5,x6,x18,x19,x20] h
def kB:=mL K3 dF 1 n [m,m2] [x0,x3,x5,x6,x8,x18,x19,x20,x30,x31,x32] h
def zA:=mL K3 dF 2 n [m] [x5,x13,x74,x75,x76] h
def cC:=mJ K3 dF 3 n [m,m2] [x0,x3,x5,x6,x8,x18,x19,x20,x30,x31,x32] h
def A4x:=K3.K Tryz.func79
def jV:=K3.S
def B03:A3Q uF jV:=A4x.out
def bA:FD A8:=⟨px 0X11b6011d00620622a0054052a3d0613901011113e2f10400540503d71711d1836f1f12f1041b0503d71721222403f19a121bf53128200001301a26f50021382f1041a0503d74f0182b53102920136011d000002722401b1c193041887b6e18f70188719021881a6c18870101b619102781a5c787015022683a01d19d4231339f138f1801282801e382c2ff290038581041b0503d72a01b2b4228f70007904203381041800503d71a0181f4236015301c2,[],[.look (A4 .i64) (.c o0) A5 (.t 21) (.t 22),.look (A4 .i64) (.c o0) A6 (.t 42) (.t 43),.mput (A4 .i64) (.t 42) (.t 43) (.t 45),.mput (A4 .i64) (.t 51) (.t 52) (.t 53)],[.tmp 6],[D8 F9 J5]⟩
def A6A:=bA.R
def B8x:AtH:=bA.lj 0 n [] []
def A6R:=tT [⟨1,0,B8x⟩]
def nU:=mR A6A bA A6R n [a0,a1,a2] h
def mH:=mJ bA A6R 0 n [] [] h
def A6m:=bA.K Tryz.func80
def nC:=bA.Q
def oA:OfT A6A nC:=A6m.of
def Q3:FD A8:=⟨px 0X122c848862be4881b81c21111100006321aff3d051ec0221822ba48860425329c2182ae4881ac1c4181abf11aaf2262d1f1b11e2801c1aa2c1a9f19c0062430218128e504028a19d2b1b3f42017622a5054051c3d50020450540503d711a196222401b2c1901831e81a01e81e101e81f11cc1e81f11e84e01e81e001e81f11bc1e81f3f1e870101b1a1901cc4e1aa31cc3c031cc3c119c1cc1f0101b1a190431b81a2f1b8701b81e01881b81f0103f785a03928d42772359f158f2462f1d1b1282801e582c4ff4900181a3330400516857c491874a01c3d3b18248f2362c1c1b031841831d44c4215011a070241913401217d4200605110290123042135e1041800503d72d0197b796f1a7513c200001332cf12bf248861c191b1628042b2c2af2902b102a5c72b421c181b1852e2291b7502c2,[.c .ns],[.eqA A5 ([.i .i64,.s,.i .i64]) (.t 52) (.t 53),.look A7 (.c o0) A6 (.t 57) (.t 60)],[.cellN 8 256],[cal C41,D8 D9 E5,cal A8T,D8 nA wZ,cal C42,D8 A6L B28]⟩
def A15:=Q3.R
def dU:AtH:=Q3.lj 0 n [m] [x0,x2,x3,x5,x8,x9,x27,x28,x29]
def B2S:AtH:=Q3.lj 1 n [m] [x0,x2,x3,x5,x8,x9,x27,x28,x29]
def oG:=tT [⟨2,9,dU⟩,⟨2,9,B2S⟩]
def A8N:=mR A15 Q3 oG n [a0,a1,a2,a3] h
def gK:=mL Q3 oG 0 n [m] [x0,x2,x3,x5,x8,x9,x27,x28,x29] h
def V1:=mJ Q3 oG 1 n [m] [x0,x2,x3,x5,x8,x9,x27,x28,x29] h
def A1X:=Q3.K Tryz.func83
def nY:=Q3.Q
def A8W:OfT A15 nY:=A1X.of
def N2:FD A8:=⟨px 0X1ebf1cf05380221801c1e31830461841a33a8138a16f4918712fc171db018181daf1e00441811d33d42350327024613401213a9420362511029011936f4918439f39d39b1c2041a31832de488180410162d44f571be0631221bdf11bcf248861c1b1b11828061bc2c1bbf1b9001736f491ba1c182f4444413721b8f19a053c02218026f0412b850402ac52ae161824061836304129c51f1719e052cd4219df226291a1b021841821d42d4215021a070241813401212af420160511029042536f4918718e052ad2ab2a9328211318df1801382294226f496042436f4918714412012410220410162d44f5428b4203021b6461b1d24f1b181f10410540503d71701943230422a10162d44f50182330410162d45f571181824306191021af1a7f1af701190220405f582b71bd418243201a4ff1104ef24961f065a12e2802c4e2c4df3c001230182130410162d4785041800503d73d01d11b1f1d1833bf21b63b51b042036a1041800503d72e0181b422df21b63b41b013511191033b3b0384c1041b0503d71f01919301c2,[],[.look (A4 .i64) (.c o0) A6 (.t 18) (.t 19),.mkMap,.mput A7 (.t 83) (.t 85) (.t 87)],[],[D8 F9 J5,D8 D9 E5,cal C6t,gG X3 fG,gG fH A1W,D8 jV A4x,gG nC A6m,cal C6u,gG nB xD,cal uI,gG nY A1X]⟩
def A8O:=N2.R
def nG:AtH:=N2.lj 0 n [] [x0,x1,x4,x6]
def nH:AtH:=N2.lj 1 n [m] [x0,x1,x4,x6,x8,x72,x73,x74]
def C0e:AtH:=N2.lj 2 n [m] [x0,x1,x4,x6,x8,x72,x73,x74]
def A63:AtH:=N2.lj 3 n [m] [x0,x6,x8,E6Y,E6Z,E60]
def iI:=tT [⟨1,4,nG⟩,⟨2,8,nH⟩,⟨2,8,C0e⟩,⟨2,6,A63⟩]
def B6h:=mR A8O N2 iI n [a0,a1] h
def B4w:=mJ N2 iI 0 n [] [x0,x1,x4,x6] h
def oT:=mL N2 iI 1 n [m] [x0,x1,x4,x6,x8,x72,x73,x74] h
def A2k:=mJ N2 iI 2 n [m] [x0,x1,x4,x6,x8,x72,x73,x74] h
def A2l:=mL N2 iI 3 n [m] [x0,x6,x8,E6Y,E6Z,E60] h
def A8D:=N2.K Tryz.func38
def qL:=N2.Q
def B6p:OfT A8O qL:=A8D.of
def X2:FD A8:=⟨px 0X122f66061840503d3f1ef051111113321eef1ba0578022180422a1051e281b1d33383aa1041a0503d3f139810410540503d3f11c01924502204005041b1d2ec10410540503d3f1be01a39f421bdf1900441811d32b4255041a47024513401212ef4203645110290400540503d3f1ac072ed2eb2e91c222201337cf6050026f7b0318042437f13f1318042337f13f131824301c1950229f1a0029f188042229f2f7f29f71f429f3c0150327f18d0192bb4218cf70040411d6f10400540503d3f7d0191f42354121a2702401e120290400540503d3f16f6b0181ed42030162516011d3182222202336af4f052e022181b22a0411d5f10420540503d3f5b018185af500441811d31b42150307024613401211a94200605110290113031801f5519f19d19b1c2034266405383d30121a112c1033e3b001427c0400506e5001b3b17c50020410505c5510111107f4c2d01c319032cf3003a2380116f0380383c4181873182012386603e3b210222410320103031802a1a2b43b42033e4c03a253182,[],[.mkMap,.mput (A4 .i64) (.t 17) (.v (.c (cI 1))) (.v (.c (cI 1))),.build ([o0,o0,.i .u64 0,.nf,.ns,.ns,.ns,.ns,.ns,o0,.nm,.nm]) [(0,4,(.t 15)),(10,1,(.t 16)),(11,1,(.t 18))],.look (A4 .i64) (.c o0) A6 (.t 113) (.t 114)],[.cellN 2 6],[D8 cL gD,D8 A5a B0p,D8 F9 J5,gG mZ A6l,gG qL A8D]⟩
def B7N:=X2.R
def C33:AtH:=X2.lj 0 n [m] [x1,x2,x3,x37,x38,x39]
def vR:AtH:=X2.lj 1 n [m] [x1,x2,x3,x6]
def D3X:AtH:=X2.lj 2 n [m] [x1,x2,x3,x6]
def B4u:AtH:=X2.lj 3 n [m] [x2,x3,x88,x89,x90]
def D3Y:AtH:=X2.lj 4 n [m] [x2,x3,x88,x89,x90]
def A01:=tT [⟨2,6,C33⟩,⟨2,4,vR⟩,⟨2,4,D3X⟩,⟨2,5,B4u⟩,⟨2,5,D3Y⟩]
def C9i:=mR B7N X2 A01 n [a0] h
def B4s:=mL X2 A01 0 n [m] [x1,x2,x3,x37,x38,x39] h
def B4t:=mL X2 A01 1 n [m] [x1,x2,x3,x6] h
def A5t:=mJ X2 A01 2 n [m] [x1,x2,x3,x6] h
def B4v:=mL X2 A01 3 n [m] [x2,x3,x88,x89,x90] h
def B4r:=mJ X2 A01 4 n [m] [x2,x3,x88,x89,x90] h
def B7L:=X2.K Tryz.func10
def B01:=X2.S
def C43:D0q B7N B01:=B7L.tidy
def tV:FD A8:=⟨px 0X24886464881d2e48818712e451824301a190611f1a01f4b1e1f1e71f701104271183942642e119501c2,[],[],[],[]⟩
def B15:=tV.R
def uE:=mR B15 tV (tT []) n [a0,a1,a2] h
def B10:=tV.K Tryz.func29
def uB:=tV.Q
def uH:OfT B15 uB:=B10.of
def E8:FD A8:=⟨px 0X128cf405f4219052062185f01533c810436f1ff0511111114321fef1ec052c01fe4921801fdf2900613901011113e3aa13aa15182439c1f9013eb4521f8f11eef2a00461a11d4154f4d18275061a67024613401213db4205665110290423f1e92b43d93cf3cd1c20131294814b333333305721e8f19f0518a022180004248862c2e4881d12e2802c1dd2c1dcf1cb00463332fc1b182ee1048818044881d2ea15f42de15f1cc591d01b24301a190612fb1a02fb4b5f2fb1e2c82fb7012b81bc0738d7521bbf11baf11b9f1e021e2811c2801a1b92c1b8f1ac0042232ae1031802f1ad2b1b493f3d41d21abf1df1b61a9f1c03b1d1b01b1861a1b1d4163b3918255041a47024713401212c94203645110290413f19c2b42bf2bd2bb5282333013318ff1b050021ee18e031804265f01c3b1fc16f198041835713270240181204021ea11ea11dc1890529b420302625188f1b01de188022f021c244237ff17ef19011a280187e2c7df7a00113031802f7b2b187a7c44444431b279f4f054c02218001c21e5f048818044881d7f10443f51ac16f1181824018120290443f57f5c051c9425bf159f700461a11d415291f18215011a07024713401211a94200605110290433f4c2b419f19d19b1c2034bf607c13d4b18921d424af22a251b01037e4491c41b2401d2014884481780000722401b28190183681a0681e00681f06c681f0684b0681e25c681f0110220290404a2c2b1d18942034884a43a422e375182,[],[],[.tmp 4],[D8 yI A6r,D8 qO xI,D8 A3U B0q,D8 yH B0u,D8 oD A0N,D8 qK A3O,gG uB B10]⟩
def jU:=E8.R
def wP:K7:=E8.E
def iK:AtH:=E8.lj 0 n [m] [x2,x3,x5,x6,x37,x38,x39]
def A9s:AtH:=E8.lj 1 n [m] [x2,x3,x5,x6,x37,x38,x39]
def iL:AtH:=E8.lj 2 n [m] [x2,x3,x5,x6,x9,x10,x11]
def iM:AtH:=E8.lj 3 n [m] [x2,x3,x5,x6,x77,x78,x79]
def A9t:AtH:=E8.lj 4 n [m] [x2,x3,x5,x6,x77,x78,x79]
def vQ:AtH:=E8.lj 5 n [m] [x5,x6,x17,E4F,E4G,E4H]
def A9u:AtH:=E8.lj 6 n [m] [x5,x6,x17,E4F,E4G,E4H]
def N7:TT:=⟨wP,[⟨2,7,iK⟩,⟨2,7,A9s⟩,⟨2,7,iL⟩,⟨2,7,iM⟩,⟨2,7,A9t⟩,⟨2,6,vQ⟩,⟨2,6,A9u⟩]⟩
def A52:=mR jU E8 N7 n [a0,a1] h
def oR:=mL E8 N7 0 n [m] [x2,x3,x5,x6,x37,x38,x39] h
def A5s:=mJ E8 N7 1 n [m] [x2,x3,x5,x6,x37,x38,x39] h
def oS:=mL E8 N7 2 n [m] [x2,x3,x5,x6,x9,x10,x11] h
def dJ:=mL E8 N7 3 n [m] [x2,x3,x5,x6,x77,x78,x79] h
def oP:=mJ E8 N7 4 n [m] [x2,x3,x5,x6,x77,x78,x79] h
def dK:=mL E8 N7 5 n [m] [x5,x6,x17,E4F,E4G,E4H] h
def oQ:=mJ E8 N7 6 n [m] [x5,x6,x17,E4F,E4G,E4H] h
def wY:=E8.K Tryz.func9
def bY:=E8.S
def A46:A3Q jU bY:=wY.out
def pU:FD A8:=⟨px 0X134010229f1a051e02949218011b40138000002722404223c1281e03491521df600441811d31a42150307024413401212f4200605110290401a72b42d2b2962820023340422e253182,[],[],[.tmp 4],[]⟩
def B0B:=pU.R
def B7g:AtH:=pU.lj 0 n [m] [x1,x8,x9,x10]
def B91:=tT [⟨2,4,B7g⟩]
def C4H:=mR B0B pU B91 n [a0,a1] h
def A9v:=mL pU B91 0 n [m] [x1,x8,x9,x10] h
def B89:=pU.K Tryz.func25
def B00:=pU.S
def B9F:G0 B0B B00:=B89.flat
end
def dL(D:Dev)(n:Int)(c:Cl)(no:Int):Bool:=G7 (l_ D) n no && !(c.taken.getD no.toNat A5)
def K4(D:Dev)(n:Int)(c:Cl)(no:Int):Int:=bif dL D n c no then no else 0
def J9(D:Dev)(n:Int)(c:Cl)(no:Int):Cl:=bif dL D n c no then { c with taken:=c.taken.set no.toNat A5 } else c
def D4B{b:Int}(h:G7 b n i=A5):0<=i/\i<b:=by
 unfold G7 at h;simp only [E8j,decide_eq_true_eq] at h;have:=oX (b:=b) (n:=n);omega
section
variable {D:Dev} {n m:Int} {f:Cell} {g:A9} {r:Nat} {c:Cl} {h:A9}
def WP.take(P:WP D n m f g r c h){k:Nat}{v:Bool}{xr xi xt xb xm:Cell}{ml mp:Nat}(h1:rd h r=rT (wkC D n m f xr xi xt xb xm c.lost ml mp))(h0:(l_ D)≠0) :
  ∃ t,xt=.sl t 0 (l_ D) 1/\rd h t=rT (fL c.taken)/\WP D n m f g r { c with taken:=c.taken.set k v } (h.set t (rT (fL (c.taken.set k v))))/\Fr r h (h.set t (rT (fL (c.taken.set k v)))):=by
 obtain ⟨xr',xi',xt',xb',xm',ml',mp',es1,es2,g1,g2,g3,g4,g5,g6,g7,g8,g9,g10,g11⟩:=P.row;have:=h1.symm.trans g1;simp only [E8n,Row.mk.injEq,and_true,wkC,List.cons.injEq,true_and,Cell.m.injEq] at this;obtain ⟨rfl,rfl,rfl,rfl,rfl,rfl,rfl⟩:=this;rcases g5 with ⟨e,_,_⟩ | ⟨t,rfl,t1,t2,t3⟩
 ·rw [P.tlen] at e;exact absurd e h0
 ·rw [P.tlen] at t2 ⊢;have nt:Nam h r t:=B8K (i:=6) g1 rfl rfl;have tg:=P.low t nt;have hr':rd (h.set t (rT (fL (c.taken.set k v)))) r=rd h r:=B7 t3;have oth:∀ (i:Nat) (x:Cell) (id:Nat),(wkC D n m f xr xi (.sl t 0 c.taken.length 1) xb xm c.lost ml mp)[i]?=A4 x->nmC x=A4 id->i≠6->rd (h.set t (rT (fL (c.taken.set k v)))) id=rd h id:=by
   intro i x id hi hx aZ;exact B7 (λe=>(g2.ne hi (show (wkC D n m f xr xi (.sl t 0 c.taken.length 1) xb xm c.lost ml mp)[6]?=A4 (.sl t 0 c.taken.length 1) from rfl) hx rfl aZ) e.symm)
  refine ⟨t,rfl,t1,⟨P.lo.set tg _,P.ge,λid hn=>P.low id ((Nam.same hr').1 hn),P.il,P.ilen,by simpa using P.tlen,xr,xi,.sl t 0 c.taken.length 1,xb,xm,ml,mp,es1,es2,by rw [hr'];exact g1,g2,g3.kept λid e=>oth 4 _ _ rfl e (by decide),g4.kept λid e=>oth 5 _ _ rfl e (by decide),.inr ⟨t,by simp,D3 (E1 t1),by simp [fL],t3⟩,g6.kept λid e=>oth 7 _ _ rfl e (by decide),g7.kept λid e=>oth 8 _ _ rfl e (by decide),?_,g9,?_,g11⟩,by simp,λid hid h1 h2=>B7 λe=>h2 (by rw [<-e];exact nt),λid hn=>.inl ((Nam.same hr').1 hn)⟩
  ·rw [oth 10 (.m ml) ml rfl rfl (by decide)];exact g8
  ·rw [oth 11 (.m mp) mp rfl rfl (by decide)];exact g10
def C0J(P:WP D n m f g r c h):∃ h',X3 [pV r 0,iV no] h=A4 (iV (K4 D n c no),h')/\WP D n m f g r (J9 D n c no) h'/\Fr r h h':=by
 obtain ⟨xr,xi,xt,xb,xm,ml,mp,es1,es2,g1,g2,g3,g4,g5,g6,g7,g8,g9,g10,g11⟩:=id P.row;have lL:C9 h 3 (pV r 0)=A4 (.a (L5 (l_ D) n m)):=S7 g1 (by simp [wkC]) rfl;have lT:B9 h (pV r 6)=A4 (.c xt):=B8 g1 rfl rfl;have hD:=X8 (b:=l_ D) (n:=n) (m:=m) (i:=no) (h:=h);unfold K4 J9 dL;cases hd:G7 (l_ D) n no with
 | false =>
  rw [hd] at hD;refine ⟨h,nZ (n:=0) ?_,P,Fr.refl r h⟩;rw [nT];simp only [esc,Nat.reduceAdd,lL,hD,E8E]
 | true =>
  rw [hd] at hD;obtain ⟨i0,i1⟩:=D4B hd;obtain ⟨k,rfl⟩:=E9m i0;have hk:k<(l_ D):=by omega
  obtain ⟨t,rfl,t1,t2,t3⟩:=P.take (k:=k) (v:=A5) g1 (by omega);have hkt:k<c.taken.length:=by rw [P.tlen];exact hk
  have ad:=E4 (sz:=1) (id:=t) (off:=0) (k:=.i64) hk;have l1:B9 h (pV t (0+k*1))=A4 (bV c.taken[k]):=B8 t1 (by simp [fL,hkt]) rfl;have s1:I8 h (pV t (0+k*1)) (bV A5)=A4 (h.set t (rT (fL (c.taken.set k A5)))):=by
   rw [I9 t1 (by simp [fL,hkt])];simp [fL,List.map_set]
  rw [E8A,E9w] at ad l1 s1;have eg:c.taken.getD (Int.toNat (k:Int)) A5=c.taken[k]:=by simp [List.getD,hkt]
  rw [eg,E8D];cases hb:c.taken[k] with
  | true =>
   rw [hb] at l1;refine ⟨h,nZ (n:=0) ?_,P,Fr.refl r h⟩;rw [nT];simp only [esc,Nat.reduceAdd,lL,lT,ad,l1,hD,Bool.and_false]
  | false =>
   rw [hb] at l1;refine ⟨_,nZ (n:=0) ?_,t2,t3⟩;rw [nT];simp only [esc,Nat.reduceAdd,lL,lT,ad,l1,s1,hD]
end
section
variable {D:Dev} {n m:Int} {f:Cell} {g:A9} {r:Nat} {c:Cl} {h:A9}
def WP.apt(P:WP D n m f g r c h)(g1:rd h r=rT cs):Apt cs r:=by
 obtain ⟨xr,xi,xt,xb,xm,ml,mp,es1,es2,h1,h2,_⟩:=P.row;rw [h1] at g1;cases g1;exact h2
def WP.pushed{h3:A9}(hv:∃ id cs,f=.f id cs)(P:WP D n m f g r c h)(g1:rd h r=rT cs)(hx:cs[off]?=A4 x)(r3:rd h3 r=rT (cs.set off y))
  (hid:∀ id,nmC y=A4 id->l_ h<=id) (hk:∀ j,j<l_ h->j≠r->nmC x≠A4 j->rd h3 j=rd h j) (hl:l_ h<=h3.length) :
  Fr r h h3/\Low (l_ g) g h3/\Apt (cs.set off y) r/\(∀ id,Nam h3 r id->l_ g<=id)/\∀ (i:Nat) (z:Cell) (j:Nat),i≠off->cs[i]?=A4 z->nmC z=A4 j->rd h3 j=rd h j:=by
 have ha:=P.apt g1;have lt:∀ (i:Nat) (z:Cell) (j:Nat),cs[i]?=A4 z->nmC z=A4 j->j<(l_ h):=λi z j hi hz=>C27 hv P (B8K g1 hi hz)
 have nam3:∀ id,Nam h3 r id->Nam h r id\/(l_ h)<=id:=by
  intro id hn;obtain ⟨R,z,hR,hz,hnm⟩:=hn;rw [r3] at hR;cases hR;rcases List.mem_or_eq_of_mem_set hz with h1 | h1
  ·exact .inl ⟨_,z,g1,h1,hnm⟩
  ·subst h1;exact .inr (hid id hnm)
 have lg:=P.lo.2.1;refine ⟨⟨hl,λid hid hr hn=>hk id hid hr λe=>hn (B8K g1 hx e),nam3⟩,⟨P.lo.1,by omega,λid hid=>?_⟩,ha.set off λid e=>?_,λid hn=>?_,λi z j hi hz hj=>?_⟩
 ·rw [hk id (by omega) (by have:=P.ge;omega) λe=>?_]
  ·exact P.lo.2.2 id hid
  ·have:=P.low id (B8K g1 hx e);omega
 ·have h1:=hid id e;exact ⟨by have:=P.rlt;omega,λj z _ hz hj=>by have:=lt j z id hz hj;omega⟩
 ·rcases nam3 id hn with h1 | h1
  ·exact P.low id h1
  ·omega
 ·exact hk j (lt i z j hz hj) (λe=>ha.2 z (E8H hz) (by rw [hj,e])) λe=>ha.ne hz hx hj e hi rfl
def WP.mod{t:Nat}(P:WP D n m f g r c h)(hv:∃ id cs,f=.f id cs)(g1:rd h r=rT cs)(hx:cs[off]?=A4 x)(hn:nmC x=A4 t)(R:Option Row) :
  Fr r h (h.set t R)/\Low (l_ g) g (h.set t R)/\rd (h.set t R) r=rd h r/\(∀ (i:Nat) (z:Cell) (j:Nat),i≠off->cs[i]?=A4 z->nmC z=A4 j->rd (h.set t R) j=rd h j)/\rd (h.set t R) t=R:=by
 have nt:=B8K g1 hx hn;have tne:t≠r:=λe=>(P.apt g1).2 x (E8H hx) (by rw [hn,e])
 have hr':rd (h.set t R) r=rd h r:=B7 tne;exact ⟨⟨by simp,λid hid h1 h2=>B7 λe=>h2 (by rw [<-e];exact nt),λid hn=>.inl ((Nam.same hr').1 hn)⟩,P.lo.set (P.low t nt) _,hr',λi z j hi hz hj=>B7 λe=>(P.apt g1).ne hx hz hn hj (Ne.symm hi) e,D3 (C27 hv P nt)⟩
def WP.push(hv:∃ id cs,f=.f id cs)(P:WP D n m f g r c h){nn:Nat}{l ys:List Cell}(g1:rd h r=rT cs)(hx:cs[off]?=A4 x)(hd:HeldX h x l nn sz r)(hl:nn<=100000)(hy:l_ ys=sz)(hsz:0<sz) :
  ∃ id h2 h3,B9 h (pV r off)=A4 (.c x)/\uR (h++[rT ys]) sz (.c x) (sV (l_ h) 0 1 sz)=A4 (sV id 0 (nn+1) sz,h2)/\I8 h2 (pV r off) (sV id 0 (nn+1) sz)=A4 h3 /\
   rd h3 r=rT (cs.set off (.sl id 0 (nn+1) sz))/\HeldX h3 (.sl id 0 (nn+1) sz) (l++ys) (nn+1) sz r /\
   Fr r h h3/\Low (l_ g) g h3/\Apt (cs.set off (.sl id 0 (nn+1) sz)) r/\(∀ id,Nam h3 r id->l_ g<=id)/\∀ (i:Nat) (z:Cell) (j:Nat),i≠off->cs[i]?=A4 z->nmC z=A4 j->rd h3 j=rd h j:=by
 obtain ⟨id,h2,h3,p1,p2,p3,p4,p5,p6,p7,p8,p9⟩:=E1D g1 hx hd hl hy hsz;obtain ⟨q1,q2,q3,q4,q5⟩:=P.pushed (h3:=h3) (y:=.sl id 0 (nn+1) sz) hv g1 hx p4 (λj e=>by cases e;omega) (λj hj hr hn=>p8 j hj hr λmm e=>hn (by rw [e];rfl)) (by omega);exact ⟨id,h2,h3,p1,p2,p3,p4,.inr ⟨id,rfl,p6,p7,by have:=P.rlt;omega⟩,q1,q2,q3,q4,q5⟩
def WP.pushRow(hv:∃ id cs,f=.f id cs)(P:WP D n m f g r c h)(a:Int)(hl:c.row.length<=100000) :
  ∃ x id h2 h3,B9 h (pV r 4)=A4 (.c x)/\uR (h++[rT [cI a]]) 1 (.c x) (sV (l_ h) 0 1 1)=A4 (sV id 0 (c.row.length+1) 1,h2)/\I8 h2 (pV r 4) (sV id 0 (c.row.length+1) 1)=A4 h3 /\
   WP D n m f g r { c with row:=c.row++[a] } h3/\Fr r h h3:=by
 obtain ⟨xr,xi,xt,xb,xm,ml,mp,es1,es2,g1,g2,g3,g4,g5,g6,g7,g8,g9,g10,g11⟩:=id P.row;obtain ⟨id,h2,h3,p1,p2,p3,p4,p5,q1,q2,q3,q4,q5⟩:=P.push (off:=4) (ys:=[cI a]) hv g1 rfl g3 hl rfl (by decide);refine ⟨xr,id,h2,h3,p1,p2,p3,⟨q2,P.ge,q4,P.il,P.ilen,P.tlen,_,xi,xt,xb,xm,ml,mp,es1,es2,p4,q3,?_,g4.kept λid e=>q5 5 _ _ (by decide) rfl e,g5.kept λid e=>q5 6 _ _ (by decide) rfl e,g6.kept λid e=>q5 7 _ _ (by decide) rfl e,g7.kept λid e=>q5 8 _ _ (by decide) rfl e,?_,g9,?_,g11⟩,q1⟩
 ·have e1:encI (c.row++[a])=encI c.row++[cI a]:=jM _ _;rw [e1,E8o];exact p5
 ·rw [q5 10 (.m ml) ml (by decide) rfl rfl];exact g8
 ·rw [q5 11 (.m mp) mp (by decide) rfl rfl];exact g10
def WP.pushBlk(hv:∃ id cs,f=.f id cs)(P:WP D n m f g r c h)(a:Int)(hl:c.blocks.length<=100000) :
  ∃ x id h2 h3,B9 h (pV r 7)=A4 (.c x)/\uR (h++[rT [cI a]]) 1 (.c x) (sV (l_ h) 0 1 1)=A4 (sV id 0 (c.blocks.length+1) 1,h2)/\I8 h2 (pV r 7) (sV id 0 (c.blocks.length+1) 1)=A4 h3 /\
   WP D n m f g r { c with blocks:=c.blocks++[a] } h3/\Fr r h h3:=by
 obtain ⟨xr,xi,xt,xb,xm,ml,mp,es1,es2,g1,g2,g3,g4,g5,g6,g7,g8,g9,g10,g11⟩:=id P.row;obtain ⟨id,h2,h3,p1,p2,p3,p4,p5,q1,q2,q3,q4,q5⟩:=P.push (off:=7) (ys:=[cI a]) hv g1 rfl g6 hl rfl (by decide);refine ⟨xb,id,h2,h3,p1,p2,p3,⟨q2,P.ge,q4,P.il,P.ilen,P.tlen,xr,xi,xt,_,xm,ml,mp,es1,es2,p4,q3,g3.kept λid e=>q5 4 _ _ (by decide) rfl e,g4.kept λid e=>q5 5 _ _ (by decide) rfl e,g5.kept λid e=>q5 6 _ _ (by decide) rfl e,?_,g7.kept λid e=>q5 8 _ _ (by decide) rfl e,?_,g9,?_,g11⟩,q1⟩
 ·have e1:encI (c.blocks++[a])=encI c.blocks++[cI a]:=jM _ _;rw [e1,E8o];exact p5
 ·rw [q5 10 (.m ml) ml (by decide) rfl rfl];exact g8
 ·rw [q5 11 (.m mp) mp (by decide) rfl rfl];exact g10
def WP.pushMade(hv:∃ id cs,f=.f id cs)(P:WP D n m f g r c h)(hb:l_ b=256)(hl:c.made.length<=100000) :
  ∃ x id h2 h3,B9 h (pV r 8)=A4 (.c x)/\uR (h++[rT (B4 b)]) 256 (.c x) (sV (l_ h) 0 1 256)=A4 (sV id 0 (c.made.length+1) 256,h2)/\I8 h2 (pV r 8) (sV id 0 (c.made.length+1) 256)=A4 h3 /\
   WP D n m f g r { c with made:=c.made++[b] } h3/\Fr r h h3:=by
 obtain ⟨xr,xi,xt,xb,xm,ml,mp,es1,es2,g1,g2,g3,g4,g5,g6,g7,g8,g9,g10,g11⟩:=id P.row;obtain ⟨id,h2,h3,p1,p2,p3,p4,p5,q1,q2,q3,q4,q5⟩:=P.push (off:=8) (ys:=B4 b) hv g1 rfl g7 hl (by rw [B5,hb]) (by decide);refine ⟨xm,id,h2,h3,p1,p2,p3,⟨q2,P.ge,q4,P.il,P.ilen,P.tlen,xr,xi,xt,xb,_,ml,mp,es1,es2,p4,q3,g3.kept λid e=>q5 4 _ _ (by decide) rfl e,g4.kept λid e=>q5 5 _ _ (by decide) rfl e,g5.kept λid e=>q5 6 _ _ (by decide) rfl e,g6.kept λid e=>q5 7 _ _ (by decide) rfl e,?_,?_,g9,?_,g11⟩,q1⟩
 ·have e1:E3 (c.made++[b])=E3 c.made++B4 b:=by simp [E3]
  rw [e1,E8o];exact p5
 ·rw [q5 10 (.m ml) ml (by decide) rfl rfl];exact g8
 ·rw [q5 11 (.m mp) mp (by decide) rfl rfl];exact g10
def dY(c:Cl)(no:Int)(b:List UInt8):Cl:={ c with blocks:=c.blocks++[no],made:=c.made++[b] }
def D2F(hv:∃ id cs,f=.f id cs)(P:WP D n m f g r c h)(hb:l_ b=256)(h1:c.blocks.length<=100000)(h2:c.made.length<=100000) :
  ∃ h',nB [pV r 0,iV no,.a (B4 b)] h=A4 (.t [],h')/\WP D n m f g r (dY c no b) h'/\Fr r h h':=by
 have hbl:(B4 b).length=256:=by rw [B5,hb]
 have P1:=P.more hv [rT (B4 b)];have F1:Fr r h (h++[rT (B4 b)]):=Fr.low ((Low.refl (E8m _)).new _) P.rlt;obtain ⟨G,hG⟩:=xEq (h++[rT (B4 b)]);have hl0:Loc G r (l_ h):=by
  rw [hG];refine ⟨by simp,by have:=P.rlt;omega,λhn=>?_⟩;have:=C27 hv P ((Nam.same (D5 P.rlt)).1 hn);omega
 have hr0:rd G (l_ h)=rT (B4 b):=by rw [hG];exact N8
 rw [<-hG] at P1 F1;obtain ⟨x,id,g2,g3,a1,a2,a3,a4,a5⟩:=P1.pushBlk hv no h1;obtain ⟨l1,l2⟩:=a5.loc hl0;rw [hr0] at l2;have lB:C9 g3 256 (pV (l_ h) 0)=A4 (.a (B4 b)):=C8 l2 hbl;obtain ⟨x',cP,g4,g5,b1,b2,b3,b4,b5⟩:=a4.pushMade hv hb h2;refine ⟨g5,B3R (n:=0) ?_,b4,F1.trans (a5.trans b5)⟩;rw [B3i];have ef:F6 (E8l 256 (Cell.i .u8 0)) [(0,256,.a (B4 b))]=A4 (B4 b):=D0s hb;have ef0:F6 [o0] [(0,1,iV no)]=A4 [cI no]:=rfl;have es:(g3++[A7]).set g3.length (rT (B4 b))=g3++[rT (B4 b)]:=by simp
 rw [hG] at a1 a2;simp only [E8t,E89,E8I,E8o,E8w,E8X,E8A] at a2;generalize B4 b=B at *;generalize E8l 256 (Cell.i .u8 0)=Z at *;simp only [esc,Nat.reduceAdd,ef0,a1,a2,a3,lB,ef,b1,b2,b3];rfl
end
def R0(D:Dev)(n:Int)(c:Cl)(ino:Int):Bool:=!(decide (ino=1)||decide (kdV D n ino=0)||decide (kdV D n ino=2)&&(c.par ino).isSome)
def A2A(c:Cl)(ino:Int):Cl:={ c with lnk:=A1o c.lnk ino ((c.lnk ino).getD 0+1) }
def C5s(c:Cl)(dir ino:Int):Cl:={ c with par:=A1o c.par ino dir,row:=c.row++[ino] }
def T7(D:Dev)(n:Int)(c:Cl)(dir ino:Int):Cl:=bif R0 D n c ino then (bif (c.par ino).isSome then A2A c ino else C5s (A2A c ino) dir ino) else c
section
variable {D:Dev} {n m:Int} {f:Cell} {g:A9} {r:Nat} {c:Cl} {h:A9}
def WP.setLnk(hv:∃ id cs,f=.f id cs)(P:WP D n m f g r c h)(a v:Int):∃ ml h',B9 h (.c (.p r 10))=A4 (.c (.m ml))/\(∀ ok i,yS h (A4 .i64) (.c o0) ok (.c (.m ml)) (.c (cI i))=A4 (wN ok (.c (cI ((c.lnk i).getD 0))) (c.lnk i).isSome)) /\
  A3k h (A4 .i64) (.c (.m ml)) (.c (cI a)) (.c (cI v))=A4 h'/\WP D n m f g r { c with lnk:=A1o c.lnk a v } h'/\Fr r h h':=by
 obtain ⟨xr,xi,xt,xb,xm,ml,mp,es1,es2,g1,g2,g3,g4,g5,g6,g7,g8,g9,g10,g11⟩:=id P.row;have l1:B9 h (.c (.p r 10))=A4 (.c (.m ml)):=B8 g1 rfl rfl;obtain ⟨q1,q2,q3,q4,q5⟩:=P.mod (off:=10) (x:=.m ml) hv g1 rfl rfl (A4 (Q1 (A91 (cI a) (.c (cI v)) es1)));refine ⟨ml,_,l1,λok i=>E4V g8 g9,E53 g8 g9,⟨q2,P.ge,λid hn=>P.low id ((Nam.same q3).1 hn),P.il,P.ilen,P.tlen,xr,xi,xt,xb,xm,ml,mp,_,es2,by rw [q3];exact g1,g2,g3.kept λid e=>q4 4 _ _ (by decide) rfl e,g4.kept λid e=>q4 5 _ _ (by decide) rfl e,g5.kept λid e=>q4 6 _ _ (by decide) rfl e,g6.kept λid e=>q4 7 _ _ (by decide) rfl e,g7.kept λid e=>q4 8 _ _ (by decide) rfl e,q5,g9.put a v,?_,g11⟩,q1⟩;rw [q4 11 (.m mp) mp (by decide) rfl rfl];exact g10
def WP.setPar(hv:∃ id cs,f=.f id cs)(P:WP D n m f g r c h)(a v:Int):∃ mp h',B9 h (.c (.p r 11))=A4 (.c (.m mp))/\(∀ ok i,yS h (A4 .i64) (.c o0) ok (.c (.m mp)) (.c (cI i))=A4 (wN ok (.c (cI ((c.par i).getD 0))) (c.par i).isSome)) /\
  A3k h (A4 .i64) (.c (.m mp)) (.c (cI a)) (.c (cI v))=A4 h'/\WP D n m f g r { c with par:=A1o c.par a v } h'/\Fr r h h':=by
 obtain ⟨xr,xi,xt,xb,xm,ml,mp,es1,es2,g1,g2,g3,g4,g5,g6,g7,g8,g9,g10,g11⟩:=id P.row;have l1:B9 h (.c (.p r 11))=A4 (.c (.m mp)):=B8 g1 rfl rfl;obtain ⟨q1,q2,q3,q4,q5⟩:=P.mod (off:=11) (x:=.m mp) hv g1 rfl rfl (A4 (Q1 (A91 (cI a) (.c (cI v)) es2)));refine ⟨mp,_,l1,λok i=>E4V g10 g11,E53 g10 g11,⟨q2,P.ge,λid hn=>P.low id ((Nam.same q3).1 hn),P.il,P.ilen,P.tlen,xr,xi,xt,xb,xm,ml,mp,es1,_,by rw [q3];exact g1,g2,g3.kept λid e=>q4 4 _ _ (by decide) rfl e,g4.kept λid e=>q4 5 _ _ (by decide) rfl e,g5.kept λid e=>q4 6 _ _ (by decide) rfl e,g6.kept λid e=>q4 7 _ _ (by decide) rfl e,g7.kept λid e=>q4 8 _ _ (by decide) rfl e,?_,g9,q5,g11.put a v⟩,q1⟩;rw [q4 10 (.m ml) ml (by decide) rfl rfl];exact g8
def WP.view(P:WP D n m f g r c h):C9 h 4 (pV r 0)=A4 (.a (vwC (l_ D) n m f)):=by
 obtain ⟨xr,xi,xt,xb,xm,ml,mp,es1,es2,g1,_⟩:=P.row;exact S7 g1 (by simp [wkC]) rfl
def E4D{dir:Int}(hD:okD D)(hv:IsView g f D)(P:WP D n m f g r c h)(hl:c.row.length<=100000)(hk:0<=(c.lnk ino).getD 0/\(c.lnk ino).getD 0<1000000) :
  ∃ h',nC [pV r 0,iV dir,iV ino] h=A4 (bV (R0 D n c ino),h')/\WP D n m f g r (T7 D n c dir ino) h'/\Fr r h h':=by
 have hv2:=hv.get;have lV:=P.view;have hI:=T8 (n:=n) (m:=m) (i:=ino) hD (hv.since P.lo);rw [nK] at hI;have f0:∀ k l s p d,B7b (.a (D1 k l s p d)) 0=A4 (iV k):=λ_ _ _ _ _=>rfl
 obtain ⟨mp,h9,b1,b2,b3,b4,b5⟩:=P.setPar hv2 ino dir;have b2':=b2 A5 ino;obtain ⟨ml,h1,a1,a2,a3,a4,a5⟩:=P.setLnk hv2 ino ((c.lnk ino).getD 0+1);have a2':=a2 A6 ino;have w1:E8r .i64 ((c.lnk ino).getD 0+1)=(c.lnk ino).getD 0+1:=wrap_i64 (by omega) (by omega);have no:R0 D n c ino=A6->∃ h',nC [pV r 0,iV dir,iV ino] h=A4 (bV A6,h')/\WP D n m f g r c h'/\Fr r h h':=by
  intro hb;refine ⟨h,oA (n:=0) ?_,P,Fr.refl r h⟩;rw [nU];unfold R0 at hb;simp only [Bool.not_eq_false',Bool.or_eq_true,E8j,decide_eq_true_eq] at hb;by_cases c1:ino=1
  ·have n1:(1:Int)=1:=rfl;subst c1;generalize vwC (l_ D) n m f=V at *;simp only [esc,lV,hI,f0,b1,b2',wN]
  ·by_cases c2:kdV D n ino=0
   ·generalize vwC (l_ D) n m f=V at *;simp only [esc,lV,hI,f0,b1,b2',wN,c1,c2]
   ·have c3:kdV D n ino=2/\(c.par ino).isSome=A5:=by
     rcases hb with (h | h) | h
     ·exact absurd h c1
     ·exact absurd h c2
     ·exact h
    obtain ⟨c3,c4⟩:=c3;have n20:¬ (2:Int)=0:=by decide
    generalize vwC (l_ D) n m f=V at *;simp only [esc,lV,hI,f0,b1,b2',wN,c1,c3,c4,n20]
 cases hb:R0 D n c ino with
 | false =>
  obtain ⟨h',e1,e2,e3⟩:=no hb;exact ⟨h',e1,by unfold T7;rw [hb];exact e2,e3⟩
 | true =>
  unfold T7;rw [hb];unfold R0 at hb;simp only [Bool.not_eq_true',Bool.or_eq_false_iff,Bool.and_eq_false_iff,decide_eq_false_iff_not] at hb;obtain ⟨⟨c1,c2⟩,c3⟩:=hb;have P1:WP D n m f g r (A2A c ino) h1:=a4;cases hs:(c.par ino).isSome with
  | true =>
   have c4:¬ kdV D n ino=2:=by
    rcases c3 with h | h
    ·exact h
    ·rw [hs] at h;cases h
   refine ⟨h1,oA (n:=0) ?_,P1,a5⟩;rw [nU];rw [hs] at b2';generalize vwC (l_ D) n m f=V at *;simp only [esc,lV,hI,f0,b1,b2',wN,c1,c2,c4,a1,a2',w1,a3,mH]
  | false =>
   obtain ⟨mp',h2,d1,d2,d3,d4,d5⟩:=P1.setPar hv2 ino dir;obtain ⟨x,id,g2,g3,e1,e2,e3,e4,e5⟩:=d4.pushRow hv2 ino hl;have e4':WP D n m f g r (C5s (A2A c ino) dir ino) g3:=e4;refine ⟨g3,oA (n:=0) ?_,e4',(a5.trans d5).trans e5⟩;rw [nU];rw [hs] at b2';have ef0:F6 [o0] [(0,1,iV ino)]=A4 [cI ino]:=rfl;generalize vwC (l_ D) n m f=V at *;by_cases c4:kdV D n ino=2
   ·have n20:¬ (2:Int)=0:=by decide
    simp only [esc,lV,hI,f0,b1,b2',wN,c1,c4,n20,a1,a2',w1,a3,d1,d3,ef0,e1,e2,e3,mH]
   ·simp only [esc,lV,hI,f0,b1,b2',wN,c1,c2,c4,a1,a2',w1,a3,d1,d3,ef0,e1,e2,e3,mH]
end
def hmS(D:Dev)(X:List Int)(nm:List UInt8):Option Slt:=if R8 X nm=0 then A7 else U3 (blk D (R8 X nm)) nm
def C3n(no:Int)(o:Option Slt):List Cell:=cI no::slC o
def E35{xr xi xt xb xm:Cell}{lost:Int}{ml mp:Nat}(hf:f.isX=A6)(h1:xr.isX=A6)(h2:xi.isX=A6)(h3:xt.isX=A6)(h4:xb.isX=A6)(h5:xm.isX=A6):noX (wkC D n m f xr xi xt xb xm lost ml mp)=A5:=by
 simp only [noX,wkC,E9p,List.all_nil,hf,h1,h2,h3,h4,h5];rfl
def HeldX.isX{n:Nat}(hx:HeldX h x cs n sz r):x.isX=A6:=by
 rcases hx with ⟨_,_,rfl⟩ | ⟨id,rfl,_⟩<;>rfl
section
variable {D:Dev} {n m:Int} {f:Cell} {g:A9} {r:Nat} {c:Cl} {h:A9}
def VwR(h:A9)(r:Nat)(V:List Cell):Prop:=∃ cs w,rd h r=A4 ⟨cs,w⟩/\cs.take 4=V/\4<=l_ cs/\noX cs=A5
def VwR.ro(a:VwR h r V):VwR (ro h) r V:=by
 obtain ⟨cs,w,h1,h2,h3,h4⟩:=a;exact ⟨cs,A6,uD h1 h4,h2,h3,h4⟩
def VwR.more(a:VwR h r V)(t:A9):VwR (h++t) r V:=by
 obtain ⟨cs,w,h1,h2⟩:=a;exact ⟨cs,w,B6 h1,h2⟩
def VwR.since(a:VwR h r V)(hl:Low (l_ h) h h'):VwR h' r V:=by
 obtain ⟨cs,w,h1,h2⟩:=a;exact ⟨cs,w,hl.rd h1,h2⟩
def VwR.load(a:VwR h r V):C9 h 4 (pV r 0)=A4 (.a V):=by
 obtain ⟨cs,w,h1,h2,h3,h4⟩:=a;rw [S7 h1 (by omega) (by
  rw [E8y];have:noX (cs.take 4)=A5:=by
   unfold noX at h4 ⊢;rw [E8O] at h4 ⊢;exact λx hx=>h4 x (List.mem_of_mem_take hx)
  rw [this];simp),E8y,h2]
def WP.vw(hv:∃ id cs,f=.f id cs)(P:WP D n m f g r c h):VwR h r (vwC (l_ D) n m f):=by
 obtain ⟨xr,xi,xt,xb,xm,ml,mp,es1,es2,g1,g2,g3,g4,g5,g6,g7,_⟩:=P.row;obtain ⟨_,_,rfl⟩:=hv;exact ⟨_,A5,g1,rfl,by simp [wkC],E35 rfl g3.isX g4.isX g5.isX g6.isX g7.isX⟩
def D74{d:Int}{nm:List UInt8}(hD:okD D)(hv:IsView h f D)(hr:VwR h r (vwC (l_ D) n m f))(ht:l_ t=32)(hs:nm.length<9223372036854775807) :
  nA [pV r 0,.a (encI (d::t)),.c (.s nm)] h=A4 (.t [.a (C3n (R8 (d::t) nm) (hmS D (d::t) nm)),.c (.b (hmS D (d::t) nm).isSome)],h):=by
 have hX:(encI (d::t)).length=33:=by simp [C1,ht]
 have hv1:=hv.ro;have lV:=λtt=>(hr.ro.more tt).load
 have key:∃ g',xL 0 [pV r 0,.a (encI (d::t)),.c (.s nm)] (ro h)=A4 (.t [.a (C3n (R8 (d::t) nm) (hmS D (d::t) nm)),.c (.b (hmS D (d::t) nm).isSome)],g'):=by
  generalize ro h=g at *;have hM:=λh=>C26 (s:=nm) hs (h:=h)
  have hP:=λh=>B4T (d:=d) (h:=h) ht (D2N (s:=nm))
  have W4:=D4w (d::t) nm;have eP:C5r nm%C6 d=A2u (d::t) nm:=rfl;rw [eP] at hP;have ad:∀ q,K2 32 1 (pV q 1) (iV (A2u (d::t) nm:Nat))=A4 (pV q (1+A2u (d::t) nm)):=λq=>by
   rw [E0G (by omega) (by omega)];simp
  have l1:ld1 (rT (encI (d::t))) (1+A2u (d::t) nm)=A4 (iV (R8 (d::t) nm)):=by
   rw [zN];have:(encI (d::t))[1+A2u (d::t) nm]?=A4 (cI (R8 (d::t) nm)):=by
    rw [G6,Nat.add_comm,E8F,E8h (by omega)];unfold R8;rw [List.tail_cons,E8k,E8h (by omega)];rfl
   rw [this];rfl
  have ef0:F6 [o0,o0,.s [],o0] []=A4 (C3n 0 A7):=rfl;have ef1:∀ (no:Int) (o:Option Slt),F6 [o0,o0,.s [],o0] [(0,1,iV no),(1,3,.a (slC o))]=A4 (C3n no o):=λno o=>by cases o<;>rfl
  have z4:∀ o no,stN (rT [o0,o0,.s [],o0]) 0 4 (C3n no o)=rT (C3n no o):=λo no=>by cases o<;>rfl
  have l4:∀ o no,ldN (rT (C3n no o)) 0 4=A4 (.a (C3n no o)):=λo no=>by cases o<;>rfl
  have s3:∀ o,stN (rT [o0,.s [],o0]) 0 3 (slC o)=rT (slC o):=λo=>by cases o<;>rfl
  have l3:∀ o,ldN (rT (slC o)) 0 3=A4 (.a (slC o)):=λo=>by cases o<;>rfl
  have l33:ldN (rT (encI (d::t))) 0 33=A4 (.a (encI (d::t))):=K9 hX;rw [B3h];unfold hmS;have hB:=λtt=>K8 (n:=n) (m:=m) (no:=R8 (d::t) nm) (h:=g++tt) hD (hv1.more _)
  have hF:=λh=>yW (b:=blk D (R8 (d::t) nm)) (nm:=nm) (h:=h) (J6 hD)
  generalize R8 (d::t) nm=B at *;generalize A2u (d::t) nm=P at *;by_cases c0:B=0
  ·rw [C4 c0,c0];rw [c0] at l1;generalize encI (d::t)=X at *;generalize vwC (l_ D) n m f=V at *;exact ⟨_,by simp only [esc,P7,H6,Z4,J0,S5,I3,K9,fZ,hM,hP,ad,l1,l33,ef0,z4,l4,E9o]<;>rfl⟩
  ·rw [C5 c0];generalize U3 (blk D B) nm=o at *;generalize B4 (blk D B)=y at *;generalize encI (d::t)=X at *;generalize vwC (l_ D) n m f=V at *;exact ⟨_,by simp only [esc,P7,H6,Z4,J0,S5,I3,K9,fZ,Nat.reduceAdd,hM,hP,ad,l1,l33,c0,lV,hB,hF,ef1,z4,l4,s3,l3]<;>rfl⟩
 obtain ⟨g',e⟩:=key;exact B02 e (by cases hmS D (d::t) nm<;>rfl)
end
def LocV(h:A9)(r id:Nat)(cs:List Cell):Prop:=Loc h r id/\rd h id=rT cs
section
variable {D:Dev} {n m:Int} {f:Cell} {g:A9} {r:Nat} {c:Cl} {h:A9}
def LocV.fr{id:Nat}(a:LocV h r id cs)(b:Fr r h h'):LocV h' r id cs:=by
 obtain ⟨h1,h2⟩:=b.loc a.1;exact ⟨h1,by rw [h2];exact a.2⟩
def LocV.set{id:Nat}{x:Option Row}(a:LocV h r id cs)(hj:j≠id)(hl:j≠r):LocV (h.set j x) r id cs:=by
 refine ⟨⟨by simpa using a.1.1,a.1.2.1,λhn=>a.1.2.2 ((Nam.same (B7 hl)).1 hn)⟩,by rw [B7 hj];exact a.2⟩
def LocV.self{id:Nat}{cs':List Cell}(a:LocV h r id cs):LocV (h.set id (rT cs')) r id cs' :=
 ⟨⟨by simpa using a.1.1,a.1.2.1,λhn=>a.1.2.2 ((Nam.same (B7 a.1.2.1)).1 hn)⟩,D3 a.1.1⟩
def LocV.new(hv:∃ id cs,f=.f id cs)(P:WP D n m f g r c h){t:A9}{k:Nat}(hk:t[k]?=A4 (rT cs)):LocV (h++t) r (l_ h+k) cs:=by
 have hk2:=(E8p.1 hk).1;refine ⟨⟨by simp;omega,by have:=P.rlt;omega,λhn=>?_⟩,?_⟩
 ·have:=C27 hv P ((Nam.same (D5 P.rlt)).1 hn);omega
 ·unfold rd;rw [E8L (by omega),show (l_ h)+k-l_ h=k by omega,hk];rfl
def E1w{k:Nat}{x:Int}(P:WP D n m f g r c h)(hm:LocV h r pm [cI many])(hw:LocV h r pw [.p r 0])(hk:k<128) :
  ∃ h',gW [iV (k:Int),iV x,pV pm 0,pV pw 0] h=A4 (bV (decide ((k:Int)+6<many) && !decide (K4 D n c x=0)),h') /\
   WP D n m f g r (if (k:Int)+6<many then J9 D n c x else c) h'/\Fr r h h':=by
 have l1:B9 h (pV pm 0)=A4 (iV many):=B8 hm.2 rfl rfl;have l2:B9 h (pV pw 0)=A4 (pV r 0):=B8 hw.2 rfl rfl;have w1:E8r .i64 ((k:Int)+6)=(k:Int)+6:=wrap_i64 (by omega) (by omega);by_cases c1:(k:Int)+6<many
 ·obtain ⟨h',e1,e2,e3⟩:=C0J (no:=x) P;refine ⟨h',xX (n:=0) ?_,by rw [C4 c1];exact e2,e3⟩;rw [xK];simp only [esc,w1,l1,l2,c1,e1,E8K]
 ·refine ⟨h,xX (n:=0) ?_,by rw [C5 c1];exact P,Fr.refl r h⟩;rw [xK];simp only [esc,w1,l1,l2,c1,E8E]
def R7(D:Dev)(n many:Int)(s:Cl × List UInt8)(k:Nat):Cl × List UInt8 :=
 if ptP s.2 k=0 then s else
  (if (k:Int)+6<many then J9 D n s.1 (ptP s.2 k) else s.1,bif decide ((k:Int)+6<many) && !decide (K4 D n s.1 (ptP s.2 k)=0) then s.2 else H7 s.2 (2*k) (D6 2 0))
def M4(D:Dev)(n many:Int):Nat->Nat->Cl × List UInt8->Cl × List UInt8
 | 0,_,s=>s
 | e+1,k,s=>M4 D n many e (k+1) (R7 D n many s k)
def A4t{D:Dev}{n:Int}{s:Cl × List UInt8}{k:Nat}(hs:s.2.length=256)(hk:k<128):(R7 D n many s k).2.length=256:=by
 unfold R7;split
 ·exact hs
 ·dsimp only;cases (decide ((k:Int)+6<many) && !decide (K4 D n s.1 (ptP s.2 k)=0)) with
  | true=>exact hs
  | false=>rw [bZ,O6 (by rw [hs,R4];omega)];exact hs
def C2T{D:Dev}{n:Int}:∀ {e k:Nat} {s:Cl × List UInt8},k+e<=128->s.2.length=256->(M4 D n many e k s).2.length=256
 | 0,_,s,_,hs=>hs
 | e+1,k,s,hk,hs=>by
  rw [M4];exact C2T (by omega) (A4t hs (by omega))
def D5g{many:Int}{q0 q1 q:Nat}(h0g:l_ g<=h0.length)(a0:h0.length<=q0)(a1:h0.length<=q1)(n1:q0≠q1)(n2:q0≠pm)(n3:q0≠pw):∀ (e k M:Nat) (s:Cl × List UInt8) (h:A9),k+e=128->e<M->s.2.length=256 ->
  WP D n m f g r s.1 h->Fr r h0 h->LocV h r pm [cI many]->LocV h r pw [.p r 0]->LocV h r q0 (B4 s.2)->(∃ z,z.length=256/\LocV h r q1 z) ->
  ∃ h',zP q M (.c (.f 76 [(pm,0),(pw,0)])) (pV q0 0) (pV q1 0) (iV (k:Int)) h=A4 (.a (B4 (M4 D n many e k s).2),h')/\WP D n m f g r (M4 D n many e k s).1 h'/\Fr r h0 h'
 | e,k,0,s,h,_,hM,_,_,_,_,_,_,_=>by omega
 | 0,k,M+1,s,h,hk,hM,hs,P,F,hm,hw,hb,hz=>by
  have c0:¬ ((k:Int)<128):=by omega
  obtain ⟨z,hzl,hz⟩:=hz;have hl:(B4 s.2).length=256:=by rw [B5,hs]
  have l1:=C8 (n:=256) hb.2 hl;have s1:=storeAll (n:=256) (xs:=B4 s.2) hz.2 hzl hl;have hz2:=hz.self (cs':=B4 s.2);have l2:=C8 (n:=256) hz2.2 hl;refine ⟨h.set q1 (rT (B4 s.2)),?_,P.set hz.1 (by omega),F.set hz.1 a1⟩;rw [rW];unfold M4;generalize B4 s.2=B at *;simp only [esc,c0,l1,s1,l2]
 | e+1,k,M+1,s,h,hk,hM,hs,P,F,hm,hw,hb,hz=>by
  have c0:((k:Int)<128):=by omega
  have hk1:k<128:=by omega
  have hl:(B4 s.2).length=256:=by rw [B5,hs]
  have l1:=C8 (n:=256) hb.2 hl;have hG:=A8v (h:=h) hs hk1;have w1:=E2 (a:=k) (by omega);have hfs:=A4t (D:=D) (n:=n) (many:=many) hs hk1;have ih:=λh=>D5g (q:=q) (many:=many) h0g a0 a1 n1 n2 n3 e (k+1) M (R7 D n many s k) h (by omega) (by omega) hfs
  have hcv:∀ (k x:Val) (h:A9),aQ A0e (.c (.f 76 [(pm,0),(pw,0)])) [k,x] h=gW [k,x,pV pm 0,pV pw 0] h:=λ_ _ _=>Eq.trans rfl rfl
  rw [rW,M4];by_cases cz:ptP s.2 k=0
  ·have ef:R7 D n many s k=s:=by unfold R7;rw [C4 cz]
   rw [ef] at ih ⊢;obtain ⟨h',e1,e2⟩:=ih h P F hm hw hb hz;refine ⟨h',?_,e2⟩;rw [cz] at hG;generalize B4 s.2=B at *;simp only [esc,c0,l1,hG,eQ,w1];exact e1
  ·obtain ⟨h1,f1,f2,f3⟩:=E1w (x:=ptP s.2 k) P hm hw hk1;have hb1:=hb.fr f3;have hm1:=hm.fr f3;have hw1:=hw.fr f3;obtain ⟨z,hzl,hz⟩:=hz;have hz1:=hz.fr f3;cases tI:(decide ((k:Int)+6<many) && !decide (K4 D n s.1 (ptP s.2 k)=0)) with
   | true =>
    have ef:R7 D n many s k=(if (k:Int)+6<many then J9 D n s.1 (ptP s.2 k) else s.1,s.2):=by unfold R7;rw [C5 cz,tI];rfl
    rw [ef] at ih ⊢;obtain ⟨h',e1,e2⟩:=ih h1 f2 (F.trans f3) hm1 hw1 hb1 ⟨z,hzl,hz1⟩;refine ⟨h',?_,e2⟩;rw [tI] at f1
    try dsimp only at e1
    generalize B4 s.2=B at *;simp only [esc,c0,l1,hG,cz,hcv,f1,eQ,w1];exact e1
   | false =>
    have ef:R7 D n many s k=(if (k:Int)+6<many then J9 D n s.1 (ptP s.2 k) else s.1,H7 s.2 (2*k) (D6 2 0)):=by unfold R7;rw [C5 cz,tI];rfl
    rw [ef] at ih hfs ⊢;have hW:=λh=>aW (h:=h) (l:=s.2) hs (a:=((2*k:Nat):Int)) (w:=2) (v:=0)
    rw [E28 (by omega)] at hW;have lb1:=C8 (n:=256) hb1.2 hl;have hl2:(B4 (H7 s.2 (2*k) (D6 2 0))).length=256:=by rw [B5];exact hfs
    have sb1:=storeAll (n:=256) (xs:=B4 (H7 s.2 (2*k) (D6 2 0))) hb1.2 hl hl2;obtain ⟨h',e1,e2⟩:=ih _ (f2.set hb1.1 (by omega)) ((F.trans f3).set hb1.1 a0) (hm1.set n2 hb1.1.2.1) (hw1.set n3 hb1.1.2.1) hb1.self ⟨z,hzl,hz1.set n1 hb1.1.2.1⟩;refine ⟨h',?_,e2⟩;rw [tI] at f1
    try dsimp only at e1
    generalize B4 (H7 s.2 (2*k) (D6 2 0))=B2 at *;generalize B4 s.2=B at *;simp only [esc,c0,l1,hG,cz,hcv,f1,lb1,E27 (show k<128 by omega),hW,sb1,eQ,w1];exact e1
end
def bM{x:List Int}{l:List (List Int)}:pJ (x::l)=encI x++pJ l:=rfl
def qV:∀ {l:List (List Int)},(∀ x∈l,x.length=11)->(pJ l).length=l_ l*11
 | [],_=>rfl
 | x::l,h=>by
  rw [bM,E8o,C1,h x (E8u ..),qV λy hy=>h y (E8q _ hy),E8w];omega
def D9K(l:List (List Int)):noX (pJ l)=A5:=by
 induction l with
 | nil=>rfl
 | cons x l ih =>
  rw [bM];have h1:=A5K x;simp only [noX,List.all_append,E8j] at h1 ih ⊢;exact ⟨h1,ih⟩
def C70:∀ {l:List (List Int)} {i:Nat} (h:∀ x∈l,x.length=11) (hi:i<l_ l),((pJ l).drop (i*11)).take 11=encI l[i]
 | x::l,0,h,_=>by
  have:=h x (E8u ..);rw [bM,Nat.zero_mul,E8y,List.take_left' (by rw [C1,this])];rfl
 | x::l,i+1,h,hi=>by
  have:=h x (E8u ..);rw [bM,show (i+1)*11=11+i*11 by omega,<-E9D,E9C (by rw [C1,this])];exact C70 (λy hy=>h y (E8q _ hy)) (by simpa using hi)
def D4E:∀ {l:List (List Int)} {i:Nat} {y:List Int} (h:∀ x∈l,x.length=11) (hy:y.length=11) (hi:i<l_ l),lay (pJ l) (i*11) (encI y)=pJ (l.set i y)
 | x::l,0,y,h,hy,_=>by
  have:=h x (E8u ..);unfold lay;rw [bM,Nat.zero_mul,E9i,E8I,C1,E8A,hy,E9C (by rw [C1,this])];rfl
 | x::l,i+1,y,h,hy,hi=>by
  have hx:=h x (E8u ..);have ih:=D4E (l:=l) (i:=i) (y:=y) (λy hy=>h y (E8q _ hy)) hy (by simpa using hi);rw [List.set_cons_succ,bM,bM,<-ih];unfold lay;rw [show (i+1)*11=(encI x).length+i*11 by rw [C1,hx];omega,List.take_length_add_append,Nat.add_assoc,List.drop_length_add_append,E8t]
section
variable {D:Dev} {n m:Int} {f:Cell} {g:A9} {r:Nat} {c:Cl} {h:A9}
def WP.setIno(hv:∃ id cs,f=.f id cs)(P:WP D n m f g r c h){k:Nat}{l:List Int}(hk:k<c.ino.length)(hl:l_ l=11) :
  ∃ id h',B9 h (pV r 5)=A4 (sV id 0 c.ino.length 11)/\rd h id=rT (pJ c.ino)/\F7 h 11 (pV id (k*11)) (.a (encI l))=A4 h'/\WP D n m f g r { c with ino:=c.ino.set k l } h'/\Fr r h h':=by
 obtain ⟨xr,xi,xt,xb,xm,ml,mp,es1,es2,g1,g2,g3,g4,g5,g6,g7,g8,g9,g10,g11⟩:=id P.row;rcases g4 with ⟨e,_,_⟩ | ⟨t,rfl,t1,t2,t3⟩
 ·omega
 ·have l1:B9 h (pV r 5)=A4 (sV t 0 c.ino.length 11):=B8 g1 rfl rfl;have st:=C3o (n:=11) (off:=k*11) (xs:=encI l) t1 (by rw [C1,hl]) (by rw [t2];omega);rw [D4E P.il hl hk] at st;obtain ⟨q1,q2,q3,q4,q5⟩:=P.mod (off:=5) (x:=.sl t 0 c.ino.length 11) hv g1 rfl rfl (rT (pJ (c.ino.set k l)));have K6:∀ x∈c.ino.set k l,x.length=11:=λx hx=>by
   rcases List.mem_or_eq_of_mem_set hx with h1 | h1
   ·exact P.il x h1
   ·rw [h1];exact hl
  refine ⟨t,_,l1,t1,st,⟨q2,P.ge,λid hn=>P.low id ((Nam.same q3).1 hn),K6,by simpa using P.ilen,P.tlen,xr,_,xt,xb,xm,ml,mp,es1,es2,by rw [q3];exact g1,g2,g3.kept λid e=>q4 4 _ _ (by decide) rfl e,.inr ⟨t,by simp,q5,by rw [qV K6],t3⟩,g5.kept λid e=>q4 6 _ _ (by decide) rfl e,g6.kept λid e=>q4 7 _ _ (by decide) rfl e,g7.kept λid e=>q4 8 _ _ (by decide) rfl e,?_,g9,?_,g11⟩,q1⟩
  ·rw [q4 10 (.m ml) ml (by decide) rfl rfl];exact g8
  ·rw [q4 11 (.m mp) mp (by decide) rfl rfl];exact g10
def WP.setLost(hv:∃ id cs,f=.f id cs)(P:WP D n m f g r c h)(a:Int):∃ h',B9 h (pV r 9)=A4 (iV c.lost)/\I8 h (pV r 9) (iV a)=A4 h'/\WP D n m f g r { c with lost:=a } h'/\Fr r h h':=by
 obtain ⟨xr,xi,xt,xb,xm,ml,mp,es1,es2,g1,g2,g3,g4,g5,g6,g7,g8,g9,g10,g11⟩:=id P.row;have l1:B9 h (pV r 9)=A4 (iV c.lost):=B8 g1 rfl rfl;have s1:=I9 (x:=cI a) (off:=9) g1 (by simp [wkC]);obtain ⟨q1,q2,q3,q4,q5⟩:=P.pushed (off:=9) (y:=cI a) (h3:=h.set r (rT ((wkC D n m f xr xi xt xb xm c.lost ml mp).set 9 (cI a)))) hv g1 rfl (D3 (E1 g1)) (λj e=>by cases e) (λj hj hr hn=>B7 (Ne.symm hr)) (by simp);refine ⟨_,l1,s1,⟨q2,P.ge,q4,P.il,P.ilen,P.tlen,xr,xi,xt,xb,xm,ml,mp,es1,es2,D3 (E1 g1),q3,g3.kept λid e=>q5 4 _ _ (by decide) rfl e,g4.kept λid e=>q5 5 _ _ (by decide) rfl e,g5.kept λid e=>q5 6 _ _ (by decide) rfl e,g6.kept λid e=>q5 7 _ _ (by decide) rfl e,g7.kept λid e=>q5 8 _ _ (by decide) rfl e,?_,g9,?_,g11⟩,q1⟩
 ·rw [q5 10 (.m ml) ml (by decide) rfl rfl];exact g8
 ·rw [q5 11 (.m mp) mp (by decide) rfl rfl];exact g10
def E4c(hv:∃ id cs,f=.f id cs)(P:WP D n m f g r c h)(hm:LocV h r pm [cI many])(hw:LocV h r pw [.p r 0])(hb:l_ b=256) :
  ∃ h',mB [.a (B4 b),.c (.f 76 [(pm,0),(pw,0)])] h=A4 (.a (B4 (M4 D n many 128 0 (c,b)).2),h')/\WP D n m f g r (M4 D n many 128 0 (c,b)).1 h'/\Fr r h h':=by
 have P1:=P.more hv [rT (B4 b),rT (B4 (zeros 256))];have F1:Fr r h (h++[rT (B4 b),rT (B4 (zeros 256))]):=Fr.low ((Low.refl (E8m _)).new _) P.rlt;obtain ⟨h',e1,e2,e3⟩:=D5g (q:=200) (many:=many) (h0:=h) (q0:=l_ h) (q1:=l_ h+1) (pm:=pm) (pw:=pw) P.lo.2.1 (E8m _) (by omega) (by omega) (by have:=hm.1.1;omega) (by have:=hw.1.1;omega) 128 0 200 (c,b) _ (by omega) (by omega) hb P1 F1 (hm.fr F1) (hw.fr F1) (LocV.new (k:=0) hv P rfl) ⟨B4 (zeros 256),by rw [B5];exact zeros_length,LocV.new (k:=1) hv P rfl⟩;refine ⟨h',A78 (n:=200) ?_,e2,e3⟩;rw [A7R,G9];generalize zeros 256=z at *;simp only [esc];exact e1
end
def dW(D:Dev)(n:Int)(d:List Int):Nat->Nat->Cl × List Int->Cl × List Int
 | 0,_,s=>s
 | e+1,k,s=>dW D n d e (k+1) (J9 D n s.1 (d.getD k 0),s.2.set k (K4 D n s.1 (d.getD k 0)))
def A2w(D:Dev)(n:Int)(d:List Int)(many:Int)(s:Cl × List Int):Cl × List Int :=
 if 6<many then (J9 D n s.1 (d.getD 6 0),s.2.set 6 (K4 D n s.1 (d.getD 6 0))) else s
def I6(D:Dev)(n:Int)(c:Cl)(ino:Int):Cl × List Int:=A2w D n (drV D n ino) (T9 (szV D n ino)) (dW D n (drV D n ino) (min (T9 (szV D n ino)) 6).toNat 0 (c,zI 7))
def L9(D:Dev)(n:Int)(c:Cl)(ino:Int):Cl:={ (I6 D n c ino).1 with ino:=(I6 D n c ino).1.ino.set ino.toNat (1::1::szV D n ino::0::(I6 D n c ino).2) }
def V4(D:Dev)(n:Int)(c:Cl)(ino:Int):Cl:=
 if (I6 D n c ino).2.getD 6 0=0 then L9 D n c ino else
  dY (M4 D n (T9 (szV D n ino)) 128 0 (L9 D n c ino,blk D ((I6 D n c ino).2.getD 6 0))).1 ((I6 D n c ino).2.getD 6 0) (M4 D n (T9 (szV D n ino)) 128 0 (L9 D n c ino,blk D ((I6 D n c ino).2.getD 6 0))).2
structure SameC(c c':Cl):Prop where
 row:c'.row=c.row
 ino:c'.ino=c.ino
 blocks:c'.blocks=c.blocks
 made:c'.made=c.made
 lost:c'.lost=c.lost
 lnk:c'.lnk=c.lnk
 par:c'.par=c.par
def SameC.rfl'(c:Cl):SameC c c:=⟨rfl,rfl,rfl,rfl,rfl,rfl,rfl⟩
def SameC.trans{a b c:Cl}(x:SameC a b)(y:SameC b c):SameC a c:=⟨y.row.trans x.row,y.ino.trans x.ino,y.blocks.trans x.blocks,y.made.trans x.made,y.lost.trans x.lost,y.lnk.trans x.lnk,y.par.trans x.par⟩
def A05(D:Dev)(n:Int)(c:Cl)(no:Int):SameC c (J9 D n c no):=by
 unfold J9;cases dL D n c no<;>exact ⟨rfl,rfl,rfl,rfl,rfl,rfl,rfl⟩
def D6H{s:Cl × List UInt8}{k:Nat}:SameC s.1 (R7 D n many s k).1:=by
 unfold R7;split
 ·exact .rfl' _
 ·dsimp only;split
  ·exact A05 ..
  ·exact .rfl' _
def kC:∀ {e k:Nat} {s:Cl × List UInt8},SameC s.1 (M4 D n many e k s).1
 | 0,_,s=>.rfl' _
 | e+1,k,s=>by
  rw [M4];exact (D6H).trans kC
def A07{D:Dev}{n:Int}{d:List Int}:∀ {e k:Nat} {s:Cl × List Int},SameC s.1 (dW D n d e k s).1/\(dW D n d e k s).2.length=s.2.length
 | 0,_,s=>⟨.rfl' _,rfl⟩
 | e+1,k,s=>by
  rw [dW];have:=A07 (D:=D) (n:=n) (d:=d) (e:=e) (k:=k+1) (s:=(J9 D n s.1 (d.getD k 0),s.2.set k (K4 D n s.1 (d.getD k 0))));exact ⟨(A05 ..).trans this.1,by rw [this.2];simp⟩
def D9l{s:Cl × List Int}:SameC s.1 (A2w D n d many s).1/\(A2w D n d many s).2.length=s.2.length:=by
 unfold A2w;split
 ·exact ⟨A05 ..,by simp⟩
 ·exact ⟨.rfl' _,rfl⟩
def pA{c:Cl}:SameC c (I6 D n c ino).1/\(I6 D n c ino).2.length=7:=by
 unfold I6;have h1:=A07 (D:=D) (n:=n) (d:=drV D n ino) (e:=(min (T9 (szV D n ino)) 6).toNat) (k:=0) (s:=(c,zI 7));have h2:=D9l (D:=D) (n:=n) (d:=drV D n ino) (many:=T9 (szV D n ino)) (s:=dW D n (drV D n ino) (min (T9 (szV D n ino)) 6).toNat 0 (c,zI 7));exact ⟨h1.1.trans h2.1,by rw [h2.2,h1.2];rfl⟩
section
variable {D:Dev} {n m:Int} {f:Cell} {g:A9} {r:Nat} {c:Cl} {h:A9}
def D0R{ino lim kd ln sz pa many:Int}{pb pi q:Nat}(h0g:l_ g<=h0.length)(a0:h0.length<=pi)(n1:pi≠pb)(n2:pi≠pw)(n3:pi≠pm)(hd:l_ d=7)(E7x:lim<=6) :
  ∀ (e k M:Nat) (s:Cl × List Int) (h:A9),(k:Int)+e=lim->e<M->s.2.length=7->WP D n m f g r s.1 h->Fr r h0 h->LocV h r pb [.p r 0]->LocV h r pw (D1 kd ln sz pa d)->LocV h r pi (D1 1 1 sz 0 s.2)->LocV h r pm [cI many] ->
  ∃ M' h',kA q M (iV ino) (pV pb 0) (pV pw 0) (pV pi 0) (pV pm 0) (iV lim) (iV (k:Int)) h=kA q (M'+1) (iV ino) (pV pb 0) (pV pw 0) (pV pi 0) (pV pm 0) (iV lim) (iV lim) h' /\
   WP D n m f g r (dW D n d e k s).1 h'/\Fr r h0 h'/\LocV h' r pb [.p r 0]/\LocV h' r pw (D1 kd ln sz pa d)/\LocV h' r pi (D1 1 1 sz 0 (dW D n d e k s).2)/\LocV h' r pm [cI many]
 | e,k,0,s,h,_,hM,_,_,_,_,_,_,_=>by omega
 | 0,k,M+1,s,h,hk,hM,hs,P,F,hb,hw,hi,hm=>by
  have:(k:Int)=lim:=by omega
  rw [this];exact ⟨M,h,rfl,P,F,hb,hw,hi,hm⟩
 | e+1,k,M+1,s,h,hk,hM,hs,P,F,hb,hw,hi,hm=>by
  have c0:(k:Int)<lim:=by omega
  have hk6:k<6:=by omega
  have w1:=E2 (a:=k) (by omega);have lb:B9 h (pV pb 0)=A4 (pV r 0):=B8 hb.2 rfl rfl;have ad:∀ p,K2 6 1 (pV p 4) (iV (k:Int))=A4 (pV p (4+k)):=λp=>by
   rw [O2 hk6];simp
  have lw:B9 h (pV pw (4+k))=A4 (iV (d.getD k 0)):=by
   refine B8 hw.2 ?_ rfl;rw [Nat.add_comm];simp only [D1,E8F];rw [G6,E8k,E8h (by omega)];rfl
  obtain ⟨h1,f1,f2,f3⟩:=C0J (no:=d.getD k 0) P;have hb1:=hb.fr f3;have hw1:=hw.fr f3;have hm1:=hm.fr f3;have hi1:=hi.fr f3;have K6:(D1 1 1 sz 0 s.2).length=11:=by simp [D1,C1,hs]
  have s1:=I9 (x:=cI (K4 D n s.1 (d.getD k 0))) (off:=4+k) hi1.2 (by rw [K6];omega);have es:(D1 1 1 sz 0 s.2).set (4+k) (cI (K4 D n s.1 (d.getD k 0)))=D1 1 1 sz 0 (s.2.set k (K4 D n s.1 (d.getD k 0))):=by
   rw [Nat.add_comm];simp only [D1,List.set_cons_succ,zH]
  rw [es] at s1;obtain ⟨M',h',e1,e2⟩:=D0R (q:=q) (ino:=ino) (lim:=lim) (kd:=kd) (ln:=ln) (sz:=sz) (pa:=pa) (many:=many) h0g a0 n1 n2 n3 hd E7x e (k+1) M (J9 D n s.1 (d.getD k 0),s.2.set k (K4 D n s.1 (d.getD k 0))) _ (by omega) (by omega) (by simp [hs]) (f2.set hi1.1 (by omega)) ((F.trans f3).set hi1.1 a0) (hb1.set n1 hi1.1.2.1) (hw1.set n2 hi1.1.2.1) hi1.self (hm1.set n3 hi1.1.2.1);refine ⟨M',h',?_,e2⟩;rw [mE];simp only [esc,c0,lb,ad,lw,f1,s1,w1];exact e1
def E3L(hD:okD D)(hv:IsView g f D)(P:WP D n m f g r c h)(h1:c.blocks.length<=100000)(h2:c.made.length<=100000)(i0:0<=ino)(i1:ino.toNat<c.ino.length) :
  ∃ h',mZ [pV r 0,iV ino] h=A4 (.t [],h')/\WP D n m f g r (V4 D n c ino) h'/\Fr r h h':=by
 have hv2:=hv.get;obtain ⟨k,rfl⟩:=E9m i0;rw [E8D] at i1;obtain ⟨I,hI⟩:=xEq (D1 (kdV D n k) (lnV D n k) (szV D n k) (paV D n k) (drV D n k));have hIl:l_ I=11:=by rw [hI];simp [D1,C1,O0]
 have hVI:=λt=>T8 (n:=n) (m:=m) (i:=(k:Int)) (h:=h++t) hD ((hv.since P.lo).more t)
 rw [nK,<-hI] at hVI;have lV:=(P.more hv2 [rT [Cell.p r 0]]).view;obtain ⟨z,hz⟩:=xEq (D1 1 1 (szV D n k) 0 (zI 7));have hzl:z.length=11:=by rw [hz];rfl
 have z11:[o0,o0,o0,o0,o0,o0,o0,o0,o0,o0,o0].length=11:=rfl;have ef:F6 [o0,o0,o0,o0,o0,o0,o0,o0,o0,o0,o0] [(0,1,iV 1),(1,1,iV 1),(2,1,iV (szV D n k))]=A4 z:=by rw [hz];rfl
 have I2:I[2]?=A4 (cI (szV D n k)):=by rw [hI];rfl
 have hBl:=λh=>B2l (n:=szV D n k) (h:=h)
 have eB:(if szV D n k<1 then (0:Int) else if 34304<szV D n k then 134 else (szV D n k+255)/256)=T9 (szV D n k):=rfl;rw [eB] at hBl;have hmr:0<=T9 (szV D n k):=by unfold T9;split<;>(try split)<;>omega
 obtain ⟨many,E1S⟩:=xEq (T9 (szV D n k));rw [<-E1S] at hBl hmr;have E3T:B6z (iV many) (iV 6)=A4 (iV (min many 6)):=by
  simp only [B6z];rw [show (if (6:Int)<many then 6 else many)=min many 6 by split<;>omega]
 obtain ⟨T,hT⟩:=xEq ([rT [Cell.p r 0],rT I,rT z,rT [cI many]]);have P1:=P.more hv2 T;have F1:Fr r h (h++T):=Fr.low ((Low.refl (E8m _)).new _) P.rlt;have L0:LocV (h++T) r (l_ h) [.p r 0]:=LocV.new (k:=0) hv2 P (by rw [hT];rfl);have L1:LocV (h++T) r (l_ h+1) I:=LocV.new (k:=1) hv2 P (by rw [hT];rfl);have L2:LocV (h++T) r (l_ h+2) z:=LocV.new (k:=2) hv2 P (by rw [hT];rfl);have L3:LocV (h++T) r (l_ h+3) [cI many]:=LocV.new (k:=3) hv2 P (by rw [hT];rfl);rw [hI] at L1;rw [hz] at L2;obtain ⟨M',hA,e1,PA,FA,A0,A1,A2,A3⟩:=D0R (q:=200) (ino:=(k:Int)) (lim:=min many 6) P.lo.2.1 (show (l_ h)<=l_ h+2 by omega) (by omega) (by omega) (by omega) O0 (by omega) (min many 6).toNat 0 200 (c,zI 7) (h++T) (by omega) (by omega) rfl P1 F1 L0 L1 L2 L3;obtain ⟨s,hs⟩:=xEq (dW D n (drV D n k) (min many 6).toNat 0 (c,zI 7));have hsame:=A07 (D:=D) (n:=n) (d:=drV D n k) (e:=(min many 6).toNat) (k:=0) (s:=(c,zI 7));rw [<-hs] at PA A2 hsame;have hs7:s.2.length=7:=hsame.2;have lb:B9 hA (pV (l_ h) 0)=A4 (pV r 0):=B8 A0.2 rfl rfl;have lm:B9 hA (pV (l_ h+3) 0)=A4 (iV many):=B8 A3.2 rfl rfl;have step:∃ hB,kA 200 (M'+1) (iV (k:Int)) (pV (l_ h) 0) (pV (l_ h+1) 0) (pV (l_ h+2) 0) (pV (l_ h+3) 0) (iV (min many 6)) (iV (min many 6)) hA =
   uV 200 (iV (k:Int)) (pV (l_ h) 0) (pV (l_ h+2) 0) (pV (l_ h+3) 0) hB/\WP D n m f g r (A2w D n (drV D n k) many s).1 hB/\Fr r h hB/\LocV hB r (l_ h) [.p r 0]/\LocV hB r (l_ h+2) (D1 1 1 (szV D n k) 0 (A2w D n (drV D n k) many s).2)/\LocV hB r (l_ h+3) [cI many]:=by
  have c0:¬ (min many 6<min many 6):=by omega
  unfold A2w;by_cases c6:6<many
  ·rw [C4 c6];have lw:B9 hA (pV (l_ h+1) 10)=A4 (iV ((drV D n k).getD 6 0)):=by
    refine B8 A1.2 ?_ rfl;simp only [D1,E8F];rw [G6,E8k,E8h (by rw [O0];omega)];rfl
   obtain ⟨h1,f1,f2,f3⟩:=C0J (no:=(drV D n k).getD 6 0) PA;have B0:=A0.fr f3;have B2:=A2.fr f3;have B3:=A3.fr f3;have K6:(D1 1 1 (szV D n k) 0 s.2).length=11:=by simp [D1,C1,hs7]
   have s1:=I9 (x:=cI (K4 D n s.1 ((drV D n k).getD 6 0))) (off:=10) B2.2 (by rw [K6];omega);have es:(D1 1 1 (szV D n k) 0 s.2).set 10 (cI (K4 D n s.1 ((drV D n k).getD 6 0)))=D1 1 1 (szV D n k) 0 (s.2.set 6 (K4 D n s.1 ((drV D n k).getD 6 0))):=by
    simp only [D1,List.set_cons_succ,zH]
   rw [es] at s1;refine ⟨_,?_,f2.set B2.1 (by have:=P.lo.2.1;omega),(FA.trans f3).set B2.1 (by omega),B0.set (by omega) B2.1.2.1,B2.self,B3.set (by omega) B2.1.2.1⟩;rw [mE];simp only [esc,c0,lm,c6,lb,lw,f1,s1]
  ·rw [C5 c6];refine ⟨hA,?_,PA,FA,A0,A2,A3⟩;rw [mE];simp only [esc,c0,lm,c6]
 obtain ⟨hB,e2,PB,FB,B0,B2,B3⟩:=step;have hfd:I6 D n c k=A2w D n (drV D n k) many s:=by unfold I6;rw [<-E1S,<-hs]
 have hfs:=pA (D:=D) (n:=n) (ino:=(k:Int)) (c:=c);rw [<-hfd] at PB B2;obtain ⟨S,hS⟩:=xEq (I6 D n c k);rw [<-hS] at PB B2 hfs;have kin:k<S.1.ino.length:=by rw [hfs.1.ino];exact i1
 obtain ⟨id,hC,c1,c2,c3,PC,FC⟩:=PB.setIno hv2 (k:=k) (l:=1::1::szV D n k::0::S.2) kin (by simp [hfs.2]);have C0:=B0.fr FC;have C2:=B2.fr FC;have C3:=B3.fr FC;have lB0:B9 hB (pV (l_ h) 0)=A4 (pV r 0):=B8 B0.2 rfl rfl;have lB2:C9 hB 11 (pV (l_ h+2) 0)=A4 (.a (encI (1::1::szV D n k::0::S.2))):=C8 B2.2 (by simp [C1,hfs.2]);have adI:F0 11 (sV id 0 S.1.ino.length 11) (iV (k:Int))=A4 (pV id (k*11)):=by rw [E4 kin];simp
 have E5P:B9 hC (pV (l_ h+2) 10)=A4 (iV (S.2.getD 6 0)):=by
  refine B8 C2.2 ?_ rfl;simp only [D1,E8F];rw [G6,E8k,E8h (by rw [hfs.2];omega)];rfl
 have hfi:L9 D n c k={ S.1 with ino:=S.1.ino.set k (1::1::szV D n k::0::S.2) }:=by unfold L9;rw [<-hS,E8D]
 rw [<-hfi] at PC;have run:∀ {v:Val} {h':A9},uV 200 (iV (k:Int)) (pV (l_ h) 0) (pV (l_ h+2) 0) (pV (l_ h+3) 0) hB=A4 (v,h')->mZ [pV r 0,iV (k:Int)] h=A4 (v,h'):=by
  intro v h' hj;refine B3Q (n:=200) ?_;rw [B3g];have eT:=e1.trans (e2.trans hj);rw [hT] at eT;have hB0:=hVI [rT [Cell.p r 0]];have l2:ld1 (rT I) 2=A4 (iV (szV D n k)):=by rw [zN,I2];rfl
  have lm1:ld1 (rT [cI many]) 0=A4 (iV many):=rfl;have lp:ld1 (rT [Cell.p r 0]) 0=A4 (pV r 0):=rfl;have sm:st1 (rT [o0]) 0 (cI many)=rT [cI many]:=rfl;generalize [o0,o0,o0,o0,o0,o0,o0,o0,o0,o0,o0]=zz at *;generalize vwC (l_ D) n m f=V at *;simp only [esc,P7,H6,Z4,J0,S5,I3,oN,A6X,K9,fZ,Nat.reduceAdd,lV,hB0,hIl,hzl,z11,l2,lp,sm,lm1,ef,hBl,E3T];exact eT
 unfold V4;rw [<-hS,<-E1S];by_cases cz:S.2.getD 6 0=0
 ·rw [C4 cz];refine ⟨hC,run ?_,PC,FB.trans FC⟩;rw [A0w];rw [cz] at E5P;simp only [esc,Nat.reduceAdd,lB0,c1,lB2,adI,c3,E5P];rfl
 ·rw [C5 cz];have hBk:=K8 (n:=n) (m:=m) (no:=S.2.getD 6 0) (h:=hC) hD (hv.since PC.lo);obtain ⟨hE,f1,f2,f3⟩:=E4c (many:=many) (b:=blk D (S.2.getD 6 0)) hv2 PC C3 C0 (J6 hD);have D0:=C0.fr f3;have D2:=C2.fr f3;have hsm:=kC (D:=D) (n:=n) (many:=many) (e:=128) (k:=0) (s:=(L9 D n c k,blk D (S.2.getD 6 0)));have bl:(M4 D n many 128 0 (L9 D n c k,blk D (S.2.getD 6 0))).1.blocks.length<=100000:=by
   rw [hsm.blocks];dsimp only;rw [hfi];dsimp only;rw [hfs.1.blocks];exact h1
  have ml:(M4 D n many 128 0 (L9 D n c k,blk D (S.2.getD 6 0))).1.made.length<=100000:=by
   rw [hsm.made];dsimp only;rw [hfi];dsimp only;rw [hfs.1.made];exact h2
  obtain ⟨hF,g1,g2,g3⟩:=D2F (no:=S.2.getD 6 0) hv2 f2 (C2T (e:=128) (k:=0) (s:=(L9 D n c k,blk D (S.2.getD 6 0))) (by omega) (J6 hD)) bl ml;refine ⟨hF,run ?_,g2,((FB.trans FC).trans f3).trans g3⟩;have lC0:B9 hC (pV (l_ h) 0)=A4 (pV r 0):=B8 C0.2 rfl rfl;have lE0:B9 hE (pV (l_ h) 0)=A4 (pV r 0):=B8 D0.2 rfl rfl;have E7O:B9 hE (pV (l_ h+2) 10)=A4 (iV (S.2.getD 6 0)):=by
   refine B8 D2.2 ?_ rfl;simp only [D1,E8F];rw [G6,E8k,E8h (by rw [hfs.2];omega)];rfl
  have lCV:=PC.view;have emk:A32 76 [pV (l_ h+3) 0,pV (l_ h) 0]=A4 (.c (.f 76 [(l_ h+3,0),(l_ h,0)])):=rfl;rw [A0w];generalize S.2.getD 6 0=no at *;generalize B4 (M4 D n many 128 0 (L9 D n c k,blk D no)).2=B2 at *;generalize B4 (blk D no)=B1 at *;generalize vwC (l_ D) n m f=V at *;simp only [esc,Nat.reduceAdd,lB0,c1,lB2,adI,c3,E5P,cz,lC0,lCV,hBk,emk,f1,lE0,E7O,g1];rfl
end
def A0I(no:Int):Nat->Nat->List Int->List Int
 | 0,_,t=>t
 | e+1,i,t=>A0I no e (i+1) (if t.getD i 0=no then t.set i 0 else t)
def A4j:∀ {e i:Nat} {t:List Int},(A0I no e i t).length=(l_ t)
 | 0,_,_=>rfl
 | e+1,i,t=>by
  rw [A0I,A4j];split<;>simp
def B2b(D:Dev)(n:Int)(s:Cl × List Int)(no:Int):Cl × List Int:=(J9 D n s.1 no,if K4 D n s.1 no=0 then A0I no 32 0 s.2 else s.2)
def W2(D:Dev)(n:Int)(s:Cl × List Int)(L:List Int):Cl × List Int:=L.foldl (B2b D n) s
def D0F{s:Cl × List Int}:(B2b D n s no).2.length=s.2.length:=by
 unfold B2b;dsimp only;split
 ·exact A4j
 ·rfl
def C2E:∀ {L:List Int} {s:Cl × List Int},(W2 D n s L).2.length=s.2.length
 | [],_=>rfl
 | no::L,s=>by
  show (W2 D n (B2b D n s no) L).2.length=_;rw [C2E,D0F]
def bK{D:Dev}{n:Int}:∀ {L:List Int} {s:Cl × List Int},SameC s.1 (W2 D n s L).1
 | [],_=>.rfl' _
 | no::L,s=>by
  show SameC s.1 (W2 D n (B2b D n s no) L).1;have h2:SameC (J9 D n s.1 no) (W2 D n (B2b D n s no) L).1:=bK (D:=D) (n:=n) (L:=L) (s:=B2b D n s no);exact (A05 ..).trans h2
section
variable {D:Dev} {n m:Int} {f:Cell} {g:A9} {r:Nat} {c:Cl} {h:A9}
def C3w{no d:Int}{px q M:Nat}{w x4 v11 v12 v13:Val}(h0g:l_ g<=h0.length)(a0:h0.length<=px):∀ (e i M2:Nat) (t:List Int) (h:A9),i+e=32->e<M2->l_ t=32->WP D n m f g r c h->Fr r h0 h->LocV h r px (encI (d::t)) ->
  ∃ h',A0v q M M2 w (pV px 0) x4 (iV no) v11 v12 v13 (iV (i:Int)) h=A0t q M w (pV px 0) x4 v11 v12 v13 h'/\WP D n m f g r c h'/\Fr r h0 h'/\LocV h' r px (encI (d::A0I no e i t))/\(l_ h')=l_ h/\∀ j,j≠px->rd h' j=rd h j
 | e,i,0,t,h,_,hM,_,_,_,_=>by omega
 | 0,i,M2+1,t,h,hi,hM,ht,P,F,hx=>by
  have c0:¬ ((i:Int)<32):=by omega
  refine ⟨h,?_,P,F,hx,rfl,λ_ _=>rfl⟩;rw [gJ];simp only [esc,c0]
 | e+1,i,M2+1,t,h,hi,hM,ht,P,F,hx=>by
  have c0:((i:Int)<32):=by omega
  have E7p:i<32:=by omega
  have ad:K2 32 1 (pV px 1) (iV (i:Int))=A4 (pV px (1+i)):=by rw [O2 E7p];simp
  have l1:B9 h (pV px (1+i))=A4 (iV (t.getD i 0)):=by
   refine B8 hx.2 ?_ rfl;rw [Nat.add_comm,G6,E8F,E8k,E8h (by omega)];rfl
  have w1:=E2 (a:=i) (by omega);by_cases cz:t.getD i 0=no
  ·have s1:=I9 (x:=o0) (off:=1+i) hx.2 (by simp [C1,ht];omega);have es:(encI (d::t)).set (1+i) o0=encI (d::t.set i 0):=by rw [zH,Nat.add_comm,List.set_cons_succ]
   rw [es] at s1;obtain ⟨h',e1,e2,e3,e4,e5,e6⟩:=C3w (no:=no) (d:=d) (q:=q) (M:=M) (w:=w) (x4:=x4) (v11:=v11) (v12:=v12) (v13:=v13) h0g a0 e (i+1) M2 (t.set i 0) _ (by omega) (by omega) (by simp [ht]) (P.set hx.1 (by omega)) (F.set hx.1 a0) hx.self;refine ⟨h',?_,e2,e3,by rw [A0I,C4 cz];exact e4,by rw [e5];simp,λj hj=>by rw [e6 j hj,B7 (Ne.symm hj)]⟩;rw [gJ];simp only [esc,c0,ad,l1,cz,s1,tF,w1];exact e1
  ·obtain ⟨h',e1,e2,e3,e4,e5,e6⟩:=C3w (no:=no) (d:=d) (q:=q) (M:=M) (w:=w) (x4:=x4) (v11:=v11) (v12:=v12) (v13:=v13) h0g a0 e (i+1) M2 t h (by omega) (by omega) ht P F hx;refine ⟨h',?_,e2,e3,by rw [A0I,C5 cz];exact e4,e5,e6⟩;rw [gJ];simp only [esc,c0,ad,l1,cz,tF,w1];exact e1
def C2F{d:Int}{L:List Int}{px p4 sid q:Nat}(h0g:l_ g<=h0.length)(a0:h0.length<=px)(a1:h0.length<=p4)(n1:px≠p4)(n2:px≠sid)(hq:40<=q)(hL:l_ L<1000000):∀ (e i M:Nat) (s:Cl × List Int) (h:A9),i+e=l_ L->e<M->s.2.length=32->WP D n m f g r s.1 h->Fr r h0 h->LocV h r px (encI (d::s.2))->(∃ z,z.length=33/\LocV h r p4 z)->LocV h r sid (encI L) ->
  ∃ h',A0u q M (pV r 0) (pV px 0) (pV p4 0) (sV sid 0 (l_ L) 1) (iV (l_ L:Nat)) (iV (i:Int)) h=A4 (.a (encI (d::(W2 D n s (L.drop i)).2)),h')/\WP D n m f g r (W2 D n s (L.drop i)).1 h'/\Fr r h0 h'
 | e,i,0,s,h,_,hM,_,_,_,_,_,_=>by omega
 | 0,i,M+1,s,h,hi,hM,hs,P,F,hx,hz,hl=>by
  have c0:¬ ((i:Int)<(l_ L:Nat)):=by omega
  obtain ⟨z,hzl,hz⟩:=hz;have h33:(encI (d::s.2)).length=33:=by simp [C1,hs]
  have l1:=C8 (n:=33) hx.2 h33;have s1:=storeAll (n:=33) (xs:=encI (d::s.2)) hz.2 hzl h33;have hz2:=hz.self (cs':=encI (d::s.2));have l2:=C8 (n:=33) hz2.2 h33;rw [E8x (by omega)];refine ⟨h.set p4 (rT (encI (d::s.2))),?_,P.set hz.1 (by omega),F.set hz.1 a1⟩;rw [gH];show _=A4 (Val.a (encI (d::s.2)),_);generalize encI (d::s.2)=B at *;simp only [esc,c0,l1,s1,l2]
 | e+1,i,M+1,s,h,hi,hM,hs,P,F,hx,hz,hl=>by
  have c0:((i:Int)<(l_ L:Nat)):=by omega
  have K6:i<(l_ L):=by omega
  have ad:F0 1 (sV sid 0 (l_ L) 1) (iV (i:Int))=A4 (pV sid i):=by rw [E4 K6];simp
  have l1:B9 h (pV sid i)=A4 (iV L[i]):=B8 hl.2 (by rw [G6,E8h K6];rfl) rfl;have w1:=E2 (a:=i) (by omega);obtain ⟨h1,f1,f2,f3⟩:=C0J (no:=L[i]) P;have hx1:=hx.fr f3;have hl1:=hl.fr f3;obtain ⟨z,hzl,hz⟩:=hz;have hz1:=hz.fr f3;rw [E8s K6];have eb:∀ T,W2 D n s (L[i]::T)=W2 D n (B2b D n s L[i]) T:=λT=>rfl
  rw [eb];have hbl:=D0F (D:=D) (n:=n) (s:=s) (no:=L[i]);by_cases cz:K4 D n s.1 L[i]=0
  ·have eB:B2b D n s L[i]=(J9 D n s.1 L[i],A0I L[i] 32 0 s.2):=by unfold B2b;rw [C4 cz]
   obtain ⟨h2,e1,e2,e3,e4,e5,e6⟩:=C3w (no:=L[i]) (d:=d) (q:=q) (M:=M) (w:=pV r 0) (x4:=pV p4 0) (v11:=sV sid 0 (l_ L) 1) (v12:=iV (l_ L:Nat)) (v13:=iV (i:Int)) h0g a0 32 0 q s.2 h1 (by omega) (by omega) hs f2 (F.trans f3) hx1;have keep:∀ {id:Nat} {cs:List Cell},LocV h1 r id cs->px≠id->LocV h2 r id cs:=λ{id cs} a aZ=>by
    have er:rd h2 r=rd h1 r:=e6 r (Ne.symm hx1.1.2.1);exact ⟨⟨by rw [e5];exact a.1.1,a.1.2.1,λhn=>a.1.2.2 ((Nam.same er).1 hn)⟩,by rw [e6 id (Ne.symm aZ)];exact a.2⟩
   have E7N:(A0I L[i] 32 0 s.2).length=32:=by rw [A4j];exact hs
   rw [eB];generalize A0I L[i] 32 0 s.2=Z at *;obtain ⟨h',k1,k2⟩:=C2F (d:=d) (q:=q) h0g a0 a1 n1 n2 hq hL e (i+1) M (J9 D n s.1 L[i],Z) h2 (by omega) (by omega) E7N e2 e3 e4 ⟨z,hzl,keep hz1 n1⟩ (keep hl1 n2);refine ⟨h',?_,k2⟩;rw [gH];rw [cz] at f1;rw [tD] at e1;have c00:((0:Nat):Int)=0:=rfl;rw [c00] at e1;simp only [esc,c0,ad,l1,f1];refine e1.trans ?_;simp only [esc,w1];exact k1
  ·have eB:B2b D n s L[i]=(J9 D n s.1 L[i],s.2):=by unfold B2b;rw [C5 cz]
   rw [eB] at hbl ⊢;obtain ⟨h',k1,k2⟩:=C2F (d:=d) (q:=q) h0g a0 a1 n1 n2 hq hL e (i+1) M (J9 D n s.1 L[i],s.2) h1 (by omega) (by omega) hs f2 (F.trans f3) hx1 ⟨z,hzl,hz1⟩ hl1;refine ⟨h',?_,k2⟩;rw [gH];simp only [esc,c0,ad,l1,f1,cz,tD,w1];exact k1
def P9(d:Int)(t:List Int):Int:=if 0<=d/\d<=5 then d else 0
def bU(d:Int)(t:List Int):List Int:=if 0<=d/\d<=5 then nL d t (C6 d) else zI 32
def B1v(d:Int)(t:List Int):A9H d t=P9 d t::bU d t:=by
 unfold A9H P9 bU;split<;>rfl
def B4H{d:Int}:(bU d t).length=32:=by
 have:=C4f (d:=d) (t:=t);rw [B1v] at this;simpa using this
def D6k{d:Int}(hv:∃ id cs,f=.f id cs)(P:WP D n m f g r c h)(ht:l_ t=32) :
  ∃ h',fH [pV r 0,.a (encI (d::t))] h=A4 (.a (encI (P9 d t::(W2 D n (c,bU d t) (J3 (bU d t) (C6 (P9 d t)))).2)),h')/\WP D n m f g r (W2 D n (c,bU d t) (J3 (bU d t) (C6 (P9 d t)))).1 h'/\Fr r h h':=by
 have hft:=B4H (d:=d) (t:=t);have h33:(encI (d::t)).length=33:=by simp [C1,ht]
 have hF:=λh=>C0x (d:=d) (h:=h) ht
 rw [B1v] at hF;have D4s:(encI (P9 d t::bU d t)).length=33:=by simp [C1,hft]
 have E5G:(o0::E8l 32 o0).length=33:=by simp
 obtain ⟨z,hz⟩:=xEq (o0::E8l 32 o0);obtain ⟨d',hd'⟩:=xEq (P9 d t);obtain ⟨t',ht'⟩:=xEq (bU d t);rw [<-hd',<-ht'] at hF D4s ⊢;rw [<-ht'] at hft;have hB:=iP (d:=d') (t:=t') (h:=h++[rT (encI (d'::t')),rT z]) hft;obtain ⟨L,hL⟩:=xEq (J3 t' (C6 d'));rw [<-hL] at hB ⊢;obtain ⟨T,hT⟩:=xEq ([rT (encI (d'::t')),rT z,rT (encI L)]);have P1:=P.more hv T;have F1:Fr r h (h++T):=Fr.low ((Low.refl (E8m _)).new _) P.rlt;have L0:LocV (h++T) r (l_ h) (encI (d'::t')):=LocV.new (k:=0) hv P (by rw [hT];rfl);have L1:LocV (h++T) r (l_ h+1) z:=LocV.new (k:=1) hv P (by rw [hT];rfl);have L2:LocV (h++T) r (l_ h+2) (encI L):=LocV.new (k:=2) hv P (by rw [hT];rfl);have hLl:l_ L<=32:=by rw [hL];exact E83 (jL _ _) (T5 _)
 obtain ⟨h',e1,e2,e3⟩:=C2F (q:=100) P.lo.2.1 (E8m _) (show (l_ h)<=l_ h+1 by omega) (by omega) (show (l_ h)≠(l_ h)+2 by omega) (by omega) (by omega) (l_ L) 0 100 (c,t') (h++T) (by omega) (by omega) hft P1 F1 L0 ⟨z,by rw [hz];exact E5G,L1⟩ L2;rw [E8y] at e1 e2;refine ⟨h',A8V (n:=100) ?_,e2,e3⟩;rw [A8M];have ez:([o0]++E8l 32 o0)=z:=by rw [hz];rfl
 rw [ez];rw [hT] at e1;have l33:ldN (rT (encI (d::t))) 0 33=A4 (.a (encI (d::t))):=K9 h33;have l33':ldN (rT (encI (d'::t'))) 0 33=A4 (.a (encI (d'::t'))):=K9 D4s;have s33:stN (rT (encI (d::t))) 0 33 (encI (d'::t'))=rT (encI (d'::t')):=fZ h33 D4s;generalize encI (d::t)=X at *;generalize encI (d'::t')=X' at *;simp only [esc,P7,H6,S5,I3,l33,l33',s33,hF];simp only [esc] at hB;simp only [esc,hB];exact e1
end
abbrev Spt:=Int × Slt
def yR(D:Dev)(L:List Int):List Spt:=L.flatMap λno=>(J2 (blk D no)).map λs=>(no,s)
def atH(D:Dev)(X:List Int)(e:Spt):Bool:=decide (R8 X e.2.2.1=e.1)&&decide (hmS D X e.2.2.1=A4 e.2)
def Q0(D:Dev)(X:List Int)(l:List Spt):sY:=(l.filter (atH D X)).map (·.2.2.1)
def B4Q(D:Dev)(X:List Int)(nm:List UInt8):Int:=((hmS D X nm).getD (0,[],0)).2.2
def S9(D:Dev)(X:List Int)(L:List Int):List Ent:=(fY (Q0 D X (yR D L))).map λs=>(s,B4Q D X s)
def D8w{neg:Bool}(p q:Slt):aeq neg [.i .i64,.s,.i .i64] (.a (slC (A4 p))) (.a (slC (A4 q)))=A4 (bV (bif neg then !(decide (A4 p=A4 q)) else decide (A4 p=A4 q))):=by
 simp only [aeq];rw [C4 ⟨rfl,rfl⟩];have:decide (slC (A4 p)=slC (A4 q))=decide (A4 p=A4 q):=by
  apply Bool.eq_iff_iff.2;simp only [decide_eq_true_eq,slC,List.cons.injEq,Cell.i.injEq,Cell.s.injEq,true_and,and_true,E8n];obtain ⟨p1,p2,p3⟩:=p;obtain ⟨q1,q2,q3⟩:=q;simp only [Prod.mk.injEq];constructor
  ·rintro ⟨h1,h2,h3⟩;exact ⟨by omega,h2,h3⟩
  ·rintro ⟨h1,h2,h3⟩;exact ⟨by omega,h2,h3⟩
 rw [this]
def C4n{X:List Int}{s:List Spt}{e:Spt}:Q0 D X (s++[e])=Q0 D X s++(if atH D X e=A5 then [e.2.2.1] else []):=by
 unfold Q0;rw [E9x,E9e,List.filter_cons];by_cases c:atH D X e=A5<;>simp [c]
structure NmS(D:Dev)(X L:List Int)(g:A9)(s:List Spt)(id:Nat)(h:A9):Prop where
 low:Low (l_ g) g h
 rx:rd h (l_ g)=rT (encI X)
 rm:∃ es,rd h (l_ g+2)=A4 (Q1 es)/\MapN es (B4Q D X) (Q0 D X s)
 rs:rd h (l_ g+4)=rT (encI L)
 rl:rd h id=rT (encS (Q0 D X s))
 idg:id=l_ g+3\/(l_ g)+5<=id
def NmS.more{X L:List Int}{s:List Spt}{id:Nat}(S:NmS D X L g s id h)(t:A9):NmS D X L g s id (h++t) :=
 ⟨S.low.new _,B6 S.rx,by obtain ⟨es,h1,h2⟩:=S.rm;exact ⟨es,B6 h1,h2⟩,B6 S.rs,B6 S.rl,S.idg⟩
section
variable {D:Dev} {n m:Int} {f:Cell} {g:A9} {r:Nat} {h:A9}
def E5S{d:Int}{L:List Int}{s:List Spt}{id lst m0 M:Nat}{l:List Slt}{x:Slt}{x18 x19 x20:Val}(hD:okD D)(hv:IsView g f D)(hw:VwR g r (vwC (l_ D) n m f))(ht:l_ t=32)(S:NmS D (d::t) L g s id h)(hN:(Q0 D (d::t) s).length<=1000000)(hs:x.2.1.length<=24)
  (hl:rd h lst=rT (rF l)) (hx:l[j]?=A4 x) (hl5:l_ g+5<=lst) (aZ:lst≠id) (hj:l_ l<=7) :
  ∃ cP h',bS q m0 (M+1) (.c (.p r 0)) (.c (.p (l_ g) 0)) (.c (.m (l_ g+2))) (.c (.sl id 0 (Q0 D (d::t) s).length 1)) (.c (cI no)) x18 x19 x20 (.c (.sl lst 0 (l_ l) 3)) (.c (cI (l_ l:Nat))) (.c (cI (j:Int))) h =
   bS q m0 M (.c (.p r 0)) (.c (.p (l_ g) 0)) (.c (.m (l_ g+2))) (.c (.sl cP 0 (Q0 D (d::t) (s++[(no,x)])).length 1)) (.c (cI no)) x18 x19 x20 (.c (.sl lst 0 (l_ l) 3)) (.c (cI (l_ l:Nat))) (.c (cI ((j+1:Nat):Int))) h' /\
   NmS D (d::t) L g (s++[(no,x)]) cP h'/\rd h' lst=rT (rF l)/\lst≠cP:=by
 have hjl:j<(l_ l):=(E8p.1 hx).1;have c0:((j:Int)<(l_ l:Nat)):=by omega
 have ad:F0 3 (.c (.sl lst 0 (l_ l) 3)) (.c (cI (j:Int)))=A4 (.c (.p lst (j*3))):=by rw [E4 hjl];simp
 have hlen:=wD (l:=l);have l3:C9 h 3 (.c (.p lst (j*3)))=A4 (.a (slC (A4 x))):=by rw [S7 hl (by rw [hlen];omega) rfl,D29 hx]
 obtain ⟨k,nm,i⟩:=x;have w1:=E2 (a:=j) (by omega);obtain ⟨h1,e1⟩:=xEq (h++[rT (slC (A4 (k,nm,i)))]);have s3:F7 (h++[rT [o0,.s [],o0]]) 3 (.c (.p (l_ h) 0)) (.a (slC (A4 (k,nm,i))))=A4 h1:=by rw [I3,e1];rfl
 have S1:NmS D (d::t) L g s id h1:=e1 ▸ S.more _;have lX:C9 h1 33 (.c (.p (l_ g) 0))=A4 (.a (encI (d::t))):=C8 S1.rx (by simp [C1,ht]);have lN:B9 h1 (.c (.p (l_ h) 1))=A4 (.c (.s nm)):=by rw [e1,J0];rfl
 have hH:=D74 (n:=n) (m:=m) (f:=f) (r:=r) (d:=d) (t:=t) (nm:=nm) (h:=h1) hD (hv.since S1.low) (hw.since S1.low) ht (by dsimp only at hs;omega);obtain ⟨h2,e2⟩:=xEq (h1++[rT (C3n (R8 (d::t) nm) (hmS D (d::t) nm))]);have s4:F7 (h1++[rT [o0,o0,.s [],o0]]) 4 (.c (.p h1.length 0)) (.a (C3n (R8 (d::t) nm) (hmS D (d::t) nm)))=A4 h2:=by
  rw [I3,e2];cases hmS D (d::t) nm<;>rfl
 have S2:NmS D (d::t) L g s id h2:=e2 ▸ S1.more _;have lB:B9 h2 (.c (.p h1.length 0))=A4 (.c (cI (R8 (d::t) nm))):=by rw [e2,J0];rfl
 have lS:C9 h2 3 (.c (.p h1.length 1))=A4 (.a (slC (hmS D (d::t) nm))):=by rw [e2,H6];cases hmS D (d::t) nm<;>rfl
 have rp:rd h2 (l_ h)=rT (slC (A4 (k,nm,i))):=by rw [e2,e1];simp
 have lP:C9 h2 3 (.c (.p (l_ h) 0))=A4 (.a (slC (A4 (k,nm,i)))):=C8 rp rfl;have lP1:B9 h2 (.c (.p (l_ h) 1))=A4 (.c (.s nm)):=B8 rp rfl rfl;have lP2:B9 h2 (.c (.p (l_ h) 2))=A4 (.c (cI i)):=B8 rp rfl rfl;have rl2:rd h2 lst=rT (rF l):=by rw [e2,e1];exact B6 (B6 hl)
 have no1:atH D (d::t) (no,k,nm,i)=A6->NmS D (d::t) L g (s++[(no,k,nm,i)]) id h2/\(Q0 D (d::t) (s++[(no,k,nm,i)])).length=(Q0 D (d::t) s).length:=by
  intro hb;have en:Q0 D (d::t) (s++[(no,k,nm,i)])=Q0 D (d::t) s:=by rw [C4n,hb];simp
  exact ⟨{ S2 with rm:=by rw [en];exact S2.rm,rl:=by rw [en];exact S2.rl },by rw [en]⟩
 rw [kB];cases ho:hmS D (d::t) nm with
 | none =>
  obtain ⟨n1,n2⟩:=no1 (by unfold atH;simp only [ho];simp);refine ⟨id,h2,?_,n1,rl2,aZ⟩;rw [n2];rw [ho] at hH s4 lS;generalize encI (d::t)=X at *;simp only [esc,Nat.reduceAdd,c0,ad,l3,s3,lX,lN,hH,E9o,s4,cC,w1]
 | some p =>
  rw [ho] at hH s4 lS;have ea:=D8w (neg:=A6) p (k,nm,i);by_cases c1:R8 (d::t) nm=no
  ·rw [c1] at hH s4 lB;by_cases c2:p=(k,nm,i)
   ·have hb:atH D (d::t) (no,k,nm,i)=A5:=by unfold atH;simp only [ho,c1,c2];simp
    have en:Q0 D (d::t) (s++[(no,k,nm,i)])=Q0 D (d::t) s++[nm]:=by rw [C4n,C4 hb]
    have hin:B4Q D (d::t) nm=i:=by unfold B4Q;rw [ho,c2];rfl
    obtain ⟨es,r4,hm⟩:=S2.rm;have mp:=D8m (s:=nm) (x:=i) r4 hm;have hm':=hm.put nm;rw [hin] at hm';have lt2:=E1 r4;have idr:id≠(l_ g)+2:=by have:=S.idg;omega
    obtain ⟨h3,e3⟩:=xEq (h2.set (l_ g+2) (A4 (Q1 (A91 (.s nm) (.c (cI i)) es))));rw [<-e3] at mp;have hh:h2.length=l_ h+2:=by rw [e2,e1];simp
    have q1:B9 h3 (.c (.p (l_ h) 1))=A4 (.c (.s nm)):=B8 (by rw [e3,B7 (by have:=E1 hl;omega)];exact rp) rfl rfl;have ef:F6 [Cell.s []] [(0,1,.c (.s nm))]=A4 [.s nm]:=rfl;have ril:rd h3 id=rT (encS (Q0 D (d::t) s)):=by rw [e3,B7 (Ne.symm idr)];exact S2.rl
    obtain ⟨h4,b1,b2,b3,b4⟩:=B5j (n:=(Q0 D (d::t) s).length) (sz:=1) (ys:=[Cell.s nm]) ril (by rw [cO];omega) rfl (by omega) (by omega);have h3l:h3.length=l_ h+2:=by rw [e3];simp [hh]
    have gS:=E1 S.rs;have ea2:aeq A6 [.i .i64,.s,.i .i64] (.a (slC (A4 p))) (.a (slC (A4 (k,nm,i))))=A4 (.c (.b A5)):=by rw [ea,c2];simp
    refine ⟨h3.length+1,h4,?_,⟨?_,?_,⟨_,?_,by rw [en];exact hm'⟩,?_,?_,by omega⟩,?_,by have:=E1 hl;omega⟩
    ·rw [en,E8o];generalize encI (d::t)=X at *;simp only [esc,Nat.reduceAdd,c0,ad,l3,s3,lX,lN,hH,E87,s4,lB,eq_self,lS,lP,ea2,lP1,lP2,mp,q1,ef,b1,cC,w1]
    ·have l3':Low (l_ g) g h3:=by rw [e3];exact S2.low.set (by omega) _
     exact l3'.trans (b4 _ (by have:=S.idg;omega) (by omega))
    ·exact b3 _ _ (by have:=S.idg;omega) (by rw [e3,B7 (by omega)];exact S2.rx)
    ·exact b3 _ _ (Ne.symm idr) (by rw [e3];exact D3 lt2)
    ·exact b3 _ _ (by have:=S.idg;intro e;omega) (by rw [e3,B7 (by omega)];exact S2.rs)
    ·rw [en,show encS (Q0 D (d::t) s++[nm])=encS (Q0 D (d::t) s)++[Cell.s nm] by simp [encS]];exact b2
    ·exact b3 _ _ aZ (by rw [e3,B7 (by omega)];exact rl2)
   ·obtain ⟨n1,n2⟩:=no1 (by unfold atH;simp only [ho];simp [c2]);have ea2:aeq A6 [.i .i64,.s,.i .i64] (.a (slC (A4 p))) (.a (slC (A4 (k,nm,i))))=A4 (.c (.b A6)):=by rw [ea];simp [c2]
    refine ⟨id,h2,?_,n1,rl2,aZ⟩;rw [n2];generalize encI (d::t)=X at *;simp only [esc,Nat.reduceAdd,c0,ad,l3,s3,lX,lN,hH,E87,s4,lB,eq_self,lS,lP,ea2,cC,w1]
  ·obtain ⟨n1,n2⟩:=no1 (by unfold atH;simp only [ho];simp [c1]);refine ⟨id,h2,?_,n1,rl2,aZ⟩;rw [n2];generalize encI (d::t)=X at *;simp only [esc,Nat.reduceAdd,c0,ad,l3,s3,lX,lN,hH,E87,s4,lB,c1,cC,w1]
end
end Go.Proofs.YtbipebfdappanaaGreat
