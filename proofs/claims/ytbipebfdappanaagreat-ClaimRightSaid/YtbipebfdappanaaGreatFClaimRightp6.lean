/- What the proof of this claim leans on, part 6. -/
import Derived.Test.YtbipebfdappanaaGreatFClaimRightp5
set_option linter.all false
set_option maxRecDepth 100000
open Go Go.Esc
noncomputable section
open List renaming length→l_,all_cons→E62,all_eq_true→E6X,append_assoc→E6d,append_nil→E6k,cons_append→E6Y,drop_eq_getElem_cons→E6b,drop_of_length_le→E6f,drop_zero→E6i,ext_getElem?→E7b,filter_append→E66,filter_cons_of_neg→E6V,filter_cons_of_pos→E6W,foldl_cons→E64,getD_eq_getElem?_getD→E54,getElem?_append_right→E6r,getElem?_cons_succ→E6o,getElem?_cons_zero→E6K,getElem?_eq_getElem→E51,getElem?_eq_none→E6u,getElem?_set→E63,getElem?_set_ne→E60,getElem?_take_of_lt→E6L,getElem_mem→E6w,length_append→E58,length_cons→E6g,length_filter_le→E6R,length_nil→E6E,length_replicate→E6y,length_set→E6F,length_take→E6A,map_append→E6Q,map_cons→E6N,mem_append_left→E6C,mem_append_right→E6B,mem_cons_of_mem→E59,mem_cons_self→E6e,mem_of_getElem?→E6n,nil_append→E6s,range→E6z,range'→E6v,replicate→E55,take_of_length_le→E6l,take_zero→E6S
open Bool renaming and_eq_true→E53,false_and→E6p,false_or→E6U,not_eq_true'→E6M,true_and→E6t,true_or→E6P,false→A6,true→A5
open Int renaming eq_ofNat_of_zero_le→E61,toNat_natCast→E6q
open IntKind renaming wrap→E6a
open Nat renaming add_zero→E7a,le_refl→E56,le_trans→E6J,mul_one→E69,sub_self→E67,zero_add→E6j
open Option renaming map_some→E6I,none→A7,some→A4
open Go.Proofs.Tryz renaming prog→A8
namespace Go.Proofs.YtbipebfdappanaaGreat
variable {q pp p e:Nat}{h:A9}{c:Cl}{L d l:List Int}{D:Dev}{a n i k x no:Int}{v:Val}{f:Nat->Int}
section
variable {D:Dev} {n a:Int}
def noV(D:Dev)(n a:Int):Int:=(drV D n a).getD 0 0
def dpV(D:Dev)(n a:Int):Int:=getD (blk D (noV D n a))
def toV(D:Dev)(n a:Int):List Int:=O0 (blk D (noV D n a)) 32
def bkV(D:Dev)(n a:Int):List Int:=J4 (toV D n a) (C5 (dpV D n a))
structure Stp(D:Dev)(n a:Int)(c c':Cl)(O:List Int)(L:List Ent):Prop where
 kept:J5 D n c O=O
 taken:∀ j:Nat,c'.taken.getD j A5=A5↔c.taken.getD j A5=A5\/(j:Int)∈O
 told:Told D n a L c c'
 lost:c'.lost=c.lost
 put:∀ q∈gZ c',q∈gZ c\/blk D q.1=q.2
 own:qI D n (kdV D n a) (drV D n a)=O
 list:gQ D n (kdV D n a) (drV D n a)=L
structure DirS(D:Dev)(n a:Int):Prop where
 good:Q6 (blk D (noV D n a))=A5
 d0:0<=dpV D n a
 d5:dpV D n a<=5
 fair:Fair (dpV D n a) (toV D n a)
 at_:∀ b∈bkV D n a,∀ s∈J1 (blk D b),atH D (dpV D n a::toV D n a) (b,s)=A5
 clr:∀ b∈bkV D n a,clB (blk D b) (λ_=>A5)=blk D b
structure DirB(D:Dev)(n:Int)(c:Cl)(a:Int):Prop where
 s:DirS D n a
 kept:J5 D n c (noV D n a::bkV D n a)=noV D n a::bkV D n a
 seq:seqT D n a (S5 D (dpV D n a::toV D n a) (bkV D n a)) c
structure DirK(D:Dev)(n:Int)(c:Cl)(a:Int):Prop where
 kd:kdV D n a=2
 dr:drV D n a=noV D n a::zI 6
 body:noV D n a≠0->DirB D n c a
def D7x{X:List Int}{e:Ent}(hz:∀ no∈L,no≠0)(he:e∈S5 D X L):R6 X e.1∈L/\∃ y,hmS D X e.1=A4 y/\y∈J1 (blk D (R6 X e.1))/\y.2=e:=by
 have hv:=C9q he;have hn:e.1∈P5 D X (xI D L):=by
  unfold S5 at he;obtain ⟨s,hs,rfl⟩:=List.mem_map.1 he;exact (dT _ _).1 hs
 obtain ⟨h1,h2⟩:=(oN hz).1 hn;refine ⟨h1,?_⟩;cases hm:hmS D X e.1 with
 | none=>rw [hm] at h2;cases h2
 | some y =>
  obtain ⟨_,r2,r3,_⟩:=B82 hm;refine ⟨y,rfl,r2,?_⟩;unfold B3G at hv;rw [hm] at hv;exact Prod.ext r3 hv.symm
def D7E{X:List Int}{b:Int}{s:Slt}(hz:∀ no∈L,no≠0)(hb:b∈L)(ha:atH D X (b,s)=A5):s.2∈S5 D X L:=by
 obtain ⟨h1,h2⟩:=B4w.1 ha;unfold S5;refine List.mem_map.2 ⟨s.2.1,?_,?_⟩
 ·rw [dT,oN hz,h1,h2];exact ⟨hb,rfl⟩
 ·unfold B3G;rw [h2];rfl
def E1s(hbm:c.blocks.length=c.made.length)(h0:noV D n a≠0)(hd:(K4 D n c a).2=noV D n a)(hp:∀ q∈gZ (oB D n c a),blk D q.1=q.2):DirB D n c a:=by
 obtain ⟨k1,k2,k3,k4,k5⟩:=A8D (D:=D) (n:=n) (c:=c) (a:=a) (by rw [hd];exact h0);have e0:(drV D n a).getD 0 0=noV D n a:=rfl;rw [e0] at k2 k3 k4 k5;rw [A0s (by rw [hd];exact h0),hd] at hp;have eD:getD (blk D (noV D n a))=dpV D n a:=rfl;have eT:O0 (blk D (noV D n a)) 32=toV D n a:=rfl;rw [eD,eT] at hp;have hs:=uK (D:=D) (n:=n) (ino:=a) (c:=c);have hib:(V4 D n c a).blocks.length=(V4 D n c a).made.length:=by
  show (K4 D n c a).1.blocks.length=(K4 D n c a).1.made.length;rw [hs.blocks,hs.made];exact hbm
 have hit:(V4 D n c a).taken=(J7 D n c (noV D n a)).taken:=by
  show (K4 D n c a).1.taken=_;rw [k5]
 have hip:(V4 D n c a).par=c.par:=hs.par;obtain ⟨p1,p2⟩:=A8o (D:=D) (n:=n) (c:=V4 D n c a) (a:=a) (no:=noV D n a) (d:=dpV D n a) (t:=toV D n a) hib;rw [p1] at hp;obtain ⟨f0,f5,fF⟩:=B8Y (dpV D n a) (toV D n a);obtain ⟨fT,fA,_⟩:=B27 (D:=D) (n:=n) (c:=V4 D n c a) (d:=dpV D n a) (t:=toV D n a);obtain ⟨g1,g2⟩:=D2s f0 f5 fT;have Y3:=hp (_,_) (E6B _ (E6e ..));rw [g1] at Y3;have Y3:blk D (noV D n a)=oJ (O9 (dpV D n a) (toV D n a)) (G7 D n (V4 D n c a) (dpV D n a) (toV D n a)).2:=Y3;have hdd:dpV D n a=O9 (dpV D n a) (toV D n a):=by
  have:getD (blk D (noV D n a))=_:=(congrArg getD Y3).trans (C6a f0 f5);exact this
 have htt:toV D n a=(G7 D n (V4 D n c a) (dpV D n a) (toV D n a)).2:=by
  have:O0 (blk D (noV D n a)) 32=_:=(congrArg (λb=>O0 b 32) Y3).trans (C6c fT.len (C5X fT));exact this
 have d0:0<=dpV D n a:=by rw [hdd];exact f0
 have d5:dpV D n a<=5:=by rw [hdd];exact f5
 have fr:Fair (dpV D n a) (toV D n a):=by
  rw [<-hdd,<-htt] at fT;exact fT
 obtain ⟨x1,x2⟩:=C54 d0 d5 fr;have hL:bkV D n a=J4 (toV D n a) (C5 (dpV D n a)):=rfl;have hBB:G7 D n (V4 D n c a) (dpV D n a) (toV D n a)=V6 D n (V4 D n c a,toV D n a) (bkV D n a):=by
  unfold G7;rw [x1,x2,<-hL]
 have nz:∀ x∈bkV D n a,x≠0:=λx=>A1B
 obtain ⟨a1,a2⟩:=A8p (D:=D) (n:=n) (c:=V4 D n c a) (L:=bkV D n a) fr.len C39 nz;rw [<-hBB] at a1 a2;rw [<-htt] at a2;have hk:J5 D n (V4 D n c a) (bkV D n a)=bkV D n a:=by
  refine keptL_sub.eq_of_length (Nat.le_antisymm keptL_sub.length_le ?_);refine (C39 (t:=toV D n a) (n:=C5 (dpV D n a))).length_le_of_subset λx hx=>?_
  have hx':x∈bkV D n a:=hx;obtain ⟨j,_,hj⟩:=(B9p (nz x hx) _).1 hx;have:=a2.get j;rw [hj] at this;by_cases hq:x∈J5 D n (V4 D n c a) (bkV D n a)
  ·exact hq
  ·rw [if_neg (by simp [hx',hq])] at this;exact absurd this (nz x hx)
 have hk2:J5 D n c (noV D n a::bkV D n a)=noV D n a::bkV D n a:=by
  rw [dS];exact ⟨k4,by rw [<-A4S hit];exact hk⟩
 rw [<-hdd,<-htt,<-hL] at hp;obtain ⟨K,hK⟩:=xEq ((bodyT D n (V4 D n c a) a (dpV D n a) (toV D n a)).2);rw [<-hK] at hp;have hb:∀ b∈bkV D n a,blk D b=clB (blk D b) (U9 D (dpV D n a::toV D n a) b K):=λb hb =>
  hp (b,_) (E6B _ (E59 _ (List.mem_map.2 ⟨b,hb,rfl⟩)))
 have Y5:∀ b∈bkV D n a,∀ s∈J1 (blk D b),U9 D (dpV D n a::toV D n a) b K s=A5:=by
  intro b hb' s hs;have e:=D6d (b:=blk D b) (p:=U9 D (dpV D n a::toV D n a) b K);rw [<-hb b hb'] at e;rw [e] at hs;exact (List.mem_filter.1 hs).2
 have hat:∀ b∈bkV D n a,∀ s∈J1 (blk D b),atH D (dpV D n a::toV D n a) (b,s)=A5:=λb hb' s hs=>by
  have:=Y5 b hb' s hs;unfold U9 at this;rw [E53] at this;exact this.1
 refine ⟨⟨k2,d0,d5,fr,hat,λb hb'=>?_⟩,hk2,?_⟩
 ·have e:clB (blk D b) (λ_=>A5)=clB (blk D b) (U9 D (dpV D n a::toV D n a) b K):=C1f λy hy=>(Y5 b hb' y hy).symm
  rw [e];exact (hb b hb').symm
 ·have eT2:bodyT D n (V4 D n c a) a (dpV D n a) (toV D n a)=O3 D n a ((G7 D n (V4 D n c a) (dpV D n a) (toV D n a)).1,λ_=>A7) (S5 D (dpV D n a::toV D n a) (bkV D n a)):=by
   unfold bodyT;rw [<-hdd,<-htt,<-hL]
  rw [eT2] at hK;have hpar:(G7 D n (V4 D n c a) (dpV D n a) (toV D n a)).1.par=c.par:=by
   have hs2:=bC (D:=D) (n:=n) (L:=bkV D n a) (s:=(V4 D n c a,toV D n a));rw [hBB];exact hs2.par.trans hip
  refine B7v hpar.symm (D3B (K:=λ_=>A7) B3Z (λ_ _=>rfl) λe he hn=>?_);obtain ⟨m1,y,m2,m3,m4⟩:=D7x nz he;have hy:=Y5 _ m1 y m3;have hy2:=(A0z.1 hy).2;have h1:1<=y.2.2:=(B82 m2).2.2.2;rw [m4,hK,hn] at hy2;rw [m4] at h1;have:(0:Int)=e.2:=hy2;omega
def C7k{a:Int}:∀ {L:List Ent} {s:Cl × (List UInt8->Option Int)},(O3 D n a s L).1.lost=s.1.lost
 | [],_=>rfl
 | e::L,s=>by
  have h:=C7k (a:=a) (L:=L) (s:=J6 D n a s e);have h2:(J6 D n a s e).1.lost=s.1.lost:=by
   unfold J6 T4;cases Q7 D n s.1 e.2 with
   | false=>rfl
   | true =>
    show (bif (s.1.par e.2).isSome then A1V s.1 e.2 else C3Y (A1V s.1 e.2) a e.2).lost=_;cases (s.1.par e.2).isSome<;>rfl
  exact h.trans h2
def C5A{X:List Int}{K:List UInt8->Option Int}:∀ {L:List Int} {c:Cl},(∀ b∈L,∀ s∈J1 (blk D b),U9 D X b K s=A5)->(O6 D X K c L).lost=c.lost/\(O6 D X K c L).taken=c.taken/\(O6 D X K c L).lnk=c.lnk
 | [],_,_=>⟨rfl,rfl,rfl⟩
 | b::L,c,h=>by
  have key:∀ (l:List Slt) (s:Cl × List UInt8),(∀ x∈l,U9 D X b K x=A5)->(U7 D X b K s l).1=s.1:=by
   intro l
   induction l with
   | nil=>intro s _;rfl
   | cons x l ih =>
    intro s hx;show (U7 D X b K (eQ D X b K s x) l).1=s.1;rw [ih _ λy hy=>hx y (E59 _ hy)];unfold eQ;rw [hx x (E6e ..)];rfl
  have e:=key _ (c,dF []) (h b (E6e ..));obtain ⟨h1,h2,h3⟩:=C5A (X:=X) (K:=K) (c:=cU D X K c b) (L:=L) λb' hb'=>h b' (E59 _ hb')
  have e2:(cU D X K c b).lost=c.lost/\(cU D X K c b).taken=c.taken/\(cU D X K c b).lnk=c.lnk:=by
   unfold cU;show (U7 D X b K (c,dF []) _).1.lost=_/\(U7 D X b K (c,dF []) _).1.taken=_/\(U7 D X b K (c,dF []) _).1.lnk=_;rw [e];exact ⟨rfl,rfl,rfl⟩
  exact ⟨h1.trans e2.1,h2.trans e2.2.1,h3.trans e2.2.2⟩
def D6P{dr:List Int}(vA:Z0 D n k dr=A5)(hb:∀ b∈J4 (O0 (blk D (dr.getD 0 0)) 32) (C5 (getD (blk D (dr.getD 0 0)))),G5 (l_ D) n b=A5) :
  S7 D n k dr=J4 (O0 (blk D (dr.getD 0 0)) 32) (C5 (getD (blk D (dr.getD 0 0)))):=by
 unfold S7;rw [vA];exact List.filter_eq_self.2 hb
def D2a(hk:kdV D n a=2)(hg:Q6 (blk D (noV D n a))=A5)(hd:∀ x∈noV D n a::bkV D n a,G5 (l_ D) n x=A5) :
  Z0 D n (kdV D n a) (drV D n a)=A5/\tP D n (kdV D n a) (drV D n a)=dpV D n a::toV D n a/\S7 D n (kdV D n a) (drV D n a)=bkV D n a /\
  qI D n (kdV D n a) (drV D n a)=noV D n a::bkV D n a/\gQ D n (kdV D n a) (drV D n a)=S5 D (dpV D n a::toV D n a) (bkV D n a):=by
 have vA:Z0 D n (kdV D n a) (drV D n a)=A5:=by
  unfold Z0;have e0:(drV D n a).getD 0 0=noV D n a:=rfl;rw [hk,e0,hg,hd _ (E6e ..)];rfl
 have hX:tP D n (kdV D n a) (drV D n a)=dpV D n a::toV D n a:=by unfold tP;rw [vA];rfl
 have hB:S7 D n (kdV D n a) (drV D n a)=bkV D n a:=D6P vA λb hb=>hd b (E59 _ hb)
 refine ⟨vA,hX,hB,?_,D7y vA hX hB⟩;unfold qI;rw [if_pos hk,vA,if_pos rfl,hB];rfl
def D9h(hk:kdV D n a=2)(h0:noV D n a=0):Z0 D n (kdV D n a) (drV D n a)=A6/\qI D n (kdV D n a) (drV D n a)=[]/\gQ D n (kdV D n a) (drV D n a)=[]:=by
 have e0:(drV D n a).getD 0 0=noV D n a:=rfl;have vA:Z0 D n (kdV D n a) (drV D n a)=A6:=by
  unfold Z0;rw [e0,h0,bG];simp
 have hB:S7 D n (kdV D n a) (drV D n a)=[]:=by unfold S7;rw [vA];rfl
 refine ⟨vA,?_,?_⟩
 ·unfold qI;rw [if_pos hk,vA,if_neg (by decide),hB];rfl
 ·unfold gQ T3 qV;rw [hB];rfl
def D6X(hbm:c.blocks.length=c.made.length)(K:DirK D n c a) :
  (K4 D n c a).2=noV D n a/\∃ O L,Stp D n a c (oB D n c a) O L/\((noV D n a=0/\O=[]/\L=[])\/(noV D n a≠0/\O=noV D n a::bkV D n a/\L=S5 D (dpV D n a::toV D n a) (bkV D n a))):=by
 have hs:=uK (D:=D) (n:=n) (ino:=a) (c:=c);have e0:(drV D n a).getD 0 0=noV D n a:=rfl;by_cases h0:noV D n a=0
 ·have hp:(K4 D n c a).2=0:=by
   unfold K4;rw [e0,h0];cases (decide (kdV D n a=2)&&Q6 (blk D 0)) with
   | false=>rfl
   | true=>exact A8B.1
  refine ⟨by rw [hp,h0],[],[],?_,.inl ⟨h0,rfl,rfl⟩⟩;obtain ⟨_,o1,o2⟩:=D9h K.kd h0;rw [A3B hp];have hn:=C1j hp;have t1:(V4 D n c a).taken=c.taken:=by show (K4 D n c a).1.taken=_;rw [hn]
  have t2:(V4 D n c a).par=c.par:=hs.par;have t3:(V4 D n c a).lnk=c.lnk:=hs.lnk;have td:=C4m (D:=D) (n:=n) (a:=a) (L:=[]) (c:=c) (.nil _);refine ⟨rfl,λj=>by rw [t1];simp,⟨λx=>by rw [t2];exact td.par x,λx=>by rw [t3];exact td.lnk x,td.one,td.dir⟩,hs.lost,λq hq=>.inl ?_,o1,o2⟩;have:q∈(K4 D n c a).1.blocks.zip (K4 D n c a).1.made:=hq;rw [hs.blocks,hs.made] at this;exact this
 ·obtain ⟨⟨good,d0,d5,fair,hat,clr⟩,kept,seq⟩:=K.body h0;obtain ⟨k4,kL⟩:=dS.1 kept;have B5m:∀ x∈noV D n a::bkV D n a,G5 (l_ D) n x=A5:=λx hx=>((A8X.1 kept).2 x hx).1
  obtain ⟨_,_,_,o1,o2⟩:=D2a K.kd good B5m;have hP:K4 D n c a=(J7 D n c (noV D n a),noV D n a):=by
   unfold K4;rw [e0,K.kd,good];show (J7 D n c (noV D n a),K3 D n c (noV D n a))=_;rw [xS k4]
  have hp2:(K4 D n c a).2=noV D n a:=by rw [hP]
  refine ⟨hp2,noV D n a::bkV D n a,S5 D (dpV D n a::toV D n a) (bkV D n a),?_,.inr ⟨h0,rfl,rfl⟩⟩;have hib:(V4 D n c a).blocks.length=(V4 D n c a).made.length:=by
   show (K4 D n c a).1.blocks.length=(K4 D n c a).1.made.length;rw [hs.blocks,hs.made];exact hbm
  have hit:(V4 D n c a).taken=(J7 D n c (noV D n a)).taken:=by show (K4 D n c a).1.taken=_;rw [hP]
  obtain ⟨x1,x2⟩:=C54 d0 d5 fair;have hL:bkV D n a=J4 (toV D n a) (C5 (dpV D n a)):=rfl;have nz:∀ x∈bkV D n a,x≠0:=λx=>A1B
  have hBB:G7 D n (V4 D n c a) (dpV D n a) (toV D n a)=(cE D n (V4 D n c a) (bkV D n a),toV D n a):=by
   unfold G7;rw [x1,x2,<-hL];exact A57 nz (by rw [A4S hit];exact kL)
  obtain ⟨B,hB⟩:=xEq (cE D n (V4 D n c a) (bkV D n a));rw [<-hB] at hBB;have hsB:SameC (V4 D n c a) B:=by
   have:=bC (D:=D) (n:=n) (L:=bkV D n a) (s:=(V4 D n c a,toV D n a));rw [A57 nz (by rw [A4S hit];exact kL),<-hB] at this;exact this
  have eT2:bodyT D n (V4 D n c a) a (dpV D n a) (toV D n a)=O3 D n a (B,λ_=>A7) (S5 D (dpV D n a::toV D n a) (bkV D n a)):=by
   unfold bodyT;rw [hBB,x1,<-hL]
  have hpar:B.par=c.par:=hsB.par.trans hs.par;have E5k:B.lnk=c.lnk:=hsB.lnk.trans hs.lnk;have seqB:=B7v hpar seq;obtain ⟨T,hT⟩:=xEq (O3 D n a (B,λ_=>A7) (S5 D (dpV D n a::toV D n a) (bkV D n a)));rw [<-hT] at eT2;have hT1:T.1=C9P D n a B (S5 D (dpV D n a::toV D n a) (bkV D n a)):=by rw [hT];exact C9X seqB
  have hT2:∀ e∈S5 D (dpV D n a::toV D n a) (bkV D n a),T.2 e.1=A4 e.2:=by rw [hT];exact C9R B3Z seqB
  have tB:=C4m seqB;rw [<-hT1] at tB;have Y5:∀ b∈bkV D n a,∀ s∈J1 (blk D b),U9 D (dpV D n a::toV D n a) b T.2 s=A5:=by
   intro b hb s hs';have h1:=hat b hb s hs';have h2:=hT2 _ (D7E nz hb h1);unfold U9;rw [h1,h2];simp
  have hC:oB D n c a=aX D n (V4 D n c a) a (noV D n a) (dpV D n a) (toV D n a):=by
   rw [A0s (by rw [hp2];exact h0),hp2];rfl
  have hbl:B.blocks.length=B.made.length:=by rw [hsB.blocks,hsB.made];exact hib
  have C79:=(A8o (D:=D) (n:=n) (c:=V4 D n c a) (a:=a) (no:=noV D n a) (d:=dpV D n a) (t:=toV D n a) hib).1;rw [<-hC,hBB,eT2,x1,<-hL] at C79;have A8Q:oB D n c a=O6 D (dpV D n a::toV D n a) T.2 (dG T.1 (noV D n a) (bif okX (dpV D n a) (toV D n a) then oJ (dpV D n a) (toV D n a) else zeros 256)) (bkV D n a):=by
   rw [hC];unfold aX;rw [hBB,eT2,x1,<-hL]
  obtain ⟨c1,c2,c3⟩:=C5A (X:=dpV D n a::toV D n a) (K:=T.2) (c:=dG T.1 (noV D n a) (bif okX (dpV D n a) (toV D n a) then oJ (dpV D n a) (toV D n a) else zeros 256)) (L:=bkV D n a) Y5;rw [<-A8Q] at c1 c2 c3;have c4:(oB D n c a).par=T.1.par:=by rw [A8Q];exact nY.2
  have eTt:T.1.taken=B.taken:=by rw [hT];exact B4h
  refine ⟨kept,λj=>?_,⟨λx=>?_,λx=>?_,tB.one,λe he hk=>?_⟩,?_,λq hq=>?_,o1,o2⟩
  ·rw [c2];show T.1.taken.getD j A5=A5↔_;rw [eTt,hB,<-B7c kept j];have:(cE D n (V4 D n c a) (bkV D n a)).taken=(cE D n c (noV D n a::bkV D n a)).taken:=D0p hit;rw [this]
  ·rw [c4,tB.par,hpar]
  ·rw [c3];show (T.1.lnk x).getD 0=_;rw [tB.lnk,E5k]
  ·have:=tB.dir e he hk;rw [hpar] at this;exact this
  ·rw [c1];show T.1.lost=_;have:T.1.lost=B.lost:=by rw [hT];exact C7k
   rw [this,hsB.lost];show (K4 D n c a).1.lost=_;exact hs.lost
  ·rw [C79] at hq;rcases List.mem_append.1 hq with h | h
   ·left
    have:q∈(K4 D n c a).1.blocks.zip (K4 D n c a).1.made:=h;rw [hs.blocks,hs.made] at this;exact this
   ·right
    rcases List.mem_cons.1 h with rfl | h
    ·unfold Q6 at good;rw [E53,E53] at good;have g1:okX (dpV D n a) (toV D n a)=A5:=good.1;have g2:oJ (dpV D n a) (toV D n a)=blk D (noV D n a):=of_decide_eq_true good.2.1;show blk D (noV D n a)=bif okX (dpV D n a) (toV D n a) then oJ (dpV D n a) (toV D n a) else zeros 256
     rw [g1,g2];rfl
    ·obtain ⟨b,hb,rfl⟩:=List.mem_map.1 h;show blk D b=clB (blk D b) (U9 D (dpV D n a::toV D n a) b T.2);have:clB (blk D b) (U9 D (dpV D n a::toV D n a) b T.2)=clB (blk D b) (λ_=>A5):=C1f λy hy=>Y5 b hb y hy
     rw [this,clr b hb]
end
def nzL(L:List Int):List Int:=L.filter λx=>!decide (x=0)
def E1T{M:List Int}:nzL (L++M)=nzL L++nzL M:=by unfold nzL;rw [E66]
def B9D:nzL ((0:Int)::L)=nzL L:=by unfold nzL;rw [E6V (by simp)]
def A4V(h:x≠0):nzL (x::L)=x::nzL L:=by unfold nzL;rw [E6W (by simpa using h)]
def C6R(h:∀ x∈L,x=0):nzL L=[]:=by
 unfold nzL;exact List.filter_eq_nil_iff.2 λx hx=>by simpa using h x hx
def W3(f:Nat->Int)(k e:Nat):List Int:=nzL ((E6v k e).map f)
def A0C{k:Nat}:W3 f k (e+1)=if f k=0 then W3 f (k+1) e else f k::W3 f (k+1) e:=by
 unfold W3;rw [List.range'_succ,E6N];by_cases h:f k=0
 ·rw [h,B9D,if_pos rfl]
 ·rw [A4V h,if_neg h]
def D2Y{m:Nat}(hm:m<=e)(h:∀ j,m<=j->j<e->f j=0):W3 f 0 e=W3 f 0 m:=by
 have:E6v 0 e=E6v 0 m++E6v m (e-m):=by
  rw [show e=m+(e-m) by omega,<-List.range'_append];simp
 unfold W3;rw [this,E6Q,E1T];rw [C6R (L:=(E6v m (e-m)).map f),E6k];intro x hx;obtain ⟨j,hj,rfl⟩:=List.mem_map.1 hx;rw [List.mem_range'_1] at hj;exact h j hj.1 (by omega)
def B7p{g:Nat->Int}{k:Nat}(h:∀ j,k<=j->j<k+e->f j=g j):W3 f k e=W3 g k e:=by
 unfold W3
 congr 1
 exact List.map_congr_left λj hj=>by
  rw [List.mem_range'_1] at hj;exact h j hj.1 hj.2
def B9w{k:Nat}:x∈W3 f k e↔x≠0/\∃ j,k<=j/\j<k+e/\f j=x:=by
 unfold W3 nzL;rw [List.mem_filter,List.mem_map];simp only [List.mem_range'_1,E6M,decide_eq_false_iff_not];constructor
 ·rintro ⟨⟨j,hj,h⟩,h0⟩;exact ⟨h0,j,hj.1,hj.2,h⟩
 ·rintro ⟨h0,j,h1,h2,h⟩;exact ⟨⟨j,⟨h1,h2⟩,h⟩,h0⟩
def C6L{f:Nat->Int}{s:Nat}:∀ {e k:Nat},W3 f (s+k) e=W3 (λj=>f (s+j)) k e
 | 0,_=>rfl
 | e+1,k=>by
  rw [A0C,A0C,show s+k+1=s+(k+1) by omega,C6L]
def C1k{at':Int->Int}{f:Nat->Int}:∀ {e k:Nat},(∀ j,k<=j->j<k+e->at' (j:Int)=f j)->(bK at' e k).map (·.2)=W3 f k e
 | 0,_,_=>rfl
 | e+1,k,h=>by
  have h0:=h k (E56 _) (by omega);have ih:=C1k (at':=at') (f:=f) (e:=e) (k:=k+1) λj h1 h2=>h j (by omega) (by omega)
  rw [A0C,bK,h0];by_cases c:f k=0
  ·rw [if_pos c,if_pos c,ih]
  ·rw [if_neg c,if_neg c,E6N,ih]
section
variable {D:Dev} {n a:Int}
def B4B:cE D n c (x::L)=cE D n (J7 D n c x) L:=rfl
def D13{M:List Int}:cE D n c (L++M)=cE D n (cE D n c L) M:=by unfold cE;rw [List.foldl_append]
def B8Q:J7 D n c 0=c:=A8B.2
def C5M{d:List Int}:∀ {e k:Nat} {s:Cl × List Int},k+e<=s.2.length->(∀ j,k<=j->j<k+e->(dD D n d e k s).2.getD j 0=d.getD j 0) ->
  (dD D n d e k s).1=cE D n s.1 (W3 (λj=>d.getD j 0) k e)/\J5 D n s.1 (W3 (λj=>d.getD j 0) k e)=W3 (λj=>d.getD j 0) k e
 | 0,_,_,_,_=>⟨rfl,rfl⟩
 | e+1,k,s,hl,h=>by
  have e1:(dD D n d (e+1) k s).2.getD k 0=K3 D n s.1 (d.getD k 0):=by
   show (dD D n d e (k+1) (J7 D n s.1 (d.getD k 0),s.2.set k (K3 D n s.1 (d.getD k 0)))).2.getD k 0=_;rw [fP (by omega)];show (s.2.set k _).getD k 0=_;rw [E54,E63,if_pos rfl,if_pos (by omega)];rfl
  have h0:=h k (E56 _) (by omega);rw [e1] at h0;obtain ⟨i1,i2⟩:=C5M (d:=d) (e:=e) (k:=k+1) (s:=(J7 D n s.1 (d.getD k 0),s.2.set k (K3 D n s.1 (d.getD k 0)))) (by show k+1+e<=(s.2.set k _).length;rw [E6F];omega) (λj h1 h2=>h j (by omega) (by omega));have i1:(dD D n d (e+1) k s).1=cE D n (J7 D n s.1 (d.getD k 0)) (W3 (λj=>d.getD j 0) (k+1) e):=i1;have i2:J5 D n (J7 D n s.1 (d.getD k 0)) (W3 (λj=>d.getD j 0) (k+1) e)=W3 (λj=>d.getD j 0) (k+1) e:=i2;rw [A0C];by_cases c:d.getD k 0=0
  ·rw [if_pos c];rw [c,B8Q] at i1 i2;exact ⟨i1,i2⟩
  ·rw [if_neg c,B4B,dS];exact ⟨i1,(B4C (by rw [h0];exact c)).2,i2⟩
def D18{d:List Int}:∀ {e k:Nat} {s:Cl × List Int},k+e<=s.2.length->J5 D n s.1 (W3 (λj=>d.getD j 0) k e)=W3 (λj=>d.getD j 0) k e ->
  (dD D n d e k s).1=cE D n s.1 (W3 (λj=>d.getD j 0) k e)/\∀ j,k<=j->j<k+e->(dD D n d e k s).2.getD j 0=d.getD j 0
 | 0,_,_,_,_=>⟨rfl,λj h1 h2=>by omega⟩
 | e+1,k,s,hl,h=>by
  have e1:(dD D n d (e+1) k s).2.getD k 0=K3 D n s.1 (d.getD k 0):=by
   show (dD D n d e (k+1) (J7 D n s.1 (d.getD k 0),s.2.set k (K3 D n s.1 (d.getD k 0)))).2.getD k 0=_;rw [fP (by omega)];show (s.2.set k _).getD k 0=_;rw [E54,E63,if_pos rfl,if_pos (by omega)];rfl
  rw [A0C] at h ⊢;have key:K3 D n s.1 (d.getD k 0)=d.getD k 0/\J5 D n (J7 D n s.1 (d.getD k 0)) (W3 (λj=>d.getD j 0) (k+1) e)=W3 (λj=>d.getD j 0) (k+1) e:=by
   by_cases c:d.getD k 0=0
   ·rw [if_pos c] at h;rw [c,B8Q];exact ⟨A8B.1,h⟩
   ·rw [if_neg c,dS] at h;exact ⟨xS h.1,h.2⟩
  obtain ⟨i1,i2⟩:=D18 (d:=d) (e:=e) (k:=k+1) (s:=(J7 D n s.1 (d.getD k 0),s.2.set k (K3 D n s.1 (d.getD k 0)))) (by show k+1+e<=(s.2.set k _).length;rw [E6F];omega) key.2;refine ⟨?_,λj h1 h2=>?_⟩
  ·have i1:(dD D n d (e+1) k s).1=cE D n (J7 D n s.1 (d.getD k 0)) (W3 (λj=>d.getD j 0) (k+1) e):=i1;rw [i1];by_cases c:d.getD k 0=0
   ·rw [if_pos c,c,B8Q]
   ·rw [if_neg c,B4B]
  ·by_cases c:j=k
   ·subst c;rw [e1,key.1]
   ·exact i2 j (by omega) (by omega)
def B3u{many:Int}{b:List UInt8}(hb:l_ b=256):∀ {e k:Nat} {c:Cl},k+e<=128->(∀ j,k<=j->j<k+e->ptP (L9 D n many e k (c,b)).2 j=ptP b j) ->
  (L9 D n many e k (c,b)).1=cE D n c (W3 (ptP b) k e)/\J5 D n c (W3 (ptP b) k e)=W3 (ptP b) k e/\∀ j,k<=j->j<k+e->ptP b j≠0->(j:Int)+6<many
 | 0,_,_,_,_=>⟨rfl,rfl,λj h1 h2=>by omega⟩
 | e+1,k,c,hl,h=>by
  have hf:ptP (L9 D n many (e+1) k (c,b)).2 k=if ptP b k≠0/\(k:Int)+6<many/\K3 D n c (ptP b k)≠0 then ptP b k else 0:=by
   show ptP (L9 D n many e (k+1) (R5 D n many (c,b) k)).2 k=_;rw [A6e (by omega) (by rw [A3D];exact hb;omega) (by omega) (.inl (by omega)),B80 hb (by omega) (by omega),if_pos rfl]
  have h0:=h k (E56 _) (by omega);rw [hf] at h0;rw [A0C];by_cases z:ptP b k=0
  ·have e1:R5 D n many (c,b) k=(c,b):=by unfold R5;rw [if_pos z]
   have e2:L9 D n many (e+1) k (c,b)=L9 D n many e (k+1) (c,b):=by
    show L9 D n many e (k+1) (R5 D n many (c,b) k)=_;rw [e1]
   rw [e2] at h ⊢;obtain ⟨i1,i2,i3⟩:=B3u hb (e:=e) (k:=k+1) (c:=c) (by omega) λj h1 h2=>h j (by omega) (by omega)
   rw [if_pos z];refine ⟨i1,i2,λj h1 h2 h3=>?_⟩;by_cases c1:j=k
   ·subst c1;exact absurd z h3
   ·exact i3 j (by omega) (by omega) h3
  ·by_cases hc:ptP b k≠0/\(k:Int)+6<many/\K3 D n c (ptP b k)≠0
   ·have e1:R5 D n many (c,b) k=(J7 D n c (ptP b k),b):=by
     unfold R5;rw [if_neg z,if_pos hc.2.1,decide_eq_true hc.2.1,decide_eq_false hc.2.2];rfl
    have e2:L9 D n many (e+1) k (c,b)=L9 D n many e (k+1) (J7 D n c (ptP b k),b):=by
     show L9 D n many e (k+1) (R5 D n many (c,b) k)=_;rw [e1]
    rw [e2] at h ⊢;obtain ⟨i1,i2,i3⟩:=B3u hb (e:=e) (k:=k+1) (c:=J7 D n c (ptP b k)) (by omega) λj h1 h2=>h j (by omega) (by omega)
    rw [if_neg z,B4B,dS];refine ⟨i1,⟨(B4C hc.2.2).2,i2⟩,λj h1 h2 h3=>?_⟩;by_cases c1:j=k
    ·subst c1;exact hc.2.1
    ·exact i3 j (by omega) (by omega) h3
   ·rw [if_neg hc] at h0;exact absurd h0.symm z
def C1n{many:Int}{b:List UInt8}:∀ {e k:Nat} {c:Cl},J5 D n c (W3 (ptP b) k e)=W3 (ptP b) k e->(∀ j,k<=j->j<k+e->ptP b j≠0->(j:Int)+6<many) ->
  L9 D n many e k (c,b)=(cE D n c (W3 (ptP b) k e),b)
 | 0,_,_,_,_=>rfl
 | e+1,k,c,h,hm=>by
  rw [A0C] at h ⊢;show L9 D n many e (k+1) (R5 D n many (c,b) k)=_;by_cases z:ptP b k=0
  ·have e1:R5 D n many (c,b) k=(c,b):=by unfold R5;rw [if_pos z]
   rw [if_pos z] at h ⊢;rw [e1,C1n h λj h1 h2=>hm j (by omega) (by omega)]
  ·rw [if_neg z,dS] at h;have hk:=hm k (E56 _) (by omega) z;have e1:R5 D n many (c,b) k=(J7 D n c (ptP b k),b):=by
    unfold R5;have:K3 D n c (ptP b k)≠0:=by rw [xS h.1];exact z
    rw [if_neg z,if_pos hk,decide_eq_true hk,decide_eq_false this];rfl
   rw [e1,if_neg z,B4B,C1n h.2 λj h1 h2=>hm j (by omega) (by omega)]
def X6(D:Dev)(n a:Int):Int:=(drV D n a).getD 6 0
def A3p(D:Dev)(n a:Int)(j:Nat):Int:=if X6 D n a=0 then 0 else ptP (blk D (X6 D n a)) j
def flV(D:Dev)(n a:Int):List Int:=W3 (λj=>(drV D n a).getD j 0) 0 6++nzL [X6 D n a]++W3 (A3p D n a) 0 128
structure FilS(D:Dev)(n a:Int):Prop where
 num:∀ j:Nat,j<6->(drV D n a).getD j 0≠0->(j:Int)<T5 (szV D n a)
 ind:X6 D n a≠0->6<T5 (szV D n a)
 pts:∀ j:Nat,j<128->A3p D n a j≠0->(j:Int)+6<T5 (szV D n a)
def D5X(h1:∀ j:Nat,j<6->(H9 D n c a).2.getD j 0=(drV D n a).getD j 0)(h6:(H9 D n c a).2.getD 6 0=X6 D n a) :
  (∀ j:Nat,j<6->(drV D n a).getD j 0≠0->(j:Int)<T5 (szV D n a))/\(X6 D n a≠0->6<T5 (szV D n a)) /\
  (H9 D n c a).1=cE D n c (W3 (λj=>(drV D n a).getD j 0) 0 6++nzL [X6 D n a])/\J5 D n c (W3 (λj=>(drV D n a).getD j 0) 0 6++nzL [X6 D n a])=W3 (λj=>(drV D n a).getD j 0) 0 6++nzL [X6 D n a]:=by
 rw [A4H] at h1 h6 ⊢;obtain ⟨m,hm⟩:=xEq ((min (T5 (szV D n a)) 6).toNat);have m6:m<=6:=by omega
 unfold A2F at h1 h6 ⊢;rw [<-hm] at h1 h6 ⊢;obtain ⟨s,hs⟩:=xEq (dD D n (drV D n a) m 0 (c,zI 7));have sl:s.2.length=7:=by rw [hs,A0t.2];simp [zI]
 have eI:∀ j,j<6->(A1R D n (drV D n a) (T5 (szV D n a)) s).2.getD j 0=s.2.getD j 0:=by
  intro j hj;unfold A1R;split
  ·show (s.2.set 6 _).getD j 0=_;rw [E54,E60 (by omega),<-E54]
  ·rfl
 rw [<-hs] at h1 h6 ⊢;have h1':∀ j,j<6->s.2.getD j 0=(drV D n a).getD j 0:=λj hj=>(eI j hj).symm.trans (h1 j hj)
 have hz:∀ j,m<=j->j<6->(drV D n a).getD j 0=0:=by
  intro j h2 h3;rw [<-h1' j h3,hs,fP (by omega)];show (zI 7).getD j 0=0;unfold zI;rw [E54,List.getElem?_replicate];split<;>rfl
 obtain ⟨k1,k2⟩:=C5M (D:=D) (n:=n) (d:=drV D n a) (e:=m) (k:=0) (s:=(c,zI 7)) (by simp [zI];omega) λj _ h2=>by rw [<-hs];exact h1' j (by omega)
 rw [<-hs] at k1;have e6:=D2Y (f:=λj=>(drV D n a).getD j 0) m6 hz;rw [e6];have k1:s.1=cE D n c (W3 (λj=>(drV D n a).getD j 0) 0 m):=k1;have k2:J5 D n c (W3 (λj=>(drV D n a).getD j 0) 0 m)=W3 (λj=>(drV D n a).getD j 0) 0 m:=k2;have ei:(drV D n a).getD 6 0=X6 D n a:=rfl;refine ⟨λj hj h0=>?_,λh0=>?_,?_⟩
 ·rcases Nat.lt_or_ge j m with h | h
  ·omega
  ·exact absurd (hz j h hj) h0
 ·by_cases h:6<T5 (szV D n a)
  ·exact h
  ·exfalso;unfold A1R at h6;rw [if_neg h,hs,fP (by omega)] at h6;exact h0 h6.symm
 ·unfold A1R at h6 ⊢;by_cases h:6<T5 (szV D n a)
  ·rw [if_pos h] at h6 ⊢;have h6:(s.2.set 6 (K3 D n s.1 ((drV D n a).getD 6 0))).getD 6 0=X6 D n a:=h6;rw [E54,E63,if_pos rfl,if_pos (by omega),ei] at h6;have h6:K3 D n s.1 (X6 D n a)=X6 D n a:=h6;show J7 D n s.1 ((drV D n a).getD 6 0)=_/\_;rw [ei,B3U (c:=c),D13,<-k1];by_cases z:X6 D n a=0
   ·rw [z,B9D,B8Q];exact ⟨rfl,k2,rfl⟩
   ·rw [A4V z];refine ⟨rfl,k2,?_⟩;exact dS.2 ⟨(B4C (by rw [h6];exact z)).2,rfl⟩
  ·rw [if_neg h] at h6 ⊢;have z:X6 D n a=0:=by
    rw [hs,fP (by omega)] at h6;exact h6.symm
   rw [z,B9D];show s.1=cE D n c (_++[])/\J5 D n c (_++[])=_++[];rw [E6k];exact ⟨k1,k2⟩
def D9p(hD:okD D)(hd:(H9 D n c a).2=drV D n a)(hp:X6 D n a≠0->(L9 D n (T5 (szV D n a)) 128 0 (L8 D n c a,blk D (X6 D n a))).2=blk D (X6 D n a)) :
  FilS D n a/\J5 D n c (flV D n a)=flV D n a:=by
 obtain ⟨s1,s2,s3,s4⟩:=D5X (D:=D) (n:=n) (a:=a) (c:=c) (λj _=>by rw [hd]) (by rw [hd];rfl);have ht:(L8 D n c a).taken=(cE D n c (W3 (λj=>(drV D n a).getD j 0) 0 6++nzL [X6 D n a])).taken:=by
  show (H9 D n c a).1.taken=_;rw [s3]
 unfold flV;rw [B3U (c:=c)];by_cases z:X6 D n a=0
 ·have e:W3 (A3p D n a) 0 128=[]:=by
   unfold W3;exact C6R λx hx=>by
    obtain ⟨j,_,rfl⟩:=List.mem_map.1 hx;unfold A3p;rw [if_pos z]
  refine ⟨⟨s1,s2,λj _ h=>?_⟩,s4,by rw [e];rfl⟩;unfold A3p at h;rw [if_pos z] at h;exact absurd rfl h
 ·obtain ⟨f1,f2,f3⟩:=B3u (D:=D) (n:=n) (many:=T5 (szV D n a)) (b:=blk D (X6 D n a)) (J9 hD) (e:=128) (k:=0) (c:=L8 D n c a) (by omega) λj _ _=>by rw [hp z]
  have e:W3 (A3p D n a) 0 128=W3 (ptP (blk D (X6 D n a))) 0 128:=B7p λj _ _=>by unfold A3p;rw [if_neg z]
  refine ⟨⟨s1,s2,λj hj h=>?_⟩,s4,?_⟩
  ·unfold A3p at h;rw [if_neg z] at h;exact f3 j (by omega) (by omega) h
  ·rw [e,<-A4S ht];exact f2
def D67(hk:kdV D n a=1)(hd:∀ x∈flV D n a,G5 (l_ D) n x=A5):qI D n (kdV D n a) (drV D n a)=flV D n a/\gQ D n (kdV D n a) (drV D n a)=[]:=by
 constructor
 ·rw [hk];have n12:¬ (1:Int)=2:=by decide
  unfold qI;rw [if_neg n12];have ei:(drV D n a).getD 6 0=X6 D n a:=rfl;have eI:(if (1:Int)=1/\G5 (l_ D) n ((drV D n a).getD 6 0)=A5 then [(drV D n a).getD 6 0] else [])=nzL [X6 D n a]:=by
   rw [ei];by_cases z:X6 D n a=0
   ·rw [z,B9D,if_neg (by rw [bG];simp)];rfl
   ·rw [A4V z,if_pos ⟨rfl,hd _ (E6C _ (E6B _ (by rw [A4V z];exact E6e ..)))⟩];rfl
  have e1:(bK (atF D n 1 (drV D n a)) 6 0).map (·.2)=W3 (λj=>(drV D n a).getD j 0) 0 6:=by
   refine C1k λj _ hj=>?_
   unfold atF uJ D1b;rw [if_pos ⟨rfl,by omega,by omega⟩,E6q,if_pos (by omega)];by_cases z:(drV D n a).getD j 0=0
   ·rw [z,bG];rfl
   ·rw [hd _ (E6C _ (E6C _ (B9w.2 ⟨z,j,by omega,by omega,rfl⟩)))];rfl
  have e2:(bK (atF D n 1 (drV D n a)) 128 6).map (·.2)=W3 (A3p D n a) 0 128:=by
   have:=C6L (f:=λj=>A3p D n a (j-6)) (s:=6) (e:=128) (k:=0);have h2:W3 (λj=>A3p D n a (6+j-6)) 0 128=W3 (A3p D n a) 0 128:=B7p λj _ _=>by rw [Nat.add_sub_cancel_left]
   rw [<-h2,<-this];refine C1k λj h6 hj=>?_
   unfold atF uJ D1b;rw [if_pos ⟨rfl,by omega,by omega⟩,E6q,if_neg (by omega),ei];by_cases z:X6 D n a=0
   ·have:A3p D n a (j-6)=0:=by unfold A3p;rw [if_pos z]
    rw [this,z,bG];show (bif G5 (l_ D) n 0 then (0:Int) else 0)=0;rw [bG];rfl
   ·have hi:G5 (l_ D) n (X6 D n a)=A5:=hd _ (E6C _ (E6B _ (by rw [A4V z];exact E6e ..)));have hp:A3p D n a (j-6)=ptP (blk D (X6 D n a)) (j-6):=by unfold A3p;rw [if_neg z]
    rw [hi,cond_true,<-hp];by_cases z2:A3p D n a (j-6)=0
    ·rw [z2,bG];rfl
    ·rw [hd _ (E6B _ (B9w.2 ⟨z2,j-6,by omega,by omega,rfl⟩))];rfl
  rw [eI,e1,e2];rfl
 ·have vA:Z0 D n (kdV D n a) (drV D n a)=A6:=by unfold Z0;rw [hk];rfl
  have hB:S7 D n (kdV D n a) (drV D n a)=[]:=by unfold S7;rw [vA];rfl
  unfold gQ T3 qV;rw [hB];rfl
def D4y(hD:okD D)(hbm:c.blocks.length=c.made.length)(hk:kdV D n a=1)(S:FilS D n a)(kept:J5 D n c (flV D n a)=flV D n a) :
  (H9 D n c a).2=drV D n a/\Stp D n a c (U8 D n c a) (flV D n a) []:=by
 have B5m:∀ x∈flV D n a,G5 (l_ D) n x=A5:=λx hx=>((A8X.1 kept).2 x hx).1
 obtain ⟨o1,o2⟩:=D67 hk B5m;have kept0:=kept;unfold flV at kept;rw [B3U (c:=c)] at kept;obtain ⟨ka,kp⟩:=kept;rw [B3U (c:=c)] at ka;obtain ⟨kn,ki⟩:=ka;have hL7:=O8 (D:=D) (n:=n) (i:=a);have hfd:(H9 D n c a).2=drV D n a:=by
  rw [A4H];obtain ⟨m,hm⟩:=xEq ((min (T5 (szV D n a)) 6).toNat);have m6:m<=6:=by omega
  unfold A2F;rw [<-hm];have hz:∀ j,m<=j->j<6->(drV D n a).getD j 0=0:=by
   intro j h2 h3;by_cases z:(drV D n a).getD j 0=0
   ·exact z
   ·have:=S.num j h3 z;omega
  have e6:=D2Y (f:=λj=>(drV D n a).getD j 0) m6 hz;rw [e6] at kn ki;obtain ⟨d1,d2⟩:=D18 (D:=D) (n:=n) (d:=drV D n a) (e:=m) (k:=0) (s:=(c,zI 7)) (by simp [zI];omega) kn;obtain ⟨s,hs⟩:=xEq (dD D n (drV D n a) m 0 (c,zI 7));rw [<-hs] at d1 d2 ⊢;have d1:s.1=cE D n c (W3 (λj=>(drV D n a).getD j 0) 0 m):=d1;have sl:s.2.length=7:=by rw [hs,A0t.2];simp [zI]
  have hzz:∀ j,(zI 7).getD j (0:Int)=0:=by
   intro j;unfold zI;rw [E54,List.getElem?_replicate];split<;>rfl
  have s6:∀ j,j<6->s.2.getD j 0=(drV D n a).getD j 0:=by
   intro j hj;rcases Nat.lt_or_ge j m with h | h
   ·exact d2 j (by omega) (by omega)
   ·rw [hz j h hj,hs,fP (by omega)];exact hzz j
  have s66:s.2.getD 6 0=0:=by rw [hs,fP (by omega)];exact hzz 6
  have ei:(drV D n a).getD 6 0=X6 D n a:=rfl;have key:∀ l:List Int,l_ l=7->(∀ j,j<6->l.getD j 0=(drV D n a).getD j 0)->l.getD 6 0=X6 D n a->l=drV D n a:=by
   intro l hl h1 h2;refine List.ext_getElem (by rw [hl,hL7]) λj h3 h4=>?_
   have e:l.getD j 0=(drV D n a).getD j 0:=by
    rcases Nat.lt_or_ge j 6 with h | h
    ·exact h1 j h
    ·have:j=6:=by omega
     subst this;exact h2
   rw [E54,E51 h3,E54,E51 h4] at e;exact e
  unfold A1R;by_cases h:6<T5 (szV D n a)
  ·rw [if_pos h];refine key _ (by simp [sl]) (λj hj=>?_) ?_
   ·show (s.2.set 6 _).getD j 0=_;rw [E54,E60 (by omega),<-E54];exact s6 j hj
   ·show (s.2.set 6 (K3 D n s.1 ((drV D n a).getD 6 0))).getD 6 0=_;rw [E54,E63,if_pos rfl,if_pos (by omega),ei];show K3 D n s.1 (X6 D n a)=_;by_cases z:X6 D n a=0
    ·rw [z];exact A8B.1
    ·rw [A4V z,<-d1] at ki;exact xS (dS.1 ki).1
  ·rw [if_neg h];have z:X6 D n a=0:=by
    by_cases z:X6 D n a=0
    ·exact z
    ·exact absurd (S.ind z) h
   exact key _ sl s6 (by rw [s66,z])
 refine ⟨hfd,?_⟩;obtain ⟨_,_,s3,s4⟩:=D5X (D:=D) (n:=n) (a:=a) (c:=c) (λj _=>by rw [hfd]) (by rw [hfd];rfl);have ht:(L8 D n c a).taken=(cE D n c (W3 (λj=>(drV D n a).getD j 0) 0 6++nzL [X6 D n a])).taken:=by
  show (H9 D n c a).1.taken=_;rw [s3]
 obtain ⟨r1,r2,r3,r4,_,_,_⟩:=A0u (D:=D) (n:=n) (ino:=a) (c:=c);have td:=C4m (D:=D) (n:=n) (a:=a) (L:=[]) (c:=c) (.nil _);have e6:(H9 D n c a).2.getD 6 0=X6 D n a:=by rw [hfd];rfl
 have hs:=oD (D:=D) (n:=n) (ino:=a) (c:=c);have core:(U8 D n c a).taken=(cE D n c (flV D n a)).taken/\∀ q∈gZ (U8 D n c a),q∈gZ c\/blk D q.1=q.2:=by
  by_cases z:X6 D n a=0
  ·have e:W3 (A3p D n a) 0 128=[]:=by
    unfold W3;exact C6R λx hx=>by
     obtain ⟨j,_,rfl⟩:=List.mem_map.1 hx;unfold A3p;rw [if_pos z]
   have eC:U8 D n c a=L8 D n c a:=by unfold U8;rw [e6,if_pos z]
   unfold flV;rw [eC,e,E6k];refine ⟨ht,λq hq=>.inl ?_⟩;have:q∈(H9 D n c a).1.blocks.zip (H9 D n c a).1.made:=hq;rw [hs.1.blocks,hs.1.made] at this;exact this
  ·have e:W3 (A3p D n a) 0 128=W3 (ptP (blk D (X6 D n a))) 0 128:=B7p λj _ _=>by unfold A3p;rw [if_neg z]
   rw [e] at kp;have hR:=C1n (D:=D) (n:=n) (many:=T5 (szV D n a)) (b:=blk D (X6 D n a)) (e:=128) (k:=0) (c:=L8 D n c a) (by rw [A4S ht];exact kp) λj _ h2 h3=>S.pts j (by omega) (by unfold A3p;rw [if_neg z];exact h3)
   have eC:U8 D n c a=dG (cE D n (L8 D n c a) (W3 (ptP (blk D (X6 D n a))) 0 128)) (X6 D n a) (blk D (X6 D n a)):=by
    unfold U8;rw [e6,if_neg z,hR]
   have hf:=jF (D:=D) (n:=n) (many:=T5 (szV D n a)) (e:=128) (k:=0) (s:=(L8 D n c a,blk D (X6 D n a)));rw [hR] at hf;have hbb:(cE D n (L8 D n c a) (W3 (ptP (blk D (X6 D n a))) 0 128)).blocks.length=(cE D n (L8 D n c a) (W3 (ptP (blk D (X6 D n a))) 0 128)).made.length:=by
    rw [hf.blocks,hf.made];show (H9 D n c a).1.blocks.length=(H9 D n c a).1.made.length;rw [hs.1.blocks,hs.1.made];exact hbm
   unfold flV;rw [eC,e,D13];refine ⟨D0p ht,λq hq=>?_⟩;rw [A0E hbb] at hq;rcases List.mem_append.1 hq with h | h
   ·left
    have h:q∈(cE D n (L8 D n c a) (W3 (ptP (blk D (X6 D n a))) 0 128)).blocks.zip (cE D n (L8 D n c a) (W3 (ptP (blk D (X6 D n a))) 0 128)).made:=h;rw [hf.blocks,hf.made] at h;have h:q∈(H9 D n c a).1.blocks.zip (H9 D n c a).1.made:=h;rw [hs.1.blocks,hs.1.made] at h;exact h
   ·right;rw [List.mem_singleton.1 h]
 refine ⟨kept0,λj=>?_,⟨λx=>by rw [r2];exact td.par x,λx=>by rw [r3];exact td.lnk x,td.one,td.dir⟩,r4,core.2,o1,o2⟩;rw [core.1];exact B7c kept0 j
end
section
variable {D:Dev} {n a:Int}
def owV(D:Dev)(n a:Int):List Int:=qI D n (kdV D n a) (drV D n a)
def nmV(D:Dev)(n a:Int):List Ent:=gQ D n (kdV D n a) (drV D n a)
abbrev C1x(D:Dev)(n a:Int):Prop:=a≠1/\kdV D n a=1
structure Sta(D:Dev)(n a:Int):Prop where
 fil:C1x D n a->FilS D n a/\∀ x∈flV D n a,G5 (l_ D) n x=A5
 dir:¬ C1x D n a->kdV D n a=2/\drV D n a=noV D n a::zI 6/\(noV D n a≠0->DirS D n a/\∀ x∈noV D n a::bkV D n a,G5 (l_ D) n x=A5)
def Kp(D:Dev)(n:Int)(c:Cl)(a:Int):Prop:=(C1x D n a/\FilS D n a/\J5 D n c (flV D n a)=flV D n a)\/(¬ C1x D n a/\DirK D n c a)
def C3T(D:Dev)(n:Int)(c:Cl)(a:Int):List Int:=if C1x D n a then 1::1::szV D n a::0::drV D n a else 2::1::0::(c.par a).getD 0::drV D n a
def Kp.step(hD:okD D)(hbm:c.blocks.length=c.made.length)(hal:a.toNat<c.ino.length)(K:Kp D n c a) :
  Sta D n a/\Stp D n a c (U0 D n c a) (owV D n a) (nmV D n a)/\(U0 D n c a).ino.getD a.toNat []=C3T D n c a:=by
 rcases K with ⟨hf,S,kept⟩ | ⟨hf,K⟩
 ·have e:U0 D n c a=U8 D n c a:=by unfold U0;rw [if_pos hf]
  obtain ⟨h1,h2⟩:=D4y hD hbm hf.2 S kept;refine ⟨⟨λ_=>⟨S,λx hx=>((A8X.1 kept).2 x hx).1⟩,λh=>absurd hf h⟩,?_,?_⟩
  ·rw [e];have o:=h2.own;have l:=h2.list;unfold owV nmV;rw [o,l];exact h2
  ·rw [e,(A8I hbm).2 hal,h1];unfold C3T;rw [if_pos hf]
 ·have e:U0 D n c a=oB D n c a:=by unfold U0;rw [if_neg hf]
  obtain ⟨h1,O,L,h2,_⟩:=D6X hbm K;refine ⟨⟨λh=>absurd h hf,λ_=>⟨K.kd,K.dr,λh0=>⟨(K.body h0).s,λx hx=>((A8X.1 (K.body h0).kept).2 x hx).1⟩⟩⟩,?_,?_⟩
  ·rw [e];have o:=h2.own;have l:=h2.list;unfold owV nmV;rw [o,l];exact h2
  ·rw [e,(A8C hbm).2 hal,h1];unfold C3T;rw [if_neg hf,<-K.dr]
structure Inv(D:Dev)(n:Int)(i:Nat)(c:Cl):Prop where
 w:RowW n c
 hd:c.row[0]?=A4 1
 bm:c.blocks.length=c.made.length
 il:c.ino.length=(n+1).toNat
 tak:∀ j:Nat,c.taken.getD j A5=A5↔(j<(bD (l_ D) n).toNat\/(l_ D)<=j)\/∃ a∈c.row.take i,(j:Int)∈owV D n a
 nd:((c.row.take i).flatMap (owV D n)).Nodup
 dt:∀ a∈c.row.take i,∀ x∈owV D n a,G5 (l_ D) n x=A5
 lnk:∀ x,(c.lnk x).getD 0=(((c.row.take i).map λa=>B3p (nmV D n a) x).sum:Nat)
 dir:∀ x∈c.row,x≠1->kdV D n x=2->(c.lnk x).getD 0=1
 par:∀ x∈c.row,x≠1->∃ p∈c.row.take i,c.par x=A4 p/\∃ e∈nmV D n p,e.2=x
 par1:c.par 1=A4 1
 one:∀ a∈c.row.take i,∀ e∈nmV D n a,e.2≠1/\kdV D n e.2≠0/\e.2∈c.row
 put:∀ q∈gZ c,blk D q.1=q.2
 ino:∀ a∈c.row.take i,c.ino.getD a.toNat []=C3T D n c a
 lost:c.lost=0
 sta:∀ a∈c.row.take i,Sta D n a
 sub:∀ x∈c.row,x∈C1O D n
def Inv.lnk0{i:Nat}(I:Inv D n i c)(hx:x ∉ c.row):(c.lnk x).getD 0=0:=by
 rw [I.lnk x];have:((c.row.take i).map λa=>B3p (nmV D n a) x).sum=0:=by
  have h:∀ k∈(c.row.take i).map λa=>B3p (nmV D n a) x,k=0:=by
   intro k hk;obtain ⟨b,hb,rfl⟩:=List.mem_map.1 hk;exact B4F λe he h=>hx (by rw [<-h];exact (I.one b hb e he).2.2)
  generalize (c.row.take i).map (λa=>B3p (nmV D n a) x)=L at h
  clear hx I
  induction L with
  | nil=>rfl
  | cons k L ih =>
   rw [List.sum_cons,h k (E6e ..),ih λy hy=>h y (E59 _ hy)]
 rw [this];rfl
def Inv.step{i:Nat}{c:Cl}(hD:okD D)(I:Inv D n i c)(hi:c.row[i]?=A4 a)(K:Kp D n c a):Inv D n (i+1) (U0 D n c a):=by
 have ham:=E6n hi;have hra:=I.w.rg a ham;have hal:a.toNat<c.ino.length:=by rw [I.il];omega
 obtain ⟨S,T,D7h⟩:=K.step hD I.bm hal;have g:=A1X (D:=D) (n:=n) (a:=a) I.bm;have w':RowW n (U0 D n c a):=gT I.w;generalize U0 D n c a=c' at *;have K7:i<c.row.length:=(List.getElem?_eq_some_iff.1 hi).1;have tk0:c'.row.take i=c.row.take i:=E0P g.row (by omega);have tk:c'.row.take (i+1)=c.row.take i++[a]:=by
  rw [List.take_succ,tk0,A0D g.row hi];rfl
 have hin:∀ {b},b∈c.row.take i->b∈c.row:=λh=>List.mem_of_mem_take h
 have aR:∀ b∈c.row.take i,b≠a:=by
  intro b hb e;obtain ⟨j,hj⟩:=List.mem_iff_getElem?.1 hb;have hjl:=(List.getElem?_eq_some_iff.1 hj).1;rw [E6A] at hjl;rw [E6L (by omega)] at hj;have:=(List.getElem?_inj (by omega) I.w.nd).1 (hj.trans ((congrArg A4 e).trans hi.symm));omega
 have D54:∀ x∈c.row,c'.par x=c.par x:=by
  intro x hx;rw [T.told.par,if_pos ((I.w.par x).2 hx)]
 have hnr:∀ x,x ∉ c.row->c.par x=A7:=by
  intro x hx;cases hp:c.par x with
  | none=>rfl
  | some v=>exact absurd ((I.w.par x).1 (by rw [hp];rfl)) hx
 have D9M:∀ x∈c'.row,x∈c.row\/(x ∉ c.row/\x∈(nmV D n a).map (·.2)):=by
  intro x hx;by_cases h:x∈c.row
  ·exact .inl h
  ·refine .inr ⟨h,?_⟩;have:=(w'.par x).2 hx;rw [T.told.par,hnr x h] at this;by_cases h2:x∈(nmV D n a).map (·.2)
   ·exact h2
   ·rw [if_neg h2] at this;simp at this
 have kept:=A8X.1 T.kept;refine ⟨w',A0D g.row I.hd,g.bm,g.il.trans I.il,λj=>?_,?_,λb hb x hx=>?_,λx=>?_,λx hx h1 hk=>?_,λx hx h1=>?_,?_,λb hb e he=>?_,λq hq=>?_,λb hb=>?_,T.lost.trans I.lost,λb hb=>?_,λx hx=>?_⟩
 ·rw [T.taken,I.tak,tk];constructor
  ·rintro ((h | ⟨b,hb,h⟩) | h)
   ·exact .inl h
   ·exact .inr ⟨b,E6C _ hb,h⟩
   ·exact .inr ⟨a,E6B _ (List.mem_singleton.2 rfl),h⟩
  ·rintro (h | ⟨b,hb,h⟩)
   ·exact .inl (.inl h)
   ·rcases List.mem_append.1 hb with hb | hb
    ·exact .inl (.inr ⟨b,hb,h⟩)
    ·rw [List.mem_singleton.1 hb] at h;exact .inr h
 ·rw [tk,List.flatMap_append,List.nodup_append];refine ⟨I.nd,by simpa using kept.1,λx hx y hy e=>?_⟩;subst e;obtain ⟨b,hb,hx⟩:=List.mem_flatMap.1 hx;have hy:x∈owV D n a:=by simpa using hy
  have h1:=(kept.2 x hy).2;have h0:=A8W (kept.2 x hy).1;have h2:=(I.tak x.toNat).2 (.inr ⟨b,hb,by rw [Int.toNat_of_nonneg h0.1];exact hx⟩);rw [h1] at h2;cases h2
 ·rw [tk] at hb;rcases List.mem_append.1 hb with hb | hb
  ·exact I.dt b hb x hx
  ·rw [List.mem_singleton.1 hb] at hx;exact (kept.2 x hx).1
 ·rw [T.told.lnk,I.lnk,tk,E6Q,List.sum_append];simp
 ·rcases D9M x hx with h | ⟨h,hm⟩
  ·rw [T.told.lnk,I.dir x h h1 hk];have:B3p (nmV D n a) x=0:=B4F λe he h2=>by
    have:=(T.told.dir e he (by rw [h2];exact hk)).1;rw [h2] at this;have h3:=(I.w.par x).2 h;rw [this] at h3;cases h3
   rw [this];rfl
  ·obtain ⟨e,he,rfl⟩:=List.mem_map.1 hm;rw [T.told.lnk,I.lnk0 h,(T.told.dir e he hk).2];rfl
 ·rcases D9M x hx with h | ⟨h,hm⟩
  ·obtain ⟨p,hp,h2,h3⟩:=I.par x h h1;exact ⟨p,by rw [tk];exact E6C _ hp,(D54 x h).trans h2,h3⟩
  ·obtain ⟨e,he,rfl⟩:=List.mem_map.1 hm;refine ⟨a,by rw [tk];exact E6B _ (List.mem_singleton.2 rfl),?_,e,he,rfl⟩;rw [T.told.par,hnr _ h,if_neg (by simp),if_pos hm]
 ·rw [D54 1 (E6n I.hd)];exact I.par1
 ·rw [tk] at hb;rcases List.mem_append.1 hb with hb | hb
  ·obtain ⟨h1,h2,h3⟩:=I.one b hb e he;exact ⟨h1,h2,g.row.subset h3⟩
  ·rw [List.mem_singleton.1 hb] at he;obtain ⟨h1,h2⟩:=T.told.one e he;refine ⟨h1,h2,(w'.par e.2).1 ?_⟩;rw [T.told.par];by_cases h:(c.par e.2).isSome=A5
   ·rw [if_pos h];exact h
   ·rw [if_neg h,if_pos (List.mem_map.2 ⟨e,he,rfl⟩)];rfl
 ·rcases T.put q hq with h | h
  ·exact I.put q h
  ·exact h
 ·rw [tk] at hb;rcases List.mem_append.1 hb with hb | hb
  ·have hrb:=I.w.rg b (hin hb);have hn:=aR b hb;rw [g.ino _ (by omega),I.ino b hb];unfold C3T;rw [D54 b (hin hb)]
  ·rw [List.mem_singleton.1 hb,D7h];unfold C3T;rw [D54 a ham]
 ·rw [tk] at hb;rcases List.mem_append.1 hb with hb | hb
  ·exact I.sta b hb
  ·rw [List.mem_singleton.1 hb];exact S
 ·rcases D9M x hx with h | ⟨h,hm⟩
  ·exact I.sub x h
  ·obtain ⟨e,he,rfl⟩:=List.mem_map.1 hm;refine E12 (I.sub a ham) e (List.mem_filter.2 ⟨he,?_⟩);unfold C8b;rcases D0I (D:=D) (n:=n) (i:=e.2) with h0 | h0 | h0
   ·exact absurd h0 (T.told.one e he).2
   ·rw [h0];rfl
   ·rw [h0];rfl
structure Ext(D:Dev)(n:Int)(c F:Cl)(a:Int):Prop where
 row:∀ x∈(U0 D n c a).row,x∈F.row
 put:∀ q∈gZ (U0 D n c a),q∈gZ F
 ino:F.ino.getD a.toNat []=(U0 D n c a).ino.getD a.toNat []
def D6r(hD:okD D)(n128:n<=128){F:Cl}(hk:∀ i c a,Inv D n i c->c.row[i]?=A4 a->Ext D n c F a->Kp D n c a) :
  ∀ {e i:Nat} {c:Cl},i+e=129->Inv D n i c->ofR D n e i c=F->Inv D n F.row.length F
 | 0,i,c,hi,I,hF=>by
  have hF:c=F:=hF;subst hF;have hl:=A6s I.w.nd λb hb=>⟨(I.w.rg b hb).1,by have:=(I.w.rg b hb).2;omega⟩
  have e1:c.row.take i=c.row:=E6l (by omega);have e2:c.row.take c.row.length=c.row:=E6l (E56 _);have:=I;obtain ⟨a1,a2,a3,a4,a5,a6,a7,a8,a9,a10,a11,a12,a13,a14,a15,a16,a17⟩:=this;rw [e1,<-e2] at a6;simp only [e1] at a5 a7 a8 a10 a12 a14 a16;refine ⟨a1,a2,a3,a4,?_,a6,?_,?_,a9,?_,a11,?_,a13,?_,a15,?_,a17⟩<;>simp only [e2]<;>assumption
 | e+1,i,c,hi,I,hF=>by
  unfold ofR at hF;cases hc:c.row[i]? with
  | none =>
   rw [hc] at hF;have hF:c=F:=hF;subst hF;have:=List.getElem?_eq_none_iff.1 hc;have e1:c.row.take i=c.row:=E6l (by omega);have e2:c.row.take c.row.length=c.row:=E6l (E56 _);have:=I;obtain ⟨a1,a2,a3,a4,a5,a6,a7,a8,a9,a10,a11,a12,a13,a14,a15,a16,a17⟩:=this;rw [e1,<-e2] at a6;simp only [e1] at a5 a7 a8 a10 a12 a14 a16;refine ⟨a1,a2,a3,a4,?_,a6,?_,?_,a9,?_,a11,?_,a13,?_,a15,?_,a17⟩<;>simp only [e2]<;>assumption
  | some a =>
   rw [hc] at hF;have hF:ofR D n e (i+1) (U0 D n c a)=F:=hF;have g:=A1X (D:=D) (n:=n) (a:=a) I.bm;obtain ⟨h1,h2,h3,h4⟩:=B9E (D:=D) (n:=n) (e:=e) (i:=i+1) g.bm;have hrg:=I.w.rg a (E6n hc);have hat:=A0D (g.row.trans h1) hc;have wF:=A85 (D:=D) (n:=n) (e:=e) (i:=i+1) (gT (D:=D) (ino:=a) I.w);have D7h:=B4S (D:=D) (n:=n) hrg.1 (e:=e) (i:=i+1) (gT (D:=D) (ino:=a) I.w) g.bm λj hj he=>by
    have:=(List.getElem?_inj (List.getElem?_eq_some_iff.1 hat).1 wF.nd).1 (hat.trans he.symm);omega
   rw [hF] at h1 h3 D7h;exact D6r hD n128 hk (by omega) (I.step hD hc (hk i c a I hc ⟨λx hx=>h1.subset hx,h3,D7h⟩)) hF
def C6T{c:Cl}:∀ {k:Nat} (j:Nat),(yP c k).taken.getD j A5=A5↔c.taken.getD j A5=A5\/j<k
 | 0,j=>by show c.taken.getD j A5=A5↔_;simp
 | k+1,j=>by
  show ((yP c k).taken.set k A5).getD j A5=A5↔_;rw [B4c,C6T];constructor
  ·rintro ((h | h) | h)
   ·exact .inl h
   ·exact .inr (by omega)
   ·exact .inr (by omega)
  ·rintro (h | h)
   ·exact .inl (.inl h)
   ·by_cases e:j=k
    ·exact .inr e
    ·exact .inl (.inr (by omega))
def D7n(hm:P7 (l_ D) n=A5):Inv D n 0 (yP (H8 D n) (bD (l_ D) n).toNat):=by
 have B:=A8m hm;have hs:=ownR_same (c:=H8 D n) (k:=(bD (l_ D) n).toNat);have hr:(yP (H8 D n) (bD (l_ D) n).toNat).row=[1]:=hs.row;have hx:∀ x∈(yP (H8 D n) (bD (l_ D) n).toNat).row,x=1:=λx hx=>by rw [hr] at hx;exact List.mem_singleton.1 hx
 refine ⟨B.w,by rw [hr];rfl,B.bm,B.il,λj=>?_,by rw [E6S];exact List.nodup_nil,λa ha=>(by rw [E6S] at ha;cases ha),λx=>?_,λx h h1=>absurd (hx x h) h1,λx h h1=>absurd (hx x h) h1,by rw [hs.par];rfl,λa ha=>(by rw [E6S] at ha;cases ha),λq hq=>?_,λa ha=>(by rw [E6S] at ha;cases ha),hs.lost,λa ha=>(by rw [E6S] at ha;cases ha),λx h=>(by obtain ⟨j,_,hi⟩:=B9Q (D:=D) (n:=n);rw [hx x h];exact hi.hd)⟩
 ·rw [C6T,E6S];have e:(H8 D n).taken=E55 (l_ D) A6:=rfl;rw [e,E54,List.getElem?_replicate];by_cases h:j<(l_ D)
  ·rw [if_pos h];simp;omega
  ·rw [if_neg h];simp;omega
 ·rw [hs.lnk,E6S];rfl
 ·have hq:q∈(yP (H8 D n) (bD (l_ D) n).toNat).blocks.zip (yP (H8 D n) (bD (l_ D) n).toNat).made:=hq;rw [hs.blocks] at hq;cases hq
def D6U(hD:okD D)(hm:P7 (l_ D) n=A5)(hk:∀ i c a,Inv D n i c->c.row[i]?=A4 a->Ext D n c (F6 D n) a->Kp D n c a):Inv D n (F6 D n).row.length (F6 D n) :=
 D6r hD (D2Q hm) hk (e:=129) (i:=0) rfl (D7n hm) rfl
structure Stil(D:Dev)(n:Int)(F:Cl):Prop where
 ino:∀ a∈F.row,kdV D n a=(F.ino.getD a.toNat []).getD 0 0/\szV D n a=(F.ino.getD a.toNat []).getD 2 0/\drV D n a=(F.ino.getD a.toNat []).drop 4
 put:∀ q∈gZ F,blk D q.1=q.2
def Stil.kp{F:Cl}{i:Nat}(hD:okD D)(H:Stil D n F)(I:Inv D n i c)(hi:c.row[i]?=A4 a)(X:Ext D n c F a):Kp D n c a:=by
 have ham:=E6n hi;have hra:=I.w.rg a ham;have hal:a.toNat<c.ino.length:=by rw [I.il];omega
 have g:=A1X (D:=D) (n:=n) (a:=a) I.bm;obtain ⟨y1,y2,y3⟩:=H.ino a (X.row a (g.row.subset ham));rw [X.ino] at y1 y2 y3;by_cases hf:C1x D n a
 ·have e:U0 D n c a=U8 D n c a:=by unfold U0;rw [if_pos hf]
  rw [e,(A8I I.bm).2 hal] at y3;have hd:(H9 D n c a).2=drV D n a:=y3.symm;have e6:(H9 D n c a).2.getD 6 0=X6 D n a:=by rw [hd];rfl
  obtain ⟨s1,s2⟩:=D9p hD hd λz=>by
   have hs:=oD (D:=D) (n:=n) (ino:=a) (c:=c);have hfr:=jF (D:=D) (n:=n) (many:=T5 (szV D n a)) (e:=128) (k:=0) (s:=(L8 D n c a,blk D (X6 D n a)));dsimp only at hfr;have C79:=λq hq=>H.put q (X.put q hq)
   rw [e] at C79;have eC:U8 D n c a=dG (L9 D n (T5 (szV D n a)) 128 0 (L8 D n c a,blk D (X6 D n a))).1 (X6 D n a) (L9 D n (T5 (szV D n a)) 128 0 (L8 D n c a,blk D (X6 D n a))).2:=by
    unfold U8;rw [e6,if_neg z]
   generalize L9 D n (T5 (szV D n a)) 128 0 (L8 D n c a,blk D (X6 D n a))=s at hfr eC ⊢;have hfb:s.1.blocks.length=s.1.made.length:=by
    rw [hfr.blocks,hfr.made];show (H9 D n c a).1.blocks.length=(H9 D n c a).1.made.length;rw [hs.1.blocks,hs.1.made];exact I.bm
   rw [eC] at C79;exact (C79 (X6 D n a,s.2) (by rw [A0E hfb];exact E6B _ (List.mem_singleton.2 rfl))).symm
  exact .inl ⟨hf,s1,s2⟩
 ·have e:U0 D n c a=oB D n c a:=by unfold U0;rw [if_neg hf]
  rw [e,(A8C I.bm).2 hal] at y1 y3;have y3:drV D n a=(K4 D n c a).2::zI 6:=y3;have Y3:(K4 D n c a).2=noV D n a:=by unfold noV;rw [y3];rfl
  refine .inr ⟨hf,y1,by rw [y3,Y3],λh0=>?_⟩;exact E1s I.bm h0 Y3 λq hq=>H.put q (X.put q (by rw [e];exact hq))
def Stil.inv(hD:okD D)(hm:P7 (l_ D) n=A5)(H:Stil D n (F6 D n)):Inv D n (F6 D n).row.length (F6 D n) :=
 D6U hD hm λi c a I hi X=>H.kp hD I hi X
end
def D2J{j:Nat}:(aJ c a).ino.getD j []=if j=a.toNat/\(c.ino.getD j []).getD 0 0=1 then (c.ino.getD j []).set 1 ((c.lnk a).getD 0) else c.ino.getD j []:=by
 unfold aJ;by_cases h:(c.ino.getD a.toNat []).getD 0 0=1
 ·rw [if_pos h];by_cases e:j=a.toNat
  ·subst e;rw [if_pos ⟨rfl,h⟩];by_cases hl:a.toNat<c.ino.length
   ·show (c.ino.set a.toNat _).getD a.toNat []=_;rw [A6h hl]
   ·have:c.ino.getD a.toNat []=[]:=by rw [E54,E6u (by omega)];rfl
    rw [this] at h;exact absurd h (by decide)
  ·rw [if_neg (λh=>e h.1)];show (c.ino.set a.toNat _).getD j []=_;rw [getD_set_ne e]
 ·rw [if_neg h];by_cases e:j=a.toNat
  ·subst e;rw [if_neg (λh2=>h h2.2)]
  ·rw [if_neg (λh=>e h.1)]
def C9o{a:Int}(ha:0<=a):∀ {L:List Int} {c:Cl},L.Nodup->(∀ x∈L,0<=x)->(bP c L).ino.getD a.toNat []=if a∈L/\(c.ino.getD a.toNat []).getD 0 0=1 then (c.ino.getD a.toNat []).set 1 ((c.lnk a).getD 0) else c.ino.getD a.toNat []
 | [],c,_,_=>by rw [if_neg (by simp)];rfl
 | b::L,c,hn,h0=>by
  obtain ⟨n1,n2⟩:=List.nodup_cons.1 hn;have hb:=h0 b (E6e ..);have ih:=C9o ha (L:=L) (c:=aJ c b) n2 λx hx=>h0 x (E59 _ hx)
  have el:(aJ c b).lnk=c.lnk:=by unfold aJ;split<;>rfl
  show (bP (aJ c b) L).ino.getD a.toNat []=_;rw [ih,el];by_cases e:a=b
  ·subst e;have hk:((aJ c a).ino.getD a.toNat []).getD 0 0=(c.ino.getD a.toNat []).getD 0 0:=C6b.1;rw [if_neg (λh=>n1 h.1),D2J];by_cases h1:(c.ino.getD a.toNat []).getD 0 0=1
   ·rw [if_pos ⟨rfl,h1⟩,if_pos ⟨E6e ..,h1⟩]
   ·rw [if_neg (λh=>h1 h.2),if_neg (λh=>h1 h.2)]
  ·have e2:(aJ c b).ino.getD a.toNat []=c.ino.getD a.toNat []:=by rw [D2J,if_neg (λh=>e (by omega))]
   rw [e2];by_cases hL:a∈L
   ·by_cases h1:(c.ino.getD a.toNat []).getD 0 0=1
    ·rw [if_pos ⟨hL,h1⟩,if_pos ⟨E59 _ hL,h1⟩]
    ·rw [if_neg (λh=>h1 h.2),if_neg (λh=>h1 h.2)]
   ·rw [if_neg (λh=>hL h.1),if_neg (λh=>(List.mem_cons.1 h.1).elim e hL)]
section
variable {D:Dev} {n:Int}
def E0T{E:Dev}{n:Int}{y:List Int}(hi:Q9 (l_ E) n i=A5)(hy:D2R y)(h:tQ E n i=B1O y):cQ (tQ E n i)=A5/\kdV E n i=y.getD 0 0/\lnV E n i=y.getD 1 0/\szV E n i=y.getD 2 0/\paV E n i=y.getD 3 0/\drV E n i=y.drop 4:=by
 obtain ⟨hl,hm⟩:=hy;have hd:(y.drop 4).length=7:=by rw [List.length_drop,hl]
 obtain ⟨g1,g2,g3,g4,g5⟩:=D0w hd hm;obtain ⟨hc,_⟩:=C82 hd hm;unfold kdV szV drV lnV paV B7a;rw [hi,h];unfold B1O;rw [hc,g1,g2,g3,g4,g5];exact ⟨rfl,rfl,rfl,rfl,rfl,rfl⟩
structure Wh(D:Dev)(n:Int)(F:Cl):Prop where
 okD:okD D
 may:P7 (l_ D) n=A5
 I:Inv D n F.row.length F
 tl:F.taken.length=(l_ D)
 out:∀ i,Q9 (l_ D) n i=A5->i ∉ F.row->kdV D n i=0
 root:kdV D n 1=2
 lnk:∀ a∈F.row,C1x D n a->lnV D n a=(F.lnk a).getD 0/\paV D n a=0
 dirl:∀ a∈F.row,¬ C1x D n a->lnV D n a=1/\paV D n a=(F.par a).getD 0/\szV D n a=0
 clean:∀ i,Q9 (l_ D) n i=A5->cQ (tQ D n i)=A5
 map:blk D 1=dH (yQ 0 F.taken)
def E4J(hD:okD D)(hm:P7 (l_ D) n=A5)(hS:kZ D n (F7 D n)=D):Wh D n (F6 D n):=by
 obtain ⟨b16,b512,n8,n128,nm8,nb⟩:=I1.1 hm;have B:=A8m hm;have ok:=uG hD hm;obtain ⟨_,_,_,K7,_⟩:=eJ hD hm;obtain ⟨s1,s2,s3,s4,s5,s6,s7⟩:=uS (L:=(F6 D n).row) (c:=F6 D n);have w:RowW n (F6 D n):=by unfold F6;exact A85 B.w
 have P:Pend D n (F6 D n) []:=by unfold F6;exact B9F hD (by omega) B.pend
 have hb:(F7 D n).blocks=(F6 D n).blocks:=s3;have hmd:(F7 D n).made=(F6 D n).made:=s4;have hlk:∀ j,((F7 D n).ino.getD j []).getD 0 0=((F6 D n).ino.getD j []).getD 0 0/\((F7 D n).ino.getD j []).getD 2 0=((F6 D n).ino.getD j []).getD 2 0/\((F7 D n).ino.getD j []).drop 4=((F6 D n).ino.getD j []).drop 4:=λj=>A6g
 have hV:∀ i,Q9 (l_ D) n i=A5->cQ (tQ D n i)=A5/\kdV D n i=((F7 D n).ino.getD i.toNat []).getD 0 0/\lnV D n i=((F7 D n).ino.getD i.toNat []).getD 1 0/\szV D n i=((F7 D n).ino.getD i.toNat []).getD 2 0/\paV D n i=((F7 D n).ino.getD i.toNat []).getD 3 0/\drV D n i=((F7 D n).ino.getD i.toNat []).drop 4:=by
  intro i hi;obtain ⟨_,i1,i2⟩:=O1.1 hi;have h:=D0C hD hm ok K7 hi;rw [hS] at h;refine E0T hi ?_ h;rw [E54,E51 (by omega)];exact ok.ino _ (E6w _)
 have H:Stil D n (F6 D n):=by
  refine ⟨λa ha=>?_,λq hq=>?_⟩
  ·have hr:=w.rg a ha;obtain ⟨_,v1,_,v3,_,v5⟩:=hV a (O1.2 ⟨hm,hr.1,hr.2⟩);obtain ⟨k1,k2,k3⟩:=hlk a.toNat;exact ⟨v1.trans k1,v3.trans k2,v5.trans k3⟩
  ·have hd:G5 (l_ D) n q.1=A5:=(P.dat q.1 (E6C _ (List.of_mem_zip hq).1)).1;have h:=D0B hD hm ok K7 hd;rw [hS,hb,hmd] at h;rw [h];exact P.pick hq
 have I:=H.inv hD hm;have tk:(F6 D n).row.take (F6 D n).row.length=(F6 D n).row:=List.take_length ..;have hin:∀ a∈(F6 D n).row,(F7 D n).ino.getD a.toNat []=if C1x D n a then 1::((F6 D n).lnk a).getD 0::szV D n a::0::drV D n a else C3T D n (F6 D n) a:=by
  intro a ha;have hr:=w.rg a ha;have h1:=I.ino a (by rw [tk];exact ha);have h2:=C9o (a:=a) (by omega) (L:=(F6 D n).row) (c:=F6 D n) w.nd λx hx=>by have:=w.rg x hx;omega
  have h2:(F7 D n).ino.getD a.toNat []=_:=h2;rw [h2,h1];by_cases hf:C1x D n a
  ·have e:C3T D n (F6 D n) a=1::1::szV D n a::0::drV D n a:=by unfold C3T;rw [if_pos hf]
   rw [if_pos hf,e,if_pos ⟨ha,rfl⟩];rfl
  ·have e:C3T D n (F6 D n) a=2::1::0::((F6 D n).par a).getD 0::drV D n a:=by unfold C3T;rw [if_neg hf]
   rw [if_neg hf,e,if_neg (λh=>absurd (show (2:Int)=1 from h.2) (by decide))]
 refine ⟨hD,hm,I,?_,λi hi hn=>?_,?_,λa ha hf=>?_,λa ha hf=>?_,λi hi=>(hV i hi).1,?_⟩
 ·have:=ok.tak;rw [<-s2];exact this
 ·obtain ⟨_,i1,i2⟩:=O1.1 hi;have h1:(F6 D n).ino.getD i.toNat []=zI 11:=by
   unfold F6 at hn ⊢;rw [B4S i1 B.w B.bm (λj _ hj=>hn (E6n hj))];exact B.zero i i1 i2
  rw [(hV i hi).2.1,(hlk i.toNat).1,h1];rfl
 ·have:=D9P hD hm;rw [hS] at this;exact this
 ·have hr:=w.rg a ha;have hv:=hV a (O1.2 ⟨hm,hr.1,hr.2⟩);rw [hin a ha,if_pos hf] at hv;exact ⟨hv.2.2.1,hv.2.2.2.2.1⟩
 ·have hr:=w.rg a ha;have hv:=hV a (O1.2 ⟨hm,hr.1,hr.2⟩);rw [hin a ha,if_neg hf] at hv;unfold C3T at hv;rw [if_neg hf] at hv;exact ⟨hv.2.2.1,hv.2.2.2.2.1,hv.2.2.2.1⟩
 ·have h:=C4g hD hm ok K7 (i:=1) (by omega);rw [hS,if_pos rfl] at h;have s2:(F7 D n).taken=(F6 D n).taken:=s2;rw [s2] at h;exact h
end
def D3S{t:List Nd}(ht:IsTree h v t){i:Nat}(hi:i<l_ t) :
  ∃ id o cs,E9 7 v (iV (i:Int))=A4 (pV id o)/\D1 h 7 (pV id o)=A4 (.a cs)/\(∀ k c,cs[k]?=A4 c->B9 h (pV id (o+k))=A4 (.c c))/\IsNd h cs t[i]:=by
 obtain ⟨cs,h1,h2⟩:=ht;have hcs:=h2.noX;obtain ⟨id,off,rfl,hid,hA,hB⟩:=h1.sl (by omega);refine ⟨id,off+i*7,_,E3 hi,hB (i*7) 7 (by rw [hcs.2];omega),λk c hk=>?_,h2.at (E51 hi)⟩;have hk7:k<7:=by
  have:=(List.getElem?_eq_some_iff.1 hk).1;simp at this;omega
 rw [E6L hk7,List.getElem?_drop] at hk;have:=hA _ _ hk
 rwa [<-Nat.add_assoc] at this
def E4x(x y:Nd):Prop:=x.ino=y.ino/\x.kind=y.kind/\x.size=y.size/\x.data=y.data/\x.names=y.names
instance (x y:Nd):Decidable (E4x x y):=inferInstanceAs (Decidable (_/\_))
def D70(h2:kdV D n 1=2)(ha:a∈C1O D n):kdV D n a=1\/kdV D n a=2:=by
 obtain ⟨j,_,hi⟩:=B9Q (D:=D) (n:=n);by_cases c:a=1
 ·subst c;exact .inr h2
 ·obtain ⟨b,_,e,he,rfl⟩:=hi.by_ a ha c;exact D6i e he
def C7p{x:Nd}(hx:x∈E4 D n):kdV D n 1=2/\x.ino∈C1O D n/\(x.kind=1\/x.kind=2)/\x.names=A3o D n x.ino/\x.data=A2h D n x.ino/\x.kind=kdV D n x.ino:=by
 obtain ⟨h1,h2,h3⟩:=B40.1 hx;refine ⟨h1,h2,?_,by rw [h3];rfl,by rw [h3];rfl,by rw [h3];rfl⟩;have:=D70 h1 h2;rw [h3];exact this
def C1W:(E4 D n).length<=129:=by
 unfold E4;split
 ·have:=E6R (λ(i:Nat)=>decide ((i:Int)∈C1O D n)) (E6z 129);simpa using this
 ·simp
def D85:(A2h D n i).length<=34304:=by
 unfold A2h;rw [D1c];unfold gR;split<;>omega
def D3R{x:Nd}(hx:x∈E4 D n):x.names.length<=224/\∀ e∈x.names,e.1.length<=24:=by
 obtain ⟨_,_,_,hn,_⟩:=C7p hx;rw [hn];exact ⟨D2W,λe he=>(bE (D4R (List.mem_filter.1 he).1)).2⟩
def fG:small (E4 D n):=by
 refine ⟨by have:=C1W (D:=D) (n:=n);omega,λx hx=>?_⟩;obtain ⟨_,_,_,hn,hd,_⟩:=C7p hx;have h1:=(D3R hx).1;have h2:=D85 (D:=D) (n:=n) (i:=x.ino);rw [hd];omega
section
variable (n m m2:Nat) (a0 a1 a2 a3 x0 x1 x2 x3 x4 x5 x6 x9 x10 x11 x12 x13 x14 x15 x16 x17 x18 x19 x21 x22 x23 x28 x29 x30 x33 x37 x38 x39 x40 x41 x42:Val) (h:A9)
def A22:FD A8:=⟨px 0X17f2003a0383010364184418301900532b103a2342,[.c .np],[.build ([o0,o0,.i .u64 0,.nf,.ns]) [(0,4,(.t 3)),(4,1,(.t 5))]],[.tmp 2],[fU dR A18]⟩
def B76:=A22.R
def C3w:=mR B76 A22 (tT []) n [a0] h
def B7S:=A22.K Tryz.func39
def A99:=A22.Q
def C3K:OfT B76 A99:=B7S.of
def V9:FD A8:=⟨px 0X13201022ef505002482d0318011b2015000002722403f0123042135c1041800503d72f0187d4215413070240181204023c13c12e2805594203006051ff50381f021b0212820000331ef11df301282801e1d2c1cf600103031800500503d7701b1971823201042,[],[],[.tmp 2],[D7 pH vP,D7 D8 E7,D7 A7j B5E]⟩
def A1w:=V9.R
def zZ:AtH:=V9.lj 0 n [m] [x0,x3,x4,x5]
def A1A:=tT [⟨2,4,zZ⟩]
def A7X:=mR A1w V9 A1A n [a0] h
def sF:=mL V9 A1A 0 n [m] [x0,x3,x4,x5] h
def A1l:=V9.K Tryz.func40
def nH:=V9.S
def A5f:G0 A1w nH:=A1l.flat
def lU:FD A8:=⟨px 0X12df2001b18195034a1a04a1e33e4a1f0101b1819503381a0381e12c381f01190320401c192b1e205218f21b63b31b50203041800503d740770523201042,[],[],[.tmp 2],[D7 F8 K1]⟩
def wA:=lU.R
def B2D:=mR wA lU (tT []) n [a0] h
def A5F:=lU.K Tryz.func41
def xD:=lU.S
def A98:G0 wA xD:=A5F.flat
def lQ:FD A8:=⟨px 0X128f402c280240521ff11ef2763c51b1282801e1e2c1df70042032e10440503d71801c1d0062340130182,[],[],[.tmp 4],[D7 nG A5A]⟩
def vZ:=lQ.R
def B2C:=mR vZ lQ (tT []) n [a0,a1] h
def vQ:=lQ.K Tryz.func86
def mC:=lQ.S
def A97:G0 vZ mC:=vQ.flat
def aV:FD A8:=⟨px 0X13201022bf1b052802b49218011b2015000002722403f0421338171f044d1521ef400441811d3284215030702441340121394200605110290103041800503d75072f2d2b42820133201042,[],[],[.tmp 2],[D7 iZ A3L,D7 mC vQ]⟩
def A5M:=aV.R
def A48:AtH:=aV.lj 0 n [m] [x0,x9,x10,x11]
def A53:=tT [⟨2,4,A48⟩]
def B2B:=mR A5M aV A53 n [a0] h
def zX:=mL aV A53 0 n [m] [x0,x9,x10,x11] h
def A5E:=aV.K Tryz.func42
def wZ:=aV.S
def A96:G0 A5M wZ:=A5E.flat
def Y6:FD A8:=⟨px 0X13601023ff2f052803f49218011b60168000002722404226e10414a3b2b47d1523af226291a1b021841821d43c4215030702441340121694200605110290463a2c2b45f5d5b528200232bf12af2763c71b1282801e2a2c29f1b0042033e10440503d71c01c1f006236015301c2,[],[],[.tmp 6],[D7 nG A5A]⟩
def A4a:=Y6.R
def A2N:AtH:=Y6.lj 0 n [m] [x2,x21,x22,x23]
def A4r:=tT [⟨2,4,A2N⟩]
def B1B:=mR A4a Y6 A4r n [a0,a1,a2] h
def yI:=mL Y6 A4r 0 n [m] [x2,x21,x22,x23] h
def A3Q:=Y6.K Tryz.func88
def tF:=Y6.S
def A8f:G0 A4a tF:=A3Q.flat
def N7:FD A8:=⟨px 0X13201027af1b051be07a49218011b2015000002722479f59030381901b281bb7b01c84d061a311c82f01c81e04f1c81f01c81e34f1c81f71c8701bb75031bb1a5f1bb701190220414f5a2b291ab2f2d2b402d211b201500000004722458f3c03018191031991a01991e34f1991f0150220417a492b191802448f3c004326c10426a3d2b502792f2d2b1b19403d21a011b2015000002722410325a3a026f4110722439f2e050220404e2f2b45d42252df500620320403e50440503d71f060191b431ef2763c41b071841871d4284215011a0702441340121394200605110290440503d76062f2d2b42820133201042,[],[],[.tmp 2],[D7 A92 B7R,D7 tF A3Q]⟩
def A38:=N7.R
def A2M:AtH:=N7.lj 0 n [m] [x0,x9,x10,x11]
def A2L:AtH:=N7.lj 1 n [m] [x0,x9,x10,x11]
def B5q:AtH:=N7.lj 2 n [m] [x0,x4,x5,x9,x10,x11,x28]
def jA:=tT [⟨2,4,A2M⟩,⟨2,4,A2L⟩,⟨2,7,B5q⟩]
def B1z:=mR A38 N7 jA n [a0] h
def yH:=mL N7 jA 0 n [m] [x0,x9,x10,x11] h
def B0Q:=mJ N7 jA 1 n [m] [x0,x9,x10,x11] h
def Q5:=mJ N7 jA 2 n [m] [x0,x4,x5,x9,x10,x11,x28] h
def A3O:=N7.K Tryz.func43
def tC:=N7.S
def A8d:G0 A38 tC:=A3O.flat
def V8:FD A8:=⟨px 0X135010238f1f052a03849218011b5014c000002722403f062130413a54a2b5955f1522af2262971b021841821d42a421503070244134012149420060501102904203281b18041800503d1c1859180193f3d3b6283002331642e2195182,[],[],[.tmp 5],[D7 wL A9h,D7 mC vQ]⟩
def A1v:=V8.R
def zY:AtH:=V8.lj 0 n [m] [x2,x13,x14,x15]
def A1z:=tT [⟨2,4,zY⟩]
def A7W:=mR A1v V8 A1z n [a0,a1,a2] h
def sE:=mL V8 A1z 0 n [m] [x2,x13,x14,x15] h
def A1k:=V8.K Tryz.func90
def eA:=V8.S
def A5e:G0 A1v eA:=A1k.flat
def L6:FD A8:=⟨px 0X13601024bf1e055a04b49218011b6017800000004722430381902822c5d6e206205d2f05d1e05c5d1f045d3c005d1f05d6c75d705d1e0485d1f5a5d70104224e10412c2a2b1f01918d35329f2763c181b071841871d41e42150307024613401213f4200605110290440503d719063d3b3953138200003336015301c2,[],[],[.tmp 6],[D7 F8 K1,D7 eA A1k]⟩
def mZ:=L6.R
def cH:K6:=L6.E
def bR:AtH:=L6.lj 0 n [m] [x0,x1,x2,x12,x13,x14]
def nM:TT:=⟨cH,[⟨2,6,bR⟩]⟩
def A1t:=mR mZ L6 nM n [a0,a1,a2] h
def A0M:=mL L6 nM 0 n [m] [x0,x1,x2,x12,x13,x14] h
def mV:=L6.K Tryz.func89
def cK:=L6.S
def yM:G0 mZ cK:=mV.flat
def iR:FD A8:=⟨px 0X15f200194303611ba5e44400523103a2342,[],[],[.tmp 2],[D7 cK mV]⟩
def A39:=iR.R
def B1A:=mR A39 iR (tT []) n [a0] h
def A3P:=iR.K Tryz.func44
def tD:=iR.S
def A8e:G0 A39 tD:=A3P.flat
def cC:FD A8:=⟨px 0X1340102188f5a055c018849218011b40119000002722401b2a1901dc4d0161dc2f04251dc2f1ce1dc7041dc3c001dc1f01dc6c71dc70103f042431ae1031800500503d75e02a1ff1525df1800441811d32942150307024413401211af42006051102901335f494f1c41ad1ab1a91282013011b401190000722401b2a191057a1a07a4b04227a2f47e1b7a3c047a3c007a1f07a6c77a70101b18190684d011682f5849683c0103f482e01d01919d4321232df1102cf24961f055a1282801e2c2c2bf1d0042033e1b18041800503d71e01a11b1d1b210293013401280000722410220410162d41c192b439420331432e270182,[],[],[.tmp 4],[D7 iY vO,D7 A08 B5v,D7 rJ A6B,D7 jM sL,D7 W4 Z2,D7 D8 E7,D7 wD B1Q]⟩
def A0i:=cC.R
def A6z:AtH:=cC.lj 0 n [m] [x0,x40,x41,x42]
def A8j:=tT [⟨2,4,A6z⟩]
def B47:=mR A0i cC A8j n [a0,a1] h
def A13:=mL cC A8j 0 n [m] [x0,x40,x41,x42] h
def A7P:=cC.K Tryz.func93
def A0l:=cC.S
def B1I:G0 A0i A0l:=A7P.flat
def fX:FD A8:=⟨px 0X13cf5001b18190420682f5c1b683c5e681e0101b18191034e1a04e1e2484e1f0101b18191033c1a03c1e1a2e3c1f010380383b061841852c18000072122a10162d44182b3027f21b63b61b61b71c31d4231642e2195182,[],[.eqA A5 ([.i .i64,.i .i64,.i .i64,.i .i64,.i .i64,.i .i64]) (.t 11) (.t 12)],[.tmp 5],[D7 A0l A7P]⟩
def qO:=fX.R
def A9M:=mR qO fX (tT []) n [a0,a1,a2] h
def A2s:=fX.K Tryz.func92
def fZ:=fX.S
def A7l:G0 qO fZ:=A2s.flat
def M9:FD A8:=⟨px 0X13601024bf1e055a04b49218011b6017800000004722430381902822c5d6e206205d2f05d1e05c5d1f045d3c005d1f05d6c75d705d1e0485d1f5a5d70104224e10412c2a2b1f01918d35329f2763c181b071841871d41e42150307024613401213f4200605110290440503d719063d3b3953138200003336015301c2,[],[],[.tmp 6],[D7 F8 K1,D7 fZ A2s]⟩
def pY:=M9.R
def dK:K6:=M9.E
def cZ:AtH:=M9.lj 0 n [m] [x0,x1,x2,x12,x13,x14]
def pZ:TT:=⟨dK,[⟨2,6,cZ⟩]⟩
def A2c:=mR pY M9 pZ n [a0,a1,a2] h
def A14:=mL M9 pZ 0 n [m] [x0,x1,x2,x12,x13,x14] h
def pX:=M9.K Tryz.func89
def dL:=M9.S
def A0m:G0 pY dL:=pX.flat
def lO:FD A8:=⟨px 0X15f200194303611bc5e44400523103a2342,[],[],[.tmp 2],[D7 dL pX]⟩
def A5L:=lO.R
def B2A:=mR A5L lO (tT []) n [a0] h
def A5D:=lO.K Tryz.func45
def wY:=lO.S
def A95:G0 A5L wY:=A5D.flat
def iS:FD A8:=⟨px 0X139f180303c1901b182f7b044581a4e5875858702f702f4d04202f2f3e2f7032f3c002f1f002f1f02f6c72f70110321e12a00000172318017530282,[],[],[.tmp 8],[D7 W4 Z2]⟩
def A4c:=iS.R
def B1D:=mR A4c iS (tT []) n [a0,a1,a2,a3] h
def A3S:=iS.K Tryz.func95
def tH:=iS.S
def A8h:G0 A4c tH:=A3S.flat
def P9:FD A8:=⟨px 0X13501026af49054a06a49218011b5011b0000027224042e3a41316f10423319a106223041a4f5041800503d2f4039027812f4c591d0191cb3534bf1904126a423503270244131889012118d42016251490118b1d262820130135016e0000172241022041a6c3e2b3189421d2601d3011b501680000172240439184135c1041a5c55e395957b422a2e501d338f1f052a03849218011b5014c00000037224046184134813a13a14a2b5955f33622af129f7061867a414282a18215030702451339012149420060511061842a1d2b33f3d182031cf6001030421c1a2b41d4231642e2195182,[],[],[.tmp 5],[D7 wR A3J,D7 tH A3S,D7 D8 E7,D7 pI A25]⟩
def A1u:=P9.R
def zV:AtH:=P9.lj 0 n [m] [x2,x4,x6,x14,x15]
def zW:AtH:=P9.lj 1 n [m] [x2,x4,x6,x33]
def nN:=tT [⟨2,5,zV⟩,⟨2,4,zW⟩]
def A7V:=mR A1u P9 nN n [a0,a1,a2] h
def sC:=mL P9 nN 0 n [m] [x2,x4,x6,x14,x15] h
def sD:=mL P9 nN 1 n [m] [x2,x4,x6,x33] h
def A1j:=P9.K Tryz.func94
def dZ:=P9.S
def A5d:G0 A1u dZ:=A1j.flat
def L5:FD A8:=⟨px 0X13601024bf1e055a04b49218011b6017800000004722430381902822c5d6e206205d2f05d1e05c5d1f045d3c005d1f05d6c75d705d1e0485d1f5a5d70104224e10412c2a2b1f01918d35329f2763c181b071841871d41e42150307024613401213f4200605110290440503d719063d3b3953138200003336015301c2,[],[],[.tmp 6],[D7 F8 K1,D7 dZ A1j]⟩
def mY:=L5.R
def cG:K6:=L5.E
def bQ:AtH:=L5.lj 0 n [m] [x0,x1,x2,x12,x13,x14]
def nL:TT:=⟨cG,[⟨2,6,bQ⟩]⟩
def A1s:=mR mY L5 nL n [a0,a1,a2] h
def A0L:=mL L5 nL 0 n [m] [x0,x1,x2,x12,x13,x14] h
def mU:=L5.K Tryz.func89
def cJ:=L5.S
def yL:G0 mY cJ:=mU.flat
def iQ:FD A8:=⟨px 0X15f20054303611be5e44400523103a2342,[],[],[.tmp 2],[D7 cJ mU]⟩
def A37:=iQ.R
def B1y:=mR A37 iQ (tT []) n [a0] h
def A3N:=iQ.K Tryz.func46
def tA:=iQ.S
def A8c:G0 A37 tA:=A3N.flat
def Z8:FD A8:=⟨px 0X15af203f5a02500000000067259f2b055c0594921858f3e052c02218022a181a11d5002040411d7817e4a071849f700441811d368423503270241813401217f420162501102901a233062230405855e4185c42f1c180197d7b7921d32ef2763c51b071841871d43e42150307024513401215942006051102901133e4281c44f4d4b42820131ff3000116b0400502e1c2b57201920112481500622410320103031801e182b42f420314a03a2342,[],[],[.tmp 2],[D7 fJ jZ,fU dR A18,D7 F8 K1,D7 X5 qN]⟩
def B2z:=Z8.R
def A2n:AtH:=Z8.lj 0 n [m] [x1,x3,x17,x18,x19]
def B1u:AtH:=Z8.lj 1 n [m,m2] [x1,x3,x17,x18,x19,x28,x29,x30]
def A4q:=tT [⟨2,5,A2n⟩,⟨3,8,B1u⟩]
def B75:=mR B2z Z8 A4q n [a0] h
def A46:=mL Z8 A4q 0 n [m] [x1,x3,x17,x18,x19] h
def A47:=mL Z8 A4q 1 n [m,m2] [x1,x3,x17,x18,x19,x28,x29,x30] h
def A3M:=Z8.K Tryz.func97
def wX:=Z8.S
def B6W:A3T B2z wX:=A3M.out
def Y7:FD A8:=⟨px 0X132010229f1b051c02949218011b201500001722450522e1f02490521ef400441811d3284215030702431340121394200605110290103041800503d75072f2d2b1c20133201042,[],[],[.tmp 2],[D7 wX A3M]⟩
def A4b:=Y7.R
def A2O:AtH:=Y7.lj 0 n [m] [x9,x10,x11]
def A4s:=tT [⟨2,3,A2O⟩]
def B1C:=mR A4b Y7 A4s n [a0] h
def yJ:=mL Y7 A4s 0 n [m] [x9,x10,x11] h
def A3R:=Y7.K Tryz.func47
def tG:=Y7.S
def A8g:G0 A4b tG:=A3R.flat
def R3:FD A8:=⟨px 0X14ef20038042433033041800503d7101236e3e07019500000004733df2a052e03d4921803cf300613901011113e5c15c15182410524c2f02693522ef12cf400461a11d4153c3e18215011a07024513401214f4200605110290113041800503d71c074d4b491c2031bf300103031800500503d76077423201042,[],[.eqA A5 (E55 256 (.i .u8)) (.t 31) (.t 37)],[.tmp 2],[D7 A4k A9k,D7 wX A3M,D7 pD A24,D7 sX A3H,D7 D8 E7]⟩
def A2y:=R3.R
def A15:AtH:=R3.lj 0 n [m] [x0,x3,x16,x17,x18]
def B4l:AtH:=R3.lj 1 n [m] [x0,x3,x16,x17,x18]
def qU:=tT [⟨2,5,A15⟩,⟨2,5,B4l⟩]
def A9N:=mR A2y R3 qU n [a0] h
def uZ:=mL R3 qU 0 n [m] [x0,x3,x16,x17,x18] h
def uY:=mJ R3 qU 1 n [m] [x0,x3,x16,x17,x18] h
def A2t:=R3.K Tryz.func48
def qR:=R3.S
def A7m:G0 A2y qR:=A2t.flat
def O5:FD A8:=⟨px 0X16cf206f6c0250000003726bf4f053806b4921806af6001813901011113e190027f16f161824005f1985c021bb2525bf159f700461a11d415291f18215011a07024413401211a9420060511029193818387c17387816386c15386814385c13385812384c11384810383c2b02d19f19d19b1c201314a11d422af5001133c4291c31b0520128f2051011113e2500622410322c1e023f421131df11cf2462e31b11828061c2c1bf190010371a018197019212481042,[],[.mkb 40 (.t 19),.mkb 41 (.t 21),.mkb 42 (.t 23),.mkb 43 (.t 25),.mkb 44 (.t 27),.mkb 45 (.t 29),.mkb 46 (.t 31),.mkb 47 (.t 33),.mkb 48 (.t 35),.buildSl 1 9 (E55 9 (.nf)) [(0,1,(.t 20)),(1,1,(.t 22)),(2,1,(.t 24)),(3,1,(.t 26)),(4,1,(.t 28)),(5,1,(.t 30)),(6,1,(.t 32)),(7,1,(.t 34)),(8,1,(.t 36))]],[.tmp 2],[fU uE B4s,fU A99 B7S,D7 nH A1l,D7 xD A5F,D7 wZ A5E,D7 tC A3O,D7 tD A3P,D7 wY A5D,D7 tA A3N,D7 tG A3R,D7 qR A2t]⟩
def A2x:=O5.R
def qM:K6:=O5.E
def A12:AtH:=O5.lj 0 n [m] [x6,x37,x38,x39]
def B4k:AtH:=O5.lj 1 n [m] [x6,x37,x38,x39]
def qT:TT:=⟨qM,[⟨2,4,A12⟩,⟨2,4,B4k⟩]⟩
def A9L:=mR A2x O5 qT n [a0] h
def uX:=mL O5 qT 0 n [m] [x6,x37,x38,x39] h
def uW:=mJ O5 qT 1 n [m] [x6,x37,x38,x39] h
def A2r:=O5.K Tryz.func11
def qQ:=O5.S
def A8b:A3T A2x qQ:=A2r.out
end
structure IsLook(D:Dev)(n m:Int)(f:Cell)(h:A9)(r:Nat):Prop where
 view:IsView h f D
 row:∃ x w,rd h r=A4 ⟨vwC (l_ D) n m f++[x],w⟩/\IsTree h (.c x) (E4 D n)
def D9F{sz n:Nat}{cs:List Cell}(hv:Has h v sz n cs):∃ x,v=.c x:=by
 rcases hv with ⟨rfl,_⟩ | ⟨id,off,r,rfl,_⟩
 ·exact ⟨_,rfl⟩
 ·exact ⟨_,rfl⟩
section
variable {D:Dev} {n m:Int} {f:Cell} {h:A9} {r:Nat}
def IsLook.noX{x:Cell}{w:Bool}{f':Cell}(hv:IsView h f' D)(ht:IsTree h (.c x) (E4 D n)):Esc.noX (vwC (l_ D) n m f'++[x])=A5:=by
 obtain ⟨id,cs,rfl⟩:=hv.get;obtain ⟨_,hx,_⟩:=ht;have hn:=A8P hx;unfold Esc.noX;rw [List.all_append];have e1:(vwC (l_ D) n m (.f id cs)).all (λc=>!c.isX)=A5:=rfl;rw [e1];show (A5&&(!x.isX&&A5))=A5;rw [hn];rfl
def IsLook.ro(k:IsLook D n m f h r):IsLook D n m f (Esc.ro h) r:=by
 obtain ⟨x,w,h1,h2⟩:=k.row;exact ⟨k.view.ro,x,A6,sR h1 (IsLook.noX (w:=w) k.view h2),h2.ro⟩
def IsLook.more(k:IsLook D n m f h r)(t:A9):IsLook D n m f (h++t) r:=by
 obtain ⟨x,w,h1,h2⟩:=k.row;exact ⟨k.view.more t,x,w,B7 h1,h2.more t⟩
def IsLook.v4(k:IsLook D n m f h r):D1 h 4 (pV r 0)=A4 (.a (vwC (l_ D) n m f)):=by
 obtain ⟨x,w,h1,h2⟩:=k.row;have hx:=IsLook.noX (n:=n) (m:=m) (w:=w) k.view h2;rw [T1 h1 (by simp [vwC]) (by
  have:Esc.noX (((vwC (l_ D) n m f++[x]).drop 0).take 4)=A5:=by
   rw [Esc.noX] at hx ⊢;exact List.all_eq_true.2 λc hc=>List.all_eq_true.1 hx c (by rw [E6i] at hc;exact List.mem_of_mem_take hc)
  rw [this];simp)]
 rfl
def IsLook.v3(k:IsLook D n m f h r):D1 h 3 (pV r 0)=A4 (.a (K9 (l_ D) n m)):=by
 obtain ⟨x,w,h1,h2⟩:=k.row;have hx:=IsLook.noX (n:=n) (m:=m) (w:=w) k.view h2;rw [T1 h1 (by simp [vwC]) (by
  have:Esc.noX (((vwC (l_ D) n m f++[x]).drop 0).take 3)=A5:=by
   rw [Esc.noX] at hx ⊢;exact List.all_eq_true.2 λc hc=>List.all_eq_true.1 hx c (by rw [E6i] at hc;exact List.mem_of_mem_take hc)
  rw [this];simp)]
 rfl
def IsLook.tree(k:IsLook D n m f h r):∃ x,B9 h (pV r 4)=A4 (.c x)/\IsTree h (.c x) (E4 D n):=by
 obtain ⟨x,w,h1,h2⟩:=k.row;obtain ⟨_,hx,_⟩:=id h2;have hn:=A8P hx;exact ⟨x,C4 h1 rfl (by rw [hn];simp),h2⟩
def C8r(hD:okD D)(hv:IsView h f D):∃ rr H,A99 [.a (vwC (l_ D) n m f)] h=A4 (pV rr 0,H)/\Grows h H/\IsLook D n m f H rr:=by
 obtain ⟨V,hV⟩:=xEq (vwC (l_ D) n m f);have hVl:l_ V=4:=by rw [hV];rfl
 obtain ⟨G,hG⟩:=xEq (h++[rT V]);obtain ⟨v,H,o1,o2,o3⟩:=C8l (n:=n) (m:=m) (h:=G) hD (by rw [hG];exact hv.more _);obtain ⟨_,hx,_⟩:=id o2;obtain ⟨x,rfl⟩:=D9F hx;have o1q:quiet G (dR [.a (vwC (l_ D) n m f)] G)=A4 (.c x,H):=by rw [o1];exact W2 o3
 have l4:D1 G 4 (pV (l_ h) 0)=A4 (.a V):=by rw [hG,G8];exact K8 hVl
 have ef:F5 [o0,o0,.i .u64 0,.nf,.ns] [(0,4,.a V),(4,1,.c x)]=A4 (V++[x]):=by rw [hV];rfl
 have G1:Grows h G:=by rw [hG];exact Grows.rfl'.new _
 have lH:Low (l_ G) G H:=by
  refine ⟨E56 _,o3.len,λid hid=>?_⟩;obtain ⟨tt,rfl⟩:=o3.1;exact D3 hid
 refine ⟨l_ H,H++[rT (V++[x])],C3K (n:=0) ?_,(G1.trans' o3).new _,⟨?_,x,A5,?_,o2.more _⟩⟩
 ·rw [C3w,<-hV];rw [<-hV] at o1q;simp only [esc,<-hG,l4,o1q,ef]
 ·exact ((by rw [hG];exact hv.more _:IsView G f D).since lH).more _
 ·rw [I5,hV];rfl
def B4i(D:Dev)(n:Int):Bool:=!((E6z (mP (l_ D) n).toNat).all λk=>A4E (blk D (bH (l_ D) n+(k:Nat))) 8 0)
def D1l(hD:okD D)(k:IsLook D n m f h r):∀ (e i M:Nat),i+e=(mP (l_ D) n).toNat->e<M ->
  ∃ g',zZ q M (pV r 0) (iV (bH (l_ D) n)) (iV (mP (l_ D) n)) (iV (bH (l_ D) n+(i:Nat))) h=A4 (bV (!((E6v i e).all λk=>A4E (blk D (bH (l_ D) n+(k:Nat))) 8 0)),g'):=by
 intro e;obtain ⟨t0,t2,n0,n16⟩:=C1U (b:=l_ D) (n:=n)
 induction e with
 | zero =>
  intro i M hi hM;obtain ⟨M,rfl⟩:=aP M (by omega);have c0:¬ bH (l_ D) n+(i:Nat)<bH (l_ D) n+mP (l_ D) n:=by omega
  have w0:E6a .i64 (bH (l_ D) n+mP (l_ D) n)=bH (l_ D) n+mP (l_ D) n:=wrap_i64 (by omega) (by omega);rw [sF];exact ⟨_,by simp only [esc,w0,c0]<;>rfl⟩
 | succ e ih =>
  intro i M hi hM;obtain ⟨M,rfl⟩:=aP M (by omega);have c0:bH (l_ D) n+(i:Nat)<bH (l_ D) n+mP (l_ D) n:=by omega
  have w0:E6a .i64 (bH (l_ D) n+mP (l_ D) n)=bH (l_ D) n+mP (l_ D) n:=wrap_i64 (by omega) (by omega);have w1:E6a .i64 (bH (l_ D) n+(i:Nat)+1)=bH (l_ D) n+((i+1:Nat):Int):=by rw [wrap_i64 (by omega) (by omega)];omega
  have l4:=k.v4;have hB:=M7 (n:=n) (m:=m) (no:=bH (l_ D) n+(i:Nat)) hD k.view;have hC:=C7g (b:=blk D (bH (l_ D) n+(i:Nat))) (h:=h) (J9 hD);obtain ⟨g',f1⟩:=ih (i+1) M (by omega) (by omega);rw [sF,List.range'_succ,E62];generalize vwC (l_ D) n m f=V at *;generalize B5 (blk D (bH (l_ D) n+(i:Nat)))=X at *;cases hc:A4E (blk D (bH (l_ D) n+(i:Nat))) 8 0 with
  | false =>
   rw [hc] at hC;exact ⟨h,by simp only [esc,w0,c0,l4,hB,hC,E6p]⟩
  | true =>
   rw [hc] at hC;refine ⟨g',?_⟩;simp only [esc,w0,c0,l4,hB,hC,w1,E6t];exact f1
def C1Z(hD:okD D)(k:IsLook D n m f h r):nH [pV r 0] h=A4 (bV (B4i D n),h):=by
 obtain ⟨g',f1⟩:=D1l (q:=100) hD k.ro (mP (l_ D) n).toNat 0 100 (by omega) (by have:=(C1U (b:=l_ D) (n:=n)).2.2.2;omega);have l3:=k.ro.v3;have hT:=A1b (b:=l_ D) (n:=n) (m:=m) (h:=ro h);refine A5f (n:=100) (h2:=g') ?_ rfl;rw [A7X];have z0:bH (l_ D) n+((0:Nat):Int)=bH (l_ D) n:=by omega
 rw [z0] at f1;unfold B4i;rw [List.range_eq_range'];generalize K9 (l_ D) n m=L at *;simp only [esc,l3,hT];exact f1
def C9E(D:Dev)(n:Int):Bool:=!decide (kdV D n 1=2/\lnV D n 1=1/\paV D n 1=1)
end
section
variable {D:Dev} {n m:Int} {f:Cell} {h:A9} {r:Nat}
def C8s(hD:okD D)(k:IsLook D n m f h r):xD [pV r 0] h=A4 (bV (C9E D n),h):=by
 have key:∀ g,IsLook D n m f g r->∃ g',wA 0 [pV r 0] g=A4 (bV (C9E D n),g'):=λg k=>by
  have l4:=k.v4;have hI:=V1 (n:=n) (m:=m) (i:=1) hD k.view;rw [pN] at hI;obtain ⟨I,hIe⟩:=xEq (C8 (kdV D n 1) (lnV D n 1) (szV D n 1) (paV D n 1) (drV D n 1));have hIl:l_ I=11:=by rw [hIe];simp [C8,C1,O8]
  have i0:I[0]?=A4 (cI (kdV D n 1)):=by rw [hIe];rfl
  have i1:I[1]?=A4 (cI (lnV D n 1)):=by rw [hIe];rfl
  have i3:I[3]?=A4 (cI (paV D n 1)):=by rw [hIe];rfl
  rw [<-hIe] at hI;obtain ⟨G,hG⟩:=xEq (g++[rT I]);have st:F9 (g++[rT [o0,o0,o0,o0,o0,o0,o0,o0,o0,o0,o0]]) 11 (pV (l_ g) 0) (.a I)=A4 G:=by
   rw [storeAll (n:=11) (cs:=[o0,o0,o0,o0,o0,o0,o0,o0,o0,o0,o0]) (by rw [I5];rfl) rfl hIl,yD,hG];rfl
  have rG:rd G (l_ g)=rT I:=by rw [hG,I5];rfl
  have a0:B9 G (pV (l_ g) 0)=A4 (iV (kdV D n 1)):=C4 rG i0 rfl;have a1:B9 G (pV (l_ g) 1)=A4 (iV (lnV D n 1)):=C4 rG i1 rfl;have a3:B9 G (pV (l_ g) 3)=A4 (iV (paV D n 1)):=C4 rG i3 rfl;refine ⟨G,?_⟩;rw [B2D];unfold C9E;generalize vwC (l_ D) n m f=V at *;by_cases c0:kdV D n 1=2
  ·by_cases c1:lnV D n 1=1
   ·by_cases c3:paV D n 1=1
    ·rw [decide_eq_true ⟨c0,c1,c3⟩];simp only [esc,l4,hI,st,a0,a1,a3,c0,c1,c3,eq_self]
    ·rw [decide_eq_false (λh=>c3 h.2.2)];simp only [esc,l4,hI,st,a0,a1,a3,c0,c1,c3,eq_self]
   ·rw [decide_eq_false (λh=>c1 h.2.1)];simp only [esc,l4,hI,st,a0,a1,a3,c0,c1,eq_self]
  ·rw [decide_eq_false (λh=>c0 h.1)];simp only [esc,l4,hI,st,a0,a1,a3,c0,eq_self]
 obtain ⟨g',e⟩:=key _ k.ro;exact A98 e rfl
def B6o(k:IsLook D n m f h r):mC [pV r 0,iV a] h=A4 (bV (gO (E4 D n) a).isSome,h):=by
 have key:∀ g,IsLook D n m f g r->∃ g',vZ 0 [pV r 0,iV a] g=A4 (bV (gO (E4 D n) a).isSome,g'):=λg k=>by
  obtain ⟨x,l1,ht⟩:=k.tree;obtain ⟨cs,l,hF,hN⟩:=B90 (a:=a) ht fG;obtain ⟨G,hG⟩:=xEq (g++l);rw [<-hG] at hF;have st:F9 (G++[rT [o0,o0,o0,o0,o0,.ns,.ns]]) 7 (pV (l_ G) 0) (.a cs)=A4 (G++[rT cs]):=B4f hN.length;refine ⟨G++[rT cs],?_⟩;rw [B2C];simp only [C6,A55,Q8,E6j,l1,hF,xH,E6K,E6o,E6I,eY,eZ,st]
 obtain ⟨g',e⟩:=key _ k.ro;exact A97 e rfl
def D2M(D:Dev)(n:Int):Bool:=!((uO (kdV D n) 128 0).all λi=>(gO (E4 D n) i).isSome)
def D7A{id:Nat}(k:IsLook D n m f h r)(hr:rd h id=rT (encI L))(hL:l_ L<=1000):∀ (e i M:Nat),i+e=l_ L->e<M ->
  ∃ g',A48 q M (pV r 0) (sV id 0 (l_ L) 1) (iV (l_ L:Nat)) (iV (i:Int)) h=A4 (bV (!((L.drop i).all λi=>(gO (E4 D n) i).isSome)),g'):=by
 intro e
 induction e with
 | zero =>
  intro i M hi hM;obtain ⟨M,rfl⟩:=aP M (by omega);have c0:¬ (i:Int)<(l_ L:Nat):=by omega
  rw [zX,E6f (by omega)];exact ⟨_,by simp only [esc,c0]<;>rfl⟩
 | succ e ih =>
  intro i M hi hM;obtain ⟨M,rfl⟩:=aP M (by omega);have K7:i<(l_ L):=by omega
  have c0:(i:Int)<(l_ L:Nat):=by omega
  have w1:=D9 (a:=i) (by omega);have ad:E9 1 (sV id 0 (l_ L) 1) (iV (i:Int))=A4 (pV id i):=by rw [E3 K7];simp
  have la:B9 h (pV id i)=A4 (iV L[i]):=C4 hr (by rw [G6,E51 K7];rfl) rfl;have hN:=B6o (a:=L[i]) k;obtain ⟨g',f1⟩:=ih (i+1) M (by omega) (by omega);rw [zX,E6b K7,E62];cases hc:(gO (E4 D n) L[i]).isSome with
  | false =>
   rw [hc] at hN;exact ⟨h,by simp only [esc,c0,ad,la,hN,E6p]⟩
  | true =>
   rw [hc] at hN;refine ⟨g',?_⟩;simp only [esc,c0,ad,la,hN,w1,E6t];exact f1
def C8q(hD:okD D)(k:IsLook D n m f h r):wZ [pV r 0] h=A4 (bV (D2M D n),h):=by
 have l4:=k.ro.v4;have hV:=C7w (n:=n) (m:=m) hD k.ro.view;have hl:=B9h (kdV D n) 128 0;obtain ⟨L,hL⟩:=xEq (uO (kdV D n) 128 0);rw [<-hL] at hV hl;obtain ⟨g',f1⟩:=D7A (q:=200) (id:=(ro h).length) (k.ro.more [rT (encI L)]) (by rw [I5];rfl) (by omega) (l_ L) 0 200 (by omega) (by omega);have z0:((0:Nat):Int)=0:=rfl;rw [z0,E6i] at f1;refine A96 (n:=200) (h2:=g') ?_ rfl;rw [B2B];unfold D2M;rw [<-hL];generalize vwC (l_ D) n m f=V at *;simp only [esc,l4,hV];exact f1
end
def B7A(t:List Nd)(dir a:Int):Bool:=((gO t dir).getD ⟨0,0,0,0,0,[],[]⟩).names.any λe=>decide (e.2=a)
def uR(t:List Nd)(x:Nd):Bool :=
 if x.ino=1 then decide ((nZ t x.ino:Int)≠0) else
  (decide (x.links≠nZ t x.ino)||(decide (x.kind=1)&&decide (x.parent≠0)))||(decide (x.kind=2)&&(decide ((nZ t x.ino:Int)≠1) || !(B7A t x.parent x.ino)))
def D0L(D:Dev)(n:Int):Bool:=(E4 D n).any (uR (E4 D n))
section
variable {D:Dev} {n m:Int} {f:Cell} {h:A9} {r:Nat}
def D5B{y:Cell}{L:List Ent}(hL:l_ L<=1000000):∀ (e i M:Nat) (h:A9),i+e=l_ L->e<M->Has h (.c y) 2 (l_ L) (J8 L) ->
  ∃ g',A2N q M (.c (cI a)) (.c y) (.c (cI (l_ L:Nat))) (.c (cI (i:Int))) h=A4 (.c (.b ((L.drop i).any λe=>decide (e.2=a))),g'):=by
 intro e
 induction e with
 | zero =>
  intro i M h hi hM hy;obtain ⟨M,rfl⟩:=aP M (by omega);have c0:¬ (i:Int)<(l_ L:Nat):=by omega
  rw [yI,E6f (by omega)];exact ⟨_,by simp only [esc,c0]<;>rfl⟩
 | succ e ih =>
  intro i M h hi hM hy;obtain ⟨M,rfl⟩:=aP M (by omega);have K7:i<(l_ L):=by omega
  have c0:(i:Int)<(l_ L:Nat):=by omega
  have w1:=D9 (a:=i) (by omega);obtain ⟨ad,a1,a2⟩:=A3C hy K7;obtain ⟨x,hx⟩:=xEq (L[i]);rw [<-hx] at a2;obtain ⟨g',f1⟩:=ih (i+1) M (h++[rT (W0 (A4 x))]) (by omega) (by omega) (hy.more _);rw [yI,E6b K7,<-hx,List.any_cons];by_cases c:x.2=a
  ·rw [decide_eq_true c];exact ⟨h++[rT (W0 (A4 x))],by simp only [C6,G3,c0,decide_true,W9,a1,a2,B4e,Q8,E6j,C5V,gH,c,decide_true,E6P]⟩
  ·rw [decide_eq_false c,E6U];refine ⟨g',?_⟩;simp only [C6,G3,c0,decide_true,W9,a1,a2,B4e,Q8,E6j,C5V,gH,c,decide_false,Y0,L7,w1];exact f1
def D2l{t:List Nd}(hs:small t):((gO t a).getD ⟨0,0,0,0,0,[],[]⟩).names.length<=1000000:=by
 cases hf:gO t a with
 | none=>exact Nat.zero_le _
 | some x=>exact (hs.2 x (List.mem_of_find?_eq_some hf)).2
def C7C{dir:Int}(k:IsLook D n m f h r):tF [.c (.p r 0),.c (cI dir),.c (cI a)] h=A4 (.c (.b (B7A (E4 D n) dir a)),h):=by
 obtain ⟨x,l1,ht⟩:=k.ro.tree;obtain ⟨cs,l,hF,hN⟩:=B90 (a:=dir) ht fG;have hs:=D2l (a:=dir) (fG (D:=D) (n:=n));unfold B7A;generalize (gO (E4 D n) dir).getD ⟨0,0,0,0,0,[],[]⟩=nd at *;obtain ⟨G,hG⟩:=xEq (ro h++l);rw [<-hG] at hF hN;have st:F9 (G++[rT [o0,o0,o0,o0,o0,.ns,.ns]]) 7 (.c (.p (l_ G) 0)) (.a cs)=A4 (G++[rT cs]):=B4f hN.length;obtain ⟨x1,y,rfl,h1,h2⟩:=hN;obtain ⟨K,hK⟩:=xEq (G++[rT (ndC nd.ino nd.kind nd.links nd.parent nd.size x1 y)]);rw [<-hK] at st;have hny:=A8P h2;have l6:B9 K (.c (.p (l_ G) 6))=A4 (.c y):=C4 (by rw [hK,I5];rfl) rfl rfl;have hyK:Has K (.c y) 2 nd.names.length (J8 nd.names):=by rw [hK];exact h2.more _
 have hyl:=hyK.len;obtain ⟨g',f1⟩:=D5B (q:=nd.names.length+1) (a:=a) hs nd.names.length 0 (nd.names.length+1) K (by omega) (by omega) hyK;have z0:((0:Nat):Int)=0:=rfl;rw [z0,E6i] at f1;refine A8f (n:=nd.names.length+1) (h2:=g') ?_ rfl;rw [B1B];generalize ndC nd.ino nd.kind nd.links nd.parent nd.size x1 y=N at *;simp only [C6,A55,Q8,E6j,l1,hF,xH,E6K,E6o,E6I,eY,eZ,st,l6,hyl];exact f1
def D4Q:∀ (e i M:Nat) (h:A9) (x:Cell),i+e=(E4 D n).length->e<M->IsLook D n m f h r->B9 h (pV r 4)=A4 (.c x)->IsTree h (.c x) (E4 D n) ->
  ∃ g',A2M q M (pV r 0) (.c x) (iV ((E4 D n).length:Nat)) (iV (i:Int)) h=A4 (bV (((E4 D n).drop i).any (uR (E4 D n))),g'):=by
 have hsm:=fG (D:=D) (n:=n);have hlen:=hsm.1;intro e
 induction e with
 | zero =>
  intro i M h x hi hM k l1 ht;obtain ⟨M,rfl⟩:=aP M (by omega);have c0:¬ (i:Int)<((E4 D n).length:Nat):=by omega
  rw [yH,E6f (by omega)];exact ⟨_,by simp only [esc,c0]<;>rfl⟩
 | succ e ih =>
  intro i M h x hi hM k l1 ht;obtain ⟨M,rfl⟩:=aP M (by omega);have K7:i<(E4 D n).length:=by omega
  have c0:(i:Int)<((E4 D n).length:Nat):=by omega
  have w1:=D9 (a:=i) (by omega);obtain ⟨id,o,cs,a1,a2,_,hN⟩:=D3S ht K7;have st:F9 (h++[rT [o0,o0,o0,o0,o0,.ns,.ns]]) 7 (pV (l_ h) 0) (.a cs)=A4 (h++[rT cs]):=B4f hN.length;obtain ⟨K,hK⟩:=xEq (h++[rT cs]);have rK:rd K (l_ h)=rT cs:=by rw [hK,I5];rfl
  rw [<-hK] at st;have kK:IsLook D n m f K r:=by rw [hK];exact k.more _
  have htK:IsTree K (.c x) (E4 D n):=by rw [hK];exact ht.more _
  have lK:B9 K (pV r 4)=A4 (.c x):=by
   obtain ⟨x',l',_⟩:=kK.tree;obtain ⟨xx,w,r1,r2⟩:=k.row;have e1:rd K r=A4 ⟨vwC (l_ D) n m f++[xx],w⟩:=by rw [hK];exact B7 r1
   have hn:=A8P r2.choose_spec.1;have e2:B9 h (pV r 4)=A4 (.c xx):=C4 r1 rfl (by rw [hn];simp);rw [e2] at l1;cases l1;exact C4 e1 rfl (by rw [hn];simp)
  obtain ⟨nd,hnd⟩:=xEq ((E4 D n)[i]);rw [<-hnd] at hN;have hC:=C8j (a:=nd.ino) htK hsm;have hT:=C7C (dir:=nd.parent) (a:=nd.ino) kK;obtain ⟨g',f1⟩:=ih (i+1) M K x (by omega) (by omega) kK lK htK;obtain ⟨x1,y1,ecs,_,_⟩:=hN;have g0:B9 K (pV (l_ h) 0)=A4 (iV nd.ino):=C4 rK (by rw [ecs];rfl) rfl;have g1:B9 K (pV (l_ h) 1)=A4 (iV nd.kind):=C4 rK (by rw [ecs];rfl) rfl;have g2:B9 K (pV (l_ h) 2)=A4 (iV nd.links):=C4 rK (by rw [ecs];rfl) rfl;have g3:B9 K (pV (l_ h) 3)=A4 (iV nd.parent):=C4 rK (by rw [ecs];rfl) rfl;rw [yH,E6b K7,<-hnd,List.any_cons];have back:uR (E4 D n) nd=A6->A2L q M (pV r 0) (.c x) (iV ((E4 D n).length:Nat)) (iV (i:Int)) K=A4 (bV (uR (E4 D n) nd||((E4 D n).drop (i+1)).any (uR (E4 D n))),g'):=by
   intro hb;rw [B0Q,hb,E6U];simp only [C6,L7,w1];exact f1
  have pre:∀ {R:Option (Val × A9)},True:=λ{_}=>trivial
  by_cases c1:nd.ino=1
  ·by_cases c2:(nZ (E4 D n) nd.ino:Int)=0
   ·have hb:uR (E4 D n) nd=A6:=by unfold uR;rw [if_pos c1,decide_eq_false (λh=>h c2)]
    refine ⟨g',?_⟩;rw [<-back hb];rw [c1] at g0 hC c2;simp only [esc,c0,a1,a2,st,lK,g0,hC,c2,eq_self]
   ·have hb:uR (E4 D n) nd=A5:=by unfold uR;rw [if_pos c1,decide_eq_true c2]
    rw [hb];refine ⟨K,?_⟩;rw [c1] at g0 hC c2;simp only [esc,c0,a1,a2,st,lK,g0,hC,c2,eq_self,E6P]
  ·have hl:uR (E4 D n) nd=((decide (nd.links≠nZ (E4 D n) nd.ino)||(decide (nd.kind=1)&&decide (nd.parent≠0)))||(decide (nd.kind=2)&&(decide ((nZ (E4 D n) nd.ino:Int)≠1) || !(B7A (E4 D n) nd.parent nd.ino)))):=by unfold uR;rw [if_neg c1]
   generalize (nZ (E4 D n) nd.ino:Int)=N at *;by_cases c2:nd.links=N
   ·by_cases c3:nd.kind=1
    ·by_cases c4:nd.parent=0
     ·have hb:uR (E4 D n) nd=A6:=by rw [hl,c2,c3,c4];simp
      refine ⟨g',?_⟩;rw [<-back hb];simp only [esc,c0,a1,a2,st,lK,g0,hC,c1,g1,g2,g3,c2,c3,c4,eq_self,Q5];simp
     ·have hb:uR (E4 D n) nd=A5:=by rw [hl,decide_eq_true c3,decide_eq_true c4];simp
      rw [hb];refine ⟨K,?_⟩;simp only [esc,c0,a1,a2,st,lK,g0,hC,c1,g1,g2,g3,c2,c3,c4,eq_self,Q5,E6P]
    ·have n21:¬ (2:Int)=1:=by decide
     by_cases c4:nd.kind=2
     ·by_cases c5:N=1
      ·cases hb2:B7A (E4 D n) nd.parent nd.ino with
       | true =>
        rw [hb2] at hT;have hb:uR (E4 D n) nd=A6:=by rw [hl,c2,hb2,decide_eq_false c3,c5];simp
        refine ⟨g',?_⟩;rw [<-back hb];simp only [esc,c0,a1,a2,st,lK,g0,hC,c1,g1,g2,g3,c2,c3,c4,n21,c5,hT,eq_self,Q5]
       | false =>
        rw [hb2] at hT;have hb:uR (E4 D n) nd=A5:=by rw [hl,hb2,decide_eq_true c4];simp
        rw [hb];refine ⟨K,?_⟩;simp only [esc,c0,a1,a2,st,lK,g0,hC,c1,g1,g2,g3,c2,c3,c4,n21,c5,hT,eq_self,Q5,E6P]
      ·have hb:uR (E4 D n) nd=A5:=by rw [hl,decide_eq_true c4,decide_eq_true c5];simp
       rw [hb];refine ⟨K,?_⟩;simp only [esc,c0,a1,a2,st,lK,g0,hC,c1,g1,g2,g3,c2,c3,c4,n21,c5,eq_self,Q5,E6P]
     ·have hb:uR (E4 D n) nd=A6:=by rw [hl,c2,decide_eq_false c3,decide_eq_false c4];simp
      refine ⟨g',?_⟩;rw [<-back hb];simp only [esc,c0,a1,a2,st,lK,g0,hC,c1,g1,g2,g3,c2,c3,c4,eq_self,Q5]
   ·have hb:uR (E4 D n) nd=A5:=by rw [hl,decide_eq_true c2];simp
    rw [hb];refine ⟨K,?_⟩;simp only [esc,c0,a1,a2,st,lK,g0,hC,c1,g1,g2,c2,eq_self,Q5,E6P]
def C7z(k:IsLook D n m f h r):tC [pV r 0] h=A4 (bV (D0L D n),h):=by
 obtain ⟨x,l1,ht⟩:=k.ro.tree;have hlen:=(fG (D:=D) (n:=n)).1;obtain ⟨g',f1⟩:=D4Q (q:=(E4 D n).length+1) (E4 D n).length 0 ((E4 D n).length+1) _ x (by omega) (by omega) k.ro l1 ht;have z0:((0:Nat):Int)=0:=rfl;rw [z0,E6i] at f1;have al:=ht.len;refine A8d (n:=(E4 D n).length+1) (h2:=g') ?_ rfl;rw [B1z];simp only [C6,A55,Q8,E6j,l1,al];exact f1
end
def C1D(D:Dev)(n i:Int):Bool:=(gQ D n (kdV D n i) (drV D n i)).any λe=>!(gO (E4 D n) e.2).isSome
def C6G(D:Dev)(n:Int):Bool:=(E4 D n).any λx=>decide (x.kind=2)&&C1D D n x.ino
section
variable {D:Dev} {n m:Int} {f:Cell} {h:A9} {r:Nat}
def D2T{y:Cell}{L:List Ent}(hL:l_ L<=1000000):∀ (e i M:Nat) (h:A9),i+e=l_ L->e<M->IsLook D n m f h r->(∃ w,rd h pp=A4 ⟨[.p r 0],w⟩)->Has h (.c y) 2 (l_ L) (J8 L) ->
  ∃ g',zY q M (.c (.p pp 0)) (.c y) (.c (cI (l_ L:Nat))) (.c (cI (i:Int))) h=A4 (.c (.b ((L.drop i).any λe=>!(gO (E4 D n) e.2).isSome)),g'):=by
 intro e
 induction e with
 | zero =>
  intro i M h hi hM k hp hy;obtain ⟨M,rfl⟩:=aP M (by omega);have c0:¬ (i:Int)<(l_ L:Nat):=by omega
  rw [sE,E6f (by omega)];exact ⟨_,by simp only [esc,c0]<;>rfl⟩
 | succ e ih =>
  intro i M h hi hM k hp hy;obtain ⟨M,rfl⟩:=aP M (by omega);have K7:i<(l_ L):=by omega
  have c0:(i:Int)<(l_ L:Nat):=by omega
  have w1:=D9 (a:=i) (by omega);obtain ⟨ad,a1,a2⟩:=A3C hy K7;obtain ⟨x,hx⟩:=xEq (L[i]);rw [<-hx] at a2;obtain ⟨G,hG⟩:=xEq (h++[rT (W0 (A4 x))]);have st:F9 (h++[rT [.s [],o0]]) 2 (.c (.p (l_ h) 0)) (.a (W0 (A4 x)))=A4 G:=by rw [hG];exact B4e
  have e1:B9 G (.c (.p (l_ h) 1))=A4 (.c (cI x.2)):=by rw [hG];exact C5V
  have kG:IsLook D n m f G r:=by rw [hG];exact k.more _
  obtain ⟨w,hp1⟩:=hp;have hpG:rd G pp=A4 ⟨[.p r 0],w⟩:=by rw [hG];exact B7 hp1
  have lp:B9 G (.c (.p pp 0))=A4 (.c (.p r 0)):=C4 hpG rfl (by simp [Cell.isX]);have hN:=B6o (a:=x.2) kG;obtain ⟨g',f1⟩:=ih (i+1) M G (by omega) (by omega) kG ⟨w,hpG⟩ (by rw [hG];exact hy.more _);rw [sE,E6b K7,<-hx,List.any_cons];cases hc:(gO (E4 D n) x.2).isSome with
  | false =>
   rw [hc] at hN;exact ⟨G,by simp only [C6,G3,c0,decide_true,W9,a1,a2,st,lp,Q8,E6j,e1,hN,xK,Bool.not_false,E6P]⟩
  | true =>
   rw [hc] at hN;refine ⟨g',?_⟩;simp only [C6,G3,c0,decide_true,W9,a1,a2,st,lp,Q8,E6j,e1,hN,xK,Bool.not_true,Y0,L7,w1,E6U];exact f1
def D7G{w:Bool}(hD:okD D)(k:IsLook D n m f h r)(hp:rd h pp=A4 ⟨[.p r 0],w⟩) :
  eA [.c (cI i),.a (B0t D n i),.c (.p pp 0)] h=A4 (.c (.b (C1D D n i)),h):=by
 obtain ⟨I,hI⟩:=xEq (C8 (kdV D n i) (lnV D n i) (szV D n i) (paV D n i) (drV D n i));have hIl:l_ I=11:=by rw [hI];simp [C8,C1,O8]
 rw [pN,<-hI];obtain ⟨G,hG⟩:=xEq (ro h++[rT I]);have kG:IsLook D n m f G r:=by rw [hG];exact k.ro.more _
 have hpG:rd G pp=A4 ⟨[.p r 0],A6⟩:=by rw [hG];exact B7 (sR hp rfl)
 have lp:B9 G (.c (.p pp 0))=A4 (.c (.p r 0)):=C4 hpG rfl rfl;have l4:=kG.v4;have l11:D1 G 11 (.c (.p (ro h).length 0))=A4 (.a I):=C7 (by rw [hG,I5];rfl) hIl;have hLi:=B5Z (n:=n) (m:=m) (k:=kdV D n i) (l:=lnV D n i) (s:=szV D n i) (p:=paV D n i) (d:=drV D n i) (h:=G) hD O8 kG.view;rw [<-hI] at hLi;have E4Z:=C1y (D:=D) (n:=n) (k:=kdV D n i) (d:=drV D n i);unfold C1D;obtain ⟨L,hL⟩:=xEq (gQ D n (kdV D n i) (drV D n i));rw [<-hL] at hLi E4Z ⊢;have hLq:quiet G (wL [.a (vwC (l_ D) n m f),.a I] G)=A4 (.c (.sl (l_ G) 0 (l_ L) 2),G++[rT (J8 L)]):=by rw [hLi];exact W2 (Grows.rfl'.new _)
 obtain ⟨g',f1⟩:=D2T (q:=1000) (pp:=pp) (y:=.sl (l_ G) 0 (l_ L) 2) (L:=L) (by omega) (l_ L) 0 1000 (G++[rT (J8 L)]) (by omega) (by omega) (kG.more _) ⟨A6,B7 hpG⟩ (Has.row (by rw [I5];rfl) gN A8H);have z0:((0:Nat):Int)=0:=rfl;rw [z0,E6i] at f1;refine A5e (n:=1000) (h2:=g') ?_ rfl;rw [A7W];generalize vwC (l_ D) n m f=V at *;simp only [esc,<-hG,lp,l4,l11,hLq];exact f1
def C1G{kd:Int}{B:Int->Bool}{fc:Val}{C:Val->List Val->A9->yK}{L1:Nat->Cell->Val->A9->yK}(hD:okD D)
  (hL:∀ M y x h,L1 (M+1) y x h=bnd (N5 .lss x (iV ((E4 D n).length:Nat))) λv5=>cnd v5 (bnd (E9 7 (.c y) x) λv6=>bnd (D1 h 7 v6) λv7=>bnd (F9 (h++[rT ([o0,o0,o0,o0,o0,.ns,.ns])]) 7 (pV (l_ h) 0) v7) λh8=>bnd (T8 (pV (l_ h) 0) 1) λv9=>bnd (B9 h8 v9) λv10=>bnd (N5 .eql v10 (iV kd)) λv11=>bnd (gd v11 A5 (A4 (fc,(h8++[]))) (A4 (.no,(h8++[])))) λp12=>bnd (gd v11 A5 (bnd (T8 (pV (l_ h) 0) 0) λv13=>A4 (v13,p12.2)) (A4 (.no,p12.2))) λp14=>bnd (gd v11 A5 (bnd (B9 h8 p14.1) λv15=>A4 (v15,p14.2)) (A4 (.no,p14.2))) λp16=>bnd (gd v11 A5 (A4 ((pV r 0),p16.2)) (A4 (.no,p16.2))) λp17=>bnd (gd v11 A5 (bnd (A54 p17.1) λv18=>A4 (v18,p17.2)) (A4 (.no,p17.2))) λp19=>bnd (gd v11 A5 (bnd (T8 p19.1 0) λv20=>A4 (v20,p19.2)) (A4 (.no,p19.2))) λp21=>bnd (gd v11 A5 (bnd (D1 h8 4 p21.1) λv22=>A4 (v22,p21.2)) (A4 (.no,p21.2))) λp23=>bnd (gd v11 A5 (bnd (T8 (pV (l_ h) 0) 0) λv24=>A4 (v24,p23.2)) (A4 (.no,p23.2))) λp25=>bnd (gd v11 A5 (bnd (B9 h8 p25.1) λv26=>A4 (v26,p25.2)) (A4 (.no,p25.2))) λp27=>bnd (gd v11 A5 (bnd (quiet p27.2 (F8 [p23.1,p27.1] p27.2)) λp28=>A4 (p28.1,p28.2)) (A4 (.no,p27.2))) λp29=>bnd (gd v11 A5 (bnd (C p12.1 [p16.1,p29.1] p29.2) λp30=>A4 (p30.1,p30.2)) (A4 (.no,p29.2))) λp31=>bnd (C8P v11 p31.1 (bV A6)) λv32=>cnd v32 (A4 ((bV A5),p31.2)) (bnd (N5 .add x (iV 1)) λv33=>L1 M y v33 p31.2)) (A4 ((bV A6),h)))
  (hC:∀ a K,IsLook D n m f K r->(∃ w,rd K pp=A4 ⟨[.p r 0],w⟩)->C fc [iV a,.a (B0t D n a)] K=A4 (bV (B a),K)):∀ (e i M:Nat) (h:A9) (x:Cell),i+e=(E4 D n).length->e<M->IsLook D n m f h r->(∃ w,rd h pp=A4 ⟨[.p r 0],w⟩)->IsTree h (.c x) (E4 D n) ->
  ∃ g',L1 M x (iV (i:Int)) h=A4 (bV (((E4 D n).drop i).any λx=>decide (x.kind=kd)&&B x.ino),g'):=by
 have hlen:=(fG (D:=D) (n:=n)).1;intro e
 induction e with
 | zero =>
  intro i M h x hi hM k hp ht;obtain ⟨M,rfl⟩:=aP M (by omega);have c0:¬ (i:Int)<((E4 D n).length:Nat):=by omega
  rw [hL,E6f (by omega)];exact ⟨_,by simp only [esc,c0]<;>rfl⟩
 | succ e ih =>
  intro i M h x hi hM k hp ht;obtain ⟨M,rfl⟩:=aP M (by omega);have K7:i<(E4 D n).length:=by omega
  have c0:(i:Int)<((E4 D n).length:Nat):=by omega
  have w1:=D9 (a:=i) (by omega);obtain ⟨id,o,cs,a1,a2,_,hN⟩:=D3S ht K7;have st:F9 (h++[rT [o0,o0,o0,o0,o0,.ns,.ns]]) 7 (pV (l_ h) 0) (.a cs)=A4 (h++[rT cs]):=B4f hN.length;obtain ⟨K,hK⟩:=xEq (h++[rT cs]);have rK:rd K (l_ h)=rT cs:=by rw [hK,I5];rfl
  rw [<-hK] at st;have kK:IsLook D n m f K r:=by rw [hK];exact k.more _
  have htK:IsTree K (.c x) (E4 D n):=by rw [hK];exact ht.more _
  obtain ⟨w,hp1⟩:=hp;have hpK:∃ w,rd K pp=A4 ⟨[.p r 0],w⟩:=⟨w,by rw [hK];exact B7 hp1⟩;obtain ⟨nd,hnd⟩:=xEq ((E4 D n)[i]);rw [<-hnd] at hN;have l4:=kK.v4;have hI:=V1 (n:=n) (m:=m) (i:=nd.ino) hD kK.view;have hIq:quiet K (F8 [.a (vwC (l_ D) n m f),iV nd.ino] K)=A4 (.a (B0t D n nd.ino),K):=by rw [hI];exact cX
  have hB:=hC nd.ino K kK hpK;obtain ⟨g',f1⟩:=ih (i+1) M K x (by omega) (by omega) kK hpK htK;obtain ⟨x1,y1,ecs,_,_⟩:=hN;have g0:B9 K (pV (l_ h) 0)=A4 (iV nd.ino):=C4 rK (by rw [ecs];rfl) rfl;have g1:B9 K (pV (l_ h) 1)=A4 (iV nd.kind):=C4 rK (by rw [ecs];rfl) rfl;rw [hL,E6b K7,<-hnd,List.any_cons];generalize vwC (l_ D) n m f=V at *;generalize B0t D n nd.ino=I at *;by_cases c1:nd.kind=kd
  ·rw [decide_eq_true c1,E6t];cases hb:B nd.ino with
   | true =>
    rw [hb] at hB;exact ⟨K,by simp only [esc,c0,a1,a2,st,g0,g1,c1,l4,hIq,hB,E6P]⟩
   | false =>
    rw [hb] at hB;refine ⟨g',?_⟩;simp only [esc,c0,a1,a2,st,g0,g1,c1,l4,hIq,hB,w1,E6U];exact f1
  ·rw [decide_eq_false c1,E6p,E6U];refine ⟨g',?_⟩;simp only [esc,c0,a1,a2,st,g0,g1,c1,w1];exact f1
def D4s(hD:okD D):∀ (e i M:Nat) (h:A9) (x:Cell),i+e=(E4 D n).length->e<M->IsLook D n m f h r->(∃ w,rd h pp=A4 ⟨[.p r 0],w⟩)->IsTree h (.c x) (E4 D n) ->
  ∃ g',bR q M (pV r 0) (iV 2) (.c (.f 90 [(pp,0)])) (.c x) (iV ((E4 D n).length:Nat)) (iV (i:Int)) h=A4 (bV (((E4 D n).drop i).any λx=>decide (x.kind=2)&&C1D D n x.ino),g') :=
 C1G (C:=aD cH) (L1:=λM y x h=>bR q M (pV r 0) (iV 2) (.c (.f 90 [(pp,0)])) (.c y) (iV ((E4 D n).length:Nat)) x h) hD (λM y x h=>A0M ..) λa K k hp=>by
  obtain ⟨w,hp⟩:=hp;have hcv:∀ a b h',aD cH (.c (.f 90 [(pp,0)])) [a,b] h'=eA [a,b,pV pp 0] h':=λ_ _ _=>Eq.trans rfl rfl
  rw [hcv];exact D7G hD k hp
def C7B(hD:okD D)(k:IsLook D n m f h r):tD [pV r 0] h=A4 (bV (C6G D n),h):=by
 have hlen:=(fG (D:=D) (n:=n)).1;have hE:∀ g pp w,IsLook D n m f g r->rd g pp=A4 ⟨[.p r 0],w⟩->cK [pV r 0,iV 2,.c (.f 90 [(pp,0)])] g=A4 (bV (C6G D n),g):=by
  intro g pp w k hp;obtain ⟨x,l1,ht⟩:=k.ro.tree;obtain ⟨g',f1⟩:=D4s (q:=(E4 D n).length+1) (pp:=pp) hD (E4 D n).length 0 ((E4 D n).length+1) _ x (by omega) (by omega) k.ro ⟨A6,sR hp rfl⟩ ht;have z0:((0:Nat):Int)=0:=rfl;rw [z0,E6i] at f1;have al:=ht.len;refine yM (n:=(E4 D n).length+1) (h2:=g') ?_ rfl;rw [A1t];simp only [C6,A55,Q8,E6j,l1,al];exact f1
 have e1:=hE (ro h++[rT [.p r 0]]) (ro h).length A5 (k.ro.more _) (by rw [I5];rfl);have lp:B9 (ro h++[rT [.p r 0]]) (pV (ro h).length 0)=A4 (pV r 0):=by rw [I7];rfl
 have mk:A3f 90 [pV (ro h).length 0]=A4 (.c (.f 90 [((ro h).length,0)])):=rfl;have cc:cells? (pV r 0)=A4 [.p r 0]:=rfl;refine A8e (n:=0) (h2:=ro h++[rT [.p r 0]]) ?_ rfl;rw [B1A];simp only [C6,cc,lp,mk,e1]
end
def qY(D:Dev)(n k no keep:Int):Bool:=decide (no≠0)&&(!(G5 (l_ D) n no)||decide (keep<=k))
section
variable {D:Dev} {n m:Int} {f:Cell} {h:A9} {r:Nat}
def A49{keep:Int}(L:IsLook D n m f h r):tH [pV r 0,iV k,iV no,iV keep] h=A4 (bV (qY D n k no keep),h):=by
 have l3:=L.ro.v3;have hD:=X3 (b:=l_ D) (n:=n) (m:=m) (i:=no) (h:=ro h);refine A8h (n:=0) (h2:=ro h) ?_ rfl;rw [B1D];unfold qY;generalize K9 (l_ D) n m=V at *;by_cases c0:no=0
 ·rw [decide_eq_false (λh=>h c0)];simp only [esc,c0,E6p]
 ·rw [decide_eq_true c0,E6t];cases hd:G5 (l_ D) n no with
  | false =>
   rw [hd] at hD;simp only [esc,c0,l3,hD,E6P]
  | true =>
   rw [hd] at hD;by_cases c1:keep<=k
   ·have c1':k>=keep:=c1;simp only [esc,c0,l3,hD,c1',E6U,c1]
   ·have c1':¬ k>=keep:=c1;simp only [esc,c0,l3,hD,c1',E6U,c1]
def D9s{pi:Nat}{kd ln sz pa keep:Int}(hD:okD D)(hd:l_ d=7)(L:IsLook D n m f h r)(hp:∃ w,rd h pp=A4 ⟨[.p r 0],w⟩)(hi:rd h pi=rT (C8 kd ln sz pa d)):∀ (e i M:Nat),i+e=128->e<M ->
  ∃ g',zW q M (pV pp 0) (pV pi 0) (iV keep) (iV (i:Int)) h=A4 (bV ((E6v i e).any λk=>qY D n (6+(k:Int)) (ptP (blk D (d.getD 6 0)) k) keep),g'):=by
 obtain ⟨w,hp⟩:=hp;have lp:B9 h (pV pp 0)=A4 (pV r 0):=C4 hp rfl (by simp [Cell.isX]);have l4:=L.v4;have l10:B9 h (pV pi 10)=A4 (iV (d.getD 6 0)):=by
  refine C4 hi ?_ rfl;simp only [C8,E6o];rw [G6,E54,E51 (by omega)];rfl
 intro e
 induction e with
 | zero =>
  intro i M hi hM;obtain ⟨M,rfl⟩:=aP M (by omega);have c0:¬ (i:Int)<128:=by omega
  rw [sD];exact ⟨_,by simp only [esc,c0]<;>rfl⟩
 | succ e ih =>
  intro i M hi hM;obtain ⟨M,rfl⟩:=aP M (by omega);have c0:(i:Int)<128:=by omega
  have w1:=D9 (a:=i) (by omega);have w6:E6a .i64 (6+(i:Int))=6+(i:Int):=wrap_i64 (by omega) (by omega);have hB:=M7 (n:=n) (m:=m) (no:=d.getD 6 0) hD L.view;have hBq:quiet h (D8 [.a (vwC (l_ D) n m f),iV (d.getD 6 0)] h)=A4 (.a (B5 (blk D (d.getD 6 0))),h):=by rw [hB];exact cX
  have hG:=A7C (b:=blk D (d.getD 6 0)) (k:=i) (h:=h) (J9 hD) (by omega);have hGq:quiet h (pI [.a (B5 (blk D (d.getD 6 0))),iV i] h)=A4 (iV (ptP (blk D (d.getD 6 0)) i),h):=by rw [hG];exact cX
  have hW:=A49 (k:=6+(i:Int)) (no:=ptP (blk D (d.getD 6 0)) i) (keep:=keep) L;obtain ⟨g',f1⟩:=ih (i+1) M (by omega) (by omega);rw [sD,List.range'_succ,List.any_cons];generalize vwC (l_ D) n m f=V at *;generalize B5 (blk D (d.getD 6 0))=X at *;cases hb:qY D n (6+(i:Int)) (ptP (blk D (d.getD 6 0)) i) keep with
  | true =>
   rw [hb] at hW;exact ⟨h,by simp only [esc,c0,lp,w6,l4,l10,hBq,hGq,hW,E6P]⟩
  | false =>
   rw [hb] at hW;refine ⟨g',?_⟩;simp only [esc,c0,lp,w6,l4,l10,hBq,hGq,hW,w1,E6U];exact f1
def D6C(D:Dev)(n keep:Int)(d:List Int):Bool:=qY D n 6 (d.getD 6 0) keep||(decide (d.getD 6 0≠0)&&(E6v 0 128).any λk=>qY D n (6+(k:Int)) (ptP (blk D (d.getD 6 0)) k) keep)
def C1p(D:Dev)(n i:Int):Bool:=((E6v 0 6).any λk=>qY D n (k:Int) ((drV D n i).getD k 0) (T5 (szV D n i)))||D6C D n (T5 (szV D n i)) (drV D n i)
def D9r{pi:Nat}{kd ln sz pa keep:Int}(hq:200<q)(hD:okD D)(hd:l_ d=7)(L:IsLook D n m f h r)(hp:∃ w,rd h pp=A4 ⟨[.p r 0],w⟩)(hi:rd h pi=rT (C8 kd ln sz pa d)):∀ (e i M:Nat),i+e=6->e<M ->
  ∃ g',zV q M (pV pp 0) (pV pi 0) (iV keep) (.a (encI (d.take 6))) (iV (i:Int)) h=A4 (bV (((E6v i e).any λk=>qY D n (k:Int) (d.getD k 0) keep)||D6C D n keep d),g'):=by
 have hp':=hp;obtain ⟨w,hp'⟩:=hp';have lp:B9 h (pV pp 0)=A4 (pV r 0):=C4 hp' rfl (by simp [Cell.isX]);have l10:B9 h (pV pi 10)=A4 (iV (d.getD 6 0)):=by
  refine C4 hi ?_ rfl;simp only [C8,E6o];rw [G6,E54,E51 (by omega)];rfl
 intro e
 induction e with
 | zero =>
  intro i M hi' hM;obtain ⟨M,rfl⟩:=aP M (by omega);have c0:¬ (i:Int)<6:=by omega
  have hW:=A49 (k:=6) (no:=d.getD 6 0) (keep:=keep) L;rw [sC];have e0:((E6v i 0).any λk=>qY D n (k:Int) (d.getD k 0) keep)=A6:=rfl;rw [e0,E6U];unfold D6C;cases hb:qY D n 6 (d.getD 6 0) keep with
  | true =>
   rw [hb] at hW;exact ⟨h,by simp only [esc,c0,lp,l10,hW,E6P]⟩
  | false =>
   rw [hb] at hW;rw [E6U];by_cases c1:d.getD 6 0=0
   ·rw [decide_eq_false (λh=>h c1),E6p];rw [c1] at hW l10;exact ⟨h,by simp only [esc,c0,lp,l10,hW]⟩
   ·rw [decide_eq_true c1,E6t];obtain ⟨g',f1⟩:=D9s (q:=q) (keep:=keep) hD hd L hp hi 128 0 q (by omega) (by omega);have z0:((0:Nat):Int)=0:=rfl;rw [z0] at f1;refine ⟨g',?_⟩;simp only [esc,c0,lp,l10,hW,c1];exact f1
 | succ e ih =>
  intro i M hi' hM;obtain ⟨M,rfl⟩:=aP M (by omega);have hi6:i<6:=by omega
  have c0:(i:Int)<6:=by omega
  have w1:=D9 (a:=i) (by omega);have ad:A4t 6 (.a (encI (d.take 6))) (iV (i:Int))=A4 (iV (d.getD i 0)):=by
   rw [B3I hi6,G6,E6L hi6,E54,E51 (by omega)];rfl
  have hW:=A49 (k:=(i:Int)) (no:=d.getD i 0) (keep:=keep) L;obtain ⟨g',f1⟩:=ih (i+1) M (by omega) (by omega);rw [sC,List.range'_succ,List.any_cons];generalize encI (d.take 6)=X at *;cases hb:qY D n (i:Int) (d.getD i 0) keep with
  | true =>
   rw [hb] at hW;exact ⟨h,by simp only [esc,c0,lp,ad,hW,E6P]⟩
  | false =>
   rw [hb] at hW;refine ⟨g',?_⟩;simp only [esc,c0,lp,ad,hW,w1,E6U];exact f1
def D68{w:Bool}(hD:okD D)(k:IsLook D n m f h r)(hp:rd h pp=A4 ⟨[.p r 0],w⟩) :
  dZ [iV i,.a (B0t D n i),pV pp 0] h=A4 (bV (C1p D n i),h):=by
 rw [pN];obtain ⟨I,hI⟩:=xEq (C8 (kdV D n i) (lnV D n i) (szV D n i) (paV D n i) (drV D n i));have hIl:l_ I=11:=by rw [hI];simp [C8,C1,O8]
 obtain ⟨G,hG⟩:=xEq (ro h++[rT I]);have kG:IsLook D n m f G r:=by rw [hG];exact k.ro.more _
 have hpG:rd G pp=A4 ⟨[.p r 0],A6⟩:=by rw [hG];exact B7 (sR hp rfl)
 have rI:rd G (ro h).length=rT I:=by rw [hG,I5];rfl
 have l2:B9 G (pV (ro h).length 2)=A4 (iV (szV D n i)):=C4 rI (by rw [hI];rfl) rfl;have hBl:=B1f (n:=szV D n i) (h:=G);have eB:(if szV D n i<1 then (0:Int) else if 34304<szV D n i then 134 else (szV D n i+255)/256)=T5 (szV D n i):=rfl;rw [eB] at hBl;have l6:D1 G 6 (pV (ro h).length 4)=A4 (.a (encI ((drV D n i).take 6))):=by
  rw [T1 rI (by omega) rfl,hI];show A4 (Val.a ((encI (drV D n i)).take 6))=_;unfold encI;rw [List.map_take]
 obtain ⟨g',f1⟩:=D9r (q:=300) (pp:=pp) (pi:=(ro h).length) (keep:=T5 (szV D n i)) (by omega) hD O8 kG ⟨A6,hpG⟩ (by rw [<-hI];exact rI) 6 0 300 (by omega) (by omega);have z0:((0:Nat):Int)=0:=rfl;rw [z0] at f1;refine A5d (n:=300) (h2:=g') ?_ rfl;rw [A7V,<-hI];unfold C1p;generalize encI ((drV D n i).take 6)=X at *;simp only [esc,<-hG,l2,hBl,l6];exact f1
end
def C50(D:Dev)(n:Int):Bool:=(E4 D n).any λx=>decide (x.kind=1)&&C1p D n x.ino
section
variable {D:Dev} {n m:Int} {f:Cell} {h:A9} {r:Nat}
def D4r(hD:okD D):∀ (e i M:Nat) (h:A9) (x:Cell),i+e=(E4 D n).length->e<M->IsLook D n m f h r->(∃ w,rd h pp=A4 ⟨[.p r 0],w⟩)->IsTree h (.c x) (E4 D n) ->
  ∃ g',bQ q M (pV r 0) (iV 1) (.c (.f 94 [(pp,0)])) (.c x) (iV ((E4 D n).length:Nat)) (iV (i:Int)) h=A4 (bV (((E4 D n).drop i).any λx=>decide (x.kind=1)&&C1p D n x.ino),g') :=
 C1G (C:=aD cG) (L1:=λM y x h=>bQ q M (pV r 0) (iV 1) (.c (.f 94 [(pp,0)])) (.c y) (iV ((E4 D n).length:Nat)) x h) hD (λM y x h=>A0L ..) λa K k hp=>by
  obtain ⟨w,hp⟩:=hp;have hcv:∀ a b h',aD cG (.c (.f 94 [(pp,0)])) [a,b] h'=dZ [a,b,pV pp 0] h':=λ_ _ _=>Eq.trans rfl rfl
  rw [hcv];exact D68 hD k hp
def C7y(hD:okD D)(k:IsLook D n m f h r):tA [pV r 0] h=A4 (bV (C50 D n),h):=by
 have hlen:=(fG (D:=D) (n:=n)).1;have hE:∀ g pp w,IsLook D n m f g r->rd g pp=A4 ⟨[.p r 0],w⟩->cJ [pV r 0,iV 1,.c (.f 94 [(pp,0)])] g=A4 (bV (C50 D n),g):=by
  intro g pp w k hp;obtain ⟨x,l1,ht⟩:=k.ro.tree;obtain ⟨g',f1⟩:=D4r (q:=(E4 D n).length+1) (pp:=pp) hD (E4 D n).length 0 ((E4 D n).length+1) _ x (by omega) (by omega) k.ro ⟨A6,sR hp rfl⟩ ht;have z0:((0:Nat):Int)=0:=rfl;rw [z0,E6i] at f1;have al:=ht.len;refine yL (n:=(E4 D n).length+1) (h2:=g') ?_ rfl;rw [A1s];simp only [C6,A55,Q8,E6j,l1,al];exact f1
 have e1:=hE (ro h++[rT [.p r 0]]) (ro h).length A5 (k.ro.more _) (by rw [I5];rfl);have lp:B9 (ro h++[rT [.p r 0]]) (pV (ro h).length 0)=A4 (pV r 0):=by rw [I7];rfl
 have mk:A3f 94 [pV (ro h).length 0]=A4 (.c (.f 94 [((ro h).length,0)])):=rfl;have cc:cells? (pV r 0)=A4 [.p r 0]:=rfl;refine A8c (n:=0) (h2:=ro h++[rT [.p r 0]]) ?_ rfl;rw [B1y];simp only [C6,cc,lp,mk,e1]
end
def D8V(D:Dev)(n no:Int):Bool:=!(G5 (l_ D) n no) || !(A4X (blk D no))
section
variable {D:Dev} {n m:Int} {f:Cell} {h:A9} {r:Nat}
def D8Q{id:Nat}(hD:okD D)(k:IsLook D n m f h r)(hr:rd h id=rT (encI L))(hL:l_ L<=1000):∀ (e i M:Nat),i+e=l_ L->e<M ->
  ∃ g',A6z q M (pV r 0) (sV id 0 (l_ L) 1) (iV (l_ L:Nat)) (iV (i:Int)) h=A4 (bV ((L.drop i).any (D8V D n)),g'):=by
 intro e
 induction e with
 | zero =>
  intro i M hi hM;obtain ⟨M,rfl⟩:=aP M (by omega);have c0:¬ (i:Int)<(l_ L:Nat):=by omega
  rw [A13,E6f (by omega)];exact ⟨_,by simp only [esc,c0]<;>rfl⟩
 | succ e ih =>
  intro i M hi hM;obtain ⟨M,rfl⟩:=aP M (by omega);have K7:i<(l_ L):=by omega
  have c0:(i:Int)<(l_ L:Nat):=by omega
  have w1:=D9 (a:=i) (by omega);have ad:E9 1 (sV id 0 (l_ L) 1) (iV (i:Int))=A4 (pV id i):=by rw [E3 K7];simp
  obtain ⟨no,Y3⟩:=xEq (L[i]);have la:B9 h (pV id i)=A4 (iV no):=C4 hr (by rw [G6,E51 K7,Y3];rfl) rfl;have l3:=k.v3;have l4:=k.v4;have hI:=X3 (b:=l_ D) (n:=n) (m:=m) (i:=no) (h:=h);have hB:=M7 (n:=n) (m:=m) (no:=no) hD k.view;have hBq:quiet h (D8 [.a (vwC (l_ D) n m f),iV no] h)=A4 (.a (B5 (blk D no)),h):=by rw [hB];exact cX
  have hR:=C3P (b:=blk D no) (h:=h) (J9 hD);have hRq:quiet h (wD [.a (B5 (blk D no))] h)=A4 (bV (A4X (blk D no)),h):=by rw [hR];exact cX
  obtain ⟨g',f1⟩:=ih (i+1) M (by omega) (by omega);rw [A13,E6b K7,<-Y3,List.any_cons];unfold D8V at f1 ⊢;generalize vwC (l_ D) n m f=V at *;generalize K9 (l_ D) n m=Ly at *;generalize B5 (blk D no)=X at *;cases hd:G5 (l_ D) n no with
  | false =>
   rw [hd] at hI;exact ⟨h,by simp only [esc,c0,ad,la,l3,hI,E6P]⟩
  | true =>
   rw [hd] at hI;cases hb:A4X (blk D no) with
   | false =>
    rw [hb] at hR hRq;exact ⟨h,by simp only [esc,c0,ad,la,l3,l4,hI,hB,hR,hBq,hRq,E6P,E6U]⟩
   | true =>
    rw [hb] at hR hRq;refine ⟨g',?_⟩;simp only [esc,c0,ad,la,l3,l4,hI,hB,hR,hBq,hRq,w1,E6U];exact f1
end
def D6L(D:Dev)(n i:Int):Bool:=decide ((drV D n i).getD 0 0≠0)&&(!(Z0 D n (kdV D n i) (drV D n i))||(!(A0F (getD (blk D ((drV D n i).getD 0 0))) (O0 (blk D ((drV D n i).getD 0 0)) 32)) ||
 (decide (0<(dO D n (kdV D n i) (drV D n i) (qV D n (kdV D n i) (drV D n i))).length)||(J4 (O0 (blk D ((drV D n i).getD 0 0)) 32) (C5 (getD (blk D ((drV D n i).getD 0 0))))).any (D8V D n))))
def C5O(D:Dev)(n i:Int):Bool:=!(decide (((drV D n i).take 6).set 0 0=zI 6))||(decide ((drV D n i).getD 6 0≠0)||(decide (szV D n i≠0)||D6L D n i))
def D2b(D:Dev)(n:Int):Bool:=(E4 D n).any λx=>decide (x.kind=2)&&C5O D n x.ino
section
variable {D:Dev} {n m:Int} {f:Cell} {h:A9} {r:Nat}
def D1n(hD:okD D)(k:IsLook D n m f h r):A0l [pV r 0,.a (B0t D n i)] h=A4 (bV (D6L D n i),h):=by
 rw [pN];obtain ⟨I,hI⟩:=xEq (C8 (kdV D n i) (lnV D n i) (szV D n i) (paV D n i) (drV D n i));have hIl:l_ I=11:=by rw [hI];simp [C8,C1,O8]
 rw [<-hI];obtain ⟨g,hg⟩:=xEq (ro h);have kg:IsLook D n m f g r:=by rw [hg];exact k.ro
 suffices key:∃ g',A0i 1000 [pV r 0,.a I] g=A4 (bV (D6L D n i),g') by
  obtain ⟨g',e⟩:=key;rw [hg] at e;exact B1I e rfl
 obtain ⟨G,hG⟩:=xEq (g++[rT I]);have kG:IsLook D n m f G r:=by rw [hG];exact kg.more _
 have rI:rd G (l_ g)=rT I:=by rw [hG,I5];rfl
 have hd7:=O8 (D:=D) (n:=n) (i:=i);have ad:K5 6 1 (pV (l_ g) 4) (iV 0)=A4 (pV (l_ g) 4):=rfl;have l4i:B9 G (pV (l_ g) 4)=A4 (iV ((drV D n i).getD 0 0)):=by
  refine C4 rI ?_ rfl;rw [hI];simp only [C8,E6o];rw [G6,E54,E51 (by omega)];rfl
 have l4:=kG.v4;have l11:D1 G 11 (pV (l_ g) 0)=A4 (.a I):=C7 rI hIl;have cc:cells? (.a I)=A4 I:=rfl;rw [B47];simp only [cc,C6];rw [<-hG];unfold D6L;by_cases c0:(drV D n i).getD 0 0=0
 ·rw [decide_eq_false (λh=>h c0),E6p];rw [c0] at l4i;exact ⟨G,by simp only [esc,ad,l4i]⟩
 ·rw [decide_eq_true c0,E6t];have hX:=A1a (n:=n) (m:=m) (k:=kdV D n i) (l:=lnV D n i) (s:=szV D n i) (p:=paV D n i) (d:=drV D n i) (h:=G++[A7]) hD hd7 (kG.view.more _);rw [<-hI] at hX;have hXq:quiet (G++[A7]) (iY [.a (vwC (l_ D) n m f),.a I] (G++[A7]))=A4 (.t [.a (encI (tP D n (kdV D n i) (drV D n i))),.c (.b (Z0 D n (kdV D n i) (drV D n i)))],G++[A7]):=by rw [hX];exact cX
  obtain ⟨X,hXe⟩:=xEq (encI (tP D n (kdV D n i) (drV D n i)));have hXl:l_ X=33:=by rw [hXe];exact A6k ..
  rw [<-hXe] at hXq;obtain ⟨K,hK⟩:=xEq (G++[rT X]);have st:F9 (G++[rT (o0::E55 32 o0)]) 33 (pV (l_ G) 0) (.a X)=A4 K:=by
   rw [storeAll (n:=33) (cs:=o0::E55 32 o0) (by rw [I5];rfl) (by simp) hXl,yD,hK];rfl
  have kK:IsLook D n m f K r:=by rw [hK];exact kG.more _
  have rIK:rd K (l_ g)=rT I:=by rw [hK];exact B7 rI
  have rXK:rd K (l_ G)=rT X:=by rw [hK,I5];rfl
  have l33:D1 K 33 (pV (l_ G) 0)=A4 (.a X):=C7 rXK hXl;have l4K:=kK.v4;have l11K:D1 K 11 (pV (l_ g) 0)=A4 (.a I):=C7 rIK hIl;cases vA:Z0 D n (kdV D n i) (drV D n i) with
  | false =>
   rw [vA] at hXq;refine ⟨K,?_⟩;generalize vwC (l_ D) n m f=V at *;simp only [esc,ad,l4i,c0,l4,l11,hXq,st,E6P]
  | true =>
   rw [vA] at hXq;have hXX:X=encI (getD (blk D ((drV D n i).getD 0 0))::O0 (blk D ((drV D n i).getD 0 0)) 32):=by
    rw [hXe];unfold tP;rw [vA];rfl
   obtain ⟨dd,hdd⟩:=xEq (getD (blk D ((drV D n i).getD 0 0)));obtain ⟨tt,htt⟩:=xEq (O0 (blk D ((drV D n i).getD 0 0)) 32);have htl:tt.length=32:=by rw [htt];exact A1N (by omega)
   rw [<-hdd,<-htt] at hXX ⊢;have hR:=C6k (d:=dd) (t:=tt) (h:=K) htl;rw [<-hXX] at hR;have hRq:quiet K (A08 [.a X] K)=A4 (bV (A0F dd tt),K):=by rw [hR];exact cX
   obtain ⟨v,t,s1,s2,_⟩:=C5Q (n:=n) (m:=m) (k:=kdV D n i) (l:=lnV D n i) (s:=szV D n i) (p:=paV D n i) (d:=drV D n i) (h:=K) hD hd7 kK.view;rw [<-hI] at s1;obtain ⟨N,hN⟩:=xEq ((dO D n (kdV D n i) (drV D n i) (qV D n (kdV D n i) (drV D n i))).length);rw [<-hN] at s2 ⊢;have sl:=s2.len;obtain ⟨T,hT⟩:=xEq (K++t);rw [<-hT] at s1;have kT:IsLook D n m f T r:=by rw [hT];exact kK.more t
   have l33T:D1 T 33 (pV (l_ G) 0)=A4 (.a X):=C7 (by rw [hT];exact B7 rXK) hXl;have hBk:=gP (d:=dd) (t:=tt) (h:=T) htl;rw [<-hXX] at hBk;have hbl:=iL tt (C5 dd);have D7i:=T2 dd;obtain ⟨g',f1⟩:=D8Q (q:=1000) (id:=l_ T) (L:=J4 tt (C5 dd)) hD (kT.more [rT (encI (J4 tt (C5 dd)))]) (by rw [I5];rfl) (by omega) (J4 tt (C5 dd)).length 0 1000 (by omega) (by omega);have z0:((0:Nat):Int)=0:=rfl;rw [z0,E6i] at f1;cases hr:A0F dd tt with
   | false =>
    rw [hr] at hRq;refine ⟨K,?_⟩;generalize vwC (l_ D) n m f=V at *;simp only [esc,ad,l4i,c0,l4,l11,hXq,st,l33,hRq,E6P,E6U]
   | true =>
    rw [hr] at hRq;by_cases cn:0<N
    ·have cn':(N:Int) > 0:=by omega
     rw [decide_eq_true cn];refine ⟨T,?_⟩;generalize vwC (l_ D) n m f=V at *;simp only [esc,ad,l4i,c0,l4,l11,hXq,st,l33,hRq,l4K,l11K,s1,sl,cn',E6P,E6U]
    ·have cn':¬ (N:Int) > 0:=by omega
     rw [decide_eq_false cn];refine ⟨g',?_⟩;generalize vwC (l_ D) n m f=V at *;simp only [esc,ad,l4i,c0,l4,l11,hXq,st,l33,hRq,l4K,l11K,s1,sl,cn',l33T,hBk,E6P,E6U];exact f1
def D9j{w:Bool}(hD:okD D)(k:IsLook D n m f h r)(hp:rd h pp=A4 ⟨[.p r 0],w⟩) :
  fZ [iV i,.a (B0t D n i),pV pp 0] h=A4 (bV (C5O D n i),h):=by
 obtain ⟨g,hg⟩:=xEq (ro h);have kg:IsLook D n m f g r:=by rw [hg];exact k.ro
 have hpg:rd g pp=A4 ⟨[.p r 0],A6⟩:=by rw [hg];exact sR hp rfl
 suffices key:∃ g',qO 1000 [iV i,.a (B0t D n i),pV pp 0] g=A4 (bV (C5O D n i),g') by
  obtain ⟨g',e⟩:=key;rw [hg] at e;exact A7l e rfl
 have E3a:=λh (kk:IsLook D n m f h r)=>D1n (i:=i) hD kk
 rw [pN] at E3a ⊢;obtain ⟨I,hI⟩:=xEq (C8 (kdV D n i) (lnV D n i) (szV D n i) (paV D n i) (drV D n i));obtain ⟨J,hJ⟩:=xEq (C8 (kdV D n i) (lnV D n i) (szV D n i) (paV D n i) ((drV D n i).set 0 0));have hIl:l_ I=11:=by rw [hI];simp [C8,C1,O8]
 have hJI:I.set 4 o0=J:=by rw [hI,hJ];exact C6o (i:=0)
 rw [<-hI] at E3a ⊢;obtain ⟨G,hG⟩:=xEq (g++[rT I]);have rI:rd G (l_ g)=rT I:=by rw [hG,I5];rfl
 have l11:D1 G 11 (pV (l_ g) 0)=A4 (.a I):=C7 rI hIl;obtain ⟨K,hK⟩:=xEq (G++[rT I]);have st:F9 (G++[rT [o0,o0,o0,o0,o0,o0,o0,o0,o0,o0,o0]]) 11 (pV (l_ G) 0) (.a I)=A4 K:=by
  rw [storeAll (n:=11) (cs:=[o0,o0,o0,o0,o0,o0,o0,o0,o0,o0,o0]) (by rw [I5];rfl) rfl hIl,yD,hK];rfl
 obtain ⟨Q,hQ⟩:=xEq (G++[rT J]);have s1:I8 K (pV (l_ G) 4) (iV 0)=A4 Q:=by
  rw [I9 (cs:=I) (by rw [hK,I5];rfl) (by omega),hJI,hK,hQ,yD];rfl
 have ad:K5 6 1 (pV (l_ G) 4) (iV 0)=A4 (pV (l_ G) 4):=rfl;have hd7:=O8 (D:=D) (n:=n) (i:=i);have l6:D1 Q 6 (pV (l_ G) 4)=A4 (.a (encI (((drV D n i).take 6).set 0 0))):=by
  rw [T1 (cs:=J) (by rw [hQ,I5];rfl) (by rw [hJ];simp [C8,C1,O8]) rfl,hJ];show A4 (Val.a ((encI ((drV D n i).set 0 0)).take 6))=_;unfold encI;rw [<-List.map_take,<-List.take_set]
 have rIQ:rd Q (l_ g)=rT I:=by rw [hQ];exact B7 rI
 have l10:B9 Q (pV (l_ g) 10)=A4 (iV ((drV D n i).getD 6 0)):=by
  refine C4 rIQ ?_ rfl;rw [hI];simp only [C8,E6o];rw [G6,E54,E51 (by omega)];rfl
 have l2:B9 Q (pV (l_ g) 2)=A4 (iV (szV D n i)):=C4 rIQ (by rw [hI];rfl) rfl;have l11Q:D1 Q 11 (pV (l_ g) 0)=A4 (.a I):=C7 rIQ hIl;have kQ:IsLook D n m f Q r:=by rw [hQ,hG];exact (kg.more _).more _
 have lpQ:B9 Q (pV pp 0)=A4 (pV r 0):=C4 (by rw [hQ,hG];exact B7 (B7 hpg)) rfl rfl;have hB:=E3a Q kQ;have z6:F5 [o0,o0,o0,o0,o0,o0] []=A4 (encI (zI 6)):=rfl;have eq:aeq A5 [Sh.i .i64,.i .i64,.i .i64,.i .i64,.i .i64,.i .i64] (.a (encI (((drV D n i).take 6).set 0 0))) (.a (encI (zI 6)))=A4 (bV (!(decide (((drV D n i).take 6).set 0 0=zI 6)))):=by
  have:=D8C (l:=((drV D n i).take 6).set 0 0) (m:=zI 6) (n:=6) (by simp [hd7]) (by simp [zI]);exact this
 refine ⟨Q,?_⟩;have cc:cells? (.a I)=A4 I:=rfl;rw [A9M];simp only [cc,C6];rw [<-hG];unfold C5O;generalize encI (((drV D n i).take 6).set 0 0)=Y at *;generalize encI (zI 6)=Z at *;cases ca:decide (((drV D n i).take 6).set 0 0=zI 6) with
 | false =>
  rw [ca] at eq;simp only [esc,l11,st,ad,s1,l6,z6,eq,E6P]
 | true =>
  rw [ca] at eq;by_cases c6:(drV D n i).getD 6 0=0
  ·by_cases c2:szV D n i=0
   ·rw [decide_eq_false (λh=>h c6),decide_eq_false (λh=>h c2)];rw [c6] at l10;rw [c2] at l2;simp only [esc,l11,st,ad,s1,l6,z6,eq,l10,l2,lpQ,l11Q,hB,E6P,E6U]
   ·rw [decide_eq_false (λh=>h c6),decide_eq_true c2];rw [c6] at l10;simp only [esc,l11,st,ad,s1,l6,z6,eq,l10,l2,c2,E6P,E6U]
  ·rw [decide_eq_true c6];simp only [esc,l11,st,ad,s1,l6,z6,eq,l10,c6,E6P,E6U]
def D4q(hD:okD D):∀ (e i M:Nat) (h:A9) (x:Cell),i+e=(E4 D n).length->e<M->IsLook D n m f h r->(∃ w,rd h pp=A4 ⟨[.p r 0],w⟩)->IsTree h (.c x) (E4 D n) ->
  ∃ g',cZ q M (pV r 0) (iV 2) (.c (.f 92 [(pp,0)])) (.c x) (iV ((E4 D n).length:Nat)) (iV (i:Int)) h=A4 (bV (((E4 D n).drop i).any λx=>decide (x.kind=2)&&C5O D n x.ino),g') :=
 C1G (C:=aD dK) (L1:=λM y x h=>cZ q M (pV r 0) (iV 2) (.c (.f 92 [(pp,0)])) (.c y) (iV ((E4 D n).length:Nat)) x h) hD (λM y x h=>A14 ..) λa K k hp=>by
  obtain ⟨w,hp⟩:=hp;have hcv:∀ a b h',aD dK (.c (.f 92 [(pp,0)])) [a,b] h'=fZ [a,b,pV pp 0] h':=λ_ _ _=>Eq.trans rfl rfl
  rw [hcv];exact D9j hD k hp
def C8p(hD:okD D)(k:IsLook D n m f h r):wY [pV r 0] h=A4 (bV (D2b D n),h):=by
 have hlen:=(fG (D:=D) (n:=n)).1;have hE:∀ g pp w,IsLook D n m f g r->rd g pp=A4 ⟨[.p r 0],w⟩->dL [pV r 0,iV 2,.c (.f 92 [(pp,0)])] g=A4 (bV (D2b D n),g):=by
  intro g pp w k hp;obtain ⟨x,l1,ht⟩:=k.ro.tree;obtain ⟨g',f1⟩:=D4q (q:=(E4 D n).length+1) (pp:=pp) hD (E4 D n).length 0 ((E4 D n).length+1) _ x (by omega) (by omega) k.ro ⟨A6,sR hp rfl⟩ ht;have z0:((0:Nat):Int)=0:=rfl;rw [z0,E6i] at f1;have al:=ht.len;refine A0m (n:=(E4 D n).length+1) (h2:=g') ?_ rfl;rw [A2c];simp only [C6,A55,Q8,E6j,l1,al];exact f1
 have e1:=hE (ro h++[rT [.p r 0]]) (ro h).length A5 (k.ro.more _) (by rw [I5];rfl);have lp:B9 (ro h++[rT [.p r 0]]) (pV (ro h).length 0)=A4 (pV r 0):=by rw [I7];rfl
 have mk:A3f 92 [pV (ro h).length 0]=A4 (.c (.f 92 [((ro h).length,0)])):=rfl;have cc:cells? (pV r 0)=A4 [.p r 0]:=rfl;refine A95 (n:=0) (h2:=ro h++[rT [.p r 0]]) ?_ rfl;rw [B2A];simp only [C6,cc,lp,mk,e1]
end
def D8H{o:yK}(ha:E2O h o l):∃ v t,o=A4 (v,h++t)/\quiet h (A4 (v,h++t))=A4 (v,h++t)/\(t=[]/\v=.c .ns/\l=[]\/t=[rT (encI l)]/\v=sV (l_ h) 0 (l_ l) 1):=by
 obtain ⟨v,t,e,hh,ht⟩:=ha;refine ⟨v,t,e,?_,ht⟩;rcases ht with ⟨rfl,_,_⟩ | ⟨rfl,_⟩
 ·rw [E6k];exact W2 Grows.rfl'
 ·exact W2 (Grows.rfl'.new _)
def E1g{j:Int}(h:atF D n k d j≠0):G5 (l_ D) n (atF D n k d j)=A5:=by
 unfold atF at h ⊢;split at h
 ·rename_i c;rw [if_pos c];unfold uJ at h ⊢;cases e:G5 (l_ D) n (D1b D n d j.toNat) with
  | true=>rw [cond_true];exact e
  | false=>rw [e,cond_false] at h;exact absurd rfl h
 ·exact absurd rfl h
def D7S:∀ x∈qI D n k d,G5 (l_ D) n x=A5:=by
 intro x hx;unfold qI at hx;have he:∀ e j,x∈(bK (atF D n k d) e j).map (·.2)->G5 (l_ D) n x=A5:=λe j h=>by
  obtain ⟨q,hq,rfl⟩:=List.mem_map.1 h;have:=A8F e j q hq;rw [this.2.2.1];exact E1g (by rw [<-this.2.2.1];exact this.2.2.2)
 split at hx
 ·rcases List.mem_append.1 hx with hx | hx
  ·split at hx
   ·rename_i c;rw [List.mem_singleton.1 hx];unfold Z0 at c;rw [E53,E53] at c;exact c.1.2
   ·simp at hx
  ·unfold S7 at hx;cases c:Z0 D n k d with
   | true=>rw [c,cond_true] at hx;exact (List.mem_filter.1 hx).2
   | false=>rw [c,cond_false] at hx;simp at hx
 ·rcases List.mem_append.1 hx with hx | hx
  ·rcases List.mem_append.1 hx with hx | hx
   ·exact he _ _ hx
   ·split at hx
    ·rename_i c;rw [List.mem_singleton.1 hx];exact c.2
    ·simp at hx
  ·exact he _ _ hx
def D42:(qI D n k d).length<=1000:=by
 unfold qI;split
 ·have hbl:(S7 D n k d).length<=32:=A59;rw [E58];split
  ·simp;omega
  ·simp;omega
 ·have h1:=B0j (atF D n k d) 6 0;have h2:=B0j (atF D n k d) 128 6;simp only [E58,List.length_map];split
  ·simp;omega
  ·simp;omega
def B6Y(l:List Int)(no:Int):List Int:=l.set no.toNat (l.getD no.toNat 0+1)
def D29(D:Dev)(n:Int)(l:List Int)(x:Nd):List Int:=(qI D n (kdV D n x.ino) (drV D n x.ino)).foldl B6Y l
def B0B(D:Dev)(n:Int):List Int:=(E4 D n).foldl (D29 D n) (zI (l_ D))
structure OwI(g H0:A9)(oid:Nat)(D:Dev)(l:List Int)(B:Nat)(h:A9):Prop where
 low:Low (l_ g) g h
 keep:∀ id r,id≠oid->rd H0 id=A4 r->rd h id=A4 r
 out:rd h oid=rT (encI l)
 len:l_ l=(l_ D)
 bnd:∀ x∈l,0<=x/\x<=(B:Int)
section
variable {D:Dev} {n m:Int} {f:Cell} {g H0 h:A9} {r oid:Nat} {l:List Int} {B:Nat}
def OwI.more(P:OwI g H0 oid D l B h)(t:A9):OwI g H0 oid D l B (h++t) :=
 ⟨P.low.new t,λid r hn hr=>B7 (P.keep id r hn hr),B7 P.out,P.len,P.bnd⟩
def OwI.wide{B':Nat}(P:OwI g H0 oid D l B h)(hB:B<=B'):OwI g H0 oid D l B' h :=
 ⟨P.low,P.keep,P.out,P.len,λx hx=>⟨(P.bnd x hx).1,by have:=(P.bnd x hx).2;omega⟩⟩
def OwI.put(P:OwI g H0 oid D l B h)(hg:l_ g<=oid)(hB:B<1000000000)(h0:0<=no)(h1:no<l_ D) :
  ∃ a,E9 1 (sV oid 0 (l_ D) 1) (iV no)=A4 a/\B9 h a=A4 (iV (l.getD no.toNat 0))/\E6a .i64 (l.getD no.toNat 0+1)=l.getD no.toNat 0+1 /\
   I8 h a (iV (l.getD no.toNat 0+1))=A4 (h.set oid (rT (encI (B6Y l no))))/\OwI g H0 oid D (B6Y l no) (B+1) (h.set oid (rT (encI (B6Y l no)))):=by
 obtain ⟨k,rfl⟩:=E61 h0;have hk:k<(l_ D):=by omega
 have hkl:k<(l_ l):=by rw [P.len];exact hk
 have W5:=E1 P.out;have hb:0<=l.getD k 0/\l.getD k 0<=(B:Int):=by
  rw [E54,E51 hkl];exact P.bnd _ (E6w hkl)
 refine ⟨pV oid k,by rw [E3 hk];simp,?_,?_,?_,?_⟩
 ·refine C4 P.out ?_ rfl;rw [G6,E6q,E54,E51 hkl];rfl
 ·rw [E6q];exact wrap_i64 (by omega) (by omega)
 ·rw [I9 P.out (by rw [C1];exact hkl)];unfold B6Y;rw [E6q];show A4 (h.set oid (rT ((encI l).set k _)))=_;unfold encI;rw [List.map_set]
 ·refine ⟨P.low.set hg _,λid r hn hr=>?_,D6 W5,by unfold B6Y;rw [E6F];exact P.len,λx hx=>?_⟩
  ·rw [B8 (λe=>hn e.symm)];exact P.keep id r hn hr
  ·unfold B6Y at hx;rw [E6q] at hx;rcases List.mem_or_eq_of_mem_set hx with h | rfl
   ·have:=P.bnd x h;omega
   ·omega
def D7R{x1 x17 x18 x19:Val}{sid M0:Nat}{C:Nat}(hg:l_ g<=oid)(hL:∀ x∈L,G5 (l_ D) n x=A5)(hs:sid≠oid)(E5K:l_ L<=1000) :
  ∀ (e i M:Nat) (l:List Int) (B:Nat) (h:A9),i+e=l_ L->e<M->B+e<=C->C<1000000000->OwI g H0 oid D l B h->(L=[]\/(v=sV sid 0 (l_ L) 1/\rd h sid=rT (encI L))) ->
  ∃ h',B1u q M0 M x1 (sV oid 0 (l_ D) 1) x17 x18 x19 v (iV (l_ L:Nat)) (iV (i:Int)) h=bnd (N5 .add x19 (iV 1)) (λv33=>A2n q M0 x1 (sV oid 0 (l_ D) 1) x17 x18 v33 h')/\OwI g H0 oid D ((L.drop i).foldl B6Y l) C h':=by
 intro e
 induction e with
 | zero =>
  intro i M l B h hi hM hB hC P hv;obtain ⟨M,rfl⟩:=aP M (by omega);have c0:¬ (i:Int)<(l_ L:Nat):=by omega
  rw [A47,E6f (by omega)];exact ⟨h,by simp only [C6,G3,c0,decide_false,Y0],P.wide (by omega)⟩
 | succ e ih =>
  intro i M l B h hi hM hB hC P hv;obtain ⟨M,rfl⟩:=aP M (by omega);have K7:i<(l_ L):=by omega
  rcases hv with hv | ⟨rfl,hr⟩
  ·rw [hv] at K7;simp at K7
  ·have c0:(i:Int)<(l_ L:Nat):=by omega
   have w1:=D9 (a:=i) (by omega);have ad:E9 1 (sV sid 0 (l_ L) 1) (iV (i:Int))=A4 (pV sid i):=by rw [E3 K7];simp
   have la:B9 h (pV sid i)=A4 (iV L[i]):=C4 hr (by rw [G6,E51 K7];rfl) rfl;obtain ⟨_,h0,h1⟩:=uP.1 (hL _ (E6w K7));have h0:0<=L[i]:=by have:=(oA (b:=l_ D) (n:=n)).1;omega
   obtain ⟨a,a1,a2,a3,a4,a5⟩:=P.put hg (by omega) h0 h1;obtain ⟨h',f1,f2⟩:=ih (i+1) M _ (B+1) _ (by omega) (by omega) (by omega) hC a5 (.inr ⟨rfl,by rw [B8 (λe=>hs e.symm)];exact hr⟩);refine ⟨h',?_,by rw [E6b K7,E64];exact f2⟩;rw [A47];simp only [C6,G3,c0,decide_true,W9,ad,la,a1,a2,L7,a3,a4,w1];exact f1
def D7Q{pv:Nat}{x:Val}(hD:okD D)(hq:1000<q)(hg:l_ g<=oid)(hv:IsView g f D)(hpv:pv≠oid)(hr0:rd H0 pv=rT (vwC (l_ D) n m f))(ho:oid<H0.length)(hT:E2S (oid+1) H0 x (E4 D n)) :
  ∀ (e i M:Nat) (l:List Int) (h:A9),i+e=(E4 D n).length->e<M->OwI g H0 oid D l (i*1000) h ->
  ∃ h',A2n q M (pV pv 0) (sV oid 0 (l_ D) 1) x (iV ((E4 D n).length:Nat)) (iV (i:Int)) h=A4 (sV oid 0 (l_ D) 1,h')/\OwI g H0 oid D (((E4 D n).drop i).foldl (D29 D n) l) ((E4 D n).length*1000) h':=by
 have hlen:=C1W (D:=D) (n:=n);intro e
 induction e with
 | zero =>
  intro i M l h hi hM P;obtain ⟨M,rfl⟩:=aP M (by omega);have c0:¬ (i:Int)<((E4 D n).length:Nat):=by omega
  rw [A46,E6f (by omega)];exact ⟨h,by simp only [C6,G3,c0,decide_false,Y0],P.wide (by omega)⟩
 | succ e ih =>
  intro i M l h hi hM P;obtain ⟨M,rfl⟩:=aP M (by omega);have K7:i<(E4 D n).length:=by omega
  have c0:(i:Int)<((E4 D n).length:Nat):=by omega
  have w1:=D9 (a:=i) (by omega);have ht:IsTree h x (E4 D n):=hT h λid r hid hr=>P.keep id r (by omega) hr
  obtain ⟨id,cs,a1,a2,hN⟩:=ht.at K7;have st:F9 (h++[rT [o0,o0,o0,o0,o0,.ns,.ns]]) 7 (pV (l_ h) 0) (.a cs)=A4 (h++[rT cs]):=B4f hN.length;obtain ⟨K,hK⟩:=xEq (h++[rT cs]);have rK:rd K (l_ h)=rT cs:=by rw [hK,I5];rfl
  rw [<-hK] at st;have PK:OwI g H0 oid D l (i*1000) K:=by rw [hK];exact P.more _
  obtain ⟨nd,hnd⟩:=xEq ((E4 D n)[i]);rw [<-hnd] at hN;have hvK:IsView K f D:=hv.since PK.low;have l4:D1 K 4 (pV pv 0)=A4 (.a (vwC (l_ D) n m f)):=C7 (PK.keep pv _ hpv hr0) rfl;have hI:=V1 (n:=n) (m:=m) (i:=nd.ino) hD hvK;have hIq:quiet K (F8 [.a (vwC (l_ D) n m f),iV nd.ino] K)=A4 (.a (B0t D n nd.ino),K):=by rw [hI];exact cX
  rw [pN] at hIq;obtain ⟨v,t,o1,o2,o3⟩:=D8H (D0s (n:=n) (m:=m) (k:=kdV D n nd.ino) (l:=lnV D n nd.ino) (s:=szV D n nd.ino) (p:=paV D n nd.ino) (d:=drV D n nd.ino) hD O8 hvK);rw [<-o1] at o2;rw [o1] at o2;have oq:quiet K (X5 [.a (vwC (l_ D) n m f),.a (C8 (kdV D n nd.ino) (lnV D n nd.ino) (szV D n nd.ino) (paV D n nd.ino) (drV D n nd.ino))] K)=A4 (v,K++t):=by rw [o1];exact o2
  obtain ⟨x1,y1,ecs,_,_⟩:=hN;have g0:B9 K (pV (l_ h) 0)=A4 (iV nd.ino):=C4 rK (by rw [ecs];rfl) rfl;have E2E:=D42 (D:=D) (n:=n) (k:=kdV D n nd.ino) (d:=drV D n nd.ino);have B5m:=D7S (D:=D) (n:=n) (k:=kdV D n nd.ino) (d:=drV D n nd.ino);obtain ⟨L,hL⟩:=xEq (qI D n (kdV D n nd.ino) (drV D n nd.ino));rw [<-hL] at E2E B5m o3;have al:B8H v=A4 (iV (l_ L:Nat)):=by
   rcases o3 with ⟨_,rfl,rfl⟩ | ⟨_,rfl⟩<;>rfl
  have hoK:oid<(l_ K):=E1 PK.out;obtain ⟨h',f1,f2⟩:=D7R (q:=q) (v:=v) (x1:=pV pv 0) (x17:=x) (x18:=iV ((E4 D n).length:Nat)) (x19:=iV (i:Int)) (L:=L) (sid:=l_ K) (M0:=M) (C:=(i+1)*1000) (D:=D) (n:=n) hg B5m (by omega) E2E (l_ L) 0 q l (i*1000) (K++t) (by omega) (by omega) (by omega) (by omega) (PK.more t) (by
   rcases o3 with ⟨_,_,h⟩ | ⟨rfl,rfl⟩
   ·exact .inl h
   ·exact .inr ⟨rfl,by rw [I5];rfl⟩)
  obtain ⟨h2,f3,f4⟩:=ih (i+1) M _ h' (by omega) (by omega) f2;refine ⟨h2,?_,by rw [E6b K7,E64,<-hnd];unfold D29 at f4 ⊢;rw [<-hL];exact f4⟩;have z0:((0:Nat):Int)=0:=rfl;rw [z0] at f1;rw [A46];generalize vwC (l_ D) n m f=V at *;generalize C8 (kdV D n nd.ino) (lnV D n nd.ino) (szV D n nd.ino) (paV D n nd.ino) (drV D n nd.ino)=I at *;simp only [C6,G3,c0,decide_true,W9,a1,a2,st,l4,Q8,E6j,g0,E6k,hIq,oq,al,f1,L7,w1];exact f3
def B1t(hD:okD D)(hm:P7 (l_ D) n=A5)(hv:IsView h f D):wX [.a (vwC (l_ D) n m f)] h=A4 (sV (l_ h) 0 (l_ D) 1,h++[rT (encI (B0B D n))]):=by
 obtain ⟨g,hg⟩:=xEq (ro h);have hvg:IsView g f D:=by rw [hg];exact hv.ro
 obtain ⟨b16,b512,_⟩:=I1.1 hm;have hlen:=C1W (D:=D) (n:=n);have hCk:=λh=>cY (b:=l_ D) (n:=n) (m:=m) (h:=h)
 rw [hm,cond_true] at hCk;obtain ⟨V,hV⟩:=xEq (vwC (l_ D) n m f);obtain ⟨G,hG⟩:=xEq (g++[rT V,rT []]);have rV:rd G (l_ g)=rT V:=by rw [hG,I5];rfl
 have lG:l_ G=l_ g+2:=by rw [hG];simp
 have l3:D1 G 3 (pV (l_ g) 0)=A4 (.a (K9 (l_ D) n m)):=by
  rw [T1 rV (by rw [hV];simp [vwC]) (by simp),hV];rfl
 have l1:B9 G (pV (l_ g) 0)=A4 (iV (l_ D:Nat)):=C4 rV (by rw [hV];rfl) rfl;have mk:=D38 (N:=l_ D) (by omega);have rz:rows [o0] (l_ D)=encI (zI (l_ D)):=by simp [rows,encI,zI,List.map_replicate,List.flatten_replicate_singleton]
 obtain ⟨K,hK⟩:=xEq (G++[rT (encI (zI (l_ D)))]);have rVK:rd K (l_ g)=rT V:=by rw [hK];exact B7 rV
 have l4:D1 K 4 (pV (l_ g) 0)=A4 (.a V):=C7 rVK (by rw [hV];rfl);have hvK:IsView K f D:=by rw [hK,hG];exact (hvg.more _).more _
 obtain ⟨x,H0,t1,t2,t3,_,t5⟩:=C7s (n:=n) (m:=m) hD hvK;rw [<-hV] at t1;have al:=t2.len;have lK:l_ K=l_ g+3:=by rw [hK];simp [lG]
 have rVH:rd H0 (l_ g)=rT V:=by rw [t3.2.2 _ (by omega)];exact rVK
 have rOH:rd H0 (l_ G)=rT (encI (zI (l_ D))):=by rw [t3.2.2 _ (by omega),hK,I5];rfl
 have lowH:Low (l_ g) g H0:=by
  refine Low.trans (h':=K) ?_ ⟨by omega,t3.2.1,λid hid=>t3.2.2 id (by omega)⟩;rw [hK,hG];exact ((Low.refl (E56 _)).new _).new _
 have P0:OwI g H0 (l_ G) D (zI (l_ D)) (0*1000) H0:=⟨lowH,λid r _ hr=>hr,rOH,by simp [zI],λy hy=>by
  have:y=0:=List.eq_of_mem_replicate hy;omega⟩
 rw [lK] at t5;obtain ⟨h',f1,f2⟩:=D7Q (q:=2000) (pv:=l_ g) (x:=x) (n:=n) (m:=m) hD (by omega) (by omega) hvg (by omega) (by rw [<-hV];exact rVH) (by have:=E1 rOH;omega) (by rw [lG];exact t5) (E4 D n).length 0 2000 (zI (l_ D)) H0 (by omega) (by omega) P0;have z0:((0:Nat):Int)=0:=rfl;rw [z0,E6i] at *;refine B6W (n:=2000) (h2:=h') ?_ ⟨by rw [C1,E69];exact f2.len,l_ G,rfl,?_,f2.out⟩ B7g
 ·rw [B75,<-hV,<-hg];have cc:cells? (.a V)=A4 V:=rfl;have ap:(g++[rT V])++[rT []]=G:=by rw [hG];simp
  simp only [cc,C6];rw [ap];simp only [C6,Q8,E6j,l3,hCk,B22,ne_eq,not_true_eq_false,decide_false,Y0,l1,mk,rz];rw [<-hK];simp only [C6,l4,t1,al];exact f1
 ·rw [lG,hg,H6];omega
end
def C7u(D:Dev)(n:Int):Bool:=(B0B D n).any λx=>decide (1<x)
def C7v(D:Dev)(n:Int)(i e:Nat):List Nat:=(E6v i e).filter λk=>decide (0<(B0B D n).getD k 0)
def E1Q(D:Dev)(n:Int):List Nat:=E6z (bD (l_ D) n).toNat++C7v D n 0 (l_ D)
def B9o(D:Dev)(n:Int):Bool:=!(decide (dH (E1Q D n)=blk D 1))
section
variable {D:Dev} {n m:Int} {f:Cell} {h:A9} {r:Nat}
def D1A:(B6Y l no).length=(l_ l):=by unfold B6Y;rw [E6F]
def C9a:∀ {L l:List Int},(L.foldl B6Y l).length=(l_ l)
 | [],_=>rfl
 | x::L,l=>by rw [E64,C9a,D1A]
def C9x:∀ {t:List Nd} {l:List Int},(t.foldl (D29 D n) l).length=(l_ l)
 | [],_=>rfl
 | x::t,l=>by rw [E64,C9x];unfold D29;rw [C9a]
def D26:(B0B D n).length=(l_ D):=by unfold B0B;rw [C9x];simp [zI]
def D5D{id:Nat}(hr:rd h id=rT (encI L))(hL:l_ L<=1000):∀ (e i M:Nat),i+e=l_ L->e<M ->
  A2O q M (sV id 0 (l_ L) 1) (iV (l_ L:Nat)) (iV (i:Int)) h=A4 (bV ((L.drop i).any λx=>decide (1<x)),h):=by
 intro e
 induction e with
 | zero =>
  intro i M hi hM;obtain ⟨M,rfl⟩:=aP M (by omega);have c0:¬ (i:Int)<(l_ L:Nat):=by omega
  rw [yJ,E6f (by omega)];simp only [esc,c0]<;>rfl
 | succ e ih =>
  intro i M hi hM;obtain ⟨M,rfl⟩:=aP M (by omega);have K7:i<(l_ L):=by omega
  have c0:(i:Int)<(l_ L:Nat):=by omega
  have w1:=D9 (a:=i) (by omega);have ad:E9 1 (sV id 0 (l_ L) 1) (iV (i:Int))=A4 (pV id i):=by rw [E3 K7];simp
  obtain ⟨no,Y3⟩:=xEq (L[i]);have la:B9 h (pV id i)=A4 (iV no):=C4 hr (by rw [G6,E51 K7,Y3];rfl) rfl;have f1:=ih (i+1) M (by omega) (by omega);rw [yJ,E6b K7,<-Y3,List.any_cons];by_cases c:1<no
  ·have c':no > 1:=c;rw [decide_eq_true c];simp only [esc,c0,ad,la,c',E6P]
  ·have c':¬ no > 1:=c;rw [decide_eq_false c,E6U];simp only [esc,c0,ad,la,c',w1];exact f1
def C7D(hD:okD D)(hm:P7 (l_ D) n=A5)(k:IsLook D n m f h r):tG [pV r 0] h=A4 (bV (C7u D n),h):=by
 obtain ⟨b16,b512,_⟩:=I1.1 hm;have l4:=k.ro.v4;have hO:=B1t (m:=m) hD hm k.ro.view;have hl:=D26 (D:=D) (n:=n);have f1:=D5D (q:=1000) (id:=(ro h).length) (h:=ro h++[rT (encI (B0B D n))]) (L:=B0B D n) (by rw [I5];rfl) (by omega) (B0B D n).length 0 1000 (by omega) (by omega);have z0:((0:Nat):Int)=0:=rfl;rw [z0,E6i,hl] at f1;refine A8g (n:=1000) (h2:=ro h++[rT (encI (B0B D n))]) ?_ rfl;rw [B1C];unfold C7u;generalize vwC (l_ D) n m f=V at *;simp only [esc,l4,hO];exact f1
def D2O{g:A9}{cid:Nat}(hD:okD D)(b512:l_ D<=512)(hc:cid<(g++[A7]).length)(hcg:cid=l_ g) :
  ∀ (e i M id:Nat) (S:List Nat) (h:A9),i+e=l_ D->e<M->IsLook D n m f h r->(∀ x∈S,x<2048)->l_ S<=600+i->rd h id=rT (encI (S.map λx:Nat=>(x:Int)))->id≠cid->r<id->rd h cid=rT (encI (B0B D n))->r<cid ->
  (∀ h',(∀ j x,j≠id->rd h j=A4 x->rd h' j=A4 x)->IsLook D n m f h' r) ->
  ∃ h',A15 q M (pV r 0) (sV id 0 (l_ S) 1) (sV cid 0 (l_ D) 1) (iV (l_ D:Nat)) (iV (i:Int)) h=A4 (bV (!(decide (dH (S++C7v D n i (l_ D-i))=blk D 1))),h'):=by
 have hl:=D26 (D:=D) (n:=n);intro e
 induction e with
 | zero =>
  intro i M id S h hi hM k hS hlen hr hid E4s hcr hrc mM;obtain ⟨M,rfl⟩:=aP M (by omega);have c0:¬ (i:Int)<(l_ D:Nat):=by omega
  have eU:C7v D n i (l_ D-i)=[]:=by
   rw [show (l_ D)-i=0 by omega];rfl
  have hC:=A7s (v:=sV id 0 (l_ S) 1) (nv:=l_ S) (l:=S) (h:=h) hS (by omega) (Has.row hr (by simp [C1]) (A4U _));have hCq:quiet h (pD [sV id 0 (l_ S) 1] h)=A4 (.a (B5 (dH S)),h):=by rw [hC];exact cX
  have l4:=k.v4;have hB:=M7 (n:=n) (m:=m) (no:=1) hD k.view;have hM1:∀ h,quiet h (sX [] h)=A4 (iV 1,h):=λh=>by rw [uM];exact cX
  have q1:=C8G (l:=dH S) (m:=blk D 1) (n:=256) (by unfold dH;rw [eV,zeros_length]) (J9 hD);rw [uZ,eU,E6k];refine ⟨h,?_⟩;generalize vwC (l_ D) n m f=V at *;generalize B5 (dH S)=X at *;generalize B5 (blk D 1)=Y at *;generalize E55 256 (Sh.i .u8)=Z at *;simp only [esc,c0,hCq,l4,hM1,hB,q1]
 | succ e ih =>
  intro i M id S h hi hM k hS hlen hr hid E4s hcr hrc mM;obtain ⟨M,rfl⟩:=aP M (by omega);have K7:i<(B0B D n).length:=by omega
  have E4j:i<(l_ D):=by omega
  have c0:(i:Int)<(l_ D:Nat):=by omega
  have w1:=D9 (a:=i) (by omega);have ad:E9 1 (sV cid 0 (l_ D) 1) (iV (i:Int))=A4 (pV cid i):=by rw [E3 E4j];simp
  obtain ⟨no,Y3⟩:=xEq ((B0B D n).getD i 0);have la:B9 h (pV cid i)=A4 (iV no):=C4 hcr (by rw [G6,Y3,E54,E51 K7];rfl) rfl;have eU:C7v D n i (l_ D-i)=(if 0<no then [i] else [])++C7v D n (i+1) (l_ D-(i+1)):=by
   unfold C7v;rw [show (l_ D)-i=(l_ D-(i+1))+1 by omega,List.range'_succ];by_cases c:0<no
   ·rw [if_pos c,E6W (by rw [<-Y3];simpa using c)];rfl
   ·rw [if_neg c,E6V (by rw [<-Y3];simpa using c)];rfl
  rw [uZ,eU];by_cases c:0<no
  ·have c':no > 0:=c;rw [if_pos c,<-E6d];have hlS:(encI (S.map λx:Nat=>(x:Int))).length=l_ S*1:=by simp [C1]
   obtain ⟨h2,p1,p2,p3,p4⟩:=B7t (h:=h) (n:=l_ S) (sz:=1) (ys:=[cI (i:Int)]) hr hlS rfl (by omega) (by omega);have E5d:=E1 hr;have e2:encI (S.map λx:Nat=>(x:Int))++[cI (i:Int)]=encI ((S++[i]).map λx:Nat=>(x:Int)):=by simp [encI]
   rw [e2] at p2;have oG:=E1 hcr;obtain ⟨h',f1⟩:=ih (i+1) M (l_ h+1) (S++[i]) h2 (by omega) (by omega) (mM h2 p3) (λx hx=>by
    rcases List.mem_append.1 hx with hx | hx
    ·exact hS x hx
    ·rw [List.mem_singleton.1 hx];omega) (by rw [E58];simp;omega) p2 (by omega) (by omega) (p3 cid _ (λe=>hid e.symm) hcr) hrc (λh3 hk=>mM h3 λj x hj hx=>by
     by_cases hje:j=l_ h+1
     ·have:=E1 hx;omega
     ·exact hk j x hje (p3 j x hj hx))
   have el:(S++[i]).length=l_ S+1:=by simp
   rw [el] at f1;have ef:F5 [o0] [(0,1,iV (i:Int))]=A4 [cI (i:Int)]:=rfl;refine ⟨h',?_⟩;simp only [C6,G3,c0,decide_true,W9,ad,la,C5a,c',ef,p1,uY,L7,w1];exact f1
  ·have c':¬ no > 0:=c;rw [if_neg c,E6s];obtain ⟨h',f1⟩:=ih (i+1) M id S h (by omega) (by omega) k hS (by omega) hr hid E4s hcr hrc mM;refine ⟨h',?_⟩;simp only [C6,G3,c0,decide_true,W9,ad,la,C5a,c',decide_false,Y0,uY,L7,w1];exact f1
def IsLook.stay{g h':A9}{b:Nat}(k:IsLook D n m f g r)(hb:b=l_ g)(hk:∀ j x,j<b->rd g j=A4 x->rd h' j=A4 x)(kX:l_ g<=l_ h'):IsLook D n m f h' r:=by
 subst hb;have low:∀ j x,rd g j=A4 x->rd h' j=A4 x:=λj x hx=>hk j x (E1 hx) hx
 obtain ⟨x,w,h1,⟨cs,h2,h3⟩⟩:=k.row;obtain ⟨a,q,rw1,rw2,e1,e2,e3⟩:=k.view;refine ⟨⟨a,q,rw1,rw2,e1,low _ _ e2,low _ _ e3⟩,x,w,low _ _ h1,cs,?_,?_⟩
 ·rcases h2 with hv | ⟨id,off,r,e,hr,h2⟩
  ·exact .inl hv
  ·exact .inr ⟨id,off,r,e,low _ _ hr,h2⟩
 ·clear h1 h2 k e1
  have:∀ (t:List Nd) (cs:List Cell),IsNds g cs t->IsNds h' cs t:=by
   intro t
   induction t with
   | nil=>intro cs h;exact h
   | cons y t ih =>
    rintro cs ⟨c1,c2,e,⟨u,v,ev,hu,hv⟩,h2⟩;have st:∀ {x:Cell} {sz n:Nat} {cs:List Cell},Has g (.c x) sz n cs->Has h' (.c x) sz n cs:=λhv=>by
     rcases hv with hv | ⟨id,off,r,e,hr,h2⟩
     ·exact .inl hv
     ·exact .inr ⟨id,off,r,e,low _ _ hr,h2⟩
    exact ⟨c1,c2,e,⟨u,v,ev,st hu,st hv⟩,ih _ h2⟩
  exact this _ _ h3
def C36(hD:okD D)(hm:P7 (l_ D) n=A5)(k:IsLook D n m f h r):qR [pV r 0] h=A4 (bV (B9o D n),h):=by
 obtain ⟨b16,b512,_⟩:=I1.1 hm;obtain ⟨g,hg⟩:=xEq (ro h);have kg:IsLook D n m f g r:=by rw [hg];exact k.ro
 have hrl:r<(l_ g):=by
  obtain ⟨x,w,h1,_⟩:=kg.row;exact E1 h1
 have hdr:=oA (b:=l_ D) (n:=n);obtain ⟨d,hd⟩:=xEq ((bD (l_ D) n).toNat);have l3:=kg.v3;have hO:=B3A (b:=l_ D) (n:=n) (m:=m) (h:=g);rw [<-hd] at hO;obtain ⟨G,hG⟩:=xEq (g++[rT (encI (upto d))]);rw [<-hG] at hO;have lG:l_ G=l_ g+1:=by rw [hG];simp
 have kG:IsLook D n m f G r:=by rw [hG];exact kg.more _
 have l4:=kG.v4;have hW:=B1t (m:=m) hD hm kG.view;obtain ⟨K,hK⟩:=xEq (G++[rT (encI (B0B D n))]);rw [<-hK] at hW;have kK:IsLook D n m f K r:=by rw [hK];exact kG.more _
 have rO:rd K (l_ g)=rT (encI (upto d)):=by rw [hK];exact B7 (by rw [hG,I5];rfl)
 have rC:rd K (l_ G)=rT (encI (B0B D n)):=by rw [hK,I5];rfl
 obtain ⟨h',f1⟩:=D2O (g:=G) (q:=1000) (cid:=l_ G) (n:=n) (m:=m) (f:=f) (r:=r) hD (by omega) (by simp) rfl (l_ D) 0 1000 (l_ g) (E6z d) K (by omega) (by omega) kK (λx hx=>by rw [List.mem_range] at hx;omega) (by rw [List.length_range];omega) rO (by omega) hrl rC (by omega)
  (λh3 hk=>kg.stay rfl (λj x hj hx=>hk j x (by omega) (by rw [hK,hG];exact B7 (B7 hx))) (by have:=E1 (hk (l_ G) _ (by omega) rC);omega))
 rw [List.length_range] at f1;have z0:((0:Nat):Int)=0:=rfl;rw [z0,Nat.sub_zero] at f1;refine A7m (n:=1000) (h2:=h') ?_ rfl;rw [A9N,<-hg];unfold B9o E1Q;rw [<-hd];generalize vwC (l_ D) n m f=V at *;generalize K9 (l_ D) n m=Y at *;simp only [C6,A55,Q8,E7a,l3,hO,l4,hW,B8H];exact f1
end
def B4J(D:Dev)(n:Int):List Bool:=[B4i D n,C9E D n,D2M D n,D0L D n,C6G D n,D2b D n,C50 D n,C7u D n,B9o D n]
def C73(l:List Nat):List Int:=l.map λ(k:Nat)=>(k:Int)+2
def C9r(r:Nat):List Cell:=[.fb 40 r 0,.fb 41 r 0,.fb 42 r 0,.fb 43 r 0,.fb 44 r 0,.fb 45 r 0,.fb 46 r 0,.fb 47 r 0,.fb 48 r 0]
section
variable {D:Dev} {n m:Int} {f:Cell} {h:A9} {r:Nat}
def D7F(hD:okD D)(hm:P7 (l_ D) n=A5):∀ (i:Nat) (c:Cell) (b:Bool),(C9r r)[i]?=A4 c->(B4J D n)[i]?=A4 b->∀ h,IsLook D n m f h r->aD qM (.c c) [] h=A4 (bV b,h)
 | 0,c,b,hc,hb,h,k=>by cases hc;cases hb;exact Eq.trans (Eq.trans rfl rfl) (C1Z hD k)
 | 1,c,b,hc,hb,h,k=>by cases hc;cases hb;exact Eq.trans (Eq.trans rfl rfl) (C8s hD k)
 | 2,c,b,hc,hb,h,k=>by cases hc;cases hb;exact Eq.trans (Eq.trans rfl rfl) (C8q hD k)
 | 3,c,b,hc,hb,h,k=>by cases hc;cases hb;exact Eq.trans (Eq.trans rfl rfl) (C7z k)
 | 4,c,b,hc,hb,h,k=>by cases hc;cases hb;exact Eq.trans (Eq.trans rfl rfl) (C7B hD k)
 | 5,c,b,hc,hb,h,k=>by cases hc;cases hb;exact Eq.trans (Eq.trans rfl rfl) (C8p hD k)
 | 6,c,b,hc,hb,h,k=>by cases hc;cases hb;exact Eq.trans (Eq.trans rfl rfl) (C7y hD k)
 | 7,c,b,hc,hb,h,k=>by cases hc;cases hb;exact Eq.trans (Eq.trans rfl rfl) (C7D hD hm k)
 | 8,c,b,hc,hb,h,k=>by cases hc;cases hb;exact Eq.trans (Eq.trans rfl rfl) (C36 hD hm k)
 | i+9,c,b,hc,_,_,_=>by cases hc
def D2h{cid:Nat}{C:List Cell}{F:List Bool}(hC:l_ C=9)(hF:F.length=9)(hnx:noX C=A5)
  (D2u:∀ (i:Nat) (c:Cell) (b:Bool),C[i]?=A4 c->F[i]?=A4 b->∀ h,IsLook D n m f h r->aD qM (.c c) [] h=A4 (bV b,h)) :
  ∀ (e i M id:Nat) (S:List Nat) (h:A9),i+e=9->e<M->IsLook D n m f h r->l_ S<=i->rd h id=rT (encI (C73 S))->id≠cid->rd h cid=rT C ->
  (∀ h',(∀ j x,j≠id->rd h j=A4 x->rd h' j=A4 x)->IsLook D n m f h' r) ->
  ∃ h' dM,A12 q M (sV id 0 (l_ S) 1) (sV cid 0 9 1) (iV 9) (iV (i:Int)) h=A4 (sV dM 0 (S++yQ i (F.drop i)).length 1,h')/\rd h' dM=rT (encI (C73 (S++yQ i (F.drop i))))/\(dM=id\/(l_ h)<=dM):=by
 intro e
 induction e with
 | zero =>
  intro i M id S h hi hM k hlen hr hid hcr mM;obtain ⟨M,rfl⟩:=aP M (by omega);have e9:i=9:=by omega
  subst e9;rw [E6f (by omega)];have e0:yQ 9 []=[]:=rfl;rw [e0,E6k,uX];have c0:¬ ((9:Nat):Int)<9:=by omega
  exact ⟨h,id,by simp only [C6,G3,c0,decide_false,Y0],hr,.inl rfl⟩
 | succ e ih =>
  intro i M id S h hi hM k hlen hr hid hcr mM;obtain ⟨M,rfl⟩:=aP M (by omega);have K7:i<(l_ C):=by omega
  have hiF:i<F.length:=by omega
  have c0:(i:Int)<9:=by omega
  have w1:=D9 (a:=i) (by omega);have w2:E6a .i64 ((i:Int)+2)=(i:Int)+2:=wrap_i64 (by omega) (by omega);have ad:E9 1 (sV cid 0 9 1) (iV (i:Int))=A4 (pV cid i):=by rw [E3 (show i<9 by omega)];simp
  have la:B9 h (pV cid i)=A4 (.c C[i]):=C4 hcr (E51 K7) rfl;have hc:=D2u i C[i] F[i] (E51 K7) (E51 hiF) h k;rw [E6b hiF,uX];cases hb:F[i] with
  | false =>
   rw [hb] at hc;have e1:yQ i (A6::F.drop (i+1))=yQ (i+1) (F.drop (i+1)):=rfl;rw [e1];obtain ⟨h',dM,f1,f2,f3⟩:=ih (i+1) M id S h (by omega) (by omega) k (by omega) hr hid hcr mM;refine ⟨h',dM,?_,f2,f3⟩;simp only [C6,G3,c0,decide_true,W9,ad,la,hc,Y0,uW,L7,w1];exact f1
  | true =>
   rw [hb] at hc;have e1:yQ i (A5::F.drop (i+1))=i::yQ (i+1) (F.drop (i+1)):=rfl;rw [e1];have ea:S++i::yQ (i+1) (F.drop (i+1))=(S++[i])++yQ (i+1) (F.drop (i+1)):=by simp
   rw [ea];have hlS:(encI (C73 S)).length=l_ S*1:=by simp [C1,C73]
   obtain ⟨h2,p1,p2,p3,p4⟩:=B7t (h:=h) (n:=l_ S) (sz:=1) (ys:=[cI ((i:Int)+2)]) hr hlS rfl (by omega) (by omega);have e2:encI (C73 S)++[cI ((i:Int)+2)]=encI (C73 (S++[i])):=by simp [encI,C73]
   rw [e2] at p2;have oG:=E1 hcr;have E5d:=E1 hr;have hl2:=E1 p2;obtain ⟨h',dM,f1,f2,f3⟩:=ih (i+1) M (l_ h+1) (S++[i]) h2 (by omega) (by omega) (mM h2 p3) (by rw [E58];simp;omega) p2 (by omega) (p3 cid _ (λe=>hid e.symm) hcr) (λh3 hk=>mM h3 λj x hj hx=>by
     by_cases hje:j=l_ h+1
     ·have:=E1 hx;omega
     ·exact hk j x hje (p3 j x hj hx))
   have el:(S++[i]).length=l_ S+1:=by simp
   rw [el] at f1;have ef:F5 [o0] [(0,1,iV ((i:Int)+2))]=A4 [cI ((i:Int)+2)]:=rfl;refine ⟨h',dM,?_,f2,.inr (by omega)⟩;simp only [C6,G3,c0,decide_true,W9,ad,la,hc,L7,w2,ef,p1,uW,w1];exact f1
def C35(hD:okD D)(hv:Has h v 256 (l_ D) (E8 D))(hn:B7e D=A5)(hm:P7 (l_ D) (B5l D)=A5) :
  qQ [v] h=A4 (sV (l_ h) 0 (yQ 0 (B4J D (B5l D))).length 1,h++[rT (encI (C73 (yQ 0 (B4J D (B5l D)))))]):=by
 obtain ⟨b16,b512,_⟩:=I1.1 hm;obtain ⟨g,hg⟩:=xEq (ro h);have hvg:Has g v 256 (l_ D) (E8 D):=by rw [hg];exact hv.ro
 obtain ⟨G,hG⟩:=xEq (g++[rT []]);obtain ⟨f,t,o1,o2⟩:=B0O (v:=v) (h:=G) (by rw [hG];exact hvg.more _) hD hn (by omega);obtain ⟨V,hV⟩:=xEq (vwC (l_ D) (B5l D) (C3Q D) f);rw [<-hV] at o1;have hVl:l_ V=4:=by rw [hV];rfl
 obtain ⟨G1,hG1⟩:=xEq (G++t);rw [<-hG1] at o1 o2;obtain ⟨K,hK⟩:=xEq (G1++[rT V]);have st:F9 (G1++[rT [o0,o0,.i .u64 0,.nf]]) 4 (pV G1.length 0) (.a V)=A4 K:=by
  rw [storeAll (n:=4) (cs:=[o0,o0,.i .u64 0,.nf]) (by rw [I5];rfl) rfl hVl,yD,hK];rfl
 have l4:D1 K 4 (pV G1.length 0)=A4 (.a V):=C7 (by rw [hK,I5];rfl) hVl;obtain ⟨r,H,p1,p2,p3⟩:=C8r (n:=B5l D) (m:=C3Q D) (h:=K) hD (by rw [hK];exact o2.more _);rw [<-hV] at p1;have hgl:l_ g<=(l_ H):=by
  have h1:=p2.len;rw [hK,hG1,hG] at h1;simp at h1;omega
 obtain ⟨Q,hQ⟩:=xEq (H++[rT [],rT (C9r r)]);have k:IsLook D (B5l D) (C3Q D) f Q r:=by rw [hQ];exact p3.more _
 have hrl:r<(l_ H):=by
  obtain ⟨x,w,h1,_⟩:=p3.row;exact E1 h1
 have nx:noX (C9r r)=A5:=rfl;obtain ⟨h',dM,f1,f2,f3⟩:=D2h (q:=100) (cid:=l_ H+1) (C:=C9r r) (F:=B4J D (B5l D)) rfl rfl nx (D7F (m:=C3Q D) (f:=f) hD hm) 9 0 100 (l_ H) [] Q (by omega) (by omega) k (by simp) (by rw [hQ,I5];rfl) (by omega) (by rw [hQ,qK];rfl)
  (λh3 hk=>p3.stay rfl (λj x hj hx=>hk j x (by omega) (by rw [hQ];exact B7 hx)) (by have:=E1 (hk (l_ H+1) _ (by omega) (by rw [hQ,qK];rfl));omega))
 rw [E6i,E6s] at f1 f2;have z0:((0:Nat):Int)=0:=rfl;rw [z0,E6E] at f1;refine A8b (n:=100) (h2:=h') ?_ ⟨by simp [C1,C73],dM,rfl,?_,f2⟩ B7g
 ·rw [A9L,<-hg];have b1:∀ k:Nat,E1a k (pV r 0)=A4 (.c (.fb k r 0)):=λ_=>rfl
  have ef:F5 (E55 9 Cell.nf) [(0,1,.c (.fb 40 r 0)),(1,1,.c (.fb 41 r 0)),(2,1,.c (.fb 42 r 0)),(3,1,.c (.fb 43 r 0)),(4,1,.c (.fb 44 r 0)),(5,1,.c (.fb 45 r 0)),(6,1,.c (.fb 46 r 0)),(7,1,.c (.fb 47 r 0)),(8,1,.c (.fb 48 r 0))]=A4 (C9r r):=rfl;have ln:(H++[rT []]).length=l_ H+1:=by simp
  have ap:(H++[rT []])++[rT (C9r r)]=Q:=by rw [hQ];simp
  have al:B8H (sV (l_ H+1) 0 9 1)=A4 (iV 9):=rfl;rw [<-hG];simp only [C6,o1,xH,E6K,E6o,E6I,eY,eZ,st,B22,ne_eq,not_true_eq_false,decide_false,Y0,l4,p1,b1,ef,ln,al];rw [ap];exact f1
 ·have e1:(ro h).length=(l_ h):=H6;have e2:l_ Q=l_ H+2:=by rw [hQ];simp
  rw [<-e1,<-hg];rcases f3 with rfl | h1<;>omega
end
def D3X{N:Int->List Ent}{S:Int->Prop}(hS:∀ a,S a->∀ e∈N a,S e.2)(h1:S 1):∀ (e i:Nat) (R:List Int),(∀ x∈R,S x)->∀ x∈A9c N e i R,S x
 | 0,_,_,h=>h
 | e+1,i,R,h=>by
  unfold A9c;by_cases hl:i<(1::R).length
  ·rw [dif_pos hl];refine D3X hS h1 e (i+1) _ λx hx=>?_
   rcases B4a.1 hx with h2 | ⟨f,hf,rfl⟩
   ·exact h x h2
   ·refine hS _ ?_ f hf;have:=E6w hl;rcases List.mem_cons.1 this with h3 | h3
    ·rw [h3];exact h1
    ·exact h _ h3
  ·rw [dif_neg hl];exact h
section
variable {D:Dev} {n:Int} {F:Cl}
def Wh.tk(W:Wh D n F):F.row.take F.row.length=F.row:=List.take_length ..
def Wh.nms(W:Wh D n F)(ha:a∈F.row):A3o D n a=nmV D n a:=by
 unfold A3o;show (nmV D n a).filter _=_;refine List.filter_eq_self.2 λe he=>?_
 have h:=(W.I.one a (by rw [W.tk];exact ha) e he).2.1;unfold C8b;rcases D0I (D:=D) (n:=n) (i:=e.2) with h0 | h0 | h0
 ·exact absurd h0 h
 ·rw [h0];rfl
 ·rw [h0];rfl
def Wh.row(W:Wh D n F){a:Int}:a∈C1O D n↔a∈F.row:=by
 constructor
 ·have h1:(1:Int)∈F.row:=E6n W.I.hd;refine D3X (S:=λa=>a∈F.row) (λb hb e he=>?_) h1 130 0 [1] (λx hx=>by rw [List.mem_singleton.1 hx];exact h1) a;rw [W.nms hb] at he;exact (W.I.one b (by rw [W.tk];exact hb) e he).2.2
 ·exact W.I.sub a
def Wh.node(W:Wh D n F){x:Nd}:x∈E4 D n↔x.ino∈F.row/\x=rZ D n x.ino:=by
 rw [B40,W.row];exact ⟨λh=>h.2,λh=>⟨W.root,h⟩⟩
def Wh.find(W:Wh D n F)(ha:a∈F.row):gO (E4 D n) a=A4 (rZ D n a):=D4z W.root (W.row.2 ha)
def Wh.kind(W:Wh D n F)(ha:a∈F.row):(C1x D n a/\kdV D n a=1)\/(¬ C1x D n a/\kdV D n a=2):=by
 by_cases hf:C1x D n a
 ·exact .inl ⟨hf,hf.2⟩
 ·exact .inr ⟨hf,((W.I.sta a (by rw [W.tk];exact ha)).dir hf).1⟩
def Wh.perm(W:Wh D n F):List.Perm ((E4 D n).map (·.ino)) F.row:=by
 have nd:((E4 D n).map (·.ino)).Nodup:=by
  rw [List.Nodup,List.pairwise_map];exact treeV_up.imp λ{a b} h=>by omega
 refine (List.perm_ext_iff_of_nodup nd W.I.w.nd).2 λa=>?_
 rw [List.mem_map];constructor
 ·rintro ⟨x,hx,rfl⟩;exact (W.node.1 hx).1
 ·intro ha;exact ⟨rZ D n a,W.node.2 ⟨ha,rfl⟩,rfl⟩
def E0h{l m:List Nat}(h:l.Perm m):l.sum=m.sum:=by
 induction h with
 | nil=>rfl
 | cons x _ ih=>rw [List.sum_cons,List.sum_cons,ih]
 | swap x y l=>rw [List.sum_cons,List.sum_cons,List.sum_cons,List.sum_cons];omega
 | trans _ _ h1 h2=>exact h1.trans h2
def Wh.count(W:Wh D n F)(a:Int):(nZ (E4 D n) a:Int)=(F.lnk a).getD 0:=by
 rw [W.I.lnk a,W.tk];have e1:nZ (E4 D n) a=(((E4 D n).map (·.ino)).map λb=>B3p (nmV D n b) a).sum:=by
  unfold nZ;rw [List.map_map]
  congr 1
  refine List.map_congr_left λx hx=>?_
  obtain ⟨h1,h2⟩:=W.node.1 hx;show (x.names.filter _).length=B3p (nmV D n x.ino) a;rw [<-W.nms h1];rw [h2];rfl
 rw [e1,E0h (W.perm.map _)]
def Wh.clean_no(W:Wh D n F):B4i D n=A6:=by
 obtain ⟨b16,b512,n8,n128,nm8,nb⟩:=I1.1 W.may;unfold B4i;rw [Bool.not_eq_false',E6X];intro k hk;rw [List.mem_range] at hk;have hT:mP (l_ D) n=n/8:=by unfold mP;rw [W.may];rfl
 have hF:bH (l_ D) n=2:=by unfold bH;rw [W.may];rfl
 rw [hT] at hk;rw [hF];have key:∀ (e j:Nat),j+e=8->A4E (blk D (2+(k:Nat))) e j=A5:=by
  intro e
  induction e with
  | zero=>intro j _;rfl
  | succ e ih =>
   intro j hj;show (cQ (iD (blk D (2+(k:Nat))) j)&&A4E (blk D (2+(k:Nat))) e (j+1))=A5;rw [ih (j+1) (by omega),Bool.and_true];have hi:Q9 (l_ D) n (8*(k:Int)+j+1)=A5:=O1.2 ⟨W.may,by omega,by omega⟩;have h:=W.clean _ hi;unfold tQ aQ jK at h;rw [hi,cond_true,cond_true] at h;have e1:2+(8*(k:Int)+j+1-1)/8=2+(k:Nat):=by omega
   have e2:((8*(k:Int)+j+1-1)%8).toNat=j:=by omega
   rw [e1,e2] at h;exact h
 exact key 8 0 rfl
def Wh.root_no(W:Wh D n F):C9E D n=A6:=by
 have h1:(1:Int)∈F.row:=E6n W.I.hd;obtain ⟨l1,l2,_⟩:=W.dirl 1 h1 λh=>h.1 rfl
 unfold C9E;rw [Bool.not_eq_false',decide_eq_true_iff];exact ⟨W.root,l1,by rw [l2,W.I.par1];rfl⟩
def C6q{kd:Int->Int}:∀ {e k:Nat} {i:Int},i∈uO kd e k->kd i≠0
 | 0,_,_,h=>by simp [uO] at h
 | e+1,k,i,h=>by
  unfold uO at h;split at h
  ·exact C6q h
  ·rcases List.mem_cons.1 h with rfl | h
   ·assumption
   ·exact C6q h
def Wh.lost_no(W:Wh D n F):D2M D n=A6:=by
 unfold D2M;rw [Bool.not_eq_false',E6X];intro i hi;have hk:=C6q hi;have hin:=D4O hk;have hr:i∈F.row:=by
  by_cases h:i∈F.row
  ·exact h
  ·exact absurd (W.out i (O1.2 ⟨hin.1,hin.2.1,hin.2.2⟩) h) hk
 rw [W.find hr];rfl
def Wh.links_no(W:Wh D n F):D0L D n=A6:=by
 unfold D0L;rw [List.any_eq_false];intro x hx;obtain ⟨ha,hxe⟩:=W.node.1 hx;have hc:=W.count x.ino;have hk:x.kind=kdV D n x.ino:=by rw [hxe];rfl
 have hl:x.links=lnV D n x.ino:=by rw [hxe];rfl
 have hp:x.parent=paV D n x.ino:=by rw [hxe];rfl
 have key:uR (E4 D n) x=A6:=by
  unfold uR;rw [hk,hl,hp];by_cases h1:x.ino=1
  ·rw [if_pos h1];have:nZ (E4 D n) x.ino=0:=by
    rw [h1];have h0:=W.count 1;rw [W.I.lnk 1,W.tk] at h0;have:(F.row.map λb=>B3p (nmV D n b) 1).sum=0:=by
     have h2:∀ k∈F.row.map λb=>B3p (nmV D n b) 1,k=0:=by
      intro k hk;obtain ⟨b,hb,rfl⟩:=List.mem_map.1 hk;exact B4F λe he=>(W.I.one b (by rw [W.tk];exact hb) e he).1
     generalize F.row.map (λb=>B3p (nmV D n b) 1)=L at h2
     clear h0
     induction L with
     | nil=>rfl
     | cons k L ih=>rw [List.sum_cons,h2 k (E6e ..),ih λy hy=>h2 y (E59 _ hy)]
    omega
   rw [this];rfl
  ·rw [if_neg h1];rcases W.kind ha with ⟨hf,k1⟩ | ⟨hf,k2⟩
   ·obtain ⟨l1,l2⟩:=W.lnk _ ha hf;rw [k1,l1,l2,hc];simp
   ·obtain ⟨l1,l2,_⟩:=W.dirl _ ha hf;have hd:=W.I.dir _ ha h1 k2;rw [hd] at hc;obtain ⟨p,hpm,hp2,e,he,hee⟩:=W.I.par _ ha h1;rw [W.tk] at hpm;have ht:B7A (E4 D n) (paV D n x.ino) x.ino=A5:=by
     unfold B7A;rw [l2,hp2];show (((gO (E4 D n) p).getD _).names.any _)=A5;rw [W.find hpm];show (A3o D n p).any _=A5;rw [W.nms hpm];exact List.any_eq_true.2 ⟨e,he,by simpa using hee⟩
    rw [k2,l1,hc,ht];rfl
 rw [key];decide
def Wh.names_no(W:Wh D n F):C6G D n=A6:=by
 unfold C6G;rw [List.any_eq_false];intro x hx;obtain ⟨ha,_⟩:=W.node.1 hx;have key:C1D D n x.ino=A6:=by
  unfold C1D;rw [List.any_eq_false];intro e he;have he:e∈nmV D n x.ino:=he;rw [W.find (W.I.one _ (by rw [W.tk];exact ha) e he).2.2];exact Bool.false_ne_true
 rw [key,Bool.and_false];decide
def E0q{b:List UInt8}(hk:∀ s∈J1 b,T9 b s.2.1=A4 s)(hc:clB b (λ_=>A5)=b):A4X b=A5:=by
 unfold A4X;rw [decide_eq_true_iff];refine Eq.trans ?_ hc;have key:∀ (e k:Nat) (cur:List UInt8),(∀ s∈Q0 b e k,T9 b s.2.1=A4 s)->fixF b e k cur=zS (λ_=>A5) cur (Q0 b e k):=by
  intro e
  induction e with
  | zero=>intro k cur _;rfl
  | succ e ih =>
   intro k cur h;show fixF b e (k+1) (C1r b k cur)=_;cases hr:N9 b k with
   | none =>
    rw [Z3 hr] at h ⊢;have:C1r b k cur=cur:=by unfold C1r;rw [hr]
    rw [this];exact ih (k+1) cur h
   | some x =>
    rw [Z4 hr] at h ⊢;have hx:=h (k,x) (E6e ..);have hx:T9 b x.1=A4 (k,x):=hx;have:C1r b k cur=H5 cur (H7 k) (T6 x.1 x.2):=by
     unfold C1r;rw [hr];show (bif B0w b k x then _ else _)=_;have:B0w b k x=A5:=by unfold B0w;rw [hx];simp
     rw [this];rfl
    rw [this,ih (k+1) _ λs hs=>h s (E59 _ hs)];rfl
 exact key 7 0 hdB hk
def Wh.dirs_no(W:Wh D n F):D2b D n=A6:=by
 unfold D2b;rw [List.any_eq_false];intro x hx;obtain ⟨ha,hxe⟩:=W.node.1 hx;have hk:x.kind=kdV D n x.ino:=by rw [hxe];rfl
 rw [hk];rcases W.kind ha with ⟨hf,k1⟩ | ⟨hf,k2⟩
 ·rw [k1];simp
 ·obtain ⟨_,hdr,A8Q⟩:=(W.I.sta _ (by rw [W.tk];exact ha)).dir hf;obtain ⟨_,_,hsz⟩:=W.dirl _ ha hf;have key:C5O D n x.ino=A6:=by
   have e0:(drV D n x.ino).getD 0 0=noV D n x.ino:=rfl;have e1:((drV D n x.ino).take 6).set 0 0=zI 6:=by rw [hdr];rfl
   have e6:(drV D n x.ino).getD 6 0=0:=by rw [hdr];rfl
   unfold C5O;rw [e1,e6,hsz];have hb:D6L D n x.ino=A6:=by
    unfold D6L;rw [e0];by_cases h0:noV D n x.ino=0
    ·rw [h0];rfl
    ·obtain ⟨S,B5m⟩:=A8Q h0;obtain ⟨ok,hX,hB,_,_⟩:=D2a k2 S.good B5m;have hs:=(D5v ok hX hB).2 S.at_;have hr:=D3q S.d0 S.d5 S.fair;have hr:A0F (getD (blk D (noV D n x.ino))) (O0 (blk D (noV D n x.ino)) 32)=A5:=hr;rw [ok,hr,hs];have hbk:(J4 (O0 (blk D (noV D n x.ino)) 32) (C5 (getD (blk D (noV D n x.ino))))).any (D8V D n)=A6:=by
      rw [List.any_eq_false];intro b hb;have hb:b∈bkV D n x.ino:=hb;have hz:=A1B hb;have hR:A4X (blk D b)=A5:=E0q (λs hs=>by
       obtain ⟨a1,a2⟩:=B4w.1 (S.at_ b hb s hs);rw [xY a1 hz] at a2;exact a2) (S.clr b hb)
      unfold D8V;rw [B5m b (E59 _ hb),hR];decide
     rw [hbk];simp
   rw [hb];simp
  rw [key];simp
def Wh.files_no(W:Wh D n F):C50 D n=A6:=by
 unfold C50;rw [List.any_eq_false];intro x hx;obtain ⟨ha,hxe⟩:=W.node.1 hx;have hk:x.kind=kdV D n x.ino:=by rw [hxe];rfl
 rw [hk];rcases W.kind ha with ⟨hf,k1⟩ | ⟨hf,k2⟩
 ·obtain ⟨S,B5m⟩:=(W.I.sta _ (by rw [W.tk];exact ha)).fil hf;have wr:∀ (k no:Int),(no≠0->G5 (l_ D) n no=A5/\k<T5 (szV D n x.ino))->qY D n k no (T5 (szV D n x.ino))=A6:=by
   intro k no h;unfold qY;by_cases h0:no=0
   ·rw [h0];rfl
   ·obtain ⟨h1,h2⟩:=h h0;rw [h1,decide_eq_false (show ¬ T5 (szV D n x.ino)<=k by omega)];simp
  have ei:(drV D n x.ino).getD 6 0=X6 D n x.ino:=rfl;have key:C1p D n x.ino=A6:=by
   unfold C1p D6C;have h1:((E6v 0 6).any λk=>qY D n (k:Int) ((drV D n x.ino).getD k 0) (T5 (szV D n x.ino)))=A6:=by
    rw [List.any_eq_false];intro k hk;rw [List.mem_range'_1] at hk;rw [wr _ _ λh0=>⟨B5m _ (E6C _ (E6C _ (B9w.2 ⟨h0,k,by omega,by omega,rfl⟩))),S.num k (by omega) h0⟩];decide
   have h2:qY D n 6 ((drV D n x.ino).getD 6 0) (T5 (szV D n x.ino))=A6:=by
    rw [ei];exact wr _ _ λh0=>⟨B5m _ (E6C _ (E6B _ (by rw [A4V h0];exact E6e ..))),S.ind h0⟩
   rw [h1,h2,ei];by_cases z:X6 D n x.ino=0
   ·rw [z];rfl
   ·have h3:((E6v 0 128).any λk=>qY D n (6+(k:Int)) (ptP (blk D (X6 D n x.ino)) k) (T5 (szV D n x.ino)))=A6:=by
     rw [List.any_eq_false];intro k hk;rw [List.mem_range'_1] at hk;have ep:A3p D n x.ino k=ptP (blk D (X6 D n x.ino)) k:=by unfold A3p;rw [if_neg z]
     rw [<-ep,wr _ _ λh0=>⟨B5m _ (E6B _ (B9w.2 ⟨h0,k,by omega,by omega,rfl⟩)),by have:=S.pts k (by omega) h0;omega⟩];decide
    rw [h3];simp
  rw [key];simp
 ·rw [k2];simp
def D8z{j:Nat}(h0:0<=no)(h1:no<l_ l):(B6Y l no).getD j 0=l.getD j 0+(if no=(j:Int) then 1 else 0):=by
 unfold B6Y;rw [E54,E63];by_cases e:no.toNat=j
 ·subst e;rw [if_pos rfl,if_pos (by omega),if_pos (by omega)];rfl
 ·rw [if_neg e,if_neg (by omega),<-E54];omega
def C89{j:Nat}:∀ {L l:List Int},(∀ x∈L,0<=x/\x<l_ l)->(L.foldl B6Y l).getD j 0=l.getD j 0+((L.filter λx=>decide (x=(j:Int))).length:Int)
 | [],l,_=>by simp
 | x::L,l,h=>by
  have hx:=h x (E6e ..);rw [E64,C89 (by rw [D1A];exact λy hy=>h y (E59 _ hy)),D8z hx.1 hx.2];by_cases e:x=(j:Int)
  ·rw [if_pos e,E6W (by simpa using e),E6g];omega
  ·rw [if_neg e,E6V (by simpa using e)];omega
def D7P:B0B D n=((E4 D n).flatMap λx=>owV D n x.ino).foldl B6Y (zI (l_ D)):=by
 unfold B0B;generalize zI (l_ D)=l
 induction E4 D n generalizing l with
 | nil=>rfl
 | cons x t ih=>rw [E64,List.flatMap_cons,List.foldl_append,ih];rfl
def Wh.owns(W:Wh D n F):List.Perm ((E4 D n).flatMap λx=>owV D n x.ino) (F.row.flatMap (owV D n)):=by
 have e:((E4 D n).flatMap λx=>owV D n x.ino)=((E4 D n).map (·.ino)).flatMap (owV D n):=by rw [List.flatMap_map]
 rw [e];exact W.perm.flatMap_right _
def Wh.owned(W:Wh D n F)(j:Nat):(B0B D n).getD j 0=if ∃ a∈F.row,(j:Int)∈owV D n a then 1 else 0:=by
 have hdt:∀ x∈(E4 D n).flatMap λx=>owV D n x.ino,0<=x/\x<(zI (l_ D)).length:=by
  intro x hx;obtain ⟨y,hy,hx⟩:=List.mem_flatMap.1 hx;have:=A8W (W.I.dt y.ino (by rw [W.tk];exact (W.node.1 hy).1) x hx);simp [zI];omega
 have nd:((E4 D n).flatMap λx=>owV D n x.ino).Nodup:=by
  have:=W.I.nd;rw [W.tk] at this;exact W.owns.nodup_iff.2 this
 rw [D7P,C89 hdt];have z:(zI (l_ D)).getD j (0:Int)=0:=by
  unfold zI;rw [E54,List.getElem?_replicate];split<;>rfl
 rw [z];have kY:(j:Int)∈((E4 D n).flatMap λx=>owV D n x.ino)↔∃ a∈F.row,(j:Int)∈owV D n a:=by
  rw [W.owns.mem_iff,List.mem_flatMap]
 generalize ((E4 D n).flatMap λx=>owV D n x.ino)=L at nd kY;have key:∀ L:List Int,L.Nodup->(L.filter λx=>decide (x=(j:Int))).length=if (j:Int)∈L then 1 else 0:=by
  intro L
  induction L with
  | nil=>intro _;rfl
  | cons x L ih =>
   intro hn;obtain ⟨n1,n2⟩:=List.nodup_cons.1 hn;by_cases e:x=(j:Int)
   ·rw [E6W (by simpa using e),E6g,ih n2,if_neg (by rw [<-e];exact n1),if_pos (by rw [e];exact E6e ..)]
   ·rw [E6V (by simpa using e),ih n2];by_cases h:(j:Int)∈L
    ·rw [if_pos h,if_pos (E59 _ h)]
    ·rw [if_neg h,if_neg (λh2=>(List.mem_cons.1 h2).elim (λe2=>e e2.symm) h)]
 rw [key L nd];by_cases h:(j:Int)∈L
 ·rw [if_pos h,if_pos (kY.1 h)];rfl
 ·rw [if_neg h,if_neg (λh2=>h (kY.2 h2))];rfl
def Wh.twice_no(W:Wh D n F):C7u D n=A6:=by
 unfold C7u;rw [List.any_eq_false];intro x hx;obtain ⟨j,hj,rfl⟩:=List.mem_iff_getElem.1 hx;have h:=W.owned j;rw [E54,E51 hj] at h;have h:(B0B D n)[j]=_:=h;rw [h];split<;>decide
def C67:∀ {l:List Bool} {i:Nat},yQ i l=(E6v i (l_ l)).filter λk=>l.getD (k-i) A6
 | [],_=>rfl
 | b::l,i=>by
  rw [E6g,List.range'_succ];have e:(E6v (i+1) (l_ l)).filter (λk=>(b::l).getD (k-i) A6)=yQ (i+1) l:=by
   rw [C67];refine List.filter_congr λk hk=>?_
   rw [List.mem_range'_1] at hk;rw [show k-i=(k-(i+1))+1 by omega];rfl
  cases b with
  | true =>
   rw [E6W (by rw [E67];rfl),e];rfl
  | false =>
   rw [E6V (by rw [E67];exact Bool.false_ne_true),e];rfl
def Wh.map_same(W:Wh D n F):E1Q D n=yQ 0 F.taken:=by
 have hdr:=oA (b:=l_ D) (n:=n);obtain ⟨b16,b512,n8,n128,nm8,nb⟩:=I1.1 W.may;have hF:bD (l_ D) n=2+n/8:=by unfold bD bH mP;rw [W.may];rfl
 obtain ⟨d,hd⟩:=xEq ((bD (l_ D) n).toNat);have hdl:d<=(l_ D):=by omega
 have hsp:E6v 0 (l_ D)=E6v 0 d++E6v d (l_ D-d):=by
  have h:=(List.range'_append_1 (s:=0) (m:=d) (n:=l_ D-d)).symm;rw [E6j,show d+(l_ D-d)=(l_ D) by omega] at h;exact h
 have hlow:∀ j,j<d->¬ ∃ a∈F.row,(j:Int)∈owV D n a:=by
  rintro j hj ⟨a,ha,hx⟩;have:=(uP.1 (W.I.dt a (by rw [W.tk];exact ha) _ hx)).2.1;omega
 have E4u:∀ j,j<l_ D->(F.taken.getD (j-0) A6=A5↔j<d\/∃ a∈F.row,(j:Int)∈owV D n a):=by
  intro j hj;have h:=W.I.tak j;rw [W.tk,<-hd] at h;have e:F.taken.getD (j-0) A6=F.taken.getD j A5:=by
   rw [Nat.sub_zero,E54,E54,E51 (by rw [W.tl];exact hj)];rfl
  rw [e,h];constructor
  ·rintro ((h | h) | h)
   ·exact .inl h
   ·omega
   ·exact .inr h
  ·rintro (h | h)
   ·exact .inl (.inl h)
   ·exact .inr h
 unfold E1Q C7v;rw [<-hd,C67,W.tl,hsp,E66,E66];have e1:(E6v 0 d).filter (λk=>decide (0<(B0B D n).getD k 0))=[]:=by
  refine List.filter_eq_nil_iff.2 λk hk=>?_
  rw [List.mem_range'_1] at hk;rw [W.owned,if_neg (hlow k (by omega))];decide
 have e2:(E6v 0 d).filter (λk=>F.taken.getD (k-0) A6)=E6z d:=by
  rw [List.range_eq_range'];refine List.filter_eq_self.2 λk hk=>?_
  rw [List.mem_range'_1] at hk;exact (E4u k (by omega)).2 (.inl (by omega))
 rw [e1,e2,E6s]
 congr 1
 refine List.filter_congr λk hk=>?_
 rw [List.mem_range'_1] at hk;rw [Bool.eq_iff_iff,E4u k (by omega),decide_eq_true_iff,W.owned];constructor
 ·intro h;by_cases c:∃ a∈F.row,(k:Int)∈owV D n a
  ·exact .inr c
  ·rw [if_neg c] at h;exact absurd h (by decide)
 ·rintro (h | h)
  ·omega
  ·rw [if_pos h];decide
def Wh.mapped_no(W:Wh D n F):B9o D n=A6:=by
 unfold B9o;rw [W.map_same,W.map,decide_eq_true rfl];rfl
def Wh.right(W:Wh D n F):yQ 0 (B4J D n)=[]:=by
 unfold B4J;rw [W.clean_no,W.root_no,W.lost_no,W.links_no,W.names_no,W.dirs_no,W.files_no,W.twice_no,W.mapped_no];rfl
end
section
variable (n m m2:Nat) (a0 a1 a2:Val) (h:A9)
def A9e:FD A8:=⟨px 0X119f2003a238004881c6b760550525f00138038614022b201042,[.c .np],[.min (.t 3) (.v (.c (cI 512))),.max (.v (.c (cI 16))) (.t 4),.build ([.ns,o0,.b A6,.b A6,o0,o0]) [(0,1,(.t 7))]],[.tmp 2],[]⟩
def C4s:=A9e.R
def C7G:=mR C4s A9e (tT []) n [a0] h
def C4n:=A9e.K Tryz.func111
def B6B:=A9e.Q
def C7M:OfT C4s B6B:=C4n.of
def oW:FD A8:=⟨px 0X119f200290400503d75060201120140062240386121942031201042,[],[.eqN A6 A6 (.t 3)],[.tmp 2],[]⟩
def A0g:=oW.R
def B45:=mR A0g oW (tT []) n [a0] h
def A0e:=oW.K Tryz.func144
def pF:=oW.S
def B1G:G0 A0g pF:=A0e.flat
def sJ:FD A8:=⟨px 0X114010201194012a0522438f1d001b281901c4481a0484b0481e00481f0486c7487484870110123a1e01c3b05216940118000072241cf1800430503d71905296101d2154012000072247f5003876031b611c2050023140130182,[],[.eqN A6 A6 (.t 6)],[.tmp 4],[]⟩
def A19:=sJ.R
def B6s:=mR A19 sJ (tT []) n [a0,a1] h
def B0U:=sJ.K Tryz.func166
def bB:=sJ.S
def A4h:SOk A8 166 bB:=B0U.sok
def B2K:G0 A19 bB:=B0U.flat
def fW:FD A8:=⟨px 0X422a4051a3d50020440503d6418182410224259273182,[],[],[],[]⟩
def A2v:=fW.R
def A9w:=mR A2v fW (tT []) n [a0,a1] h
def B41:=fW.K Tryz.func167
def R4:=fW.Q
def A72:D8r A8 167 R4:=D6c (D5V _) Tryz.func167 (by kernel_rfl)
def A9W:OfT A2v R4:=B41.of
def B7D:DFn:=⟨[([1,3,5,6],(.ops [aB 3 0,aB 5 2,aO 6 (.alloc ([o0]))])),([1,3,5,6],(sO [1,3,5,6] [aL 7 3,aM 8 1,aO 9 (.call 166 [(.t 7),(.t 8)]),aN (.store1 (.t 6) (.t 9))] (sO [1,3,5,6,11] [aL 10 6,aO 11 (.bin .neq (.t 10) (.v (iV 0)))] (.cond (.t 11) (sO [6] [aL 12 6,aN (.store1 (.t 6) (.t 12))] .ret) .skip))))],[1,3,5,6],13,167,[(.t 6),(.t 3)],(.seq [1,3,5,6] (sO [1,3,5,6,24] [aL 14 3,aO 15 (.nilc (.t 14)),aF 16 15 2,aL 17 16,aM 18 17,aG 19 18 A5 (.load1 (.t 3)),aG 20 18 A5 (.nilc (.t 19)),aG 21 18 A5 (.fAddr (.t 20) 1),aG 22 18 A5 (.load1 (.t 21)),aG 23 18 A5 (.bin .eql (.t 22) (.v (iV 0))),aO 24 (.pick (.t 18) (.t 23) (.v (bV A6)))] (.cond (.t 24) (sO [6] [aL 25 3,aO 26 (.nilc (.t 25)),aF 27 26 3,aN (.store1 (.t 27) (.v (bV A5)))] (sO [6] [aN (.store1 (.t 6) (.v (iV 12)))] .ret)) .skip)) (.seq [1,3,5,6] (sO [1,3,5,6,31] [aL 28 3,aO 29 (.nilc (.t 28)),aF 30 29 2,aL 31 30] (.cond (.t 31) (.ops [aL 32 3,aO 33 (.nilc (.t 32)),aF 34 33 1,aL 35 34,aO 36 (.bin .sub (.t 35) (.v (iV 1))),aO 37 (.nilc (.t 32)),aF 38 37 1,aN (.store1 (.t 38) (.t 36))]) .skip)) (.seq [6] (.draw 0 [aL 39 3,aO 40 (.nilc (.t 39)),aF 41 40 0,aL 42 41,aM 43 1,aL' 44 256 5] [aO 45 (.iAddrL 256 (.t 42) (.t 43)),aN (.storeN 256 (.t 45) (.t 44))]) (sO [6] [aN (.store1 (.t 6) (.v (iV 0)))] .ret)))),[.cell1 6]⟩
def B7E:K6:=D9k 166 bB D2d
def wJ:Fun:=B7D.run B7E R4 0
def B2J:SOk A8 145 wJ:=D89 (D5r A4h D5q) A72 Tryz.func145 (by kernel_rfl)
def B2I:wJ [a0,a1,a2] h=bnd (cells? a0) λc1=>bnd (cells? a2) λc2=>bnd (B9 (((h++[rT (c1)])++[rT (c2)])++[rT ([o0])]) (pV (l_ h) 0)) λv3=>bnd (bB [v3,a1] (((h++[rT (c1)])++[rT (c2)])++[rT ([o0])])) λp4=>bnd (I8 p4.2 (pV ((h++[rT (c1)])++[rT (c2)]).length 0) p4.1) λh5=>bnd (B9 h5 (pV ((h++[rT (c1)])++[rT (c2)]).length 0)) λv6=>bnd (N5 .neq v6 (iV 0)) λv7=>cnd v7 (bnd (B9 h5 (pV ((h++[rT (c1)])++[rT (c2)]).length 0)) λv8=>bnd (I8 h5 (pV ((h++[rT (c1)])++[rT (c2)]).length 0) v8) λh9=>mp (B9 h9 (pV ((h++[rT (c1)])++[rT (c2)]).length 0)) λv=>(v,h9)) (bnd (A3f 167 [(pV ((h++[rT (c1)])++[rT (c2)]).length 0),(pV (l_ h) 0)]) λv10=>bnd (B9 h5 (pV (l_ h) 0)) λv11=>bnd (A54 v11) λv12=>bnd (T8 v12 2) λv13=>bnd (B9 h5 v13) λv14=>bnd (gd v14 A5 (bnd (B9 h5 (pV (l_ h) 0)) λv15=>A4 (v15,h5)) (A4 (.no,h5))) λp16=>bnd (gd v14 A5 (bnd (A54 p16.1) λv17=>A4 (v17,p16.2)) (A4 (.no,p16.2))) λp18=>bnd (gd v14 A5 (bnd (T8 p18.1 1) λv19=>A4 (v19,p18.2)) (A4 (.no,p18.2))) λp20=>bnd (gd v14 A5 (bnd (B9 p20.2 p20.1) λv21=>A4 (v21,p20.2)) (A4 (.no,p20.2))) λp22=>bnd (gd v14 A5 (bnd (N5 .eql p22.1 (iV 0)) λv23=>A4 (v23,p22.2)) (A4 (.no,p22.2))) λp24=>bnd (C8P v14 p24.1 (bV A6)) λv25=>cnd v25 (bnd (B9 p24.2 (pV (l_ h) 0)) λv26=>bnd (A54 v26) λv27=>bnd (T8 v27 3) λv28=>bnd (I8 p24.2 v28 (bV A5)) λh29=>bnd (I8 h29 (pV ((h++[rT (c1)])++[rT (c2)]).length 0) (iV 12)) λh30=>bnd (B8M R4 v10 h30) λp31=>mp (B9 p31.2 (pV ((h++[rT (c1)])++[rT (c2)]).length 0)) λv=>(v,p31.2)) (bnd (B9 p24.2 (pV (l_ h) 0)) λv32=>bnd (A54 v32) λv33=>bnd (T8 v33 2) λv34=>bnd (B9 p24.2 v34) λv35=>cnd v35 (bnd (B9 p24.2 (pV (l_ h) 0)) λv36=>bnd (A54 v36) λv37=>bnd (T8 v37 1) λv38=>bnd (B9 p24.2 v38) λv39=>bnd (N5 .sub v39 (iV 1)) λv40=>bnd (A54 v36) λv41=>bnd (T8 v41 1) λv42=>bnd (I8 p24.2 v42 v40) λh43=>bnd (B9 h43 (pV (l_ h) 0)) λv44=>bnd (A54 v44) λv45=>bnd (T8 v45 0) λv46=>bnd (B9 h43 v46) λv47=>bnd (D1 h43 256 (pV (h++[rT (c1)]).length 0)) λv48=>bnd (E9 256 v47 a1) λv49=>bnd (F9 (h43++[]) 256 v49 v48) λh50=>bnd (I8 h50 (pV ((h++[rT (c1)])++[rT (c2)]).length 0) (iV 0)) λh51=>bnd (B8M R4 v10 h51) λp52=>mp (B9 p52.2 (pV ((h++[rT (c1)])++[rT (c2)]).length 0)) λv=>(v,p52.2)) (bnd (B9 p24.2 (pV (l_ h) 0)) λv53=>bnd (A54 v53) λv54=>bnd (T8 v54 0) λv55=>bnd (B9 p24.2 v55) λv56=>bnd (D1 p24.2 256 (pV (h++[rT (c1)]).length 0)) λv57=>bnd (E9 256 v56 a1) λv58=>bnd (F9 (p24.2++[]) 256 v58 v57) λh59=>bnd (I8 h59 (pV ((h++[rT (c1)])++[rT (c2)]).length 0) (iV 0)) λh60=>bnd (B8M R4 v10 h60) λp61=>mp (B9 p61.2 (pV ((h++[rT (c1)])++[rT (c2)]).length 0)) λv=>(v,p61.2)))):=by kernel_rfl
def iP:FD A8:=⟨px 0X422a5051a3d50020450503d041818,[],[],[],[]⟩
def A3Y:=iP.R
def B1w:=mR A3Y iP (tT []) n [a0] h
def B6q:=iP.K Tryz.func168
def Y8:=iP.Q
def A9V:D8r A8 168 Y8:=D6c (D5V _) Tryz.func168 (by kernel_rfl)
def B1F:OfT A3Y Y8:=B6q.of
def B93:DFn:=⟨[([1,2,4],(.ops [aB 2 0,aO 4 (.alloc (E55 256 (.i .u8 0))),aO 5 (.mv (.v (iV 0)))])),([1,2,4],(sO [1,2,4,5] [aL 6 2,aM 7 1,aO 8 (.call 166 [(.t 6),(.t 7)]),aM 5 8] (sO [1,2,4,5,10] [aM 9 5,aO 10 (.bin .neq (.t 9) (.v (iV 0)))] (.cond (.t 10) (sO [4,5] [aL' 11 256 4,aM 12 5,aN (.storeN 256 (.t 4) (.t 11)),aM 5 12] .ret) .skip))))],[1,2,4],13,168,[(.t 2)],(sO [4,5] [aL 14 2,aO 15 (.nilc (.t 14)),aF 16 15 0,aL 17 16,aM 18 1,aO 19 (.iAddrL 256 (.t 17) (.t 18)),aL' 20 256 19,aN (.storeN 256 (.t 4) (.t 20)),aO 5 (.mv (.v (iV 0)))] .ret),[.cellN 4 256,.tmp 5]⟩
def B94:K6:=D9k 166 bB D2d
def A0j:Fun:=B93.run B94 Y8 0
def B5c:SOk A8 146 A0j:=D89 (D5r A4h D5q) A9V Tryz.func146 (by kernel_rfl)
def B5b:A0j [a0,a1] h=bnd (cells? a0) λc1=>bnd (B9 ((h++[rT (c1)])++[rT (E55 256 (.i .u8 0))]) (pV (l_ h) 0)) λv2=>bnd (bB [v2,a1] ((h++[rT (c1)])++[rT (E55 256 (.i .u8 0))])) λp3=>bnd (N5 .neq p3.1 (iV 0)) λv4=>cnd v4 (bnd (D1 p3.2 256 (pV (h++[rT (c1)]).length 0)) λv5=>bnd (F9 p3.2 256 (pV (h++[rT (c1)]).length 0) v5) λh6=>C1Y [D1 h6 256 (pV (h++[rT (c1)]).length 0),A4 p3.1] h6) (bnd (A3f 168 [(pV (l_ h) 0)]) λv7=>bnd (B9 p3.2 (pV (l_ h) 0)) λv8=>bnd (A54 v8) λv9=>bnd (T8 v9 0) λv10=>bnd (B9 p3.2 v10) λv11=>bnd (E9 256 v11 a1) λv12=>bnd (D1 p3.2 256 v12) λv13=>bnd (F9 p3.2 256 (pV (h++[rT (c1)]).length 0) v13) λh14=>bnd (B8M Y8 v7 h14) λp15=>C1Y [D1 p15.2 256 (pV (h++[rT (c1)]).length 0),A4 (iV 0)] p15.2):=by kernel_rfl
def lF:FD A8:=⟨px 0X11af2001a488390400503d7100048855d70201488248140062240386121942034882481042,[],[.eqN A6 A6 (.t 3)],[.tmp 2],[]⟩
def vT:=lF.R
def B2a:=mR vT lF (tT []) n [a0] h
def A5x:=lF.K Tryz.func61
def wH:=lF.S
def B1E:A3T vT wH:=A5x.out
end
def dkC(q len:Nat)(w r:Int):List Cell:=[.sl q 0 len 256,o0,.b A6,.b A6,cI w,cI r]
structure IsDk(h:A9)(p q:Nat)(D:Dev)(w r:Int):Prop where
 ne:p≠q
 row:rd h p=rT (dkC q (l_ D) w r)
 blk:rd h q=rT (E8 D)
def But(p q:Nat)(h h':A9):Prop:=l_ h<=l_ h'/\∀ id,id<l_ h->id≠p->id≠q->rd h' id=rd h id
def But.refl(p q:Nat)(h:A9):But p q h h:=⟨E56 _,λ_ _ _ _=>rfl⟩
def But.trans{p q:Nat}{h h' h'':A9}(a:But p q h h')(b:But p q h' h''):But p q h h'' :=
 ⟨E6J a.1 b.1,λid hid h1 h2=>(b.2 id (by have:=a.1;omega) h1 h2).trans (a.2 id hid h1 h2)⟩
def But.more{h':A9}(a:But p q h h')(t:A9):But p q h (h'++t) :=
 ⟨by have:=a.1;simp;omega,λid hid h1 h2=>by rw [D3 (by have:=a.1;omega)];exact a.2 id hid h1 h2⟩
def But.set{p q id:Nat}{h h':A9}{x:Option Row}(a:But p q h h')(hid:l_ h<=id\/id=p\/id=q):But p q h (h'.set id x) :=
 ⟨by simpa using a.1,λj hj h1 h2=>by rw [B8 (by omega)];exact a.2 j hj h1 h2⟩
def IsDk.more{w r:Int}(k:IsDk h p q D w r)(t:A9):IsDk (h++t) p q D w r:=⟨k.ne,B7 k.row,B7 k.blk⟩
def IsDk.setO{id:Nat}{w r:Int}{x:Option Row}(k:IsDk h p q D w r)(h1:id≠p)(h2:id≠q):IsDk (h.set id x) p q D w r :=
 ⟨k.ne,by rw [B8 h1];exact k.row,by rw [B8 h2];exact k.blk⟩
def IsDk.ro{h:A9}{p q:Nat}{D:Dev}{w r:Int}(k:IsDk h p q D w r):rd (ro h) p=A4 ⟨dkC q (l_ D) w r,A6⟩/\rd (ro h) q=A4 ⟨E8 D,A6⟩:=by
 have e1:(Row.mk (dkC q (l_ D) w r) A5).head=A6:=rfl;refine ⟨B9N k.row e1,B9N k.blk ?_⟩;cases hD:E8 D with
 | nil=>rfl
 | cons c l =>
  have:=cV D;rw [hD] at this;cases c<;>first | rfl | (simp [noX,Cell.isX] at this)
def D2c{N:Nat}(h1:16<=N)(h2:N<=512):B6B [iV (N:Int)] h=A4 (pV (l_ h+1) 0,h++[rT (E8 (E55 N (zeros 256))),rT (dkC (l_ h) N 0 0)]):=by
 refine C7M (n:=0) ?_;have m1:B5i (iV (N:Int)) (iV 512)=A4 (iV (N:Int)):=by simp only [B5i];simp;omega
 have m2:C3L (iV 16) (iV (N:Int))=A4 (iV (N:Int)):=by simp only [C3L];simp;omega
 have mk:=D38 (N:=N) (by omega);have ef:F5 [.ns,o0,.b A6,.b A6,o0,o0] [(0,1,sV (l_ h) 0 N 256)]=A4 (dkC (l_ h) N 0 0):=rfl;rw [C7G];simp only [esc,m1,m2,mk,ef,D3v]
section
variable {h:A9} {p q:Nat} {D:Dev} {w r:Int}
def B8S(k:IsDk h p q D w r):pF [pV p 0] h=A4 (iV (l_ D:Nat),h):=by
 have l0:B9 (ro h) (pV p 0)=A4 (sV q 0 (l_ D) 256):=C4 k.ro.1 rfl rfl;have key:A0g 0 [pV p 0] (ro h)=A4 (iV (l_ D:Nat),ro h):=by
  rw [B45];simp only [esc,l0]
 exact B1G key rfl
def C2F{no:Nat}(k:IsDk h p q D w r)(Y3:no<l_ D):bB [pV p 0,iV (no:Int)] h=A4 (iV 0,h):=by
 have l0:B9 (ro h) (pV p 0)=A4 (sV q 0 (l_ D) 256):=C4 k.ro.1 rfl rfl;have l3:B9 (ro h) (pV p 3)=A4 (bV A6):=C4 k.ro.1 rfl rfl;have c0:¬ (no:Int)<0:=by omega
 have c1:¬ (no:Int)>=(l_ D:Nat):=by omega
 have key:A19 0 [pV p 0,iV (no:Int)] (ro h)=A4 (iV 0,ro h):=by
  rw [B6s];simp only [esc,l0,l3,c0,c1]
 exact B2K key rfl
def C3R{a b:Nat}(k:IsDk h p q D w r)(ha:rd h a=rT [o0])(hb:rd h b=rT [.p p 0])(hw:0<=w/\w<1000) :
  R4 [pV a 0,pV b 0] h=A4 (.t [],h.set p (rT (dkC q (l_ D) (w+1) r))):=by
 refine A9W (n:=0) ?_;have l1:B9 h (pV a 0)=A4 (iV 0):=C4 ha rfl rfl;have l2:B9 h (pV b 0)=A4 (pV p 0):=C4 hb rfl rfl;have l3:B9 h (pV p 4)=A4 (iV w):=C4 k.row rfl rfl;have s1:I8 h (pV p 4) (iV (w+1))=A4 (h.set p (rT (dkC q (l_ D) (w+1) r))):=by rw [I9 k.row (by simp [dkC])];rfl
 have ww:E6a .i64 (w+1)=w+1:=wrap_i64 (by omega) (by omega);rw [A9w];simp only [esc,l1,l2,l3,ww,s1];rfl
def A7v{no:Nat}{b:List UInt8}(k:IsDk h p q D w r)(hD:okD D)(hb:l_ b=256)(Y3:no<l_ D)(hw:0<=w/\w<1000) :
  ∃ h',wJ [pV p 0,iV (no:Int),.a (B5 b)] h=A4 (iV 0,h')/\IsDk h' p q (D.set no b) (w+1) r/\But p q h h':=by
 have kp:=E1 k.row;have kq:=E1 k.blk;obtain ⟨G,hG⟩:=xEq (h++[rT [.p p 0],rT (B5 b),rT [o0]]);have kG:IsDk G p q D w r:=by rw [hG];exact k.more _
 have lG:l_ G=l_ h+3:=by rw [hG];simp
 have r0:rd G (l_ h)=rT [.p p 0]:=by rw [hG,I5];rfl
 have r1:rd G (l_ h+1)=rT (B5 b):=by rw [hG,qK];rfl
 have r2:rd G (l_ h+2)=rT [o0]:=by rw [hG,qK];rfl
 have hm:=C2F kG Y3;have l0:B9 G (pV (l_ h) 0)=A4 (pV p 0):=C4 r0 rfl rfl;have lb:D1 G 256 (pV (l_ h+1) 0)=A4 (.a (B5 b)):=C7 r1 (by rw [B6,hb]);have l2:B9 G (pV (l_ h+2) 0)=A4 (iV 0):=C4 r2 rfl rfl;have s2:I8 G (pV (l_ h+2) 0) (iV 0)=A4 G:=by
  rw [I9 r2 (by simp),hG];simp
 have d0:B9 G (pV p 0)=A4 (sV q 0 (l_ D) 256):=C4 kG.row rfl rfl;have d2:B9 G (pV p 2)=A4 (bV A6):=C4 kG.row rfl rfl;have ad:E9 256 (sV q 0 (l_ D) 256) (iV (no:Int))=A4 (pV q (no*256)):=by rw [E3 Y3];simp
 have sd:F9 G 256 (pV q (no*256)) (.a (B5 b))=A4 (G.set q (rT (E8 (D.set no b)))):=B4Z kG.blk hD hb Y3;obtain ⟨H,hH⟩:=xEq (G.set q (rT (E8 (D.set no b))));have kH:IsDk H p q (D.set no b) w r:=by
  rw [hH];refine ⟨k.ne,?_,?_⟩
  ·rw [B8 (Ne.symm k.ne),E6F];exact kG.row
  ·rw [D6 (by omega)]
 have q0:rd H (l_ h)=rT [.p p 0]:=by rw [hH,B8 (by omega)];exact r0
 have q2:rd H (l_ h+2)=rT [o0]:=by rw [hH,B8 (by omega)];exact r2
 have s3:I8 H (pV (l_ h+2) 0) (iV 0)=A4 H:=by
  rw [I9 q2 (by simp)];have:H.set (l_ h+2) (rT ([o0].set 0 o0))=H:=by
   rw [rd_some] at q2;refine E7b λi=>?_
   rw [E63];split
   ·rename_i e;subst e;have hl:=(List.getElem?_eq_some_iff.1 q2).1;rw [if_pos hl,q2];rfl
   ·rfl
  rw [this]
 have hW:=C3R kH q2 q0 hw;have hcd:B8M R4 (.c (.f 167 [(l_ h+2,0),(l_ h,0)])) H=A4 (.t [],H.set p (rT (dkC q (D.set no b).length (w+1) r))):=hW;have l4:B9 (H.set p (rT (dkC q (D.set no b).length (w+1) r))) (pV (l_ h+2) 0)=A4 (iV 0):=C4 (by rw [B8 (by omega)];exact q2) rfl rfl;refine ⟨H.set p (rT (dkC q (D.set no b).length (w+1) r)),?_,⟨k.ne,?_,?_⟩,?_⟩
 ·rw [B2I];have e1:cells? (pV p 0)=A4 [.p p 0]:=rfl;have e2:cells? (.a (B5 b))=A4 (B5 b):=rfl;have mf:A3f 167 [pV (l_ h+2) 0,pV (l_ h) 0]=A4 (.c (.f 167 [(l_ h+2,0),(l_ h,0)])):=rfl;simp only [e1,e2,C6,E6d,E6Y,E6s,E58,E6g,E6E,E6j,Nat.reduceAdd,<-hG];simp only [esc,l0,hm,s2,l2,mf,d0,d2,lb,ad,sd,<-hH,s3,hcd,l4]
 ·rw [D6 (by rw [hH];simp;omega)]
 ·rw [B8 k.ne];exact kH.blk
 ·refine But.set ?_ (.inr (.inl rfl));rw [hH];refine But.set ?_ (.inr (.inr rfl));rw [hG];exact (But.refl p q h).more _
def D0q{no:Nat}(k:IsDk h p q D w r)(hD:okD D)(Y3:no<l_ D)(hr:0<=r/\r<1000) :
  ∃ h',A0j [pV p 0,iV (no:Int)] h=A4 (.t [.a (B5 D[no]),.c o0],h')/\IsDk h' p q D w (r+1)/\But p q h h':=by
 have kp:=E1 k.row;have kq:=E1 k.blk;obtain ⟨G,hG⟩:=xEq (h++[rT [.p p 0],rT (B5 (zeros 256))]);have kG:IsDk G p q D w r:=by rw [hG];exact k.more _
 have lG:l_ G=l_ h+2:=by rw [hG];simp
 have r0:rd G (l_ h)=rT [.p p 0]:=by rw [hG,I5];rfl
 have r1:rd G (l_ h+1)=rT (B5 (zeros 256)):=by rw [hG,qK];rfl
 have hm:=C2F kG Y3;have l0:B9 G (pV (l_ h) 0)=A4 (pV p 0):=C4 r0 rfl rfl;have d0:B9 G (pV p 0)=A4 (sV q 0 (l_ D) 256):=C4 kG.row rfl rfl;have ad:E9 256 (sV q 0 (l_ D) 256) (iV (no:Int))=A4 (pV q (no*256)):=by rw [E3 Y3];simp
 have ld:D1 G 256 (pV q (no*256))=A4 (.a (B5 D[no])):=by
  rw [T1 kG.blk (by rw [I6 hD];omega) rfl,pL hD Y3]
 have sb:F9 G 256 (pV (l_ h+1) 0) (.a (B5 D[no]))=A4 (G.set (l_ h+1) (rT (B5 D[no]))):=storeAll r1 (by rw [B6,zeros_length]) (by rw [B6,hD.at Y3]);obtain ⟨H,hH⟩:=xEq (G.set (l_ h+1) (rT (B5 D[no])));have kH:IsDk H p q D w r:=by rw [hH];exact kG.setO (by omega) (by omega)
 have q0:rd H (l_ h)=rT [.p p 0]:=by rw [hH,B8 (by omega)];exact r0
 have q1:rd H (l_ h+1)=rT (B5 D[no]):=by rw [hH,D6 (by omega)]
 have ww:E6a .i64 (r+1)=r+1:=wrap_i64 (by omega) (by omega);have h1:Y8 [pV (l_ h) 0] H=A4 (.t [],H.set p (rT (dkC q (l_ D) w (r+1)))):=by
  refine B1F (n:=0) ?_;have l1:B9 H (pV (l_ h) 0)=A4 (pV p 0):=C4 q0 rfl rfl;have l3:B9 H (pV p 5)=A4 (iV r):=C4 kH.row rfl rfl;have s1:I8 H (pV p 5) (iV (r+1))=A4 (H.set p (rT (dkC q (l_ D) w (r+1)))):=by rw [I9 kH.row (by simp [dkC])];rfl
  rw [B1w];simp only [esc,l1,l3,ww,s1];rfl
 have hcd:B8M Y8 (.c (.f 168 [(l_ h,0)])) H=A4 (.t [],H.set p (rT (dkC q (l_ D) w (r+1)))):=h1;have l4:D1 (H.set p (rT (dkC q (l_ D) w (r+1)))) 256 (pV (l_ h+1) 0)=A4 (.a (B5 D[no])):=C7 (by rw [B8 (by omega)];exact q1) (by rw [B6,hD.at Y3]);refine ⟨H.set p (rT (dkC q (l_ D) w (r+1))),?_,⟨k.ne,?_,?_⟩,?_⟩
 ·rw [B5b];have e1:cells? (pV p 0)=A4 [.p p 0]:=rfl;have mf:A3f 168 [pV (l_ h) 0]=A4 (.c (.f 168 [(l_ h,0)])):=rfl;have ez:E55 256 (Cell.i .u8 0)=B5 (zeros 256):=J3 256;simp only [e1,ez,C6,E6d,E6Y,E6s,E58,E6g,E6E,E6j,<-hG];simp only [esc,l0,hm,mf,d0,ad,ld,sb,<-hH,hcd,l4]
 ·rw [D6 (by rw [hH];simp;omega)]
 ·rw [B8 k.ne];exact kH.blk
 ·refine But.set ?_ (.inr (.inl rfl));rw [hH];refine But.set ?_ (.inl (by omega));rw [hG];exact (But.refl p q h).more _
def C70(k:IsDk h p q D w r)(hD:okD D)(hl:l_ D<=512):wH [pV p 0] h=A4 (sV (l_ h) 0 (l_ D) 256,h++[rT (E8 D)]):=by
 obtain ⟨G,hG⟩:=xEq (ro h++[rT [],rT []]);have d0:B9 G (pV p 0)=A4 (sV q 0 (l_ D) 256):=by rw [hG];exact C4 (B7 k.ro.1) rfl rfl
 have hQ:Has G (sV q 0 (l_ D) 256) 256 (l_ D) (E8 D):=by
  rw [hG];exact Has.row (B7 k.ro.2) (I6 hD) (cV D)
 have rI:rd G ((ro h).length+1)=rT []:=by rw [hG,qK];rfl
 have ho:Out (ro h).length G (sV ((ro h).length+1) 0 0 256) 256 0 []:=⟨rfl,(ro h).length+1,rfl,by omega,rI⟩;obtain ⟨id,v',h',e1,e2,e3,_⟩:=ho.app (m:=l_ D) (by omega) hQ.add (by rw [I6 hD]) (by omega);have key:vT 0 [pV p 0] (ro h)=A4 (v',h'):=by
  rw [B2a];have ef:F5 [] []=A4 []:=rfl;simp only [E6d,E6Y,E6s,E58,E6g,E6E,E6j,ef,C6,<-hG];simp only [esc,d0,e2]
 rw [E6j,E6s] at e3;exact B1E key (by rw [H6] at e3;exact e3) jG
end
section
variable (n m m2:Nat) (a0:Val) (h:A9)
def A5l:FD A8:=⟨px 0X118f2003a238138750502012b20140062240386121942032b201042,[.c .np],[.eqN A6 A6 (.t 3),.mkMap,.build ([.np,.nm,.ns,o0]) [(0,1,(.t 5)),(1,1,(.t 6))]],[.tmp 2],[]⟩
def C2b:=A5l.R
def C4r:=mR C2b A5l (tT []) n [a0] h
def C12:=A5l.K Tryz.func147
def B2F:=A5l.Q
def C4R:SOk A8 147 B2F:=C12.ok
def C4Q:OfT C2b B2F:=C12.of
end
section
variable (n m m2:Nat) (a0 a1 x0 x3 x5 x7 x8:Val) (h:A9)
def Z7:FD A8:=⟨px 0X17ff400143535f4881877d0402017cf401cc121900001722410321c87a021ef4279f1a00181a3532017301633f31802376c050192d434101934af7050026c490318016bf401ac12190000003722410321a869021cd4268f19004635319e488187f17152b446200198488611a280185b2c5af4f0014343513511191033b3b188488581c7182406225002023784b0419d42011a1c181b168421541307024061201336e3185c3d041894203006053cf705002023b5c31f421b2101d301194015c000017224063210405a5011372e040196d431b2101d30154014a00001722401b6191034c1a3a4c701038728065b423131ff11ef248861c51b11828061e2c1df1b001032a31c1c181d1b18211432e270182,[],[.eqN A6 A6 (.t 16)],[.tmp 4],[D7 A5W B14,D7 pF A0e,D7 sX A3H,D7 uB A5z,D7 wS A9o,cal B2J,D7 A4k A9k,D7 pD A24]⟩
def B2o:=Z7.R
def C34:AtH:=Z7.lj 0 n [m] [x0,x3,x5,x7]
def C33:AtH:=Z7.lj 1 n [m] [x0,x3,x5,x7,x8]
def A4p:=tT [⟨2,4,C34⟩,⟨2,5,C33⟩]
def B74:=mR B2o Z7 A4p n [a0,a1] h
def A41:=mL Z7 A4p 0 n [m] [x0,x3,x5,x7] h
def B7z:=mJ Z7 A4p 1 n [m] [x0,x3,x5,x7,x8] h
def B12:=Z7.K Tryz.func112
def A4m:=Z7.Q
def B8w:OfT B2o A4m:=B12.of
def A02:FD A8:=⟨px 0X1114cf2003a2384101986e318013373f0411903016d12b2027500001b22401b1c19063681a2012682f76870681e04e681f0110324a2e070197d431132df502cf2362a61b11828062c2c2bf29001133c4882a1c181d1b6001e20128f12b202e1375000011b22410322a1e023f01822131df11cf248861c41b11828061c2c1bf1901020371a0181b196001e201512b20275001a2240387702294203112b202042,[.c .np],[.eqN A6 A6 (.t 7),.mkMap,.build ([.np,o0,o0,.i .u64 0,o0,.nm]) [(0,1,(.t 32)),(1,3,(.t 33)),(5,1,(.t 34))]],[.tmp 2,.tmp 3],[cal B5c,D7 A5V B13,D7 pF A0e,cal C4R]⟩
def B5J:=A02.R
def C0y:=mR B5J A02 (tT []) n [a0] h
def B5D:=A02.K Tryz.func113
def A7i:=A02.Q
def C0W:OfT B5J A7i:=B5D.of
end
section
variable (n m m2:Nat) (a0:Val) (h:A9)
def A2S:FD A8:=⟨px 0X12df12cf20481482c0465001a22bf12af5011828062a2c29f1f001233828071b19001a2012b11ef202c1375001a2241032042132c3181c1a043b4201319f4001030401c72b419422b12b103a3342,[.c .np],[],[.tmp 2,.tmp 3],[fU B6B C4n,fU A4m B12,fU A7i B5D]⟩
def B7W:=A2S.R
def C3h:=mR B7W A2S (tT []) n [a0] h
def A9i:=A2S.K Tryz.func60
def A27:=A2S.Q
def C3B:SOk A8 60 A27:=A9i.ok
def C3A:OfT B7W A27:=A9i.of
end
section
variable (n m m2:Nat) (h:A9)
def A9f:FD A8:=⟨px 0X1203649111891022a3b2022a01b1042,[],[],[.cellN 0 3],[]⟩
def B6t:=A9f.R
def C7H:=mR B6t A9f (tT []) n [] h
def C4o:=A9f.K Tryz.func23
def B6D:=A9f.S
def C3C:G0 B6t B6D:=C4o.flat
end
section
variable (n m m2:Nat) (a0:Val) (h:A9)
def oY:FD A8:=⟨px 0X11bf2001131e1a03405219f118f301182806182c7f5001031a361c770524884a03a2342,[],[],[.tmp 2],[fU A27 A9i,D7 wH A5x]⟩
def A0h:=oY.R
def B46:=mR A0h oY (tT []) n [a0] h
def A7M:=oY.K Tryz.func22
def A0k:=oY.S
def B2L:A3T A0h A0k:=A7M.out
end
def map40:List UInt8:=dH [0,1,2]
def tab40:List UInt8:=H5 (zeros 256) (32*0) (cF 2 1 0 1 (zI 7))
def D40a:Dev:=(E55 16 (zeros 256)).set 2 tab40
def D40b:Dev:=D40a.set 1 map40
def D40:Dev:=D40b.set 0 (vC 16 8 0)
def B9n:map40.length=256:=by unfold map40 dH;rw [eV,zeros_length]
def A3r:tab40.length=256:=by decide +kernel
def okD40a:okD D40a:=(C1I 16).set A3r
def okD40b:okD D40b:=okD40a.set B9n
def okD40:okD D40:=okD40b.set bZ
def E1N:D40a.length=16:=by unfold D40a;rw [E6F,E6y]
def E1O:D40b.length=16:=by unfold D40b;rw [E6F,E1N]
def jH:l_ D40=16:=by unfold D40;rw [E6F,E1O]
def C9B{t:A9}(hn:t.all B33=A5):quiet h (A4 (v,h++t))=A4 (v,h++t):=by
 have:=C9C (g:=h) (l:=[]) (l':=t) (v:=v) (List.nil_prefix) (by simpa using hn);simpa using this
def D9T(h:A9):B6D [] h=A4 (.a (K9 16 8 0),h):=by
 have key:∀ g,∃ g',B6t 0 [] g=A4 (.a (K9 16 8 0),g'):=λg=>by
  have ef:F5 [o0,o0,.i .u64 0] [(0,1,iV 16),(1,1,iV 8)]=A4 (K9 16 8 0):=rfl;have st:F9 (g++[rT [o0,o0,.i .u64 0]]) 3 (pV (l_ g) 0) (.a (K9 16 8 0))=A4 (g++[rT (K9 16 8 0)]):=by rw [G9];rfl
  have ll:ldN (rT (K9 16 8 0)) 0 3=A4 (.a (K9 16 8 0)):=rfl;rw [C7H];generalize K9 16 8 0=L at *;exact ⟨_,by simp only [esc,ef,st,G8,ll]<;>rfl⟩
 obtain ⟨g',e⟩:=key (ro h);exact C3C e rfl
def C32(k:IsDk h p q (E55 16 (zeros 256)) 0 0) :
  ∃ h',A4m [pV p 0,.a (K9 16 8 0)] h=A4 (iV 0,h')/\IsDk h' p q D40 3 0/\But p q h h':=by
 have kp:=E1 k.row;have kq:=E1 k.blk;have hm:P7 16 8=A5:=by decide
 have hp:=λh=>B9V (b:=16) (n:=8) (m:=0) (h:=h) (by omega) (by omega)
 simp only [hm,cond_true] at hp;have B5m:∀ h,uB [.a (K9 16 8 0)] h=A4 (iV 3,h):=λh=>A3k
 have A4O:=λh=>B3A (b:=16) (n:=8) (m:=0) (h:=h)
 have ed:(bD 16 8).toNat=3:=by decide
 rw [ed] at A4O;have hT:∀ h,wS [.a (B5 (zeros 256)),iV 0,.a (C8 2 1 0 1 (zI 7))] h=A4 (.t [.a (B5 tab40),.c o0],h):=λh=>B6j (j:=0) (k:=2) (l:=1) (s:=0) (p:=1) (d:=zI 7) (b:=zeros 256) (h:=h) zeros_length rfl (by omega) (by decide)
 obtain ⟨G,hG⟩:=xEq (h++[rT (K9 16 8 0),rT (B5 (vC 16 8 0))]);have lG:l_ G=l_ h+2:=by rw [hG];simp
 have kG:IsDk G p q (E55 16 (zeros 256)) 0 0:=by rw [hG];exact k.more _
 have r0:rd G (l_ h)=rT (K9 16 8 0):=by rw [hG,I5];rfl
 have r1:rd G (l_ h+1)=rT (B5 (vC 16 8 0)):=by rw [hG,qK];rfl
 obtain ⟨h1,w1,k1,b1⟩:=A7v (no:=2) (b:=tab40) (kG.more [rT (B5 tab40)]) (C1I 16) A3r (by simp) (by omega);have x1:rd h1 (l_ h)=rT (K9 16 8 0):=by rw [b1.2 _ (by simp;omega) (by omega) (by omega)];exact B7 r0
 have y1:rd h1 (l_ h+1)=rT (B5 (vC 16 8 0)):=by rw [b1.2 _ (by simp;omega) (by omega) (by omega)];exact B7 r1
 have lh1:=b1.1;rw [E58] at lh1;have kO:=k1.more [rT (encI (upto 3))];obtain ⟨h2,w2,k2,b2⟩:=A7v (no:=1) (b:=map40) kO okD40a B9n (by simp) (by omega);have y2:rd h2 (l_ h+1)=rT (B5 (vC 16 8 0)):=by rw [b2.2 _ (by simp;omega) (by omega) (by omega)];exact B7 y1
 have lh2:=b2.1;rw [E58] at lh2;obtain ⟨h3,w3,k3,b3⟩:=A7v (no:=0) (b:=vC 16 8 0) k2 okD40b bZ (by simp) (by omega);have hC:=A7s (v:=sV h1.length 0 3 1) (nv:=3) (l:=[0,1,2]) (h:=h1++[rT (encI (upto 3))]) (by decide) (by decide) (Has.tr (cs:=encI (upto 3)) (by simp) rfl rfl);have eC:dH [0,1,2]=map40:=rfl;rw [eC] at hC;refine ⟨h3,?_,k3,?_⟩
 ·refine B8w (n:=9) ?_;have hSz:=B8S kG;have lR:((E55 16 (zeros 256)).length:Int)=16:=rfl;rw [lR] at hSz;have eS:F9 (h++[rT (K9 16 8 0),rT (B5 (zeros 256))]) 256 (pV (l_ h+1) 0) (.a (B5 (vC 16 8 0)))=A4 G:=by
   rw [storeAll (cs:=B5 (zeros 256)) (by rw [qK];rfl) (by rw [B6,zeros_length]) (by rw [B6,bZ]),hG,B7w];rfl
  have l3:D1 (h++[rT (K9 16 8 0)]) 3 (pV (l_ h) 0)=A4 (.a (K9 16 8 0)):=by rw [G8];rfl
  have g0:B9 G (pV (l_ h) 0)=A4 (iV 16):=C4 r0 rfl rfl;have g3:D1 G 3 (pV (l_ h) 0)=A4 (.a (K9 16 8 0)):=C7 r0 rfl;have ef:F5 [o0,o0,o0,o0,o0,o0,o0,o0,o0,o0,o0] [(0,1,iV 2),(1,1,iV 1),(3,1,iV 1)]=A4 (C8 2 1 0 1 (zI 7)):=rfl;have lz:D1 (G++[rT (B5 (zeros 256))]) 256 (pV (l_ G) 0)=A4 (.a (B5 (zeros 256))):=C7 (by rw [I5];rfl) (by rw [B6,zeros_length]);have sz:F9 (G++[rT (B5 (zeros 256))]) 256 (pV (l_ G) 0) (.a (B5 tab40))=A4 (G++[rT (B5 tab40)]):=by
   rw [storeAll (cs:=B5 (zeros 256)) (by rw [I5];rfl) (by rw [B6,zeros_length]) (by rw [B6,A3r]),yD];rfl
  have lt:D1 (G++[rT (B5 tab40)]) 256 (pV (l_ G) 0)=A4 (.a (B5 tab40)):=C7 (by rw [I5];rfl) (by rw [B6,A3r]);have h13:D1 h1 3 (pV (l_ h) 0)=A4 (.a (K9 16 8 0)):=C7 x1 rfl;have h26:D1 h2 256 (pV (l_ h+1) 0)=A4 (.a (B5 (vC 16 8 0))):=C7 y2 (by rw [B6,bZ]);have cl:cells? (.a (K9 16 8 0))=A4 (K9 16 8 0):=rfl;have c2:((2:Nat):Int)=2:=rfl;have c1:((1:Nat):Int)=1:=rfl;have c0:((0:Nat):Int)=0:=rfl;rw [c2] at w1;rw [c1] at w2;rw [c0] at w3;have wr2:E6a .i64 (1+1)=2:=rfl;have wr3:E6a .i64 (2+1)=3:=rfl;have l23:(2:Int)<3:=by decide
  have l33:¬ (3:Int)<3:=by decide
  have e4:G++[rT (B5 (zeros 256))]=G++[rT (B5 (zeros 256))]:=rfl;rw [B74,J3];generalize B5 tab40=T at *;generalize B5 map40=M at *;generalize B5 (vC 16 8 0)=S at *;generalize hZ:B5 (zeros 256)=Z at *;generalize encI (upto 3)=U at *;generalize C8 2 1 0 1 (zI 7)=I at *;generalize K9 16 8 0=L at *;simp only [esc,cl,l3,hp,eS,hSz,g0,uM,wr2];rw [A41,J3,hZ];simp only [esc,g3,B5m,l23,uM,wr2,lz,ef,hT,sz,lt,B7z,w1,wr3];rw [A41,J3,hZ];have hq:=C9B (h:=h1) (t:=[rT U]) (v:=sV h1.length 0 3 1) rfl;simp only [esc,h13,B5m,l33,uM,A4O,hq,hC,w2,h26,w3]
 ·refine But.trans (h':=h1) ?_ (But.trans (h':=h2) ?_ b3)
  ·refine But.trans (h':=G++[rT (B5 tab40)]) ?_ b1;rw [hG];exact ((But.refl p q h).more _).more _
  ·refine But.trans (h':=h1++[rT (encI (upto 3))]) ((But.refl p q h1).more _) b2
def E4A:okS (vC 16 8 0)=A5:=by decide +kernel
def E3D:D0K (vC 16 8 0)=K9 16 8 0:=by decide +kernel
def C7b(k:IsDk h p q D40 3 0) :
  ∃ v h',A7i [.c (.p p 0)] h=A4 (.t [.c v,.c o0],h')/\IsDk h' p q D40 3 1:=by
 obtain ⟨h1,e1,k1,b1⟩:=D0q (no:=0) k okD40 (by rw [jH];omega) (by omega);have kp:=E1 k1.row;have kq:=E1 k1.blk;have e0:D40[0]'(by rw [jH];omega)=vC 16 8 0:=by unfold D40;rw [List.getElem_set_self]
 rw [e0] at e1;have hG:=λh=>B0N (b:=vC 16 8 0) (h:=h) bZ
 rw [E4A,cond_true,E3D] at hG;have c0:((0:Nat):Int)=0:=rfl;rw [c0] at e1;obtain ⟨T,hT⟩:∃ T:A9,T=[rT (B5 (vC 16 8 0)),rT (K9 16 8 0)]:=⟨_,rfl⟩;obtain ⟨H,hH⟩:=xEq (h1++T);have kH:IsDk H p q D40 3 (0+1):=by rw [hH];exact k1.more _
 have hS:=B8S kH;have e16:(l_ D40:Int)=16:=by rw [jH];rfl
 rw [e16] at hS;have hN:∀ g,B2F [.c (.p p 0)] g=A4 (.c (.p (l_ g+1) 0),g++[A4 (P6 []),rT [.p p 0,.m (l_ g),.ns,o0]]):=λg=>by
  refine C4Q (n:=0) ?_;have ef:F5 [Cell.np,.nm,.ns,o0] [(0,1,.c (.p p 0)),(1,1,.c (.m (l_ g)))]=A4 [.p p 0,.m (l_ g),.ns,o0]:=rfl;rw [C4r];simp only [esc,ef]
 have s1:F9 (h1++[rT (B5 (zeros 256))]) 256 (.c (.p h1.length 0)) (.a (B5 (vC 16 8 0)))=A4 (h1++[rT (B5 (vC 16 8 0))]):=by
  rw [storeAll (cs:=B5 (zeros 256)) (by rw [I5];rfl) (by rw [B6,zeros_length]) (by rw [B6,bZ]),yD];rfl
 have l1:D1 (h1++[rT (B5 (vC 16 8 0))]) 256 (.c (.p h1.length 0))=A4 (.a (B5 (vC 16 8 0))):=C7 (by rw [I5];rfl) (by rw [B6,bZ]);have s2:F9 (h1++[rT (B5 (vC 16 8 0)),rT [o0,o0,.i .u64 0]]) 3 (.c (.p (h1.length+1) 0)) (.a (K9 16 8 0))=A4 H:=by
  rw [storeAll (n:=3) (cs:=[o0,o0,.i .u64 0]) (by rw [qK];rfl) rfl rfl,B7w,hH,hT];rfl
 have l2:B9 H (.c (.p (h1.length+1) 0))=A4 (.c (cI 16)):=C4 (cs:=K9 16 8 0) (rw:=A5) (by rw [hH,hT,qK];rfl) rfl rfl;have l3:D1 H 3 (.c (.p (h1.length+1) 0))=A4 (.a (K9 16 8 0)):=C7 (by rw [hH,hT,qK];rfl) rfl;obtain ⟨H2,hH2⟩:=xEq ((H++[A4 (P6 []),A4 (P6 []),rT [.p p 0,.m (l_ H+1),.ns,o0]])++[rT [.p (l_ H+2) 0,cI 16,cI 8,.i .u64 0,o0,.m (l_ H)]]);refine ⟨.p (l_ H+3) 0,H2,?_,by rw [hH2];exact (kH.more _).more _⟩
 ·refine C0W (n:=0) ?_;have hNH:=hN (H++[A7]);have qs:(H++[A7]).length+1=l_ H+2:=by simp
  rw [qs] at hNH;have ef:F5 [Cell.np,o0,o0,.i .u64 0,o0,.nm] [(0,1,.c (.p (l_ H+2) 0)),(1,3,.a (K9 16 8 0)),(5,1,.c (.m (l_ H)))]=A4 [.p (l_ H+2) 0,cI 16,cI 8,.i .u64 0,o0,.m (l_ H)]:=rfl;rw [C0y,J3];generalize B5 (vC 16 8 0)=S at *;generalize hZ:B5 (zeros 256)=Z at *;generalize K9 16 8 0=L at *;simp only [esc,e1,s1,l1,hG,s2,l2,hS,eq_self];have hq:=C9B (h:=H++[A7]) (t:=[A4 (P6 []),rT [.p p 0,.m (H++[A7]).length,.ns,o0]]) (v:=.c (.p (l_ H+2) 0)) (by simp [C6H,C9s]);simp only [E58,E6g,E6E,E6j] at hq hNH;simp only [esc] at hq hNH;simp only [esc,Nat.reduceAdd,hNH,hq,l3,ef,hH2]
def D4a:∃ p q v h',A27 [.a (K9 16 8 0)] h=A4 (.t [.c (.p p 0),.c v],h')/\IsDk h' p q D40 3 1/\(l_ h)<=q/\(l_ h)<=p:=by
 obtain ⟨G,hG⟩:=xEq (h++[rT (K9 16 8 0)]);have lG:l_ G=l_ h+1:=by rw [hG];simp
 have hN:=D2c (N:=16) (h:=G) (by omega) (by omega);obtain ⟨H,hH⟩:=xEq (G++[rT (E8 (E55 16 (zeros 256))),rT (dkC (l_ G) 16 0 0)]);rw [<-hH] at hN;have kH:IsDk H (l_ G+1) (l_ G) (E55 16 (zeros 256)) 0 0:=by
  refine ⟨by omega,?_,?_⟩
  ·rw [hH,qK];rfl
  ·rw [hH,I5];rfl
 obtain ⟨h1,e1,k1,b1⟩:=C32 kH;obtain ⟨v,h2,e2,k2⟩:=C7b k1;refine ⟨l_ G+1,l_ G,v,h2,?_,k2,by omega,by omega⟩;refine C3A (n:=0) ?_;have l0:B9 G (pV (l_ h) 0)=A4 (iV 16):=C4 (cs:=K9 16 8 0) (rw:=A5) (by rw [hG,I5];rfl) rfl rfl;have l3:D1 H 3 (pV (l_ h) 0)=A4 (.a (K9 16 8 0)):=C7 (by rw [hH];refine B7 ?_;rw [hG,I5];rfl) rfl;have cl:cells? (.a (K9 16 8 0))=A4 (K9 16 8 0):=rfl;have c16:((16:Nat):Int)=16:=rfl;rw [c16] at hN;rw [C3h];generalize K9 16 8 0=L at *;simp only [esc,cl,<-hG,l0,hN,l3,e1,eq_self,e2]
def D0u(h:A9):A0k [.a (K9 16 8 0)] h=A4 (sV (l_ h) 0 16 256,h++[rT (E8 D40)]):=by
 have key:∀ g,∃ v g',A0h 0 [.a (K9 16 8 0)] g=A4 (v,g')/\Out (l_ g) g' v 256 16 (E8 D40):=λg=>by
  obtain ⟨G,hG⟩:=xEq (g++[rT (K9 16 8 0),rT []]);have lG:l_ G=l_ g+2:=by rw [hG];simp
  obtain ⟨p,q,v,h',e1,k,_,_⟩:=D4a (h:=G);have hI:=C70 k okD40 (by rw [jH];omega);have l3:D1 G 3 (pV (l_ g) 0)=A4 (.a (K9 16 8 0)):=C7 (by rw [hG,I5];rfl) rfl;have cl:cells? (.a (K9 16 8 0))=A4 (K9 16 8 0):=rfl;have hl:l_ G<=(l_ h'):=(C3B _ _ _ _ e1).2.2;refine ⟨sV (l_ h') 0 16 256,h'++[rT (E8 D40)],?_,by rw [I6 okD40,jH],l_ h',rfl,by omega,N6⟩;have ll:l_ D40=16:=jH;rw [ll] at hI;rw [B46];generalize K9 16 8 0=L at *;simp only [esc,cl,<-hG,l3,e1,hI]
 obtain ⟨v,g',e,ho⟩:=key (ro h);exact B2L e (by rw [H6] at ho;exact ho) jG
def C9k{v u:Val}{nv nu:Nat}{l r:List Int}{h:A9}(hv:Has h v 1 nv (encI l))(hu:Has h u 1 nu (encI r))(hlr:l_ l=r.length)(hl:l_ l<9223372036854775807){k:Nat}:∀ d i m,i+d=l_ l->d<m ->
  B8V k m v u (iV i) h=A4 (bV (decide (l.drop i=r.drop i)),h)
 | d,i,0,_,hm=>by omega
 | 0,i,m+1,hi,hm=>by
  have hnv:l_ l=nv:=by simpa [C1] using hv.length
  have e1:l.drop i=[]:=E6f (by omega);have e2:r.drop i=[]:=E6f (by omega);have h1':¬ (i:Int)<(l_ l):=by omega
  rw [B06];simp only [esc,hv.len,<-hnv,h1',e1,e2]
 | d+1,i,m+1,hi,hm=>by
  have ih:=C9k hv hu hlr hl (k:=k) d (i+1) m (by omega) (by omega);have hnv:l_ l=nv:=by simpa [C1] using hv.length
  have hnu:r.length=nu:=by simpa [C1] using hu.length
  have hlen:=hv.len;obtain ⟨id,off,rfl,hid,h1,h2⟩:=hv.sl (by omega);obtain ⟨dM,off',rfl,E4j,h1',h2'⟩:=hu.sl (by omega);have hx:=h1 i (cI l[i]) (by rw [G6,E51 (by omega)];rfl);have hy:=h1' i (cI r[i]) (by rw [G6,E51 (by omega)];rfl);have ea:E9 1 (sV id off nv 1) (iV (i:Int))=A4 (pV id (off+i)):=by rw [E3 (by omega)];simp
  have eb:E9 1 (sV dM off' nu 1) (iV (i:Int))=A4 (pV dM (off'+i)):=by rw [E3 (by omega)];simp
  have c1:(i:Int)<nv:=by omega
  rw [B06,E6b (by omega:i<l_ l),E6b (by omega:i<r.length)];by_cases c:l[i]=r[i]
  ·simp only [esc,c1,ea,eb,hx,hy,c,D9 (a:=i) (by omega),List.cons.injEq];exact ih
  ·simp only [esc,c1,ea,eb,hx,hy,c,List.cons.injEq,false_and]
def C8h{u:Val}{nv nu:Nat}{r:List Int}(hv:Has h v 1 nv (encI l))(hu:Has h u 1 nu (encI r))(hl:l_ l<9223372036854775807) :
  B2N [v,u] h=A4 (bV (decide (l=r)),h):=by
 refine C0F (n:=l_ l+1) (h2:=ro h) ?_ (by simp);have hnv:l_ l=nv:=by simpa [C1] using hv.length
 have hnu:r.length=nu:=by simpa [C1] using hu.length
 rw [C4t];by_cases c:l_ l=r.length
 ·have:=C9k hv.ro hu.ro c hl (k:=l_ l+1) (l_ l) 0 (l_ l+1) (by omega) (by omega);simp only [E6i] at this;have c':(nv:Int)=nu:=by omega
  simp only [esc,hv.len,hu.len,c'];exact this
 ·have c':¬ (nv:Int)=nu:=by omega
  have c2:¬ l=r:=λe=>c (by rw [e])
  simp only [esc,hv.len,hu.len,c',c2]
section
variable (n m m2:Nat) (h:A9)
def A2T:FD A8:=⟨px 0X178f0030281911c94e304881c93c1904881c94f1f1c9704881c93c1904881c94f5f1c9701038048818504881d1f1048818504881d5f5901e0190301300110000722401b6191902619a2f4f619a3c0101b181901884d50261882f7a61883c0101b1c1906a4d04256a2f51011116a19906a1e05c6a1f0101b181918903581a0584b485870110323e2a02f1a942112329f5004243386183a41f1c41b1521ef2663e41b01332e41d1c419421cf11bf2462e21b11828061b2c1af18001232819018751827f1001130065c3342300102,[],[.eqA A6 (E55 256 (.i .u8)) (.t 43) (.t 46),.eqA A6 (E55 256 (.i .u8)) (.t 51) (.t 54)],[.tmp 0],[D7 B6D C4o,D7 A0k A7M,fU uE B4s,D7 A4g B6p,D7 T7 iT,D7 B2N C13,D7 A9S B7L]⟩
def A9y:=A2T.R
def C3i:=mR A9y A2T (tT []) n [] h
def B7M:=A2T.K Tryz.func6
def A9Y:=A2T.S
def B8j:G0 A9y A9Y:=B7M.flat
end
def E24:B7e D40=A5:=by decide +kernel
def E26:B5l D40=8:=by decide +kernel
def E25:C3Q D40=0:=by decide +kernel
def D6p:(F7 D40 8).row=[1]:=by decide +kernel
def E4w:kZ D40 8 (F7 D40 8)=D40:=by decide +kernel
def B7B(h:A9):A9Y [] h=A4 (bV A5,h):=by
 have key:∀ g,∃ g',A9y 0 [] g=A4 (bV A5,g'):=λg=>by
  have hm:P7 (l_ D40) 8=A5:=by rw [jH];decide
  have hF:=D0u g;obtain ⟨G,hG⟩:=xEq (g++[rT (E8 D40)]);rw [<-hG] at hF;have hH:Has G (sV (l_ g) 0 (l_ D40) 256) 256 (l_ D40) (E8 D40):=by rw [hG];exact Has.tr (by simp) (I6 okD40) (cV _)
  obtain ⟨f,t,hO,hV⟩:=B0O hH okD40 E24 (by rw [jH];omega);obtain ⟨H,hHe⟩:=xEq (G++t);rw [<-hHe,E26,E25] at hO;rw [<-hHe] at hV;have hH1:Has H (sV (l_ g) 0 (l_ D40) 256) 256 (l_ D40) (E8 D40):=by rw [hHe];exact hH.more _
  have hS5:F9 (H++[rT [o0,o0,.i .u64 0,.nf]]) 4 (pV (l_ H) 0) (.a (vwC (l_ D40) 8 0 f))=A4 (H++[rT (vwC (l_ D40) 8 0 f)]):=by rw [G9];rfl
  obtain ⟨K,hK⟩:=xEq (H++[rT (vwC (l_ D40) 8 0 f)]);rw [<-hK] at hS5;have l4:D1 K 4 (pV (l_ H) 0)=A4 (.a (vwC (l_ D40) 8 0 f)):=C7 (by rw [hK,I5];rfl) rfl;have rv:rd K (l_ H)=rT (vwC (l_ D40) 8 0 f):=by rw [hK,I5];rfl
  obtain ⟨cs,t2,hC,hI,_⟩:=B3i (h:=K) okD40 (by rw [hK];exact hV.more _) hm;obtain ⟨L,hL⟩:=xEq (K++t2);rw [<-hL] at hC hI;have oG:l_ cs=6:=by obtain ⟨_,_,_,_,_,rfl,_⟩:=hI.form;rfl
  obtain ⟨M,hM⟩:=xEq (L++[rT cs]);have hS6:F9 (L++[rT [.ns,.ns,.ns,.ns,.ns,o0]]) 6 (pV (l_ L) 0) (.a cs)=A4 M:=by
   rw [storeAll (n:=6) (cs:=[.ns,.ns,.ns,.ns,.ns,o0]) (by rw [I5];rfl) rfl oG,yD,hM];rfl
  have hIM:IsCl M cs (F7 D40 8):=by
   obtain ⟨xr,xi,xt,xb,xm,e,h1,h2,h3,h4,h5⟩:=hI.form;rw [hM];exact ⟨xr,xi,xt,xb,xm,e,h1.more _,h2.more _,h3.more _,h4.more _,h5.more _⟩
  have hVM:IsView M f D40:=by rw [hM,hL,hK];exact ((hV.more _).more _).more _
  have m4:D1 M 4 (pV (l_ H) 0)=A4 (.a (vwC (l_ D40) 8 0 f)):=C7 (by rw [hM,hL];exact B7 (B7 rv)) rfl;have m6:D1 M 6 (pV (l_ L) 0)=A4 (.a cs):=C7 (by rw [hM,I5];rfl) oG;have hIm:=A7t (m:=0) okD40 hVM hm hIM;rw [E4w] at hIm;obtain ⟨N,hN⟩:=xEq (M++[rT (E8 D40)]);rw [<-hN] at hIm;obtain ⟨xr,xi,xt,xb,xm,e,h1,_⟩:=hIM.form;rw [D6p] at h1;have ef:F5 [o0] [(0,1,iV 1)]=A4 (encI [1]):=rfl;have n0:B9 N (pV (l_ L) 0)=A4 (.c xr):=C4 (cs:=cs) (rw:=A5) (by rw [hN,hM];refine B7 ?_;rw [I5];rfl) (by rw [e];rfl) rfl;have hQ:=C8h (h:=N++[rT (encI [1])]) (v:=.c xr) (nv:=1) (u:=sV N.length 0 1 1) (nu:=1) (l:=[1]) (r:=[1]) (by rw [hN];exact (h1.more _).more _) (Has.tr (by simp) rfl rfl) (by decide);obtain ⟨Q,hQe⟩:=xEq (N++[rT (encI [1])]);rw [<-hQe] at hQ;have hIQ:IsCl Q cs (F7 D40 8):=by
   obtain ⟨xr,xi,xt,xb,xm,e,h1,h2,h3,h4,h5⟩:=hIM.form;rw [hQe,hN];exact ⟨xr,xi,xt,xb,xm,e,(h1.more _).more _,(h2.more _).more _,(h3.more _).more _,(h4.more _).more _,(h5.more _).more _⟩
  have q6:D1 Q 6 (pV (l_ L) 0)=A4 (.a cs):=C7 (by rw [hQe,hN,hM];refine B7 (B7 ?_);rw [I5];rfl) oG;have k1:=B5X (a:=1) hIQ (by rw [D6p];decide);have k2:=B5X (a:=2) hIQ (by rw [D6p];decide);rw [D6p] at k1 k2;have d1:decide ((1:Int)∈[(1:Int)])=A5:=by decide
  have d2:decide ((2:Int)∈[(1:Int)])=A6:=by decide
  rw [d1] at k1;rw [d2] at k2;have hHQ:Has Q (sV (l_ g) 0 (l_ D40) 256) 256 (l_ D40) (E8 D40):=by rw [hQe,hN,hM,hL,hK];exact ((((hH1.more _).more _).more _).more _).more _
  have hIH:Has Q (sV M.length 0 (l_ D40) 256) 256 (l_ D40) (E8 D40):=by rw [hQe,hN];exact (Has.tr (h:=M++[rT (E8 D40)]) (by simp) (I6 okD40) (cV _)).more _
  obtain ⟨_,_,e1,_,a1,b1⟩:=B0r (i:=1) hHQ okD40 (by rw [jH];omega);cases e1;obtain ⟨_,_,e2,_,a2,b2⟩:=B0r (i:=2) hHQ okD40 (by rw [jH];omega);cases e2;obtain ⟨_,_,e3,_,a3,b3⟩:=B0r (i:=1) hIH okD40 (by rw [jH];omega);cases e3;obtain ⟨_,_,e4,_,a4,b4⟩:=B0r (i:=2) hIH okD40 (by rw [jH];omega);cases e4;have q1:=E2x (l:=D40[1]'(by rw [jH];omega)) (m:=D40[1]'(by rw [jH];omega)) (n:=256) (okD40.at _) (okD40.at _);have q2:=E2x (l:=D40[2]'(by rw [jH];omega)) (m:=D40[2]'(by rw [jH];omega)) (n:=256) (okD40.at _) (okD40.at _);rw [decide_eq_true rfl] at q1 q2;rw [jH] at hO a1 a2 a3 a4 hIm hS5 l4 hC m4;have c1:((1:Nat):Int)=1:=rfl;have c2:((2:Nat):Int)=2:=rfl;have c16:((16:Nat):Int)=16:=rfl;rw [c1] at a1 a3;rw [c2] at a2 a4;rw [c16] at hO hIm hS5 l4 hC m4;have dd:decide ([(1:Int)]=[1])=A5:=by decide
  rw [dd] at hQ;rw [C3i];generalize B5 (D40[1]'(by rw [jH];omega))=X1 at *;generalize B5 (D40[2]'(by rw [jH];omega))=X2 at *;generalize vwC 16 8 0 f=V at *;exact ⟨Q,by simp only [esc,D9T,hF,hO,hS5,l4,hC,hS6,m4,m6,hIm,eq_self,c16,n0,ef,<-hQe,hQ,q6,k1,k2,a1,a2,a3,a4,b1,b2,b3,b4,q1,q2]⟩
 obtain ⟨g',e⟩:=key (ro h);exact B8j e rfl
section
variable (n m m2:Nat) (a0 x5 x8 x9 x10:Val) (h:A9)
def aT:FD A8:=⟨px 0X1199f20304190029f2f0110220451f818c2b7026bf1a050021a86a03180132015000002722401b2c1901ea4e204881ea3c044881ea4f1da1ea75f1ea704881ea3c044881ea4f1ca1ea71ca1ea70106320295f10291ae6c01e01928f43154130702406120295f11985e041cb4203006051112d0181c210235df190042431986186f45b1c42b1525af2663e181b01336f4591c4291d1b01d201320150000722401b1a1910318e1a018e4b01518e2f7e18e70110326c490181a94221348f13ff2462e61b11828063f2c3ef3c00123683d0181f1d1823bf5006243201335c4185a4381c30191b053012ff200032500622410324a2d025d421132cf12bf2462e31b11a280182b2c2af1f0012301137280191970192011ef20003250062243e905202971b033b42033201042,[],[.eqA A5 (E55 256 (.i .u8)) (.t 61) (.t 65)],[.tmp 2],[D7 A9Y B7M,D7 C0E C8u,fU uE B4s,D7 A4g B6p,D7 T7 iT,D7 qQ A2r]⟩
def vV:=aT.R
def A4F:AtH:=aT.lj 0 n [m] [x5,x8,x9,x10]
def A51:=tT [⟨2,4,A4F⟩]
def B2c:=mR vV aT A51 n [a0] h
def zR:=mL aT A51 0 n [m] [x5,x8,x9,x10] h
def A5y:=aT.K Tryz.func3
def wP:=aT.S
def B2M:SOk A8 3 wP:=A5y.sok
def A9X:G0 vV wP:=A5y.flat
end
def D9D{t:A9}(ht:t.all B33=A5):quiet h (A4 (v,h++t))=A4 (v,h++t):=by
 refine W2 (Grows.rfl'.trans' ⟨List.prefix_append _ _,λid x hid hx=>?_⟩);rw [rd_some,E6r hid] at hx;exact List.all_eq_true.1 ht _ (E6n hx)
section
variable {D:Dev} {n:Int}
def C9h(hD:okD D)(hm:P7 (l_ D) n=A5):kZ (kZ D n (F7 D n)) n (F7 (kZ D n (F7 D n)) n)=kZ D n (F7 D n):=by
 obtain ⟨_,lI⟩:=C4f hD hm;have hM:=D92 hD hm (m:=(B1o (kZ D n (F7 D n)) D 0).length);have e:C3X (B1o (kZ D n (F7 D n)) D 0).length (kZ D n (F7 D n)) D=kZ D n (F7 D n):=D0T (i:=0) lI (E56 _);rw [e] at hM;exact hM.img
def E3x(hD:okD D)(hm:P7 (l_ D) n=A5):Wh (kZ D n (F7 D n)) n (F6 (kZ D n (F7 D n)) n):=by
 obtain ⟨okI,lI⟩:=C4f hD hm;exact E4J okI (by rw [lI];exact hm) (C9h hD hm)
def Wh.lost0{F:Cl}(W:Wh D n (F6 D n)):(F7 D n).lost=0:=by
 obtain ⟨_,_,_,_,s5,_,_⟩:=uS (L:=(F6 D n).row) (c:=F6 D n);have:(F7 D n).lost=(F6 D n).lost:=s5;rw [this,W.I.lost]
end
def D7o{cs:List Cell}(hc:IsCl h cs c)(t:A9):IsCl (h++t) cs c:=by
 obtain ⟨xr,xi,xt,xb,xm,rfl,hr,hi,ht,hb,hmd⟩:=hc.form;exact ⟨⟨xr,xi,xt,xb,xm,rfl,hr.more t,hi.more t,ht.more t,hb.more t,hmd.more t⟩⟩
section
variable {I:Dev} {X:A9} {q:Nat} {x5 x9:Val}
def E23{cs:List Cell}(h5:Has X x5 256 (l_ I) (E8 I))(h9:Has X x9 256 (l_ I) (E8 I))(hI:okD I)(hl:l_ I<=512)(rp:B9 X (pV p 5)=A4 (iV 0)) :
  ∀ e i M:Nat,i+e=l_ I->e<M->∃ g',A4F q M x5 (pV p 0) x9 (iV (i:Int)) X=A4 (bV A5,g'):=by
 intro e
 induction e with
 | zero =>
  intro i M hi hM;obtain ⟨M,rfl⟩:=aP M (by omega);have c0:¬ (i:Int)<(l_ I:Nat):=by omega
  have a5:=h5.len;rw [zR];exact ⟨X,by simp only [esc,a5,c0,rp,eq_self,B7B]⟩
 | succ e ih =>
  intro i M hi hM;obtain ⟨M,rfl⟩:=aP M (by omega);have K7:i<(l_ I):=by omega
  have c0:(i:Int)<(l_ I:Nat):=by omega
  have w1:=D9 (a:=i) (by omega);have a5:=h5.len;have a9:=h9.len;obtain ⟨id,off,e1,_,a1,l1⟩:=B0r h5 hI K7;obtain ⟨dM,off',e1',_,a1',l1'⟩:=B0r h9 hI K7;have q1:=C8G (l:=I[i]) (m:=I[i]) (n:=256) (hI.at K7) (hI.at K7);rw [decide_eq_true rfl] at q1;obtain ⟨g',f1⟩:=ih (i+1) M (by omega) (by omega);refine ⟨g',?_⟩;rw [zR];generalize B5 I[i]=y at *;generalize E55 256 (Sh.i .u8)=z at *;simp only [esc,a5,a9,c0,a1,l1,a1',l1',q1,w1,eq_self];exact f1
end
def C7Z(hv:Has h v 256 (l_ D) (E8 D))(hD:okD D):wP [v] h=A4 (bV A5,h):=by
 have key:∀ g,Has g v 256 (l_ D) (E8 D)->∃ g',vV 600 [v] g=A4 (bV A5,g'):=by
  intro g hv;have hl:=hv.len;have n13:¬ (13:Int)=0:=by decide
  rw [B2c];by_cases c0:(60:Int)<(l_ D:Nat)
  ·exact ⟨_,by simp only [esc,hl,c0,B7B]<;>rfl⟩
  ·have hT:=E4I hv hD (by omega);obtain ⟨G,hG⟩:=xEq (g++[rT (E8 D)]);rw [<-hG] at hT;have hH:Has G (sV (l_ g) 0 (l_ D) 256) 256 (l_ D) (E8 D):=by rw [hG];exact Has.tr (by simp) (I6 hD) (cV D)
   cases cd:B7e D with
   | false =>
    obtain ⟨t,hO⟩:=D3U hH hD cd;obtain ⟨H,hHe⟩:=xEq (G++t);rw [<-hHe] at hO;have hS5:F9 (H++[rT [o0,o0,.i .u64 0,.nf]]) 4 (pV (l_ H) 0) (.a (vwC 0 0 0 .nf))=A4 (H++[rT (vwC 0 0 0 .nf)]):=by rw [G9];rfl
    generalize vwC 0 0 0 .nf=V at *;exact ⟨_,by simp only [esc,hl,c0,hT,hO,hS5,n13,B7B]<;>rfl⟩
   | true =>
    obtain ⟨f,t,hO,hV⟩:=B0O hH hD cd (by omega);obtain ⟨H,hHe⟩:=xEq (G++t);rw [<-hHe] at hO hV;have hm:=D87 cd;obtain ⟨n,en⟩:=xEq (B5l D);obtain ⟨m,em⟩:=xEq (C3Q D);obtain ⟨okI,lI⟩:=C4f hD hm;have hh0:=D9O hD hm;have W:=E3x hD hm;have mM:=C9h hD hm;rw [<-en] at hO hm okI lI hh0 W mM;rw [<-em] at hO;obtain ⟨I,eI⟩:=xEq (kZ D n (F7 D n));rw [<-eI] at okI lI hh0 W mM;obtain ⟨dI1,dI2,dI3⟩:=D88 lI hh0;have dI:B7e I=A5:=dI1.trans cd;have nI:B5l I=n:=dI2.trans en.symm;have mI:C3Q I=m:=dI3.trans em.symm;have hmI:P7 (l_ I) n=A5:=by rw [lI];exact hm
    obtain ⟨B,hB⟩:=xEq (H++[rT (vwC (l_ D) n m f)]);have hS5:F9 (H++[rT [o0,o0,.i .u64 0,.nf]]) 4 (pV (l_ H) 0) (.a (vwC (l_ D) n m f))=A4 B:=by rw [G9,hB];rfl
    have y4:D1 B 4 (pV (l_ H) 0)=A4 (.a (vwC (l_ D) n m f)):=C7 (by rw [hB,I5];rfl) rfl;have hVB:IsView B f D:=by rw [hB];exact hV.more _
    obtain ⟨cs,tc,p1,p2,p3⟩:=B3i (n:=n) (m:=m) (f:=f) (h:=B) hD hVB hm;have q1:quiet B (A4g [.a (vwC (l_ D) n m f)] B)=A4 (.a cs,B++tc):=by rw [p1];exact D9D p3
    obtain ⟨E,hE⟩:=xEq (B++tc);rw [<-hE] at p2 q1;have hI:=A7t (m:=m) hD (by rw [hE];exact hVB.more _) hm p2;rw [<-eI] at hI;obtain ⟨J,hJ⟩:=xEq (E++[rT (E8 I)]);rw [<-hJ] at hI;have hI:T7 [.a (vwC (l_ D) n m f),.a cs] E=A4 (sV (l_ E) 0 (l_ I) 256,J):=by rw [lI];exact hI
    have hIJ:Has J (sV (l_ E) 0 (l_ I) 256) 256 (l_ I) (E8 I):=by rw [hJ];exact Has.tr (by rw [I5];rfl) (I6 okI) (cV I)
    obtain ⟨f2,t2,hO2,hV2⟩:=B0O hIJ okI dI (by omega);rw [nI,mI] at hO2;obtain ⟨J2,hJ2⟩:=xEq (J++t2);rw [<-hJ2] at hO2 hV2;obtain ⟨B2,hB2⟩:=xEq (J2++[rT (vwC (l_ I) n m f2)]);have hS6:F9 (J2++[rT [o0,o0,.i .u64 0,.nf]]) 4 (pV J2.length 0) (.a (vwC (l_ I) n m f2))=A4 B2:=by rw [G9,hB2];rfl
    have hIB2:Has B2 (sV (l_ E) 0 (l_ I) 256) 256 (l_ I) (E8 I):=by rw [hB2,hJ2];exact (hIJ.more _).more _
    have hFa:=C35 (h:=B2) okI hIB2 dI (by rw [nI];exact hmI);rw [nI,W.right] at hFa;obtain ⟨B3,hB3⟩:=xEq (B2++[rT (encI (C73 []))]);rw [<-hB3] at hFa;have r2:rd B2 J2.length=rT (vwC (l_ I) n m f2):=by rw [hB2,I5];rfl
    have r3:rd B3 J2.length=rT (vwC (l_ I) n m f2):=by rw [hB3];exact B7 r2
    have z4:D1 B3 4 (pV J2.length 0)=A4 (.a (vwC (l_ I) n m f2)):=C7 r3 rfl;have hVB3:IsView B3 f2 I:=by rw [hB3,hB2];exact (hV2.more _).more _
    obtain ⟨cs2,tc2,u1,u2,_⟩:=B3i (n:=n) (m:=m) (f:=f2) (h:=B3) okI hVB3 hmI;obtain ⟨E2,hE2⟩:=xEq (B3++tc2);rw [<-hE2] at u1 u2;have E1E:cs2.length=6:=by
     obtain ⟨_,_,_,_,_,e,_⟩:=u2.form;rw [e];rfl
    obtain ⟨B4,hB4⟩:=xEq (E2++[rT cs2]);have hS7:F9 (E2++[rT [.ns,.ns,.ns,.ns,.ns,o0]]) 6 (pV E2.length 0) (.a cs2)=A4 B4:=by
     rw [storeAll (n:=6) (cs:=[.ns,.ns,.ns,.ns,.ns,o0]) (by rw [I5];rfl) rfl E1E,yD,hB4];rfl
    have s4:D1 B4 4 (pV J2.length 0)=A4 (.a (vwC (l_ I) n m f2)):=C7 (by rw [hB4,hE2];exact B7 (B7 r3)) rfl;have rc4:rd B4 E2.length=rT cs2:=by rw [hB4,I5];rfl
    have s6:D1 B4 6 (pV E2.length 0)=A4 (.a cs2):=C7 rc4 E1E;have E43:IsView B4 f2 I:=by rw [hB4,hE2];exact (hVB3.more _).more _
    have E48:IsCl B4 cs2 (F7 I n):=by rw [hB4];exact D7o u2 _
    have hI2:=A7t (m:=m) okI E43 hmI E48;rw [mM] at hI2;obtain ⟨Y,hY⟩:=xEq (B4++[rT (E8 I)]);rw [<-hY] at hI2;have hl0:B9 Y (pV E2.length 5)=A4 (iV 0):=by
     have h0:=Wh.lost0 (F:=F6 I n) W;obtain ⟨xr,xi,xt,xb,xm,e,_⟩:=u2.form;refine C4 (cs:=cs2) (by rw [hY];exact B7 rc4) ?_ rfl;rw [e,h0];rfl
    have h5:Has Y (sV (l_ E) 0 (l_ I) 256) 256 (l_ I) (E8 I):=by rw [hY,hB4,hE2,hB3];exact (((hIB2.more _).more _).more _).more _
    have h9:Has Y (sV B4.length 0 (l_ I) 256) 256 (l_ I) (E8 I):=by rw [hY];exact Has.tr (by rw [I5];rfl) (I6 okI) (cV I)
    obtain ⟨g',e1⟩:=E23 (q:=600) (p:=E2.length) (cs:=cs2) h5 h9 okI (by omega) hl0 (l_ I) 0 600 (by omega) (by omega);have z0:((0:Nat):Int)=0:=rfl;rw [z0] at e1;refine ⟨g',?_⟩;have al0:B8H (sV B2.length 0 (List.length ([]:List Nat)) 1)=A4 (iV 0):=rfl;generalize vwC (l_ D) n m f=V at *;generalize vwC (l_ I) n m f2=V2 at *;simp only [esc,eq_self,hl,c0,hT,hO,hS5,y4,q1,hI,hO2,hS6,hFa,al0,z4,u1,hS7,s4,s6,hI2];exact e1
 obtain ⟨g',e⟩:=key (ro h) hv.ro;exact A9X e rfl
section
def B0M:List Char:=(([104,97,114,110,101,115,115,32,51,99,101,98,57,53,49,48,54,48,52,50,48,99,57,102,102,51,98,54,55,49,48,97,98,100,55,100,49,57,99,55,57,57,57,99,53,99,101,50,53,49,99,56,54,54,51,97,98,98,99,97,48,101,50,99,56,48,102,101,102,57,101,100,32,99,117,116,32,97,116,32,101,115,99,104,101,97,116,47,101,115,99,104,101,97,116,108,97,119,52,49,46,67,108,97,105,109,82,105,103,104,116,32,101,115,99,104,101,97,116,47,101,115,99,104,101,97,116,108,97,119,52,49,46,67,108,97,105,109,75,101,101,112,115,32,101,115,99,104,101,97,116,47,101,115,99,104,101,97,116,108,97,119,52,50,46,77,101,110,100,87,104,111,108,101]:List Nat).map Char.ofNat)
set_option maxRecDepth 100000
def E3M:ownKnob Tryz.prog.godebug=A7:=by kernel_rfl
def E1L:laidOutB A8=A5:=by kernel_rfl
def start_eq:Tryz.prog.initOrder=String.ofList B0M:=by kernel_rfl
def D5t:Tryz.prog.initOrder.toList=B0M:=by rw [start_eq,String.toList_ofList]
def startRest:List (List Char):=(([[99,117,116],[97,116],[101,115,99,104,101,97,116,47,101,115,99,104,101,97,116,108,97,119,52,49,46,67,108,97,105,109,82,105,103,104,116],[101,115,99,104,101,97,116,47,101,115,99,104,101,97,116,108,97,119,52,49,46,67,108,97,105,109,75,101,101,112,115],[101,115,99,104,101,97,116,47,101,115,99,104,101,97,116,108,97,119,52,50,46,77,101,110,100,87,104,111,108,101]]:List (List Nat)).map (λl=>l.map Char.ofNat))
def E0O:wordsSigns B0M=(([104,97,114,110,101,115,115]:List Nat).map Char.ofNat)::(([51,99,101,98,57,53,49,48,54,48,52,50,48,99,57,102,102,51,98,54,55,49,48,97,98,100,55,100,49,57,99,55,57,57,57,99,53,99,101,50,53,49,99,56,54,54,51,97,98,98,99,97,48,101,50,99,56,48,102,101,102,57,101,100]:List Nat).map Char.ofNat)::startRest:=by kernel_rfl
def E3X:isSumSigns ((([51,99,101,98,57,53,49,48,54,48,52,50,48,99,57,102,102,51,98,54,55,49,48,97,98,100,55,100,49,57,99,55,57,57,57,99,53,99,101,50,53,49,99,56,54,54,51,97,98,98,99,97,48,101,50,99,56,48,102,101,102,57,101,100]:List Nat).map Char.ofNat))=A5:=by decide +kernel
def D4I: ((([104, 97, 114, 110, 101, 115, 115] : List Nat).map Char.ofNat) == "harness".toList) = true := by decide +kernel
def D4b(h s : List Char)(r : List (List Char))(h1 : (h == "harness".toList) = true)(h2 : isSumSigns s = true) : behindMainWord (h :: s :: r) = r := by
 unfold behindMainWord;simp only [h1,h2,E6P,E6t,if_true]
def D6M:behindMainWord (wordsSigns B0M)=startRest:=by rw [E0O];exact D4b _ _ _ D4I E3X
def start_words:behindMainWord (wordsSigns Tryz.prog.initOrder.toList)=startRest:=by rw [D5t];exact D6M
def D8e:List (List Char):=startRest.drop 1
def D1e: startRest = "cut".toList :: D8e := by decide +kernel
def D9Z{P: Program}{rest : List (List Char)}(h : behindMainWord (wordsSigns P.initOrder.toList) = "cut".toList :: rest) : P.make = some .cut := by
 have e1 : ("cut".toList == "gc".toList) = false := by decide +kernel
 have e2 : ("cut".toList == "spec".toList) = false := by decide +kernel
 have e3 : ("cut".toList == "cut".toList) = true := by decide +kernel
 unfold Program.make;rw [h];simp only [e1,e2,e3,Bool.or_self,E6P,Bool.false_eq_true,if_false,if_true]
def E1P:Tryz.prog.make=A4 .cut:=D9Z (start_words.trans D1e)
def C7d{w:List Char}{ws:List (List Char)}:∀ os:List String,(os.all λo=>!(w==o.toList))=A5->stripLifts os (w::ws)=([],w::ws)
 | [],_=>rfl
 | o::os,h=>by
  simp only [E62,E53,E6M] at h;unfold stripLifts;rw [h.1,if_neg (by simp)];exact C7d os h.2
def C9O(rest: List (List Char)) : stripLifts liftWords ("cut".toList :: rest) = ([], "cut".toList :: rest) := C7d _ (by decide +kernel)
def D9S:Tryz.prog.laysLater=A6:=by kernel_rfl
def D5f:Tryz.prog.bearsReflect=A6:=by kernel_rfl
def E1u:Tryz.prog.doorFits []=A5:=by kernel_rfl
def D62{P: Program}{rest : List (List Char)}(h : behindMainWord (wordsSigns P.initOrder.toList) = "cut".toList :: rest)(h1 : P.laysLater = false)(h2 : P.bearsReflect = false)(h3 : P.doorFits [] = true) : P.mayEnter = true := by
 unfold Program.mayEnter;rw [h];simp only [C9O,h1,h2,h3];simp
def D2P:Tryz.prog.mayEnter=A5:=D62 (start_words.trans D1e) D9S D5f E1u
def D7t{P: Program}{rest : List (List Char)}(h : behindMainWord (wordsSigns P.initOrder.toList) = "cut".toList :: rest) : P.liftsFinal = false := by
 unfold Program.liftsFinal Program.headLifts;rw [h];simp only [C9O];simp
def D9V:Tryz.prog.liftsFinal=A6:=D7t (start_words.trans D1e)
end
end Go.Proofs.YtbipebfdappanaaGreat
