/- What the proof of this claim leans on, part 6. -/
import Derived.Test.YtbipebfdappanaaGreatFClaimKeepsp5
set_option linter.all false
set_option maxRecDepth 100000
open Go Go.Esc
noncomputable section
open List renaming length->l_,all_cons->E8e,all_eq_true->E7D,append_assoc->E7i,append_nil->E7q,cons_append->E8a,drop_eq_getElem_cons->E7g,drop_of_length_le->E7j,drop_zero->E7n,ext_getElem?->E8h,filter_append->E8k,filter_cons_of_neg->E73,filter_cons_of_pos->E7Z,foldl_cons->E8f,getD_eq_getElem?_getD->E67,getElem?_cons_succ->E7u,getElem?_cons_zero->E7W,getElem?_drop->E8j,getElem?_eq_getElem->E64,getElem?_eq_none->E7z,getElem?_eq_some_iff->E7b,getElem?_set->E76,getElem?_set_ne->E8c,getElem?_take_of_lt->E7M,getElem_mem->E7y,length_append->E7c,length_cons->E7k,length_map->E8s,length_nil->E7Q,length_set->E7R,length_take->E7L,map_append->E72,map_cons->E7X,mem_append->E7J,mem_append_left->E7I,mem_append_right->E7C,mem_cons->E7m,mem_cons_of_mem->E7d,mem_cons_self->E7e,mem_filter->E7N,mem_iff_getElem?->E7O,mem_map->E7B,mem_of_getElem?->E7p,mem_range'_1->E8o,mem_singleton->E7K,nil_append->E7A,range->E7H,range'->E7G,replicate->E68,take_of_length_le->E7r,take_zero->E75
open Bool renaming and_eq_true->E66,false_and->E7v,false_or->E79,not_eq_true'->E7Y,or_eq_false_iff->E78,true_and->E7w,true_or->E71,false->A6,true->A5
open Int renaming toNat_natCast->E7s
open IntKind renaming wrap->E7f
open Nat renaming le_refl->E69,mul_one->E8i,sub_self->E8l,zero_add->E7o
open Option renaming map_some->E7U,none->A7,some->A4
open Option.some renaming inj->E8n
open Go.Proofs.Tryz renaming prog->A8
namespace Go.Proofs.YtbipebfdappanaaGreat
variable {q i pp p j e:Nat}{c:Cl}{h h':A9}{L d l dr:List Int}{D:Dev}{a n x k no:Int}{v:Val}{f:Nat->Int}{b:List UInt8}{w:Bool}
section
variable {D:Dev} {n:Int}
def zC(h:F6 (l_ D) n x=A5):0<=x/\x<l_ D/\x≠0:=by
 obtain ⟨hm,h1,h2⟩:=pE.1 h;have:=(oV (b:=l_ D) (n:=n)).1;refine ⟨by omega,h2,λe=>?_⟩;rw [e,bR] at h;cases h
def B4S{l:List Bool}:(l.set i A5).getD j A5=A5↔l.getD j A5=A5\/j=i:=by
 rw [E67,E67,E76];by_cases h:i=j
 ·subst h;rw [C4 rfl];by_cases hl:i<(l_ l)
  ·rw [C4 hl];simp
  ·rw [C5 hl];simp
 ·rw [C5 h];constructor
  ·exact .inl
  ·rintro (h1 | rfl)
   ·exact h1
   ·exact absurd rfl h
def C6v(h:dM D n c x=A5):(K0 D n c x).taken=c.taken.set x.toNat A5:=by rw [C6w h]
def B9z:dM D n c x=A5↔F6 (l_ D) n x=A5/\c.taken.getD x.toNat A5=A6:=by
 unfold dM;rw [E66,E7Y]
def D6R{c':Cl}(h:c'.taken=c.taken):dM D n c' x=dM D n c x:=by unfold dM;rw [h]
def D6S{c':Cl}(h:c'.taken=c.taken):(K0 D n c' x).taken=(K0 D n c x).taken:=by
 unfold K0;rw [D6R h];cases dM D n c x with
 | false=>exact h
 | true=>show c'.taken.set _ _=c.taken.set _ _;rw [h]
def A5x:∀ {L:List Int} {c c':Cl},c'.taken=c.taken->J1 D n c' L=J1 D n c L
 | [],_,_,_=>rfl
 | x::L,c,c',h=>by
  unfold J1;rw [D6R h,A5x (D6S h),A5x h]
def D1t:∀ {L:List Int} {c c':Cl},c'.taken=c.taken->(cX D n c' L).taken=(cX D n c L).taken
 | [],_,_,h=>h
 | x::L,c,c',h=>by
  show (cX D n (K0 D n c' x) L).taken=(cX D n (K0 D n c x) L).taken;exact D1t (D6S h)
def eZ:J1 D n c (x::L)=x::L↔dM D n c x=A5/\J1 D n (K0 D n c x) L=L:=by
 show (if dM D n c x=A5 then x::J1 D n (K0 D n c x) L else J1 D n c L)=x::L↔_;cases h:dM D n c x with
 | true=>rw [C4 rfl];simp
 | false =>
  rw [C5 (by decide)];constructor
  ·intro e;have:=(keptL_sub (D:=D) (n:=n) (c:=c) (L:=L)).length_le;rw [e] at this;simp at this;omega
  ·rintro ⟨h,_⟩;cases h
def A5y:∀ {L:List Int} {c:Cl},J1 D n c L=L↔L.Nodup/\∀ x∈L,F6 (l_ D) n x=A5/\c.taken.getD x.toNat A5=A6
 | [],c=>by simp [J1]
 | x::L,c=>by
  rw [eZ,A5y,List.nodup_cons];constructor
  ·rintro ⟨hb,hn,hL⟩;obtain ⟨b1,b2⟩:=B9z.1 hb;rw [C6v hb] at hL;refine ⟨⟨λhx=>?_,hn⟩,λy hy=>?_⟩
   ·have:=(hL x hx).2;rw [B4S.2 (.inr rfl)] at this;cases this
   ·rcases E7m.1 hy with rfl | hy
    ·exact ⟨b1,b2⟩
    ·obtain ⟨h1,h2⟩:=hL y hy;refine ⟨h1,?_⟩;cases ht:c.taken.getD y.toNat A5 with
     | false=>rfl
     | true=>rw [B4S.2 (.inl ht)] at h2;cases h2
  ·rintro ⟨⟨hx,hn⟩,hL⟩;obtain ⟨b1,b2⟩:=hL x (E7e ..);have hb:=B9z.2 ⟨b1,b2⟩;refine ⟨hb,hn,λy hy=>?_⟩;obtain ⟨h1,h2⟩:=hL y (E7d _ hy);refine ⟨h1,?_⟩;rw [C6v hb];cases ht:(c.taken.set x.toNat A5).getD y.toNat A5 with
   | false=>rfl
   | true =>
    rcases B4S.1 ht with h | h
    ·rw [h] at h2;cases h2
    ·have e1:=zC b1;have e2:=zC h1;have:y=x:=by omega
     rw [this] at hy;exact absurd hy hx
def B7V:∀ {L:List Int} {c:Cl},J1 D n c L=L->∀ j:Nat,(cX D n c L).taken.getD j A5=A5↔c.taken.getD j A5=A5\/(j:Int)∈L
 | [],c,_,j=>by simp [cX]
 | x::L,c,h,j=>by
  obtain ⟨hb,hL⟩:=eZ.1 h;have ih:=B7V hL j;have hx:=zC (B9z.1 hb).1;show (cX D n (K0 D n c x) L).taken.getD j A5=A5↔_;rw [ih,C6v hb,B4S,E7m];constructor
  ·rintro ((h1 | rfl) | h1)
   ·exact .inl h1
   ·exact .inr (.inl (by omega))
   ·exact .inr (.inr h1)
  ·rintro (h1 | h1 | h1)
   ·exact .inl (.inl h1)
   ·exact .inl (.inr (by omega))
   ·exact .inr h1
def B4y{c:Cl}:∀ {L M:List Int} {c:Cl},J1 D n c (L++M)=L++M↔J1 D n c L=L/\J1 D n (cX D n c L) M=M
 | [],M,c=>by
  show J1 D n c M=M↔_;simp [J1,cX]
 | x::L,M,c=>by
  rw [E8a,eZ,eZ,B4y (c:=c)];exact ⟨λ⟨h1,h2,h3⟩=>⟨⟨h1,h2⟩,h3⟩,λ⟨⟨h1,h2⟩,h3⟩=>⟨h1,h2,h3⟩⟩
variable {no:Int}
def D1G{d:Int}{t:List Int}(sF:X0 D n k dr=A5)(hX:sA D n k dr=d::t)(hb:∀ b∈L,F6 (l_ D) n b=A5)
  {b:Int} (hL:b∈L) {s:Slt} (hs:s∈J3 (blk D b)):isL D n k dr ((b,s.1,s.2.2),s.2.1)=atH D (d::t) (b,s):=by
 have hz:=(zC (hb b hL)).2.2;rw [Bool.eq_iff_iff];unfold isL;rw [decide_eq_true_iff,B5d];show A2v D n k dr s.2.1=A4 (b,s.1,s.2.2)↔_;unfold A2v;rw [hX];constructor
 ·intro h;by_cases c:X0 D n k dr=A5/\F6 (l_ D) n (R3 (d::t) s.2.1)=A5
  ·rw [C4 c] at h;cases hf:U9 (blk D (R3 (d::t) s.2.1)) s.2.1 with
   | none=>rw [hf] at h;cases h
   | some y =>
    rw [hf] at h;obtain ⟨e1,e2⟩:=Prod.mk.inj (E8n h);obtain ⟨e3,e4⟩:=Prod.mk.inj e2;refine ⟨e1,?_⟩;rw [uR e1 hz,<-e1,hf];have hn:=A8e (e:=7) (k:=0) hf
    congr 1
    exact Prod.ext e3 (Prod.ext hn e4)
  ·rw [C5 c] at h;cases h
 ·rintro ⟨h1,h2⟩;rw [uR h1 hz] at h2;rw [C4 ⟨sF,by rw [h1];exact hb b hL⟩,h1,h2];rfl
def D9z:C4D D L=(yJ D L).map λe=>((e.1,e.2.1,e.2.2.2),e.2.2.1):=by
 unfold C4D yJ C0H;rw [List.map_flatMap]
 congr 1
 funext b
 rw [List.map_map];rfl
def C7w{e:Spt}:e∈yJ D L↔e.1∈L/\e.2∈J3 (blk D e.1):=by
 unfold yJ;rw [List.mem_flatMap];constructor
 ·rintro ⟨b,hb,he⟩;obtain ⟨s,hs,rfl⟩:=E7B.1 he;exact ⟨hb,hs⟩
 ·rintro ⟨h1,h2⟩;exact ⟨e.1,h1,E7B.2 ⟨e.2,h2,rfl⟩⟩
def D8u{d:Int}{t:List Int}(sF:X0 D n k dr=A5)(hX:sA D n k dr=d::t)(hB:T5 D n k dr=J5 t (C6 d)) :
  fU D n k dr=S7 D (d::t) (J5 t (C6 d)):=by
 have hb:∀ b∈J5 t (C6 d),F6 (l_ D) n b=A5:=by
  intro b hb;rw [<-hB] at hb;unfold T5 at hb;rw [sF] at hb;exact (E7N.1 hb).2
 have e1:T6 D n k dr (oX D n k dr)=Q0 D (d::t) (yJ D (J5 t (C6 d))):=by
  unfold T6 Q0 oX;rw [hB,D9z,List.filter_map,List.map_map];have:(yJ D (J5 t (C6 d))).filter ((isL D n k dr)∘λe=>((e.1,e.2.1,e.2.2.2),e.2.2.1))=(yJ D (J5 t (C6 d))).filter (atH D (d::t)) :=
   List.filter_congr λe he=>by
    obtain ⟨h1,h2⟩:=C7w.1 he;exact D1G sF hX hb h1 h2
  rw [this];rfl
 unfold fU S7;rw [e1];refine List.map_congr_left λs hs=>?_
 rw [dA] at hs;have hm:=(pG (λno h=>oN h)).1 hs;have hz:=oN hm.1
 congr 1
 unfold D5P B4k A2v;rw [hX,C4 ⟨sF,hb _ hm.1⟩,uR rfl hz];cases U9 (blk D (R3 (d::t) s)) s with
 | none=>rfl
 | some y=>rfl
def D6w{d:Int}{t:List Int}(sF:X0 D n k dr=A5)(hX:sA D n k dr=d::t)(hB:T5 D n k dr=J5 t (C6 d)) :
  dQ D n k dr (oX D n k dr)=[]↔∀ b∈J5 t (C6 d),∀ s∈J3 (blk D b),atH D (d::t) (b,s)=A5:=by
 have hb:∀ b∈J5 t (C6 d),F6 (l_ D) n b=A5:=by
  intro b hb;rw [<-hB] at hb;unfold T5 at hb;rw [sF] at hb;exact (E7N.1 hb).2
 unfold dQ oX;rw [hB,D9z,List.map_eq_nil_iff,List.filter_eq_nil_iff];constructor
 ·intro h b h1 s h2;have:=h ((b,s.1,s.2.2),s.2.1) (E7B.2 ⟨(b,s),C7w.2 ⟨h1,h2⟩,rfl⟩);rw [D1G sF hX hb h1 h2] at this;simpa using this
 ·intro h x hx;obtain ⟨e,he,rfl⟩:=E7B.1 hx;obtain ⟨h1,h2⟩:=C7w.1 he;rw [D1G sF hX hb h1 h2];simpa using h e.1 h1 e.2 h2
end
section
variable {D:Dev} {n a:Int}
def noV(D:Dev)(n a:Int):Int:=(drV D n a).getD 0 0
def dpV(D:Dev)(n a:Int):Int:=getD (blk D (noV D n a))
def toV(D:Dev)(n a:Int):List Int:=O8 (blk D (noV D n a)) 32
def bkV(D:Dev)(n a:Int):List Int:=J5 (toV D n a) (C6 (dpV D n a))
def mkV(D:Dev)(n a:Int):List Int:=if kdV D n a=2 then pJ D n (kdV D n a) (drV D n a) else if (drV D n a).getD 6 0=0 then [] else [(drV D n a).getD 6 0]
structure Stp(D:Dev)(n a:Int)(c c':Cl)(O:List Int)(L:List Ent):Prop where
 kept:J1 D n c O=O
 taken:∀ j:Nat,c'.taken.getD j A5=A5↔c.taken.getD j A5=A5\/(j:Int)∈O
 told:Told D n a L c c'
 lost:c'.lost=c.lost
 put:∀ q∈cZ c',q∈cZ c\/(blk D q.1=q.2/\q.1∈mkV D n a)
 own:pJ D n (kdV D n a) (drV D n a)=O
 list:fU D n (kdV D n a) (drV D n a)=L
structure DirS(D:Dev)(n a:Int):Prop where
 good:Q4 (blk D (noV D n a))=A5
 d0:0<=dpV D n a
 d5:dpV D n a<=5
 fair:Fair (dpV D n a) (toV D n a)
 at_:∀ b∈bkV D n a,∀ s∈J3 (blk D b),atH D (dpV D n a::toV D n a) (b,s)=A5
 clr:∀ b∈bkV D n a,clB (blk D b) (λ_=>A5)=blk D b
structure DirB(D:Dev)(n:Int)(c:Cl)(a:Int):Prop where
 s:DirS D n a
 kept:J1 D n c (noV D n a::bkV D n a)=noV D n a::bkV D n a
 seq:seqT D n a (S7 D (dpV D n a::toV D n a) (bkV D n a)) c
structure DirK(D:Dev)(n:Int)(c:Cl)(a:Int):Prop where
 kd:kdV D n a=2
 dr:drV D n a=noV D n a::zI 6
 body:noV D n a≠0->DirB D n c a
def D0q{X:List Int}{e:Ent}(hz:∀ no∈L,no≠0)(he:e∈S7 D X L):R3 X e.1∈L/\∃ y,hmS D X e.1=A4 y/\y∈J3 (blk D (R3 X e.1))/\y.2=e:=by
 have hv:=D0r he;have hn:e.1∈Q0 D X (yJ D L):=by
  unfold S7 at he;obtain ⟨s,hs,rfl⟩:=E7B.1 he;exact (dA _ _).1 hs
 obtain ⟨h1,h2⟩:=(pG hz).1 hn;refine ⟨h1,?_⟩;cases hm:hmS D X e.1 with
 | none=>rw [hm] at h2;cases h2
 | some y =>
  obtain ⟨_,r2,r3,_⟩:=B9P hm;refine ⟨y,rfl,r2,?_⟩;unfold B4k at hv;rw [hm] at hv;exact Prod.ext r3 hv.symm
def D8A{X:List Int}{b:Int}{s:Slt}(hz:∀ no∈L,no≠0)(hb:b∈L)(ha:atH D X (b,s)=A5):s.2∈S7 D X L:=by
 obtain ⟨h1,h2⟩:=B5d.1 ha;unfold S7;refine E7B.2 ⟨s.2.1,?_,?_⟩
 ·rw [dA,pG hz,h1,h2];exact ⟨hb,rfl⟩
 ·unfold B4k;rw [h2];rfl
def E2p(hbm:c.blocks.length=c.made.length)(h0:noV D n a≠0)(hd:(K5 D n c a).2=noV D n a)(hp:∀ q∈cZ (mD D n c a),blk D q.1=q.2):DirB D n c a:=by
 obtain ⟨k1,k2,k3,k4,k5⟩:=A4c (D:=D) (n:=n) (c:=c) (a:=a) (by rw [hd];exact h0);have e0:(drV D n a).getD 0 0=noV D n a:=rfl;rw [e0] at k2 k3 k4 k5;rw [vJ (by rw [hd];exact h0),hd] at hp;have eD:getD (blk D (noV D n a))=dpV D n a:=rfl;have eT:O8 (blk D (noV D n a)) 32=toV D n a:=rfl;rw [eD,eT] at hp;have hs:=qM (D:=D) (n:=n) (ino:=a) (c:=c);have hib:(T3 D n c a).blocks.length=(T3 D n c a).made.length:=by
  show (K5 D n c a).1.blocks.length=(K5 D n c a).1.made.length;rw [hs.blocks,hs.made];exact hbm
 have hit:(T3 D n c a).taken=(K0 D n c (noV D n a)).taken:=by
  show (K5 D n c a).1.taken=_;rw [k5]
 have hip:(T3 D n c a).par=c.par:=hs.par;obtain ⟨p1,p2⟩:=A38 (D:=D) (n:=n) (c:=T3 D n c a) (a:=a) (no:=noV D n a) (d:=dpV D n a) (t:=toV D n a) hib;rw [p1] at hp;obtain ⟨f0,f5,fF⟩:=A9p (dpV D n a) (toV D n a);obtain ⟨fT,fA,_⟩:=A6K (D:=D) (n:=n) (c:=T3 D n c a) (d:=dpV D n a) (t:=toV D n a);obtain ⟨g1,g2⟩:=C65 f0 f5 fT;have X5:=hp (_,_) (E7C _ (E7e ..));rw [g1] at X5;have X5:blk D (noV D n a)=nJ (O3 (dpV D n a) (toV D n a)) (G6 D n (T3 D n c a) (dpV D n a) (toV D n a)).2:=X5;have hdd:dpV D n a=O3 (dpV D n a) (toV D n a):=by
  have:getD (blk D (noV D n a))=_:=(congrArg getD X5).trans (B9M f0 f5);exact this
 have htt:toV D n a=(G6 D n (T3 D n c a) (dpV D n a) (toV D n a)).2:=by
  have:O8 (blk D (noV D n a)) 32=_:=(congrArg (λb=>O8 b 32) X5).trans (B9N fT.len (B9H fT));exact this
 have d0:0<=dpV D n a:=by rw [hdd];exact f0
 have d5:dpV D n a<=5:=by rw [hdd];exact f5
 have fr:Fair (dpV D n a) (toV D n a):=by
  rw [<-hdd,<-htt] at fT;exact fT
 obtain ⟨x1,x2⟩:=C6V d0 d5 fr;have hL:bkV D n a=J5 (toV D n a) (C6 (dpV D n a)):=rfl;have hBB:G6 D n (T3 D n c a) (dpV D n a) (toV D n a)=V8 D n (T3 D n c a,toV D n a) (bkV D n a):=by
  unfold G6;rw [x1,x2,<-hL]
 have nz:∀ x∈bkV D n a,x≠0:=λx=>oN
 obtain ⟨a1,a2⟩:=A39 (D:=D) (n:=n) (c:=T3 D n c a) (L:=bkV D n a) fr.len B9u nz;rw [<-hBB] at a1 a2;rw [<-htt] at a2;have hk:J1 D n (T3 D n c a) (bkV D n a)=bkV D n a:=by
  refine keptL_sub.eq_of_length (Nat.le_antisymm keptL_sub.length_le ?_);refine (B9u (t:=toV D n a) (n:=C6 (dpV D n a))).length_le_of_subset λx hx=>?_
  have hx':x∈bkV D n a:=hx;obtain ⟨j,_,hj⟩:=(C0c (nz x hx) _).1 hx;have:=a2.get j;rw [hj] at this;by_cases hq:x∈J1 D n (T3 D n c a) (bkV D n a)
  ·exact hq
  ·rw [C5 (by simp [hx',hq])] at this;exact absurd this (nz x hx)
 have hk2:J1 D n c (noV D n a::bkV D n a)=noV D n a::bkV D n a:=by
  rw [eZ];exact ⟨k4,by rw [<-A5x hit];exact hk⟩
 rw [<-hdd,<-htt,<-hL] at hp;obtain ⟨K,hK⟩:=xEq ((bodyT D n (T3 D n c a) a (dpV D n a) (toV D n a)).2);rw [<-hK] at hp;have hb:∀ b∈bkV D n a,blk D b=clB (blk D b) (V5 D (dpV D n a::toV D n a) b K):=λb hb =>
  hp (b,_) (E7C _ (E7d _ (E7B.2 ⟨b,hb,rfl⟩)))
 have Z6:∀ b∈bkV D n a,∀ s∈J3 (blk D b),V5 D (dpV D n a::toV D n a) b K s=A5:=by
  intro b hb' s hs;have e:=D1N (b:=blk D b) (p:=V5 D (dpV D n a::toV D n a) b K);rw [<-hb b hb'] at e;rw [e] at hs;exact (E7N.1 hs).2
 have hat:∀ b∈bkV D n a,∀ s∈J3 (blk D b),atH D (dpV D n a::toV D n a) (b,s)=A5:=λb hb' s hs=>by
  have:=Z6 b hb' s hs;unfold V5 at this;rw [E66] at this;exact this.1
 refine ⟨⟨k2,d0,d5,fr,hat,λb hb'=>?_⟩,hk2,?_⟩
 ·have e:clB (blk D b) (λ_=>A5)=clB (blk D b) (V5 D (dpV D n a::toV D n a) b K):=C1Z λy hy=>(Z6 b hb' y hy).symm
  rw [e];exact (hb b hb').symm
 ·have eT2:bodyT D n (T3 D n c a) a (dpV D n a) (toV D n a)=O9 D n a ((G6 D n (T3 D n c a) (dpV D n a) (toV D n a)).1,λ_=>A7) (S7 D (dpV D n a::toV D n a) (bkV D n a)):=by
   unfold bodyT;rw [<-hdd,<-htt,<-hL]
  rw [eT2] at hK;have hpar:(G6 D n (T3 D n c a) (dpV D n a) (toV D n a)).1.par=c.par:=by
   have hs2:=bO (D:=D) (n:=n) (L:=bkV D n a) (s:=(T3 D n c a,toV D n a));rw [hBB];exact hs2.par.trans hip
  refine B8d hpar.symm (D4F (K:=λ_=>A7) B4D (λ_ _=>rfl) λe he hn=>?_);obtain ⟨m1,y,m2,m3,m4⟩:=D0q nz he;have hy:=Z6 _ m1 y m3;have hy2:=(vN.1 hy).2;have h1:1<=y.2.2:=(B9P m2).2.2.2;rw [m4,hK,hn] at hy2;rw [m4] at h1;have:(0:Int)=e.2:=hy2;omega
def C8h{a:Int}:∀ {L:List Ent} {s:Cl × (List UInt8->Option Int)},(O9 D n a s L).1.lost=s.1.lost
 | [],_=>rfl
 | e::L,s=>by
  have h:=C8h (a:=a) (L:=L) (s:=K4 D n a s e);have h2:(K4 D n a s e).1.lost=s.1.lost:=by
   unfold K4 U4;cases Q6 D n s.1 e.2 with
   | false=>rfl
   | true =>
    show (bif (s.1.par e.2).isSome then A2u s.1 e.2 else C4O (A2u s.1 e.2) a e.2).lost=_;cases (s.1.par e.2).isSome<;>rfl
  exact h.trans h2
def C6t{X:List Int}{K:List UInt8->Option Int}:∀ {L:List Int} {c:Cl},(∀ b∈L,∀ s∈J3 (blk D b),V5 D X b K s=A5)->(P7 D X K c L).lost=c.lost/\(P7 D X K c L).taken=c.taken/\(P7 D X K c L).lnk=c.lnk
 | [],_,_=>⟨rfl,rfl,rfl⟩
 | b::L,c,h=>by
  have key:∀ (l:List Slt) (s:Cl × List UInt8),(∀ x∈l,V5 D X b K x=A5)->(W0 D X b K s l).1=s.1:=by
   intro l
   induction l with
   | nil=>intro s _;rfl
   | cons x l ih =>
    intro s hx;show (W0 D X b K (fL D X b K s x) l).1=s.1;rw [ih _ λy hy=>hx y (E7d _ hy)];unfold fL;rw [hx x (E7e ..)];rfl
  have e:=key _ (c,dY []) (h b (E7e ..));obtain ⟨h1,h2,h3⟩:=C6t (X:=X) (K:=K) (c:=dP D X K c b) (L:=L) λb' hb'=>h b' (E7d _ hb')
  have e2:(dP D X K c b).lost=c.lost/\(dP D X K c b).taken=c.taken/\(dP D X K c b).lnk=c.lnk:=by
   unfold dP;show (W0 D X b K (c,dY []) _).1.lost=_/\(W0 D X b K (c,dY []) _).1.taken=_/\(W0 D X b K (c,dY []) _).1.lnk=_;rw [e];exact ⟨rfl,rfl,rfl⟩
  exact ⟨h1.trans e2.1,h2.trans e2.2.1,h3.trans e2.2.2⟩
def D7Q(sF:X0 D n k dr=A5)(hb:∀ b∈J5 (O8 (blk D (dr.getD 0 0)) 32) (C6 (getD (blk D (dr.getD 0 0)))),F6 (l_ D) n b=A5) :
  T5 D n k dr=J5 (O8 (blk D (dr.getD 0 0)) 32) (C6 (getD (blk D (dr.getD 0 0)))):=by
 unfold T5;rw [sF];exact List.filter_eq_self.2 hb
def B9C(hk:kdV D n a=2)(hg:Q4 (blk D (noV D n a))=A5)(hd:∀ x∈noV D n a::bkV D n a,F6 (l_ D) n x=A5) :
  X0 D n (kdV D n a) (drV D n a)=A5/\sA D n (kdV D n a) (drV D n a)=dpV D n a::toV D n a/\T5 D n (kdV D n a) (drV D n a)=bkV D n a /\
  pJ D n (kdV D n a) (drV D n a)=noV D n a::bkV D n a/\fU D n (kdV D n a) (drV D n a)=S7 D (dpV D n a::toV D n a) (bkV D n a):=by
 have sF:X0 D n (kdV D n a) (drV D n a)=A5:=by
  unfold X0;have e0:(drV D n a).getD 0 0=noV D n a:=rfl;rw [hk,e0,hg,hd _ (E7e ..)];rfl
 have hX:sA D n (kdV D n a) (drV D n a)=dpV D n a::toV D n a:=by unfold sA;rw [sF];rfl
 have hB:T5 D n (kdV D n a) (drV D n a)=bkV D n a:=D7Q sF λb hb=>hd b (E7d _ hb)
 refine ⟨sF,hX,hB,?_,D8u sF hX hB⟩;unfold pJ;rw [C4 hk,sF,C4 rfl,hB];rfl
def D3b(hk:kdV D n a=2)(h0:noV D n a=0):X0 D n (kdV D n a) (drV D n a)=A6/\pJ D n (kdV D n a) (drV D n a)=[]/\fU D n (kdV D n a) (drV D n a)=[]:=by
 have e0:(drV D n a).getD 0 0=noV D n a:=rfl;have sF:X0 D n (kdV D n a) (drV D n a)=A6:=by
  unfold X0;rw [e0,h0,bR];simp
 have hB:T5 D n (kdV D n a) (drV D n a)=[]:=by unfold T5;rw [sF];rfl
 refine ⟨sF,?_,?_⟩
 ·unfold pJ;rw [C4 hk,sF,C5 (by decide),hB];rfl
 ·unfold fU T6 oX;rw [hB];rfl
def D7X(hbm:c.blocks.length=c.made.length)(K:DirK D n c a) :
  (K5 D n c a).2=noV D n a/\∃ O L,Stp D n a c (mD D n c a) O L/\((noV D n a=0/\O=[]/\L=[])\/(noV D n a≠0/\O=noV D n a::bkV D n a/\L=S7 D (dpV D n a::toV D n a) (bkV D n a))):=by
 have hs:=qM (D:=D) (n:=n) (ino:=a) (c:=c);have e0:(drV D n a).getD 0 0=noV D n a:=rfl;by_cases h0:noV D n a=0
 ·have hp:(K5 D n c a).2=0:=by
   unfold K5;rw [e0,h0];cases (decide (kdV D n a=2)&&Q4 (blk D 0)) with
   | false=>rfl
   | true=>exact A9h.1
  refine ⟨by rw [hp,h0],[],[],?_,.inl ⟨h0,rfl,rfl⟩⟩;obtain ⟨_,o1,o2⟩:=D3b K.kd h0;rw [A4b hp];have hn:=C13 hp;have t1:(T3 D n c a).taken=c.taken:=by show (K5 D n c a).1.taken=_;rw [hn]
  have t2:(T3 D n c a).par=c.par:=hs.par;have t3:(T3 D n c a).lnk=c.lnk:=hs.lnk;have td:=C5f (D:=D) (n:=n) (a:=a) (L:=[]) (c:=c) (.nil _);refine ⟨rfl,λj=>by rw [t1];simp,⟨λx=>by rw [t2];exact td.par x,λx=>by rw [t3];exact td.lnk x,td.one,td.dir⟩,hs.lost,λq hq=>.inl ?_,o1,o2⟩;have:q∈(K5 D n c a).1.blocks.zip (K5 D n c a).1.made:=hq;rw [hs.blocks,hs.made] at this;exact this
 ·obtain ⟨⟨good,d0,d5,fair,hat,clr⟩,kept,seq⟩:=K.body h0;obtain ⟨k4,kL⟩:=eZ.1 kept;have A8g:∀ x∈noV D n a::bkV D n a,F6 (l_ D) n x=A5:=λx hx=>((A5y.1 kept).2 x hx).1
  obtain ⟨_,_,_,o1,o2⟩:=B9C K.kd good A8g;have hP:K5 D n c a=(K0 D n c (noV D n a),noV D n a):=by
   unfold K5;rw [e0,K.kd,good];show (K0 D n c (noV D n a),K3 D n c (noV D n a))=_;rw [yT k4]
  have hp2:(K5 D n c a).2=noV D n a:=by rw [hP]
  refine ⟨hp2,noV D n a::bkV D n a,S7 D (dpV D n a::toV D n a) (bkV D n a),?_,.inr ⟨h0,rfl,rfl⟩⟩;have hib:(T3 D n c a).blocks.length=(T3 D n c a).made.length:=by
   show (K5 D n c a).1.blocks.length=(K5 D n c a).1.made.length;rw [hs.blocks,hs.made];exact hbm
  have hit:(T3 D n c a).taken=(K0 D n c (noV D n a)).taken:=by show (K5 D n c a).1.taken=_;rw [hP]
  obtain ⟨x1,x2⟩:=C6V d0 d5 fair;have hL:bkV D n a=J5 (toV D n a) (C6 (dpV D n a)):=rfl;have nz:∀ x∈bkV D n a,x≠0:=λx=>oN
  have hBB:G6 D n (T3 D n c a) (dpV D n a) (toV D n a)=(cX D n (T3 D n c a) (bkV D n a),toV D n a):=by
   unfold G6;rw [x1,x2,<-hL];exact A6L nz (by rw [A5x hit];exact kL)
  obtain ⟨B,hB⟩:=xEq (cX D n (T3 D n c a) (bkV D n a));rw [<-hB] at hBB;have hsB:SameC (T3 D n c a) B:=by
   have:=bO (D:=D) (n:=n) (L:=bkV D n a) (s:=(T3 D n c a,toV D n a));rw [A6L nz (by rw [A5x hit];exact kL),<-hB] at this;exact this
  have eT2:bodyT D n (T3 D n c a) a (dpV D n a) (toV D n a)=O9 D n a (B,λ_=>A7) (S7 D (dpV D n a::toV D n a) (bkV D n a)):=by
   unfold bodyT;rw [hBB,x1,<-hL]
  have hpar:B.par=c.par:=hsB.par.trans hs.par;have E6n:B.lnk=c.lnk:=hsB.lnk.trans hs.lnk;have seqB:=B8d hpar seq;obtain ⟨T,hT⟩:=xEq (O9 D n a (B,λ_=>A7) (S7 D (dpV D n a::toV D n a) (bkV D n a)));rw [<-hT] at eT2;have hT1:T.1=D0R D n a B (S7 D (dpV D n a::toV D n a) (bkV D n a)):=by rw [hT];exact D00 seqB
  have hT2:∀ e∈S7 D (dpV D n a::toV D n a) (bkV D n a),T.2 e.1=A4 e.2:=by rw [hT];exact D0U B4D seqB
  have tB:=C5f seqB;rw [<-hT1] at tB;have Z6:∀ b∈bkV D n a,∀ s∈J3 (blk D b),V5 D (dpV D n a::toV D n a) b T.2 s=A5:=by
   intro b hb s hs';have h1:=hat b hb s hs';have h2:=hT2 _ (D8A nz hb h1);unfold V5;rw [h1,h2];simp
  have hC:mD D n c a=bJ D n (T3 D n c a) a (noV D n a) (dpV D n a) (toV D n a):=by
   rw [vJ (by rw [hp2];exact h0),hp2];rfl
  have hbl:B.blocks.length=B.made.length:=by rw [hsB.blocks,hsB.made];exact hib
  have C2g:=(A38 (D:=D) (n:=n) (c:=T3 D n c a) (a:=a) (no:=noV D n a) (d:=dpV D n a) (t:=toV D n a) hib).1;rw [<-hC,hBB,eT2,x1,<-hL] at C2g;have A5r:mD D n c a=P7 D (dpV D n a::toV D n a) T.2 (dO T.1 (noV D n a) (bif okX (dpV D n a) (toV D n a) then nJ (dpV D n a) (toV D n a) else zeros 256)) (bkV D n a):=by
   rw [hC];unfold bJ;rw [hBB,eT2,x1,<-hL]
  obtain ⟨c1,c2,c3⟩:=C6t (X:=dpV D n a::toV D n a) (K:=T.2) (c:=dO T.1 (noV D n a) (bif okX (dpV D n a) (toV D n a) then nJ (dpV D n a) (toV D n a) else zeros 256)) (L:=bkV D n a) Z6;rw [<-A5r] at c1 c2 c3;have c4:(mD D n c a).par=T.1.par:=by rw [A5r];exact oU.2
  have eTt:T.1.taken=B.taken:=by rw [hT];exact B4X
  refine ⟨kept,λj=>?_,⟨λx=>?_,λx=>?_,tB.one,λe he hk=>?_⟩,?_,λq hq=>?_,o1,o2⟩
  ·rw [c2];show T.1.taken.getD j A5=A5↔_;rw [eTt,hB,<-B7V kept j];have:(cX D n (T3 D n c a) (bkV D n a)).taken=(cX D n c (noV D n a::bkV D n a)).taken:=D1t hit;rw [this]
  ·rw [c4,tB.par,hpar]
  ·rw [c3];show (T.1.lnk x).getD 0=_;rw [tB.lnk,E6n]
  ·have:=tB.dir e he hk;rw [hpar] at this;exact this
  ·rw [c1];show T.1.lost=_;have:T.1.lost=B.lost:=by rw [hT];exact C8h
   rw [this,hsB.lost];show (K5 D n c a).1.lost=_;exact hs.lost
  ·rw [C2g] at hq;rcases E7J.1 hq with h | h
   ·left
    have:q∈(K5 D n c a).1.blocks.zip (K5 D n c a).1.made:=h;rw [hs.blocks,hs.made] at this;exact this
   ·right
    have hmk:mkV D n a=noV D n a::bkV D n a:=by unfold mkV;rw [C4 K.kd,o1]
    refine ⟨?_,by
     rw [hmk];rcases E7m.1 h with rfl | h
     ·exact E7e ..
     ·obtain ⟨b,hb,rfl⟩:=E7B.1 h;exact E7d _ hb⟩
    rcases E7m.1 h with rfl | h
    ·unfold Q4 at good;rw [E66,E66] at good;have g1:okX (dpV D n a) (toV D n a)=A5:=good.1;have g2:nJ (dpV D n a) (toV D n a)=blk D (noV D n a):=of_decide_eq_true good.2.1;show blk D (noV D n a)=bif okX (dpV D n a) (toV D n a) then nJ (dpV D n a) (toV D n a) else zeros 256
     rw [g1,g2];rfl
    ·obtain ⟨b,hb,rfl⟩:=E7B.1 h;show blk D b=clB (blk D b) (V5 D (dpV D n a::toV D n a) b T.2);have:clB (blk D b) (V5 D (dpV D n a::toV D n a) b T.2)=clB (blk D b) (λ_=>A5):=C1Z λy hy=>Z6 b hb y hy
     rw [this,clr b hb]
end
def nzL(L:List Int):List Int:=L.filter λx=>!decide (x=0)
def E2O{M:List Int}:nzL (L++M)=nzL L++nzL M:=by unfold nzL;rw [E8k]
def B4J:nzL ((0:Int)::L)=nzL L:=by unfold nzL;rw [E73 (by simp)]
def zG(h:x≠0):nzL (x::L)=x::nzL L:=by unfold nzL;rw [E7Z (by simpa using h)]
def C7M(h:∀ x∈L,x=0):nzL L=[]:=by
 unfold nzL;exact List.filter_eq_nil_iff.2 λx hx=>by simpa using h x hx
def W6(f:Nat->Int)(k e:Nat):List Int:=nzL ((E7G k e).map f)
def A1a{k:Nat}:W6 f k (e+1)=if f k=0 then W6 f (k+1) e else f k::W6 f (k+1) e:=by
 unfold W6;rw [List.range'_succ,E7X];by_cases h:f k=0
 ·rw [h,B4J,C4 rfl]
 ·rw [zG h,C5 h]
def D31{m:Nat}(hm:m<=e)(h:∀ j,m<=j->j<e->f j=0):W6 f 0 e=W6 f 0 m:=by
 have:E7G 0 e=E7G 0 m++E7G m (e-m):=by
  rw [show e=m+(e-m) by omega,<-List.range'_append];simp
 unfold W6;rw [this,E72,E2O];rw [C7M (L:=(E7G m (e-m)).map f),E7q];intro x hx;obtain ⟨j,hj,rfl⟩:=E7B.1 hx;rw [E8o] at hj;exact h j hj.1 (by omega)
def B77{g:Nat->Int}{k:Nat}(h:∀ j,k<=j->j<k+e->f j=g j):W6 f k e=W6 g k e:=by
 unfold W6
 congr 1
 exact List.map_congr_left λj hj=>by
  rw [E8o] at hj;exact h j hj.1 hj.2
def A9H{k:Nat}:x∈W6 f k e↔x≠0/\∃ j,k<=j/\j<k+e/\f j=x:=by
 unfold W6 nzL;rw [E7N,E7B];simp only [E8o,E7Y,decide_eq_false_iff_not];constructor
 ·rintro ⟨⟨j,hj,h⟩,h0⟩;exact ⟨h0,j,hj.1,hj.2,h⟩
 ·rintro ⟨h0,j,h1,h2,h⟩;exact ⟨⟨j,⟨h1,h2⟩,h⟩,h0⟩
def C7G{s:Nat}:∀ {e k:Nat},W6 f (s+k) e=W6 (λj=>f (s+j)) k e
 | 0,_=>rfl
 | e+1,k=>by
  rw [A1a,A1a,show s+k+1=s+(k+1) by omega,C7G]
def C14{at':Int->Int}{f:Nat->Int}:∀ {e k:Nat},(∀ j,k<=j->j<k+e->at' (j:Int)=f j)->(bU at' e k).map (·.2)=W6 f k e
 | 0,_,_=>rfl
 | e+1,k,h=>by
  have h0:=h k (E69 _) (by omega);have ih:=C14 (at':=at') (f:=f) (e:=e) (k:=k+1) λj h1 h2=>h j (by omega) (by omega)
  rw [A1a,bU,h0];by_cases c:f k=0
  ·rw [C4 c,C4 c,ih]
  ·rw [C5 c,C5 c,E7X,ih]
section
variable {D:Dev} {n a:Int}
def B5i:cX D n c (x::L)=cX D n (K0 D n c x) L:=rfl
def D22{M:List Int}:cX D n c (L++M)=cX D n (cX D n c L) M:=by unfold cX;rw [List.foldl_append]
def B9A:K0 D n c 0=c:=A9h.2
def C6E{d:List Int}:∀ {e k:Nat} {s:Cl × List Int},k+e<=s.2.length->(∀ j,k<=j->j<k+e->(cE D n d e k s).2.getD j 0=d.getD j 0) ->
  (cE D n d e k s).1=cX D n s.1 (W6 (λj=>d.getD j 0) k e)/\J1 D n s.1 (W6 (λj=>d.getD j 0) k e)=W6 (λj=>d.getD j 0) k e
 | 0,_,_,_,_=>⟨rfl,rfl⟩
 | e+1,k,s,hl,h=>by
  have e1:(cE D n d (e+1) k s).2.getD k 0=K3 D n s.1 (d.getD k 0):=by
   show (cE D n d e (k+1) (K0 D n s.1 (d.getD k 0),s.2.set k (K3 D n s.1 (d.getD k 0)))).2.getD k 0=_;rw [gL (by omega)];show (s.2.set k _).getD k 0=_;rw [E67,E76,C4 rfl,C4 (by omega)];rfl
  have h0:=h k (E69 _) (by omega);rw [e1] at h0;obtain ⟨i1,i2⟩:=C6E (d:=d) (e:=e) (k:=k+1) (s:=(K0 D n s.1 (d.getD k 0),s.2.set k (K3 D n s.1 (d.getD k 0)))) (by show k+1+e<=(s.2.set k _).length;rw [E7R];omega) (λj h1 h2=>h j (by omega) (by omega));have i1:(cE D n d (e+1) k s).1=cX D n (K0 D n s.1 (d.getD k 0)) (W6 (λj=>d.getD j 0) (k+1) e):=i1;have i2:J1 D n (K0 D n s.1 (d.getD k 0)) (W6 (λj=>d.getD j 0) (k+1) e)=W6 (λj=>d.getD j 0) (k+1) e:=i2;rw [A1a];by_cases c:d.getD k 0=0
  ·rw [C4 c];rw [c,B9A] at i1 i2;exact ⟨i1,i2⟩
  ·rw [C5 c,B5i,eZ];exact ⟨i1,(A6R (by rw [h0];exact c)).2,i2⟩
def D28{d:List Int}:∀ {e k:Nat} {s:Cl × List Int},k+e<=s.2.length->J1 D n s.1 (W6 (λj=>d.getD j 0) k e)=W6 (λj=>d.getD j 0) k e ->
  (cE D n d e k s).1=cX D n s.1 (W6 (λj=>d.getD j 0) k e)/\∀ j,k<=j->j<k+e->(cE D n d e k s).2.getD j 0=d.getD j 0
 | 0,_,_,_,_=>⟨rfl,λj h1 h2=>by omega⟩
 | e+1,k,s,hl,h=>by
  have e1:(cE D n d (e+1) k s).2.getD k 0=K3 D n s.1 (d.getD k 0):=by
   show (cE D n d e (k+1) (K0 D n s.1 (d.getD k 0),s.2.set k (K3 D n s.1 (d.getD k 0)))).2.getD k 0=_;rw [gL (by omega)];show (s.2.set k _).getD k 0=_;rw [E67,E76,C4 rfl,C4 (by omega)];rfl
  rw [A1a] at h ⊢;have key:K3 D n s.1 (d.getD k 0)=d.getD k 0/\J1 D n (K0 D n s.1 (d.getD k 0)) (W6 (λj=>d.getD j 0) (k+1) e)=W6 (λj=>d.getD j 0) (k+1) e:=by
   by_cases c:d.getD k 0=0
   ·rw [C4 c] at h;rw [c,B9A];exact ⟨A9h.1,h⟩
   ·rw [C5 c,eZ] at h;exact ⟨yT h.1,h.2⟩
  obtain ⟨i1,i2⟩:=D28 (d:=d) (e:=e) (k:=k+1) (s:=(K0 D n s.1 (d.getD k 0),s.2.set k (K3 D n s.1 (d.getD k 0)))) (by show k+1+e<=(s.2.set k _).length;rw [E7R];omega) key.2;refine ⟨?_,λj h1 h2=>?_⟩
  ·have i1:(cE D n d (e+1) k s).1=cX D n (K0 D n s.1 (d.getD k 0)) (W6 (λj=>d.getD j 0) (k+1) e):=i1;rw [i1];by_cases c:d.getD k 0=0
   ·rw [C4 c,c,B9A]
   ·rw [C5 c,B5i]
  ·by_cases c:j=k
   ·subst c;rw [e1,key.1]
   ·exact i2 j (by omega) (by omega)
def B38{many:Int}(hb:l_ b=256):∀ {e k:Nat} {c:Cl},k+e<=128->(∀ j,k<=j->j<k+e->ptP (K7 D n many e k (c,b)).2 j=ptP b j) ->
  (K7 D n many e k (c,b)).1=cX D n c (W6 (ptP b) k e)/\J1 D n c (W6 (ptP b) k e)=W6 (ptP b) k e/\∀ j,k<=j->j<k+e->ptP b j≠0->(j:Int)+6<many
 | 0,_,_,_,_=>⟨rfl,rfl,λj h1 h2=>by omega⟩
 | e+1,k,c,hl,h=>by
  have hf:ptP (K7 D n many (e+1) k (c,b)).2 k=if ptP b k≠0/\(k:Int)+6<many/\K3 D n c (ptP b k)≠0 then ptP b k else 0:=by
   show ptP (K7 D n many e (k+1) (R2 D n many (c,b) k)).2 k=_;rw [A6T (by omega) (by rw [A03];exact hb;omega) (by omega) (.inl (by omega)),B4d hb (by omega) (by omega),C4 rfl]
  have h0:=h k (E69 _) (by omega);rw [hf] at h0;rw [A1a];by_cases z:ptP b k=0
  ·have e1:R2 D n many (c,b) k=(c,b):=by unfold R2;rw [C4 z]
   have e2:K7 D n many (e+1) k (c,b)=K7 D n many e (k+1) (c,b):=by
    show K7 D n many e (k+1) (R2 D n many (c,b) k)=_;rw [e1]
   rw [e2] at h ⊢;obtain ⟨i1,i2,i3⟩:=B38 hb (e:=e) (k:=k+1) (c:=c) (by omega) λj h1 h2=>h j (by omega) (by omega)
   rw [C4 z];refine ⟨i1,i2,λj h1 h2 h3=>?_⟩;by_cases c1:j=k
   ·subst c1;exact absurd z h3
   ·exact i3 j (by omega) (by omega) h3
  ·by_cases hc:ptP b k≠0/\(k:Int)+6<many/\K3 D n c (ptP b k)≠0
   ·have e1:R2 D n many (c,b) k=(K0 D n c (ptP b k),b):=by
     unfold R2;rw [C5 z,C4 hc.2.1,R9 hc.2.1,aC hc.2.2];rfl
    have e2:K7 D n many (e+1) k (c,b)=K7 D n many e (k+1) (K0 D n c (ptP b k),b):=by
     show K7 D n many e (k+1) (R2 D n many (c,b) k)=_;rw [e1]
    rw [e2] at h ⊢;obtain ⟨i1,i2,i3⟩:=B38 hb (e:=e) (k:=k+1) (c:=K0 D n c (ptP b k)) (by omega) λj h1 h2=>h j (by omega) (by omega)
    rw [C5 z,B5i,eZ];refine ⟨i1,⟨(A6R hc.2.2).2,i2⟩,λj h1 h2 h3=>?_⟩;by_cases c1:j=k
    ·subst c1;exact hc.2.1
    ·exact i3 j (by omega) (by omega) h3
   ·rw [C5 hc] at h0;exact absurd h0.symm z
def C17{many:Int}:∀ {e k:Nat} {c:Cl},J1 D n c (W6 (ptP b) k e)=W6 (ptP b) k e->(∀ j,k<=j->j<k+e->ptP b j≠0->(j:Int)+6<many) ->
  K7 D n many e k (c,b)=(cX D n c (W6 (ptP b) k e),b)
 | 0,_,_,_,_=>rfl
 | e+1,k,c,h,hm=>by
  rw [A1a] at h ⊢;show K7 D n many e (k+1) (R2 D n many (c,b) k)=_;by_cases z:ptP b k=0
  ·have e1:R2 D n many (c,b) k=(c,b):=by unfold R2;rw [C4 z]
   rw [C4 z] at h ⊢;rw [e1,C17 h λj h1 h2=>hm j (by omega) (by omega)]
  ·rw [C5 z,eZ] at h;have hk:=hm k (E69 _) (by omega) z;have e1:R2 D n many (c,b) k=(K0 D n c (ptP b k),b):=by
    unfold R2;have:K3 D n c (ptP b k)≠0:=by rw [yT h.1];exact z
    rw [C5 z,C4 hk,R9 hk,aC this];rfl
   rw [e1,C5 z,B5i,C17 h.2 λj h1 h2=>hm j (by omega) (by omega)]
def S3(D:Dev)(n a:Int):Int:=(drV D n a).getD 6 0
def wD(D:Dev)(n a:Int)(j:Nat):Int:=if S3 D n a=0 then 0 else ptP (blk D (S3 D n a)) j
def flV(D:Dev)(n a:Int):List Int:=W6 (λj=>(drV D n a).getD j 0) 0 6++nzL [S3 D n a]++W6 (wD D n a) 0 128
structure FilS(D:Dev)(n a:Int):Prop where
 num:∀ j:Nat,j<6->(drV D n a).getD j 0≠0->(j:Int)<T2 (szV D n a)
 ind:S3 D n a≠0->6<T2 (szV D n a)
 pts:∀ j:Nat,j<128->wD D n a j≠0->(j:Int)+6<T2 (szV D n a)
def D6Z(h1:∀ j:Nat,j<6->(H7 D n c a).2.getD j 0=(drV D n a).getD j 0)(h6:(H7 D n c a).2.getD 6 0=S3 D n a) :
  (∀ j:Nat,j<6->(drV D n a).getD j 0≠0->(j:Int)<T2 (szV D n a))/\(S3 D n a≠0->6<T2 (szV D n a)) /\
  (H7 D n c a).1=cX D n c (W6 (λj=>(drV D n a).getD j 0) 0 6++nzL [S3 D n a])/\J1 D n c (W6 (λj=>(drV D n a).getD j 0) 0 6++nzL [S3 D n a])=W6 (λj=>(drV D n a).getD j 0) 0 6++nzL [S3 D n a]:=by
 rw [A00] at h1 h6 ⊢;obtain ⟨m,hm⟩:=xEq ((min (T2 (szV D n a)) 6).toNat);have m6:m<=6:=by omega
 unfold A2x at h1 h6 ⊢;rw [<-hm] at h1 h6 ⊢;obtain ⟨s,hs⟩:=xEq (cE D n (drV D n a) m 0 (c,zI 7));have sl:s.2.length=7:=by rw [hs,A0Y.2];simp [zI]
 have eI:∀ j,j<6->(A04 D n (drV D n a) (T2 (szV D n a)) s).2.getD j 0=s.2.getD j 0:=by
  intro j hj;unfold A04;split
  ·show (s.2.set 6 _).getD j 0=_;rw [E67,E8c (by omega),<-E67]
  ·rfl
 rw [<-hs] at h1 h6 ⊢;have h1':∀ j,j<6->s.2.getD j 0=(drV D n a).getD j 0:=λj hj=>(eI j hj).symm.trans (h1 j hj)
 have hz:∀ j,m<=j->j<6->(drV D n a).getD j 0=0:=by
  intro j h2 h3;rw [<-h1' j h3,hs,gL (by omega)];show (zI 7).getD j 0=0;unfold zI;rw [E67,List.getElem?_replicate];split<;>rfl
 obtain ⟨k1,k2⟩:=C6E (D:=D) (n:=n) (d:=drV D n a) (e:=m) (k:=0) (s:=(c,zI 7)) (by simp [zI];omega) λj _ h2=>by rw [<-hs];exact h1' j (by omega)
 rw [<-hs] at k1;have e6:=D31 (f:=λj=>(drV D n a).getD j 0) m6 hz;rw [e6];have k1:s.1=cX D n c (W6 (λj=>(drV D n a).getD j 0) 0 m):=k1;have k2:J1 D n c (W6 (λj=>(drV D n a).getD j 0) 0 m)=W6 (λj=>(drV D n a).getD j 0) 0 m:=k2;have ei:(drV D n a).getD 6 0=S3 D n a:=rfl;refine ⟨λj hj h0=>?_,λh0=>?_,?_⟩
 ·rcases Nat.lt_or_ge j m with h | h
  ·omega
  ·exact absurd (hz j h hj) h0
 ·by_cases h:6<T2 (szV D n a)
  ·exact h
  ·exfalso;unfold A04 at h6;rw [C5 h,hs,gL (by omega)] at h6;exact h0 h6.symm
 ·unfold A04 at h6 ⊢;by_cases h:6<T2 (szV D n a)
  ·rw [C4 h] at h6 ⊢;have h6:(s.2.set 6 (K3 D n s.1 ((drV D n a).getD 6 0))).getD 6 0=S3 D n a:=h6;rw [E67,E76,C4 rfl,C4 (by omega),ei] at h6;have h6:K3 D n s.1 (S3 D n a)=S3 D n a:=h6;show K0 D n s.1 ((drV D n a).getD 6 0)=_/\_;rw [ei,B4y (c:=c),D22,<-k1];by_cases z:S3 D n a=0
   ·rw [z,B4J,B9A];exact ⟨rfl,k2,rfl⟩
   ·rw [zG z];refine ⟨rfl,k2,?_⟩;exact eZ.2 ⟨(A6R (by rw [h6];exact z)).2,rfl⟩
  ·rw [C5 h] at h6 ⊢;have z:S3 D n a=0:=by
    rw [hs,gL (by omega)] at h6;exact h6.symm
   rw [z,B4J];show s.1=cX D n c (_++[])/\J1 D n c (_++[])=_++[];rw [E7q];exact ⟨k1,k2⟩
def E0h(hD:okD D)(hd:(H7 D n c a).2=drV D n a)(hp:S3 D n a≠0->(K7 D n (T2 (szV D n a)) 128 0 (L5 D n c a,blk D (S3 D n a))).2=blk D (S3 D n a)) :
  FilS D n a/\J1 D n c (flV D n a)=flV D n a:=by
 obtain ⟨s1,s2,s3,s4⟩:=D6Z (D:=D) (n:=n) (a:=a) (c:=c) (λj _=>by rw [hd]) (by rw [hd];rfl);have ht:(L5 D n c a).taken=(cX D n c (W6 (λj=>(drV D n a).getD j 0) 0 6++nzL [S3 D n a])).taken:=by
  show (H7 D n c a).1.taken=_;rw [s3]
 unfold flV;rw [B4y (c:=c)];by_cases z:S3 D n a=0
 ·have e:W6 (wD D n a) 0 128=[]:=by
   unfold W6;exact C7M λx hx=>by
    obtain ⟨j,_,rfl⟩:=E7B.1 hx;unfold wD;rw [C4 z]
  refine ⟨⟨s1,s2,λj _ h=>?_⟩,s4,by rw [e];rfl⟩;unfold wD at h;rw [C4 z] at h;exact absurd rfl h
 ·obtain ⟨f1,f2,f3⟩:=B38 (D:=D) (n:=n) (many:=T2 (szV D n a)) (b:=blk D (S3 D n a)) (J8 hD) (e:=128) (k:=0) (c:=L5 D n c a) (by omega) λj _ _=>by rw [hp z]
  have e:W6 (wD D n a) 0 128=W6 (ptP (blk D (S3 D n a))) 0 128:=B77 λj _ _=>by unfold wD;rw [C5 z]
  refine ⟨⟨s1,s2,λj hj h=>?_⟩,s4,?_⟩
  ·unfold wD at h;rw [C5 z] at h;exact f3 j (by omega) (by omega) h
  ·rw [e,<-A5x ht];exact f2
def B5p(hk:kdV D n a=1)(hd:∀ x∈flV D n a,F6 (l_ D) n x=A5):pJ D n (kdV D n a) (drV D n a)=flV D n a/\fU D n (kdV D n a) (drV D n a)=[]:=by
 constructor
 ·rw [hk];have n12:¬ (1:Int)=2:=by decide
  unfold pJ;rw [C5 n12];have ei:(drV D n a).getD 6 0=S3 D n a:=rfl;have eI:(if (1:Int)=1/\F6 (l_ D) n ((drV D n a).getD 6 0)=A5 then [(drV D n a).getD 6 0] else [])=nzL [S3 D n a]:=by
   rw [ei];by_cases z:S3 D n a=0
   ·rw [z,B4J,C5 (by rw [bR];simp)];rfl
   ·rw [zG z,C4 ⟨rfl,hd _ (E7I _ (E7C _ (by rw [zG z];exact E7e ..)))⟩];rfl
  have e1:(bU (atF D n 1 (drV D n a)) 6 0).map (·.2)=W6 (λj=>(drV D n a).getD j 0) 0 6:=by
   refine C14 λj _ hj=>?_
   unfold atF fM C2B;rw [C4 ⟨rfl,by omega,by omega⟩,E7s,C4 (by omega)];by_cases z:(drV D n a).getD j 0=0
   ·rw [z,bR];rfl
   ·rw [hd _ (E7I _ (E7I _ (A9H.2 ⟨z,j,by omega,by omega,rfl⟩)))];rfl
  have e2:(bU (atF D n 1 (drV D n a)) 128 6).map (·.2)=W6 (wD D n a) 0 128:=by
   have:=C7G (f:=λj=>wD D n a (j-6)) (s:=6) (e:=128) (k:=0);have h2:W6 (λj=>wD D n a (6+j-6)) 0 128=W6 (wD D n a) 0 128:=B77 λj _ _=>by rw [Nat.add_sub_cancel_left]
   rw [<-h2,<-this];refine C14 λj h6 hj=>?_
   unfold atF fM C2B;rw [C4 ⟨rfl,by omega,by omega⟩,E7s,C5 (by omega),ei];by_cases z:S3 D n a=0
   ·have:wD D n a (j-6)=0:=by unfold wD;rw [C4 z]
    rw [this,z,bR];show (bif F6 (l_ D) n 0 then (0:Int) else 0)=0;rw [bR];rfl
   ·have hi:F6 (l_ D) n (S3 D n a)=A5:=hd _ (E7I _ (E7C _ (by rw [zG z];exact E7e ..)));have hp:wD D n a (j-6)=ptP (blk D (S3 D n a)) (j-6):=by unfold wD;rw [C5 z]
    rw [hi,R8,<-hp];by_cases z2:wD D n a (j-6)=0
    ·rw [z2,bR];rfl
    ·rw [hd _ (E7C _ (A9H.2 ⟨z2,j-6,by omega,by omega,rfl⟩))];rfl
  rw [eI,e1,e2];rfl
 ·have sF:X0 D n (kdV D n a) (drV D n a)=A6:=by unfold X0;rw [hk];rfl
  have hB:T5 D n (kdV D n a) (drV D n a)=[]:=by unfold T5;rw [sF];rfl
  unfold fU T6 oX;rw [hB];rfl
def D5B(hD:okD D)(hbm:c.blocks.length=c.made.length)(hk:kdV D n a=1)(S:FilS D n a)(kept:J1 D n c (flV D n a)=flV D n a) :
  (H7 D n c a).2=drV D n a/\Stp D n a c (U0 D n c a) (flV D n a) []:=by
 have A8g:∀ x∈flV D n a,F6 (l_ D) n x=A5:=λx hx=>((A5y.1 kept).2 x hx).1
 obtain ⟨o1,o2⟩:=B5p hk A8g;have kept0:=kept;unfold flV at kept;rw [B4y (c:=c)] at kept;obtain ⟨ka,kp⟩:=kept;rw [B4y (c:=c)] at ka;obtain ⟨kn,ki⟩:=ka;have hL7:=J9 (D:=D) (n:=n) (i:=a);have hfd:(H7 D n c a).2=drV D n a:=by
  rw [A00];obtain ⟨m,hm⟩:=xEq ((min (T2 (szV D n a)) 6).toNat);have m6:m<=6:=by omega
  unfold A2x;rw [<-hm];have hz:∀ j,m<=j->j<6->(drV D n a).getD j 0=0:=by
   intro j h2 h3;by_cases z:(drV D n a).getD j 0=0
   ·exact z
   ·have:=S.num j h3 z;omega
  have e6:=D31 (f:=λj=>(drV D n a).getD j 0) m6 hz;rw [e6] at kn ki;obtain ⟨d1,d2⟩:=D28 (D:=D) (n:=n) (d:=drV D n a) (e:=m) (k:=0) (s:=(c,zI 7)) (by simp [zI];omega) kn;obtain ⟨s,hs⟩:=xEq (cE D n (drV D n a) m 0 (c,zI 7));rw [<-hs] at d1 d2 ⊢;have d1:s.1=cX D n c (W6 (λj=>(drV D n a).getD j 0) 0 m):=d1;have sl:s.2.length=7:=by rw [hs,A0Y.2];simp [zI]
  have hzz:∀ j,(zI 7).getD j (0:Int)=0:=by
   intro j;unfold zI;rw [E67,List.getElem?_replicate];split<;>rfl
  have s6:∀ j,j<6->s.2.getD j 0=(drV D n a).getD j 0:=by
   intro j hj;rcases Nat.lt_or_ge j m with h | h
   ·exact d2 j (by omega) (by omega)
   ·rw [hz j h hj,hs,gL (by omega)];exact hzz j
  have s66:s.2.getD 6 0=0:=by rw [hs,gL (by omega)];exact hzz 6
  have ei:(drV D n a).getD 6 0=S3 D n a:=rfl;have key:∀ l:List Int,l_ l=7->(∀ j,j<6->l.getD j 0=(drV D n a).getD j 0)->l.getD 6 0=S3 D n a->l=drV D n a:=by
   intro l hl h1 h2;refine List.ext_getElem (by rw [hl,hL7]) λj h3 h4=>?_
   have e:l.getD j 0=(drV D n a).getD j 0:=by
    rcases Nat.lt_or_ge j 6 with h | h
    ·exact h1 j h
    ·have:j=6:=by omega
     subst this;exact h2
   rw [E67,E64 h3,E67,E64 h4] at e;exact e
  unfold A04;by_cases h:6<T2 (szV D n a)
  ·rw [C4 h];refine key _ (by simp [sl]) (λj hj=>?_) ?_
   ·show (s.2.set 6 _).getD j 0=_;rw [E67,E8c (by omega),<-E67];exact s6 j hj
   ·show (s.2.set 6 (K3 D n s.1 ((drV D n a).getD 6 0))).getD 6 0=_;rw [E67,E76,C4 rfl,C4 (by omega),ei];show K3 D n s.1 (S3 D n a)=_;by_cases z:S3 D n a=0
    ·rw [z];exact A9h.1
    ·rw [zG z,<-d1] at ki;exact yT (eZ.1 ki).1
  ·rw [C5 h];have z:S3 D n a=0:=by
    by_cases z:S3 D n a=0
    ·exact z
    ·exact absurd (S.ind z) h
   exact key _ sl s6 (by rw [s66,z])
 refine ⟨hfd,?_⟩;obtain ⟨_,_,s3,s4⟩:=D6Z (D:=D) (n:=n) (a:=a) (c:=c) (λj _=>by rw [hfd]) (by rw [hfd];rfl);have ht:(L5 D n c a).taken=(cX D n c (W6 (λj=>(drV D n a).getD j 0) 0 6++nzL [S3 D n a])).taken:=by
  show (H7 D n c a).1.taken=_;rw [s3]
 obtain ⟨r1,r2,r3,r4,_,_,_⟩:=A0Z (D:=D) (n:=n) (ino:=a) (c:=c);have td:=C5f (D:=D) (n:=n) (a:=a) (L:=[]) (c:=c) (.nil _);have e6:(H7 D n c a).2.getD 6 0=S3 D n a:=by rw [hfd];rfl
 have hs:=jZ (D:=D) (n:=n) (ino:=a) (c:=c);have core:(U0 D n c a).taken=(cX D n c (flV D n a)).taken/\∀ q∈cZ (U0 D n c a),q∈cZ c\/(blk D q.1=q.2/\q.1∈mkV D n a):=by
  by_cases z:S3 D n a=0
  ·have e:W6 (wD D n a) 0 128=[]:=by
    unfold W6;exact C7M λx hx=>by
     obtain ⟨j,_,rfl⟩:=E7B.1 hx;unfold wD;rw [C4 z]
   have eC:U0 D n c a=L5 D n c a:=by unfold U0;rw [e6,C4 z]
   unfold flV;rw [eC,e,E7q];refine ⟨ht,λq hq=>.inl ?_⟩;have:q∈(H7 D n c a).1.blocks.zip (H7 D n c a).1.made:=hq;rw [hs.1.blocks,hs.1.made] at this;exact this
  ·have e:W6 (wD D n a) 0 128=W6 (ptP (blk D (S3 D n a))) 0 128:=B77 λj _ _=>by unfold wD;rw [C5 z]
   rw [e] at kp;have hR:=C17 (D:=D) (n:=n) (many:=T2 (szV D n a)) (b:=blk D (S3 D n a)) (e:=128) (k:=0) (c:=L5 D n c a) (by rw [A5x ht];exact kp) λj _ h2 h3=>S.pts j (by omega) (by unfold wD;rw [C5 z];exact h3)
   have eC:U0 D n c a=dO (cX D n (L5 D n c a) (W6 (ptP (blk D (S3 D n a))) 0 128)) (S3 D n a) (blk D (S3 D n a)):=by
    unfold U0;rw [e6,C5 z,hR]
   have hf:=gM (D:=D) (n:=n) (many:=T2 (szV D n a)) (e:=128) (k:=0) (s:=(L5 D n c a,blk D (S3 D n a)));rw [hR] at hf;have hbb:(cX D n (L5 D n c a) (W6 (ptP (blk D (S3 D n a))) 0 128)).blocks.length=(cX D n (L5 D n c a) (W6 (ptP (blk D (S3 D n a))) 0 128)).made.length:=by
    rw [hf.blocks,hf.made];show (H7 D n c a).1.blocks.length=(H7 D n c a).1.made.length;rw [hs.1.blocks,hs.1.made];exact hbm
   unfold flV;rw [eC,e,D22];refine ⟨D1t ht,λq hq=>?_⟩;rw [vR hbb] at hq;rcases E7J.1 hq with h | h
   ·left
    have h:q∈(cX D n (L5 D n c a) (W6 (ptP (blk D (S3 D n a))) 0 128)).blocks.zip (cX D n (L5 D n c a) (W6 (ptP (blk D (S3 D n a))) 0 128)).made:=h;rw [hf.blocks,hf.made] at h;have h:q∈(H7 D n c a).1.blocks.zip (H7 D n c a).1.made:=h;rw [hs.1.blocks,hs.1.made] at h;exact h
   ·right
    rw [E7K.1 h];refine ⟨rfl,?_⟩;unfold mkV;have z':¬ (drV D n a).getD 6 0=0:=z;rw [C5 (by rw [hk];decide),C5 z'];exact E7K.2 rfl
 refine ⟨kept0,λj=>?_,⟨λx=>by rw [r2];exact td.par x,λx=>by rw [r3];exact td.lnk x,td.one,td.dir⟩,r4,core.2,o1,o2⟩;rw [core.1];exact B7V kept0 j
end
section
variable {D:Dev} {n a:Int}
def owV(D:Dev)(n a:Int):List Int:=pJ D n (kdV D n a) (drV D n a)
def nmV(D:Dev)(n a:Int):List Ent:=fU D n (kdV D n a) (drV D n a)
abbrev zW(D:Dev)(n a:Int):Prop:=a≠1/\kdV D n a=1
structure Sta(D:Dev)(n a:Int):Prop where
 fil:zW D n a->FilS D n a/\∀ x∈flV D n a,F6 (l_ D) n x=A5
 dir:¬ zW D n a->kdV D n a=2/\drV D n a=noV D n a::zI 6/\(noV D n a≠0->DirS D n a/\∀ x∈noV D n a::bkV D n a,F6 (l_ D) n x=A5)
def Kp(D:Dev)(n:Int)(c:Cl)(a:Int):Prop:=(zW D n a/\FilS D n a/\J1 D n c (flV D n a)=flV D n a)\/(¬ zW D n a/\DirK D n c a)
def C2i(D:Dev)(n:Int)(c:Cl)(a:Int):List Int:=if zW D n a then 1::1::szV D n a::0::drV D n a else 2::1::0::(c.par a).getD 0::drV D n a
def Kp.step(hD:okD D)(hbm:c.blocks.length=c.made.length)(hal:a.toNat<c.ino.length)(K:Kp D n c a) :
  Sta D n a/\Stp D n a c (S4 D n c a) (owV D n a) (nmV D n a)/\(S4 D n c a).ino.getD a.toNat []=C2i D n c a:=by
 rcases K with ⟨hf,S,kept⟩ | ⟨hf,K⟩
 ·have e:S4 D n c a=U0 D n c a:=by unfold S4;rw [C4 hf]
  obtain ⟨h1,h2⟩:=D5B hD hbm hf.2 S kept;refine ⟨⟨λ_=>⟨S,λx hx=>((A5y.1 kept).2 x hx).1⟩,λh=>absurd hf h⟩,?_,?_⟩
  ·rw [e];have o:=h2.own;have l:=h2.list;unfold owV nmV;rw [o,l];exact h2
  ·rw [e,(A4e hbm).2 hal,h1];unfold C2i;rw [C4 hf]
 ·have e:S4 D n c a=mD D n c a:=by unfold S4;rw [C5 hf]
  obtain ⟨h1,O,L,h2,_⟩:=D7X hbm K;refine ⟨⟨λh=>absurd h hf,λ_=>⟨K.kd,K.dr,λh0=>⟨(K.body h0).s,λx hx=>((A5y.1 (K.body h0).kept).2 x hx).1⟩⟩⟩,?_,?_⟩
  ·rw [e];have o:=h2.own;have l:=h2.list;unfold owV nmV;rw [o,l];exact h2
  ·rw [e,(A5h hbm).2 hal,h1];unfold C2i;rw [C5 hf,<-K.dr]
structure Inv(D:Dev)(n:Int)(i:Nat)(c:Cl):Prop where
 w:RowW n c
 hd:c.row[0]?=A4 1
 bm:c.blocks.length=c.made.length
 il:c.ino.length=(n+1).toNat
 tak:∀ j:Nat,c.taken.getD j A5=A5↔(j<(aX (l_ D) n).toNat\/(l_ D)<=j)\/∃ a∈c.row.take i,(j:Int)∈owV D n a
 nd:((c.row.take i).flatMap (owV D n)).Nodup
 dt:∀ a∈c.row.take i,∀ x∈owV D n a,F6 (l_ D) n x=A5
 lnk:∀ x,(c.lnk x).getD 0=(((c.row.take i).map λa=>vZ (nmV D n a) x).sum:Nat)
 dir:∀ x∈c.row,x≠1->kdV D n x=2->(c.lnk x).getD 0=1
 par:∀ x∈c.row,x≠1->∃ p∈c.row.take i,c.par x=A4 p/\∃ e∈nmV D n p,e.2=x
 par1:c.par 1=A4 1
 one:∀ a∈c.row.take i,∀ e∈nmV D n a,e.2≠1/\kdV D n e.2≠0/\e.2∈c.row
 put:∀ q∈cZ c,blk D q.1=q.2
 ino:∀ a∈c.row.take i,c.ino.getD a.toNat []=C2i D n c a
 lost:c.lost=0
 sta:∀ a∈c.row.take i,Sta D n a
 sub:∀ x∈c.row,x∈A3X D n
 mks:∀ q∈cZ c,∃ a∈c.row.take i,q.1∈mkV D n a
def Inv.lnk0(I:Inv D n i c)(hx:x ∉ c.row):(c.lnk x).getD 0=0:=by
 rw [I.lnk x];have:((c.row.take i).map λa=>vZ (nmV D n a) x).sum=0:=by
  have h:∀ k∈(c.row.take i).map λa=>vZ (nmV D n a) x,k=0:=by
   intro k hk;obtain ⟨b,hb,rfl⟩:=E7B.1 hk;exact C12 λe he h=>hx (by rw [<-h];exact (I.one b hb e he).2.2)
  generalize (c.row.take i).map (λa=>vZ (nmV D n a) x)=L at h
  clear hx I
  induction L with
  | nil=>rfl
  | cons k L ih =>
   rw [List.sum_cons,h k (E7e ..),ih λy hy=>h y (E7d _ hy)]
 rw [this];rfl
def Inv.step{i:Nat}(hD:okD D)(I:Inv D n i c)(hi:c.row[i]?=A4 a)(K:Kp D n c a):Inv D n (i+1) (S4 D n c a):=by
 have ham:=E7p hi;have hra:=I.w.rg a ham;have hal:a.toNat<c.ino.length:=by rw [I.il];omega
 obtain ⟨S,T,D3x⟩:=K.step hD I.bm hal;have g:=zH (D:=D) (n:=n) (a:=a) I.bm;have w':RowW n (S4 D n c a):=bY I.w;generalize S4 D n c a=c' at *;have K6:i<c.row.length:=(E7b.1 hi).1;have tk0:c'.row.take i=c.row.take i:=E1L g.row (by omega);have tk:c'.row.take (i+1)=c.row.take i++[a]:=by
  rw [List.take_succ,tk0,vQ g.row hi];rfl
 have hin:∀ {b},b∈c.row.take i->b∈c.row:=λh=>List.mem_of_mem_take h
 have Z2:∀ b∈c.row.take i,b≠a:=by
  intro b hb e;obtain ⟨j,hj⟩:=E7O.1 hb;have hjl:=(E7b.1 hj).1;rw [E7L] at hjl;rw [E7M (by omega)] at hj;have:=(List.getElem?_inj (by omega) I.w.nd).1 (hj.trans ((congrArg A4 e).trans hi.symm));omega
 have D67:∀ x∈c.row,c'.par x=c.par x:=by
  intro x hx;rw [T.told.par,C4 ((I.w.par x).2 hx)]
 have hnr:∀ x,x ∉ c.row->c.par x=A7:=by
  intro x hx;cases hp:c.par x with
  | none=>rfl
  | some v=>exact absurd ((I.w.par x).1 (by rw [hp];rfl)) hx
 have E0E:∀ x∈c'.row,x∈c.row\/(x ∉ c.row/\x∈(nmV D n a).map (·.2)):=by
  intro x hx;by_cases h:x∈c.row
  ·exact .inl h
  ·refine .inr ⟨h,?_⟩;have:=(w'.par x).2 hx;rw [T.told.par,hnr x h] at this;by_cases h2:x∈(nmV D n a).map (·.2)
   ·exact h2
   ·rw [C5 h2] at this;simp at this
 have kept:=A5y.1 T.kept;refine ⟨w',vQ g.row I.hd,g.bm,g.il.trans I.il,λj=>?_,?_,λb hb x hx=>?_,λx=>?_,λx hx h1 hk=>?_,λx hx h1=>?_,?_,λb hb e he=>?_,λq hq=>?_,λb hb=>?_,T.lost.trans I.lost,λb hb=>?_,λx hx=>?_,λq hq=>?_⟩
 ·rw [T.taken,I.tak,tk];constructor
  ·rintro ((h | ⟨b,hb,h⟩) | h)
   ·exact .inl h
   ·exact .inr ⟨b,E7I _ hb,h⟩
   ·exact .inr ⟨a,E7C _ (E7K.2 rfl),h⟩
  ·rintro (h | ⟨b,hb,h⟩)
   ·exact .inl (.inl h)
   ·rcases E7J.1 hb with hb | hb
    ·exact .inl (.inr ⟨b,hb,h⟩)
    ·rw [E7K.1 hb] at h;exact .inr h
 ·rw [tk,List.flatMap_append,List.nodup_append];refine ⟨I.nd,by simpa using kept.1,λx hx y hy e=>?_⟩;subst e;obtain ⟨b,hb,hx⟩:=List.mem_flatMap.1 hx;have hy:x∈owV D n a:=by simpa using hy
  have h1:=(kept.2 x hy).2;have h0:=zC (kept.2 x hy).1;have h2:=(I.tak x.toNat).2 (.inr ⟨b,hb,by rw [Int.toNat_of_nonneg h0.1];exact hx⟩);rw [h1] at h2;cases h2
 ·rw [tk] at hb;rcases E7J.1 hb with hb | hb
  ·exact I.dt b hb x hx
  ·rw [E7K.1 hb] at hx;exact (kept.2 x hx).1
 ·rw [T.told.lnk,I.lnk,tk,E72,List.sum_append];simp
 ·rcases E0E x hx with h | ⟨h,hm⟩
  ·rw [T.told.lnk,I.dir x h h1 hk];have:vZ (nmV D n a) x=0:=C12 λe he h2=>by
    have:=(T.told.dir e he (by rw [h2];exact hk)).1;rw [h2] at this;have h3:=(I.w.par x).2 h;rw [this] at h3;cases h3
   rw [this];rfl
  ·obtain ⟨e,he,rfl⟩:=E7B.1 hm;rw [T.told.lnk,I.lnk0 h,(T.told.dir e he hk).2];rfl
 ·rcases E0E x hx with h | ⟨h,hm⟩
  ·obtain ⟨p,hp,h2,h3⟩:=I.par x h h1;exact ⟨p,by rw [tk];exact E7I _ hp,(D67 x h).trans h2,h3⟩
  ·obtain ⟨e,he,rfl⟩:=E7B.1 hm;refine ⟨a,by rw [tk];exact E7C _ (E7K.2 rfl),?_,e,he,rfl⟩;rw [T.told.par,hnr _ h,C5 (by simp),C4 hm]
 ·rw [D67 1 (E7p I.hd)];exact I.par1
 ·rw [tk] at hb;rcases E7J.1 hb with hb | hb
  ·obtain ⟨h1,h2,h3⟩:=I.one b hb e he;exact ⟨h1,h2,g.row.subset h3⟩
  ·rw [E7K.1 hb] at he;obtain ⟨h1,h2⟩:=T.told.one e he;refine ⟨h1,h2,(w'.par e.2).1 ?_⟩;rw [T.told.par];by_cases h:(c.par e.2).isSome=A5
   ·rw [C4 h];exact h
   ·rw [C5 h,C4 (E7B.2 ⟨e,he,rfl⟩)];rfl
 ·rcases T.put q hq with h | h
  ·exact I.put q h
  ·exact h.1
 ·rw [tk] at hb;rcases E7J.1 hb with hb | hb
  ·have hrb:=I.w.rg b (hin hb);have hn:=Z2 b hb;rw [g.ino _ (by omega),I.ino b hb];unfold C2i;rw [D67 b (hin hb)]
  ·rw [E7K.1 hb,D3x];unfold C2i;rw [D67 a ham]
 ·rw [tk] at hb;rcases E7J.1 hb with hb | hb
  ·exact I.sta b hb
  ·rw [E7K.1 hb];exact S
 ·rcases E0E x hx with h | ⟨h,hm⟩
  ·exact I.sub x h
  ·obtain ⟨e,he,rfl⟩:=E7B.1 hm;refine E2Z (I.sub a ham) e (E7N.2 ⟨he,?_⟩);unfold C7j;rcases C49 (D:=D) (n:=n) (i:=e.2) with h0 | h0 | h0
   ·exact absurd h0 (T.told.one e he).2
   ·rw [h0];rfl
   ·rw [h0];rfl
 ·rcases T.put q hq with h | h
  ·obtain ⟨b,hb,h2⟩:=I.mks q h;exact ⟨b,by rw [tk];exact E7I _ hb,h2⟩
  ·exact ⟨a,by rw [tk];exact E7C _ (E7K.2 rfl),h.2⟩
structure Ext(D:Dev)(n:Int)(c F:Cl)(a:Int):Prop where
 row:∀ x∈(S4 D n c a).row,x∈F.row
 put:∀ q∈cZ (S4 D n c a),q∈cZ F
 ino:F.ino.getD a.toNat []=(S4 D n c a).ino.getD a.toNat []
def D7t(hD:okD D)(n128:n<=128){F:Cl}(hk:∀ i c a,Inv D n i c->c.row[i]?=A4 a->Ext D n c F a->Kp D n c a) :
  ∀ {e i:Nat} {c:Cl},i+e=129->Inv D n i c->ofR D n e i c=F->Inv D n F.row.length F
 | 0,i,c,hi,I,hF=>by
  have hF:c=F:=hF;subst hF;have hl:=A3Y I.w.nd λb hb=>⟨(I.w.rg b hb).1,by have:=(I.w.rg b hb).2;omega⟩
  have e1:c.row.take i=c.row:=E7r (by omega);have e2:c.row.take c.row.length=c.row:=E7r (E69 _);have:=I;obtain ⟨a1,a2,a3,a4,a5,a6,a7,a8,a9,a10,a11,a12,a13,a14,a15,a16,a17,a18⟩:=this;rw [e1,<-e2] at a6;simp only [e1] at a5 a7 a8 a10 a12 a14 a16 a18;refine ⟨a1,a2,a3,a4,?_,a6,?_,?_,a9,?_,a11,?_,a13,?_,a15,?_,a17,?_⟩<;>simp only [e2]<;>assumption
 | e+1,i,c,hi,I,hF=>by
  unfold ofR at hF;cases hc:c.row[i]? with
  | none =>
   rw [hc] at hF;have hF:c=F:=hF;subst hF;have:=List.getElem?_eq_none_iff.1 hc;have e1:c.row.take i=c.row:=E7r (by omega);have e2:c.row.take c.row.length=c.row:=E7r (E69 _);have:=I;obtain ⟨a1,a2,a3,a4,a5,a6,a7,a8,a9,a10,a11,a12,a13,a14,a15,a16,a17,a18⟩:=this;rw [e1,<-e2] at a6;simp only [e1] at a5 a7 a8 a10 a12 a14 a16 a18;refine ⟨a1,a2,a3,a4,?_,a6,?_,?_,a9,?_,a11,?_,a13,?_,a15,?_,a17,?_⟩<;>simp only [e2]<;>assumption
  | some a =>
   rw [hc] at hF;have hF:ofR D n e (i+1) (S4 D n c a)=F:=hF;have g:=zH (D:=D) (n:=n) (a:=a) I.bm;obtain ⟨h1,h2,h3,h4⟩:=B5x (D:=D) (n:=n) (e:=e) (i:=i+1) g.bm;have hrg:=I.w.rg a (E7p hc);have hat:=vQ (g.row.trans h1) hc;have wF:=A2y (D:=D) (n:=n) (e:=e) (i:=i+1) (bY (D:=D) (ino:=a) I.w);have D3x:=A67 (D:=D) (n:=n) hrg.1 (e:=e) (i:=i+1) (bY (D:=D) (ino:=a) I.w) g.bm λj hj he=>by
    have:=(List.getElem?_inj (E7b.1 hat).1 wF.nd).1 (hat.trans he.symm);omega
   rw [hF] at h1 h3 D3x;exact D7t hD n128 hk (by omega) (I.step hD hc (hk i c a I hc ⟨λx hx=>h1.subset hx,h3,D3x⟩)) hF
def C7O:∀ {k:Nat} (j:Nat),(wA c k).taken.getD j A5=A5↔c.taken.getD j A5=A5\/j<k
 | 0,j=>by show c.taken.getD j A5=A5↔_;simp
 | k+1,j=>by
  show ((wA c k).taken.set k A5).getD j A5=A5↔_;rw [B4S,C7O];constructor
  ·rintro ((h | h) | h)
   ·exact .inl h
   ·exact .inr (by omega)
   ·exact .inr (by omega)
  ·rintro (h | h)
   ·exact .inl (.inl h)
   ·by_cases e:j=k
    ·exact .inr e
    ·exact .inl (.inr (by omega))
def D8l(hm:O6 (l_ D) n=A5):Inv D n 0 (wA (I1 D n) (aX (l_ D) n).toNat):=by
 have B:=sQ hm;have hs:=ownR_same (c:=I1 D n) (k:=(aX (l_ D) n).toNat);have hr:(wA (I1 D n) (aX (l_ D) n).toNat).row=[1]:=hs.row;have hx:∀ x∈(wA (I1 D n) (aX (l_ D) n).toNat).row,x=1:=λx hx=>by rw [hr] at hx;exact E7K.1 hx
 refine ⟨B.w,by rw [hr];rfl,B.bm,B.il,λj=>?_,by rw [E75];exact List.nodup_nil,λa ha=>(by rw [E75] at ha;cases ha),λx=>?_,λx h h1=>absurd (hx x h) h1,λx h h1=>absurd (hx x h) h1,by rw [hs.par];rfl,λa ha=>(by rw [E75] at ha;cases ha),λq hq=>?_,λa ha=>(by rw [E75] at ha;cases ha),hs.lost,λa ha=>(by rw [E75] at ha;cases ha),λx h=>(by obtain ⟨j,_,hi⟩:=B4P (D:=D) (n:=n);rw [hx x h];exact hi.hd),λq hq=>?_⟩
 ·rw [C7O,E75];have e:(I1 D n).taken=E68 (l_ D) A6:=rfl;rw [e,E67,List.getElem?_replicate];by_cases h:j<(l_ D)
  ·rw [C4 h];simp;omega
  ·rw [C5 h];simp;omega
 ·rw [hs.lnk,E75];rfl
 ·have hq:q∈(wA (I1 D n) (aX (l_ D) n).toNat).blocks.zip (wA (I1 D n) (aX (l_ D) n).toNat).made:=hq;rw [hs.blocks] at hq;cases hq
 ·have hq:q∈(wA (I1 D n) (aX (l_ D) n).toNat).blocks.zip (wA (I1 D n) (aX (l_ D) n).toNat).made:=hq;rw [hs.blocks] at hq;cases hq
def C9Y(hD:okD D)(hm:O6 (l_ D) n=A5)(hk:∀ i c a,Inv D n i c->c.row[i]?=A4 a->Ext D n c (D1 D n) a->Kp D n c a):Inv D n (D1 D n).row.length (D1 D n) :=
 D7t hD (C7u hm) hk (e:=129) (i:=0) rfl (D8l hm) rfl
structure Stil(D:Dev)(n:Int)(F:Cl):Prop where
 ino:∀ a∈F.row,kdV D n a=(F.ino.getD a.toNat []).getD 0 0/\szV D n a=(F.ino.getD a.toNat []).getD 2 0/\drV D n a=(F.ino.getD a.toNat []).drop 4
 put:∀ q∈cZ F,blk D q.1=q.2
def Stil.kp{F:Cl}(hD:okD D)(H:Stil D n F)(I:Inv D n i c)(hi:c.row[i]?=A4 a)(X:Ext D n c F a):Kp D n c a:=by
 have ham:=E7p hi;have hra:=I.w.rg a ham;have hal:a.toNat<c.ino.length:=by rw [I.il];omega
 have g:=zH (D:=D) (n:=n) (a:=a) I.bm;obtain ⟨y1,y2,y3⟩:=H.ino a (X.row a (g.row.subset ham));rw [X.ino] at y1 y2 y3;by_cases hf:zW D n a
 ·have e:S4 D n c a=U0 D n c a:=by unfold S4;rw [C4 hf]
  rw [e,(A4e I.bm).2 hal] at y3;have hd:(H7 D n c a).2=drV D n a:=y3.symm;have e6:(H7 D n c a).2.getD 6 0=S3 D n a:=by rw [hd];rfl
  obtain ⟨s1,s2⟩:=E0h hD hd λz=>by
   have hs:=jZ (D:=D) (n:=n) (ino:=a) (c:=c);have hfr:=gM (D:=D) (n:=n) (many:=T2 (szV D n a)) (e:=128) (k:=0) (s:=(L5 D n c a,blk D (S3 D n a)));dsimp only at hfr;have C2g:=λq hq=>H.put q (X.put q hq)
   rw [e] at C2g;have eC:U0 D n c a=dO (K7 D n (T2 (szV D n a)) 128 0 (L5 D n c a,blk D (S3 D n a))).1 (S3 D n a) (K7 D n (T2 (szV D n a)) 128 0 (L5 D n c a,blk D (S3 D n a))).2:=by
    unfold U0;rw [e6,C5 z]
   generalize K7 D n (T2 (szV D n a)) 128 0 (L5 D n c a,blk D (S3 D n a))=s at hfr eC ⊢;have hfb:s.1.blocks.length=s.1.made.length:=by
    rw [hfr.blocks,hfr.made];show (H7 D n c a).1.blocks.length=(H7 D n c a).1.made.length;rw [hs.1.blocks,hs.1.made];exact I.bm
   rw [eC] at C2g;exact (C2g (S3 D n a,s.2) (by rw [vR hfb];exact E7C _ (E7K.2 rfl))).symm
  exact .inl ⟨hf,s1,s2⟩
 ·have e:S4 D n c a=mD D n c a:=by unfold S4;rw [C5 hf]
  rw [e,(A5h I.bm).2 hal] at y1 y3;have y3:drV D n a=(K5 D n c a).2::zI 6:=y3;have X5:(K5 D n c a).2=noV D n a:=by unfold noV;rw [y3];rfl
  refine .inr ⟨hf,y1,by rw [y3,X5],λh0=>?_⟩;exact E2p I.bm h0 X5 λq hq=>H.put q (X.put q (by rw [e];exact hq))
def Stil.inv(hD:okD D)(hm:O6 (l_ D) n=A5)(H:Stil D n (D1 D n)):Inv D n (D1 D n).row.length (D1 D n) :=
 C9Y hD hm λi c a I hi X=>H.kp hD I hi X
end
def D3N:(bB c a).ino.getD j []=if j=a.toNat/\(c.ino.getD j []).getD 0 0=1 then (c.ino.getD j []).set 1 ((c.lnk a).getD 0) else c.ino.getD j []:=by
 unfold bB;by_cases h:(c.ino.getD a.toNat []).getD 0 0=1
 ·rw [C4 h];by_cases e:j=a.toNat
  ·subst e;rw [C4 ⟨rfl,h⟩];by_cases hl:a.toNat<c.ino.length
   ·show (c.ino.set a.toNat _).getD a.toNat []=_;rw [A6V hl]
   ·have:c.ino.getD a.toNat []=[]:=by rw [E67,E7z (by omega)];rfl
    rw [this] at h;exact absurd h (by decide)
  ·rw [C5 (λh=>e h.1)];show (c.ino.set a.toNat _).getD j []=_;rw [getD_set_ne e]
 ·rw [C5 h];by_cases e:j=a.toNat
  ·subst e;rw [C5 (λh2=>h h2.2)]
  ·rw [C5 (λh=>e h.1)]
def C2k(ha:0<=a):∀ {L:List Int} {c:Cl},L.Nodup->(∀ x∈L,0<=x)->(cG c L).ino.getD a.toNat []=if a∈L/\(c.ino.getD a.toNat []).getD 0 0=1 then (c.ino.getD a.toNat []).set 1 ((c.lnk a).getD 0) else c.ino.getD a.toNat []
 | [],c,_,_=>by rw [C5 (by simp)];rfl
 | b::L,c,hn,h0=>by
  obtain ⟨n1,n2⟩:=List.nodup_cons.1 hn;have hb:=h0 b (E7e ..);have ih:=C2k ha (L:=L) (c:=bB c b) n2 λx hx=>h0 x (E7d _ hx)
  have el:(bB c b).lnk=c.lnk:=by unfold bB;split<;>rfl
  show (cG (bB c b) L).ino.getD a.toNat []=_;rw [ih,el];by_cases e:a=b
  ·subst e;have hk:((bB c a).ino.getD a.toNat []).getD 0 0=(c.ino.getD a.toNat []).getD 0 0:=C63.1;rw [C5 (λh=>n1 h.1),D3N];by_cases h1:(c.ino.getD a.toNat []).getD 0 0=1
   ·rw [C4 ⟨rfl,h1⟩,C4 ⟨E7e ..,h1⟩]
   ·rw [C5 (λh=>h1 h.2),C5 (λh=>h1 h.2)]
  ·have e2:(bB c b).ino.getD a.toNat []=c.ino.getD a.toNat []:=by rw [D3N,C5 (λh=>e (by omega))]
   rw [e2];by_cases hL:a∈L
   ·by_cases h1:(c.ino.getD a.toNat []).getD 0 0=1
    ·rw [C4 ⟨hL,h1⟩,C4 ⟨E7d _ hL,h1⟩]
    ·rw [C5 (λh=>h1 h.2),C5 (λh=>h1 h.2)]
   ·rw [C5 (λh=>hL h.1),C5 (λh=>(E7m.1 h.1).elim e hL)]
section
variable {D:Dev} {n:Int}
def E1P{E:Dev}{n i:Int}{y:List Int}(hi:P9 (l_ E) n i=A5)(hy:D1S y)(h:qS E n i=A8h y):aW (qS E n i)=A5/\kdV E n i=y.getD 0 0/\lnV E n i=y.getD 1 0/\szV E n i=y.getD 2 0/\paV E n i=y.getD 3 0/\drV E n i=y.drop 4:=by
 obtain ⟨hl,hm⟩:=hy;have hd:(y.drop 4).length=7:=by rw [List.length_drop,hl]
 obtain ⟨g1,g2,g3,g4,g5⟩:=D1z hd hm;obtain ⟨hc,_⟩:=C91 hd hm;unfold kdV szV drV lnV paV B0V;rw [hi,h];unfold A8h;rw [hc,g1,g2,g3,g4,g5];exact ⟨rfl,rfl,rfl,rfl,rfl,rfl⟩
structure Wb(D:Dev)(n:Int)(F:Cl):Prop where
 okD:okD D
 may:O6 (l_ D) n=A5
 I:Inv D n F.row.length F
 tl:F.taken.length=(l_ D)
 root:kdV D n 1=2
structure Wh(D:Dev)(n:Int)(F:Cl):Prop extends Wb D n F where
 out:∀ i,P9 (l_ D) n i=A5->i ∉ F.row->kdV D n i=0
 lnk:∀ a∈F.row,zW D n a->lnV D n a=(F.lnk a).getD 0/\paV D n a=0
 dirl:∀ a∈F.row,¬ zW D n a->lnV D n a=1/\paV D n a=(F.par a).getD 0/\szV D n a=0
 clean:∀ i,P9 (l_ D) n i=A5->aW (qS D n i)=A5
 map:blk D 1=dZ (qU 0 F.taken)
def D69(I:Inv D n (D1 D n).row.length (D1 D n))(ha:a∈(D1 D n).row):(E6 D n).ino.getD a.toNat []=if zW D n a then 1::((D1 D n).lnk a).getD 0::szV D n a::0::drV D n a else C2i D n (D1 D n) a:=by
 have tk:(D1 D n).row.take (D1 D n).row.length=(D1 D n).row:=List.take_length ..;have hr:=I.w.rg a ha;have h1:=I.ino a (by rw [tk];exact ha);have h2:=C2k (a:=a) (by omega) (L:=(D1 D n).row) (c:=D1 D n) I.w.nd λx hx=>by have:=I.w.rg x hx;omega
 have h2:(E6 D n).ino.getD a.toNat []=_:=h2;rw [h2,h1];by_cases hf:zW D n a
 ·have e:C2i D n (D1 D n) a=1::1::szV D n a::0::drV D n a:=by unfold C2i;rw [C4 hf]
  rw [C4 hf,e,C4 ⟨ha,rfl⟩];rfl
 ·have e:C2i D n (D1 D n) a=2::1::0::((D1 D n).par a).getD 0::drV D n a:=by unfold C2i;rw [C5 hf]
  rw [C5 hf,e,C5 (λh=>absurd (show (2:Int)=1 from h.2) (by decide))]
def E5K(hD:okD D)(hm:O6 (l_ D) n=A5)(hS:fS D n (E6 D n)=D):Wh D n (D1 D n):=by
 obtain ⟨b16,b512,n8,n128,nm8,nb⟩:=G8.1 hm;have B:=sQ hm;have ok:=eY hD hm;obtain ⟨_,_,_,K6,_⟩:=X9 hD hm;obtain ⟨s1,s2,s3,s4,s5,s6,s7⟩:=cQ (L:=(D1 D n).row) (c:=D1 D n);have w:RowW n (D1 D n):=by unfold D1;exact A2y B.w
 have P:Pend D n (D1 D n) []:=by unfold D1;exact A9I hD (by omega) B.pend
 have hb:(E6 D n).blocks=(D1 D n).blocks:=s3;have hmd:(E6 D n).made=(D1 D n).made:=s4;have hlk:∀ j,((E6 D n).ino.getD j []).getD 0 0=((D1 D n).ino.getD j []).getD 0 0/\((E6 D n).ino.getD j []).getD 2 0=((D1 D n).ino.getD j []).getD 2 0/\((E6 D n).ino.getD j []).drop 4=((D1 D n).ino.getD j []).drop 4:=λj=>A2j
 have hV:∀ i,P9 (l_ D) n i=A5->aW (qS D n i)=A5/\kdV D n i=((E6 D n).ino.getD i.toNat []).getD 0 0/\lnV D n i=((E6 D n).ino.getD i.toNat []).getD 1 0/\szV D n i=((E6 D n).ino.getD i.toNat []).getD 2 0/\paV D n i=((E6 D n).ino.getD i.toNat []).getD 3 0/\drV D n i=((E6 D n).ino.getD i.toNat []).drop 4:=by
  intro i hi;obtain ⟨_,i1,i2⟩:=N1.1 hi;have h:=C46 hD hm ok K6 hi;rw [hS] at h;refine E1P hi ?_ h;rw [E67,E64 (by omega)];exact ok.ino _ (E7y _)
 have H:Stil D n (D1 D n):=by
  refine ⟨λa ha=>?_,λq hq=>?_⟩
  ·have hr:=w.rg a ha;obtain ⟨_,v1,_,v3,_,v5⟩:=hV a (N1.2 ⟨hm,hr.1,hr.2⟩);obtain ⟨k1,k2,k3⟩:=hlk a.toNat;exact ⟨v1.trans k1,v3.trans k2,v5.trans k3⟩
  ·have hd:F6 (l_ D) n q.1=A5:=(P.dat q.1 (E7I _ (List.of_mem_zip hq).1)).1;have h:=C45 hD hm ok K6 hd;rw [hS,hb,hmd] at h;rw [h];exact P.pick hq
 have I:=H.inv hD hm;have hin:=λa ha=>D69 (a:=a) I ha
 refine ⟨⟨hD,hm,I,?_,?_⟩,λi hi hn=>?_,λa ha hf=>?_,λa ha hf=>?_,λi hi=>(hV i hi).1,?_⟩
 ·have:=ok.tak;rw [<-s2];exact this
 ·have:=E0H hD hm;rw [hS] at this;exact this
 ·obtain ⟨_,i1,i2⟩:=N1.1 hi;have h1:(D1 D n).ino.getD i.toNat []=zI 11:=by
   unfold D1 at hn ⊢;rw [A67 i1 B.w B.bm (λj _ hj=>hn (E7p hj))];exact B.zero i i1 i2
  rw [(hV i hi).2.1,(hlk i.toNat).1,h1];rfl
 ·have hr:=w.rg a ha;have hv:=hV a (N1.2 ⟨hm,hr.1,hr.2⟩);rw [hin a ha,C4 hf] at hv;exact ⟨hv.2.2.1,hv.2.2.2.2.1⟩
 ·have hr:=w.rg a ha;have hv:=hV a (N1.2 ⟨hm,hr.1,hr.2⟩);rw [hin a ha,C5 hf] at hv;unfold C2i at hv;rw [C5 hf] at hv;exact ⟨hv.2.2.1,hv.2.2.2.2.1,hv.2.2.2.1⟩
 ·have h:=C44 hD hm ok K6 (i:=1) (by omega);rw [hS,C4 rfl] at h;have s2:(E6 D n).taken=(D1 D n).taken:=s2;rw [s2] at h;exact h
end
def A9Q{t:List Nd}(ht:IsTree h v t)(hi:i<l_ t) :
  ∃ id o cs,F5 7 v (iV (i:Int))=A4 (pV id o)/\D3 h 7 (pV id o)=A4 (.a cs)/\(∀ k c,cs[k]?=A4 c->B8 h (pV id (o+k))=A4 (.c c))/\IsNd h cs t[i]:=by
 obtain ⟨cs,h1,h2⟩:=ht;have hcs:=h2.noX;obtain ⟨id,off,rfl,hid,hA,hB⟩:=h1.sl (by omega);refine ⟨id,off+i*7,_,E4 hi,hB (i*7) 7 (by rw [hcs.2];omega),λk c hk=>?_,h2.at (E64 hi)⟩;have hk7:k<7:=by
  have:=(E7b.1 hk).1;simp at this;omega
 rw [E7M hk7,E8j] at hk;have:=hA _ _ hk
 rwa [<-Nat.add_assoc] at this
def E5x(x y:Nd):Prop:=x.ino=y.ino/\x.kind=y.kind/\x.size=y.size/\x.data=y.data/\x.names=y.names
instance (x y:Nd):Decidable (E5x x y):=inferInstanceAs (Decidable (_/\_))
def C2F(h2:kdV D n 1=2)(ha:a∈A3X D n):kdV D n a=1\/kdV D n a=2:=by
 obtain ⟨j,_,hi⟩:=B4P (D:=D) (n:=n);by_cases c:a=1
 ·subst c;exact .inr h2
 ·obtain ⟨b,_,e,he,rfl⟩:=hi.by_ a ha c;exact D7k e he
def C8m{x:Nd}(hx:x∈D7 D n):kdV D n 1=2/\x.ino∈A3X D n/\(x.kind=1\/x.kind=2)/\x.names=A09 D n x.ino/\x.data=zT D n x.ino/\x.kind=kdV D n x.ino:=by
 obtain ⟨h1,h2,h3⟩:=vU.1 hx;refine ⟨h1,h2,?_,by rw [h3];rfl,by rw [h3];rfl,by rw [h3];rfl⟩;have:=C2F h1 h2;rw [h3];exact this
def C7r{e:Ent}(h:e∈fU D n k d):k=2:=by
 unfold fU at h;rw [E7B] at h;obtain ⟨s,hs,_⟩:=h;rw [dA] at hs;unfold T6 oX C4D T5 at hs;cases hc:X0 D n k d with
 | false=>rw [hc] at hs;simp at hs
 | true =>
  unfold X0 at hc;rw [E66,E66] at hc;exact of_decide_eq_true hc.1.1
def A9M:(D7 D n).length<=129:=by
 unfold D7;split
 ·have:=List.length_filter_le (λ(i:Nat)=>decide ((i:Int)∈A3X D n)) (E7H 129);simpa using this
 ·simp
def D24{i:Int}:(zT D n i).length<=34304:=by
 unfold zT;rw [B1k];unfold iS;split<;>omega
def B4Y{x:Nd}(hx:x∈D7 D n):x.names.length<=224/\∀ e∈x.names,e.1.length<=24:=by
 obtain ⟨_,_,_,hn,_⟩:=C8m hx;rw [hn];exact ⟨D3Z,λe he=>(bP (D5T (E7N.1 he).1)).2⟩
def gB:small (D7 D n):=by
 refine ⟨by have:=A9M (D:=D) (n:=n);omega,λx hx=>?_⟩;obtain ⟨_,_,_,hn,hd,_⟩:=C8m hx;have h1:=(B4Y hx).1;have h2:=D24 (D:=D) (n:=n) (i:=x.ino);rw [hd];omega
section
variable (n m m2:Nat) (a0 a1 a2 a3 x0 x1 x2 x3 x4 x5 x6 x9 x10 x11 x12 x13 x14 x15 x16 x17 x18 x19 x21 x22 x23 x28 x29 x30 x33 x37 x38 x39 x40 x41 x42:Val) (h:A9)
def A3A:FD A8:=⟨px 0X17f2003a0383010364184418301900532b103a2342,[.c .np],[.build ([o0,o0,.i .u64 0,.nf,.ns]) [(0,4,(.t 3)),(4,1,(.t 5))]],[.tmp 2],[gG Y7 tP]⟩
def B8P:=A3A.R
def C4o:=mR B8P A3A (tT []) n [a0] h
def B8B:=A3A.K Tryz.func39
def B0O:=A3A.Q
def C4C:OfT B8P B0O:=B8B.of
def W9:FD A8:=⟨px 0X13201022ef505002482d0318011b2015000002722403f0123042135c1041800503d72f0187d4215413070240181204023c13c12e2805594203006051ff50381f021b0212820000331ef11df301282801e1d2c1cf600103031800500503d7701b1971823201042,[],[],[.tmp 2],[D9 qH wW,D9 E2 F0,D9 A7Z B6k]⟩
def A13:=W9.R
def A0F:AtH:=W9.lj 0 n [m] [x0,x3,x4,x5]
def A18:=tT [⟨2,4,A0F⟩]
def A8G:=mR A13 W9 A18 n [a0] h
def tH:=mL W9 A18 0 n [m] [x0,x3,x4,x5] h
def A1S:=W9.K Tryz.func40
def oD:=W9.S
def A5V:G3 A13 oD:=A1S.flat
def mU:FD A8:=⟨px 0X12df2001b18195034a1a04a1e33e4a1f0101b1819503381a0381e12c381f01190320401c192b1e205218f21b63b31b50203041800503d740770523201042,[],[],[.tmp 2],[D9 F7 J6]⟩
def xM:=mU.R
def B3k:=mR xM mU (tT []) n [a0] h
def A6j:=mU.K Tryz.func41
def yG:=mU.S
def B0N:G3 xM yG:=A6j.flat
def mT:FD A8:=⟨px 0X128f402c280240521ff11ef2763c51b1282801e1e2c1df70042032e10440503d71801c1d0062340130182,[],[],[.tmp 4],[D9 oC A6e]⟩
def xL:=mT.R
def B3j:=mR xL mT (tT []) n [a0,a1] h
def wX:=mT.K Tryz.func86
def nA:=mT.S
def B0M:G3 xL nA:=wX.flat
def bH:FD A8:=⟨px 0X13201022bf1b052802b49218011b2015000002722403f0421338171f044d1521ef400441811d3284215030702441340121394200605110290103041800503d75072f2d2b42820133201042,[],[],[.tmp 2],[D9 jT A4m,D9 nA wX]⟩
def A6q:=bH.R
def A5O:AtH:=bH.lj 0 n [m] [x0,x9,x10,x11]
def A6G:=tT [⟨2,4,A5O⟩]
def B3i:=mR A6q bH A6G n [a0] h
def A0D:=mL bH A6G 0 n [m] [x0,x9,x10,x11] h
def A6i:=bH.K Tryz.func42
def yF:=bH.S
def B0L:G3 A6q yF:=A6i.flat
def Z7:FD A8:=⟨px 0X13601023ff2f052803f49218011b60168000002722404226e10414a3b2b47d1523af226291a1b021841821d43c4215030702441340121694200605110290463a2c2b45f5d5b528200232bf12af2763c71b1282801e2a2c29f1b0042033e10440503d71c01c1f006236015301c2,[],[],[.tmp 6],[D9 oC A6e]⟩
def A4L:=Z7.R
def A3l:AtH:=Z7.lj 0 n [m] [x2,x21,x22,x23]
def A42:=tT [⟨2,4,A3l⟩]
def B2h:=mR A4L Z7 A42 n [a0,a1,a2] h
def zO:=mL Z7 A42 0 n [m] [x2,x21,x22,x23] h
def A4r:=Z7.K Tryz.func88
def uH:=Z7.S
def A8Y:G3 A4L uH:=A4r.flat
def O4:FD A8:=⟨px 0X13201027af1b051be07a49218011b2015000002722479f59030381901b281bb7b01c84d061a311c82f01c81e04f1c81f01c81e34f1c81f71c8701bb75031bb1a5f1bb701190220414f5a2b291ab2f2d2b402d211b201500000004722458f3c03018191031991a01991e34f1991f0150220417a492b191802448f3c004326c10426a3d2b502792f2d2b1b19403d21a011b2015000002722410325a3a026f4110722439f2e050220404e2f2b45d42252df500620320403e50440503d71f060191b431ef2763c41b071841871d4284215011a0702441340121394200605110290440503d76062f2d2b42820133201042,[],[],[.tmp 2],[D9 B0H B8A,D9 uH A4r]⟩
def A4J:=O4.R
def A3k:AtH:=O4.lj 0 n [m] [x0,x9,x10,x11]
def A3j:AtH:=O4.lj 1 n [m] [x0,x9,x10,x11]
def B56:AtH:=O4.lj 2 n [m] [x0,x4,x5,x9,x10,x11,x28]
def jU:=tT [⟨2,4,A3k⟩,⟨2,4,A3j⟩,⟨2,7,B56⟩]
def B2f:=mR A4J O4 jU n [a0] h
def zN:=mL O4 jU 0 n [m] [x0,x9,x10,x11] h
def B1v:=mJ O4 jU 1 n [m] [x0,x9,x10,x11] h
def R1:=mJ O4 jU 2 n [m] [x0,x4,x5,x9,x10,x11,x28] h
def A4p:=O4.K Tryz.func43
def uF:=O4.S
def A8W:G3 A4J uF:=A4p.flat
def W8:FD A8:=⟨px 0X135010238f1f052a03849218011b5014c000002722403f062130413a54a2b5955f1522af2262971b021841821d42a421503070244134012149420060501102904203281b18041800503d1c1859180193f3d3b6283002331642e2195182,[],[],[.tmp 5],[D9 xT A9W,D9 nA wX]⟩
def A12:=W8.R
def A0E:AtH:=W8.lj 0 n [m] [x2,x13,x14,x15]
def A17:=tT [⟨2,4,A0E⟩]
def A8F:=mR A12 W8 A17 n [a0,a1,a2] h
def tG:=mL W8 A17 0 n [m] [x2,x13,x14,x15] h
def A1R:=W8.K Tryz.func90
def fI:=W8.S
def A5U:G3 A12 fI:=A1R.flat
def M6:FD A8:=⟨px 0X13601024bf1e055a04b49218011b6017800000004722430381902822c5d6e206205d2f05d1e05c5d1f045d3c005d1f05d6c75d705d1e0485d1f5a5d70104224e10412c2a2b1f01918d35329f2763c181b071841871d41e42150307024613401213f4200605110290440503d719063d3b3953138200003336015301c2,[],[],[.tmp 6],[D9 F7 J6,D9 fI A1R]⟩
def nV:=M6.R
def dC:L7:=M6.E
def cJ:AtH:=M6.lj 0 n [m] [x0,x1,x2,x12,x13,x14]
def oH:TT:=⟨dC,[⟨2,6,cJ⟩]⟩
def A10:=mR nV M6 oH n [a0,a1,a2] h
def A1i:=mL M6 oH 0 n [m] [x0,x1,x2,x12,x13,x14] h
def nR:=M6.K Tryz.func89
def dF:=M6.S
def zS:G3 nV dF:=nR.flat
def jM:FD A8:=⟨px 0X15f200194303611ba5e44400523103a2342,[],[],[.tmp 2],[D9 dF nR]⟩
def A4K:=jM.R
def B2g:=mR A4K jM (tT []) n [a0] h
def A4q:=jM.K Tryz.func44
def uG:=jM.S
def A8X:G3 A4K uG:=A4q.flat
def cU:FD A8:=⟨px 0X1340102188f5a055c018849218011b40119000002722401b2a1901dc4d0161dc2f04251dc2f1ce1dc7041dc3c001dc1f01dc6c71dc70103f042431ae1031800500503d75e02a1ff1525df1800441811d32942150307024413401211af42006051102901335f494f1c41ad1ab1a91282013011b401190000722401b2a191057a1a07a4b04227a2f47e1b7a3c047a3c007a1f07a6c77a70101b18190684d011682f5849683c0103f482e01d01919d4321232df1102cf24961f055a1282801e2c2c2bf1d0042033e1b18041800503d71e01a11b1d1b210293013401280000722410220410162d41c192b439420331432e270182,[],[],[.tmp 4],[D9 jS wV,D9 A1G B6b,D9 sL A7h,D9 kF tO,D9 X3 aH,D9 E2 F0,D9 xO B2w]⟩
def A0O:=cU.R
def A7f:AtH:=cU.lj 0 n [m] [x0,x40,x41,x42]
def A82:=tT [⟨2,4,A7f⟩]
def B5M:=mR A0O cU A82 n [a0,a1] h
def A2D:=mL cU A82 0 n [m] [x0,x40,x41,x42] h
def A8y:=cU.K Tryz.func93
def A0R:=cU.S
def B2o:G3 A0O A0R:=A8y.flat
def gW:FD A8:=⟨px 0X13cf5001b18190420682f5c1b683c5e681e0101b18191034e1a04e1e2484e1f0101b18191033c1a03c1e1a2e3c1f010380383b061841852c18000072122a10162d44182b3027f21b63b61b61b71c31d4231642e2195182,[],[.eqA A5 ([.i .i64,.i .i64,.i .i64,.i .i64,.i .i64,.i .i64]) (.t 11) (.t 12)],[.tmp 5],[D9 A0R A8y]⟩
def rR:=gW.R
def B0r:=mR rR gW (tT []) n [a0,a1,a2] h
def A21:=gW.K Tryz.func92
def gY:=gW.S
def A72:G3 rR gY:=A21.flat
def N4:FD A8:=⟨px 0X13601024bf1e055a04b49218011b6017800000004722430381902822c5d6e206205d2f05d1e05c5d1f045d3c005d1f05d6c75d705d1e0485d1f5a5d70104224e10412c2a2b1f01918d35329f2763c181b071841871d41e42150307024613401213f4200605110290440503d719063d3b3953138200003336015301c2,[],[],[.tmp 6],[D9 F7 J6,D9 gY A21]⟩
def qY:=N4.R
def eJ:L7:=N4.E
def dS:AtH:=N4.lj 0 n [m] [x0,x1,x2,x12,x13,x14]
def qZ:TT:=⟨eJ,[⟨2,6,dS⟩]⟩
def A2L:=mR qY N4 qZ n [a0,a1,a2] h
def A2E:=mL N4 qZ 0 n [m] [x0,x1,x2,x12,x13,x14] h
def qX:=N4.K Tryz.func89
def eQ:=N4.S
def A0S:G3 qY eQ:=qX.flat
def mS:FD A8:=⟨px 0X15f200194303611bc5e44400523103a2342,[],[],[.tmp 2],[D9 eQ qX]⟩
def A6p:=mS.R
def B3h:=mR A6p mS (tT []) n [a0] h
def A6h:=mS.K Tryz.func45
def yE:=mS.S
def B0K:G3 A6p yE:=A6h.flat
def jN:FD A8:=⟨px 0X139f180303c1901b182f7b044581a4e5875858702f702f4d04202f2f3e2f7032f3c002f1f002f1f02f6c72f70110321e12a00000172318017530282,[],[],[.tmp 8],[D9 X3 aH]⟩
def A4N:=jN.R
def B2j:=mR A4N jN (tT []) n [a0,a1,a2,a3] h
def A4t:=jN.K Tryz.func95
def uJ:=jN.S
def A80:G3 A4N uJ:=A4t.flat
def Q3:FD A8:=⟨px 0X13501026af49054a06a49218011b5011b0000027224042e3a41316f10423319a106223041a4f5041800503d2f4039027812f4c591d0191cb3534bf1904126a423503270244131889012118d42016251490118b1d262820130135016e0000172241022041a6c3e2b3189421d2601d3011b501680000172240439184135c1041a5c55e395957b422a2e501d338f1f052a03849218011b5014c00000037224046184134813a13a14a2b5955f33622af129f7061867a414282a18215030702451339012149420060511061842a1d2b33f3d182031cf6001030421c1a2b41d4231642e2195182,[],[],[.tmp 5],[D9 xY A4k,D9 uJ A4t,D9 E2 F0,D9 qI A3D]⟩
def A11:=Q3.R
def A0B:AtH:=Q3.lj 0 n [m] [x2,x4,x6,x14,x15]
def A0C:AtH:=Q3.lj 1 n [m] [x2,x4,x6,x33]
def oI:=tT [⟨2,5,A0B⟩,⟨2,4,A0C⟩]
def A8E:=mR A11 Q3 oI n [a0,a1,a2] h
def tD:=mL Q3 oI 0 n [m] [x2,x4,x6,x14,x15] h
def tF:=mL Q3 oI 1 n [m] [x2,x4,x6,x33] h
def A1Q:=Q3.K Tryz.func94
def fH:=Q3.S
def A5T:G3 A11 fH:=A1Q.flat
def M5:FD A8:=⟨px 0X13601024bf1e055a04b49218011b6017800000004722430381902822c5d6e206205d2f05d1e05c5d1f045d3c005d1f05d6c75d705d1e0485d1f5a5d70104224e10412c2a2b1f01918d35329f2763c181b071841871d41e42150307024613401213f4200605110290440503d719063d3b3953138200003336015301c2,[],[],[.tmp 6],[D9 F7 J6,D9 fH A1Q]⟩
def nU:=M5.R
def dB:L7:=M5.E
def cH:AtH:=M5.lj 0 n [m] [x0,x1,x2,x12,x13,x14]
def oG:TT:=⟨dB,[⟨2,6,cH⟩]⟩
def A1Z:=mR nU M5 oG n [a0,a1,a2] h
def A1h:=mL M5 oG 0 n [m] [x0,x1,x2,x12,x13,x14] h
def nQ:=M5.K Tryz.func89
def dD:=M5.S
def zR:G3 nU dD:=nQ.flat
def jL:FD A8:=⟨px 0X15f20054303611be5e44400523103a2342,[],[],[.tmp 2],[D9 dD nQ]⟩
def A4I:=jL.R
def B2e:=mR A4I jL (tT []) n [a0] h
def A4o:=jL.K Tryz.func46
def uE:=jL.S
def A8V:G3 A4I uE:=A4o.flat
def aR:FD A8:=⟨px 0X15af203f5a02500000000067259f2b055c0594921858f3e052c02218022a181a11d5002040411d7817e4a071849f700441811d368423503270241813401217f420162501102901a233062230405855e4185c42f1c180197d7b7921d32ef2763c51b071841871d43e42150307024513401215942006051102901133e4281c44f4d4b42820131ff3000116b0400502e1c2b57201920112481500622410320103031801e182b42f420314a03a2342,[],[],[.tmp 2],[D9 gE lA,gG Y7 tP,D9 F7 J6,D9 Y5 rQ]⟩
def B3g:=aR.R
def A2W:AtH:=aR.lj 0 n [m] [x1,x3,x17,x18,x19]
def B2a:AtH:=aR.lj 1 n [m,m2] [x1,x3,x17,x18,x19,x28,x29,x30]
def A41:=tT [⟨2,5,A2W⟩,⟨3,8,B2a⟩]
def B8O:=mR B3g aR A41 n [a0] h
def A5M:=mL aR A41 0 n [m] [x1,x3,x17,x18,x19] h
def A5N:=mL aR A41 1 n [m,m2] [x1,x3,x17,x18,x19,x28,x29,x30] h
def A4n:=aR.K Tryz.func97
def yD:=aR.S
def B7F:A4u B3g yD:=A4n.out
def Z8:FD A8:=⟨px 0X132010229f1b051c02949218011b201500001722450522e1f02490521ef400441811d3284215030702431340121394200605110290103041800503d75072f2d2b1c20133201042,[],[],[.tmp 2],[D9 yD A4n]⟩
def A4M:=Z8.R
def A3m:AtH:=Z8.lj 0 n [m] [x9,x10,x11]
def A43:=tT [⟨2,3,A3m⟩]
def B2i:=mR A4M Z8 A43 n [a0] h
def zP:=mL Z8 A43 0 n [m] [x9,x10,x11] h
def A4s:=Z8.K Tryz.func47
def uI:=Z8.S
def A8Z:G3 A4M uI:=A4s.flat
def S5:FD A8:=⟨px 0X14ef20038042433033041800503d7101236e3e07019500000004733df2a052e03d4921803cf300613901011113e5c15c15182410524c2f02693522ef12cf400461a11d4153c3e18215011a07024513401214f4200605110290113041800503d71c074d4b491c2031bf300103031800500503d76077423201042,[],[.eqA A5 (E68 256 (.i .u8)) (.t 31) (.t 37)],[.tmp 2],[D9 A4V A9Z,D9 yD A4n,D9 pY A3C,D9 uB A4i,D9 E2 F0]⟩
def A27:=S5.R
def A2F:AtH:=S5.lj 0 n [m] [x0,x3,x16,x17,x18]
def B42:AtH:=S5.lj 1 n [m] [x0,x3,x16,x17,x18]
def rZ:=tT [⟨2,5,A2F⟩,⟨2,5,B42⟩]
def B0s:=mR A27 S5 rZ n [a0] h
def vY:=mL S5 rZ 0 n [m] [x0,x3,x16,x17,x18] h
def vX:=mJ S5 rZ 1 n [m] [x0,x3,x16,x17,x18] h
def A22:=S5.K Tryz.func48
def rW:=S5.S
def A73:G3 A27 rW:=A22.flat
def P6:FD A8:=⟨px 0X16cf206f6c0250000003726bf4f053806b4921806af6001813901011113e190027f16f161824005f1985c021bb2525bf159f700461a11d415291f18215011a07024413401211a9420060511029193818387c17387816386c15386814385c13385812384c11384810383c2b02d19f19d19b1c201314a11d422af5001133c4291c31b0520128f2051011113e2500622410322c1e023f421131df11cf2462e31b11828061c2c1bf190010371a018197019212481042,[],[.mkb 40 (.t 19),.mkb 41 (.t 21),.mkb 42 (.t 23),.mkb 43 (.t 25),.mkb 44 (.t 27),.mkb 45 (.t 29),.mkb 46 (.t 31),.mkb 47 (.t 33),.mkb 48 (.t 35),.buildSl 1 9 (E68 9 (.nf)) [(0,1,(.t 20)),(1,1,(.t 22)),(2,1,(.t 24)),(3,1,(.t 26)),(4,1,(.t 28)),(5,1,(.t 30)),(6,1,(.t 32)),(7,1,(.t 34)),(8,1,(.t 36))]],[.tmp 2],[gG vF B49,gG B0O B8B,D9 oD A1S,D9 yG A6j,D9 yF A6i,D9 uF A4p,D9 uG A4q,D9 yE A6h,D9 uE A4o,D9 uI A4s,D9 rW A22]⟩
def A26:=P6.R
def rP:L7:=P6.E
def A2C:AtH:=P6.lj 0 n [m] [x6,x37,x38,x39]
def B41:AtH:=P6.lj 1 n [m] [x6,x37,x38,x39]
def rY:TT:=⟨rP,[⟨2,4,A2C⟩,⟨2,4,B41⟩]⟩
def B0q:=mR A26 P6 rY n [a0] h
def vW:=mL P6 rY 0 n [m] [x6,x37,x38,x39] h
def vV:=mJ P6 rY 1 n [m] [x6,x37,x38,x39] h
def A20:=P6.K Tryz.func11
def rU:=P6.S
def A8U:A4u A26 rU:=A20.out
def A1B:FD A8:=⟨px 0X16f201022029010361500523201042,[],[],[.tmp 2],[D9 rU A20]⟩
def B6r:=A1B.R
def C1k:=mR B6r A1B (tT []) n [a0] h
def B6m:=A1B.K Tryz.func12
def A71:=A1B.S
def B7G:G3 B6r A71:=B6m.flat
end
structure IsLook(D:Dev)(n m:Int)(f:Cell)(h:A9)(r:Nat):Prop where
 view:IsView h f D
 row:∃ x w,rd h r=A4 ⟨vwC (l_ D) n m f++[x],w⟩/\IsTree h (.c x) (D7 D n)
def E0x{sz n:Nat}{cs:List Cell}(hv:Has h v sz n cs):∃ x,v=.c x:=by
 rcases hv with ⟨rfl,_⟩ | ⟨id,off,r,rfl,_⟩
 ·exact ⟨_,rfl⟩
 ·exact ⟨_,rfl⟩
section
variable {D:Dev} {n m:Int} {f:Cell} {h:A9} {r:Nat}
def IsLook.noX{x:Cell}{w:Bool}{f':Cell}(hv:IsView h f' D)(ht:IsTree h (.c x) (D7 D n)):Esc.noX (vwC (l_ D) n m f'++[x])=A5:=by
 obtain ⟨id,cs,rfl⟩:=hv.get;obtain ⟨_,hx,_⟩:=ht;have hn:=A9v hx;unfold Esc.noX;rw [List.all_append];have e1:(vwC (l_ D) n m (.f id cs)).all (λc=>!c.isX)=A5:=rfl;rw [e1];show (A5&&(!x.isX&&A5))=A5;rw [hn];rfl
def IsLook.ro(k:IsLook D n m f h r):IsLook D n m f (Esc.ro h) r:=by
 obtain ⟨x,w,h1,h2⟩:=k.row;exact ⟨k.view.ro,x,A6,tV h1 (IsLook.noX (w:=w) k.view h2),h2.ro⟩
def IsLook.more(k:IsLook D n m f h r)(t:A9):IsLook D n m f (h++t) r:=by
 obtain ⟨x,w,h1,h2⟩:=k.row;exact ⟨k.view.more t,x,w,B6 h1,h2.more t⟩
def IsLook.v4(k:IsLook D n m f h r):D3 h 4 (pV r 0)=A4 (.a (vwC (l_ D) n m f)):=by
 obtain ⟨x,w,h1,h2⟩:=k.row;have hx:=IsLook.noX (n:=n) (m:=m) (w:=w) k.view h2;rw [U2 h1 (by simp [vwC]) (by
  have:Esc.noX (((vwC (l_ D) n m f++[x]).drop 0).take 4)=A5:=by
   rw [Esc.noX] at hx ⊢;exact E7D.2 λc hc=>E7D.1 hx c (by rw [E7n] at hc;exact List.mem_of_mem_take hc)
  rw [this];simp)]
 rfl
def IsLook.v3(k:IsLook D n m f h r):D3 h 3 (pV r 0)=A4 (.a (M4 (l_ D) n m)):=by
 obtain ⟨x,w,h1,h2⟩:=k.row;have hx:=IsLook.noX (n:=n) (m:=m) (w:=w) k.view h2;rw [U2 h1 (by simp [vwC]) (by
  have:Esc.noX (((vwC (l_ D) n m f++[x]).drop 0).take 3)=A5:=by
   rw [Esc.noX] at hx ⊢;exact E7D.2 λc hc=>E7D.1 hx c (by rw [E7n] at hc;exact List.mem_of_mem_take hc)
  rw [this];simp)]
 rfl
def IsLook.tree(k:IsLook D n m f h r):∃ x,B8 h (pV r 4)=A4 (.c x)/\IsTree h (.c x) (D7 D n):=by
 obtain ⟨x,w,h1,h2⟩:=k.row;obtain ⟨_,hx,_⟩:=id h2;have hn:=A9v hx;exact ⟨x,C1 h1 rfl (by rw [hn];simp),h2⟩
def C9n(hD:okD D)(hv:IsView h f D):∃ rr H,B0O [.a (vwC (l_ D) n m f)] h=A4 (pV rr 0,H)/\Grows h H/\IsLook D n m f H rr:=by
 obtain ⟨V,hV⟩:=xEq (vwC (l_ D) n m f);have hVl:l_ V=4:=by rw [hV];rfl
 obtain ⟨G,hG⟩:=xEq (h++[rT V]);obtain ⟨v,H,o1,o2,o3⟩:=C9h (n:=n) (m:=m) (h:=G) hD (by rw [hG];exact hv.more _);obtain ⟨_,hx,_⟩:=id o2;obtain ⟨x,rfl⟩:=E0x hx;have o1q:quiet G (Y7 [.a (vwC (l_ D) n m f)] G)=A4 (.c x,H):=by rw [o1];exact V6 o3
 have l4:D3 G 4 (pV (l_ h) 0)=A4 (.a V):=by rw [hG,G9];exact L9 hVl
 have ef:F9 [o0,o0,.i .u64 0,.nf,.ns] [(0,4,.a V),(4,1,.c x)]=A4 (V++[x]):=by rw [hV];rfl
 have G1:Grows h G:=by rw [hG];exact Grows.rfl'.new _
 have lH:Low (l_ G) G H:=by
  refine ⟨E69 _,o3.len,λid hid=>?_⟩;obtain ⟨tt,rfl⟩:=o3.1;exact D5 hid
 refine ⟨l_ H,H++[rT (V++[x])],C4C (n:=0) ?_,(G1.trans' o3).new _,⟨?_,x,A5,?_,o2.more _⟩⟩
 ·rw [C4o,<-hV];rw [<-hV] at o1q;simp only [esc,<-hG,l4,o1q,ef]
 ·exact ((by rw [hG];exact hv.more _:IsView G f D).since lH).more _
 ·rw [I3,hV];rfl
def B4Z(D:Dev)(n:Int):Bool:=!((E7H (nM (l_ D) n).toNat).all λk=>A5g (blk D (bE (l_ D) n+(k:Nat))) 8 0)
def D2l(hD:okD D)(k:IsLook D n m f h r):∀ (e i M:Nat),i+e=(nM (l_ D) n).toNat->e<M ->
  ∃ g',A0F q M (pV r 0) (iV (bE (l_ D) n)) (iV (nM (l_ D) n)) (iV (bE (l_ D) n+(i:Nat))) h=A4 (bV (!((E7G i e).all λk=>A5g (blk D (bE (l_ D) n+(k:Nat))) 8 0)),g'):=by
 intro e;obtain ⟨t0,t2,n0,n16⟩:=C2L (b:=l_ D) (n:=n)
 induction e with
 | zero =>
  intro i M hi hM;obtain ⟨M,rfl⟩:=Z3 M (by omega);have c0:¬ bE (l_ D) n+(i:Nat)<bE (l_ D) n+nM (l_ D) n:=by omega
  have w0:E7f .i64 (bE (l_ D) n+nM (l_ D) n)=bE (l_ D) n+nM (l_ D) n:=wrap_i64 (by omega) (by omega);rw [tH];exact ⟨_,by simp only [esc,w0,c0]<;>rfl⟩
 | succ e ih =>
  intro i M hi hM;obtain ⟨M,rfl⟩:=Z3 M (by omega);have c0:bE (l_ D) n+(i:Nat)<bE (l_ D) n+nM (l_ D) n:=by omega
  have w0:E7f .i64 (bE (l_ D) n+nM (l_ D) n)=bE (l_ D) n+nM (l_ D) n:=wrap_i64 (by omega) (by omega);have w1:E7f .i64 (bE (l_ D) n+(i:Nat)+1)=bE (l_ D) n+((i+1:Nat):Int):=by rw [wrap_i64 (by omega) (by omega)];omega
  have l4:=k.v4;have hB:=N2 (n:=n) (m:=m) (no:=bE (l_ D) n+(i:Nat)) hD k.view;have hC:=C8d (b:=blk D (bE (l_ D) n+(i:Nat))) (h:=h) (J8 hD);obtain ⟨g',f1⟩:=ih (i+1) M (by omega) (by omega);rw [tH,List.range'_succ,E8e];generalize vwC (l_ D) n m f=V at *;generalize B4 (blk D (bE (l_ D) n+(i:Nat)))=X at *;cases hc:A5g (blk D (bE (l_ D) n+(i:Nat))) 8 0 with
  | false =>
   rw [hc] at hC;exact ⟨h,by simp only [esc,w0,c0,l4,hB,hC,E7v]⟩
  | true =>
   rw [hc] at hC;refine ⟨g',?_⟩;simp only [esc,w0,c0,l4,hB,hC,w1,E7w];exact f1
def C2O(hD:okD D)(k:IsLook D n m f h r):oD [pV r 0] h=A4 (bV (B4Z D n),h):=by
 obtain ⟨g',f1⟩:=D2l (q:=100) hD k.ro (nM (l_ D) n).toNat 0 100 (by omega) (by have:=(C2L (b:=l_ D) (n:=n)).2.2.2;omega);have l3:=k.ro.v3;have hT:=A1J (b:=l_ D) (n:=n) (m:=m) (h:=ro h);refine A5V (n:=100) (h2:=g') ?_ rfl;rw [A8G];have z0:bE (l_ D) n+((0:Nat):Int)=bE (l_ D) n:=by omega
 rw [z0] at f1;unfold B4Z;rw [List.range_eq_range'];generalize M4 (l_ D) n m=L at *;simp only [esc,l3,hT];exact f1
def D0F(D:Dev)(n:Int):Bool:=!decide (kdV D n 1=2/\lnV D n 1=1/\paV D n 1=1)
end
section
variable {D:Dev} {n m:Int} {f:Cell} {h:A9} {r:Nat}
def C9o(hD:okD D)(k:IsLook D n m f h r):yG [pV r 0] h=A4 (bV (D0F D n),h):=by
 have key:∀ g,IsLook D n m f g r->∃ g',xM 0 [pV r 0] g=A4 (bV (D0F D n),g'):=λg k=>by
  have l4:=k.v4;have hI:=U5 (n:=n) (m:=m) (i:=1) hD k.view;rw [dV] at hI;obtain ⟨I,hIe⟩:=xEq (C9 (kdV D n 1) (lnV D n 1) (szV D n 1) (paV D n 1) (drV D n 1));have hIl:l_ I=11:=by rw [hIe];simp [C9,B9,J9]
  have i0:I[0]?=A4 (cI (kdV D n 1)):=by rw [hIe];rfl
  have i1:I[1]?=A4 (cI (lnV D n 1)):=by rw [hIe];rfl
  have i3:I[3]?=A4 (cI (paV D n 1)):=by rw [hIe];rfl
  rw [<-hIe] at hI;obtain ⟨G,hG⟩:=xEq (g++[rT I]);have st:G0 (g++[rT [o0,o0,o0,o0,o0,o0,o0,o0,o0,o0,o0]]) 11 (pV (l_ g) 0) (.a I)=A4 G:=by
   rw [storeAll (n:=11) (cs:=[o0,o0,o0,o0,o0,o0,o0,o0,o0,o0,o0]) (by rw [I3];rfl) rfl hIl,tW,hG];rfl
  have rG:rd G (l_ g)=rT I:=by rw [hG,I3];rfl
  have a0:B8 G (pV (l_ g) 0)=A4 (iV (kdV D n 1)):=C1 rG i0 rfl;have a1:B8 G (pV (l_ g) 1)=A4 (iV (lnV D n 1)):=C1 rG i1 rfl;have a3:B8 G (pV (l_ g) 3)=A4 (iV (paV D n 1)):=C1 rG i3 rfl;refine ⟨G,?_⟩;rw [B3k];unfold D0F;generalize vwC (l_ D) n m f=V at *;by_cases c0:kdV D n 1=2
  ·by_cases c1:lnV D n 1=1
   ·by_cases c3:paV D n 1=1
    ·rw [R9 ⟨c0,c1,c3⟩];simp only [esc,l4,hI,st,a0,a1,a3,c0,c1,c3,eq_self]
    ·rw [aC (λh=>c3 h.2.2)];simp only [esc,l4,hI,st,a0,a1,a3,c0,c1,c3,eq_self]
   ·rw [aC (λh=>c1 h.2.1)];simp only [esc,l4,hI,st,a0,a1,a3,c0,c1,eq_self]
  ·rw [aC (λh=>c0 h.1)];simp only [esc,l4,hI,st,a0,a1,a3,c0,eq_self]
 obtain ⟨g',e⟩:=key _ k.ro;exact B0N e rfl
def B67(k:IsLook D n m f h r):nA [pV r 0,iV a] h=A4 (bV (iQ (D7 D n) a).isSome,h):=by
 have key:∀ g,IsLook D n m f g r->∃ g',xL 0 [pV r 0,iV a] g=A4 (bV (iQ (D7 D n) a).isSome,g'):=λg k=>by
  obtain ⟨x,l1,ht⟩:=k.tree;obtain ⟨cs,l,hF,hN⟩:=C0I (a:=a) ht gB;obtain ⟨G,hG⟩:=xEq (g++l);rw [<-hG] at hF;have st:G0 (G++[rT [o0,o0,o0,o0,o0,.ns,.ns]]) 7 (pV (l_ G) 0) (.a cs)=A4 (G++[rT cs]):=B4V hN.length;refine ⟨G++[rT cs],?_⟩;rw [B3j];simp only [C7,A6I,R4,E7o,l1,hF,yI,E7W,E7u,E7U,fV,fW,st]
 obtain ⟨g',e⟩:=key _ k.ro;exact B0M e rfl
def D3Q(D:Dev)(n:Int):Bool:=!((zB (kdV D n) 128 0).all λi=>(iQ (D7 D n) i).isSome)
def D8w{id:Nat}(k:IsLook D n m f h r)(hr:rd h id=rT (encI L))(hL:l_ L<=1000):∀ (e i M:Nat),i+e=l_ L->e<M ->
  ∃ g',A5O q M (pV r 0) (sV id 0 (l_ L) 1) (iV (l_ L:Nat)) (iV (i:Int)) h=A4 (bV (!((L.drop i).all λi=>(iQ (D7 D n) i).isSome)),g'):=by
 intro e
 induction e with
 | zero =>
  intro i M hi hM;obtain ⟨M,rfl⟩:=Z3 M (by omega);have c0:¬ (i:Int)<(l_ L:Nat):=by omega
  rw [A0D,E7j (by omega)];exact ⟨_,by simp only [esc,c0]<;>rfl⟩
 | succ e ih =>
  intro i M hi hM;obtain ⟨M,rfl⟩:=Z3 M (by omega);have K6:i<(l_ L):=by omega
  have c0:(i:Int)<(l_ L:Nat):=by omega
  have w1:=E3 (a:=i) (by omega);have ad:F5 1 (sV id 0 (l_ L) 1) (iV (i:Int))=A4 (pV id i):=by rw [E4 K6];simp
  have la:B8 h (pV id i)=A4 (iV L[i]):=C1 hr (by rw [G7,E64 K6];rfl) rfl;have hN:=B67 (a:=L[i]) k;obtain ⟨g',f1⟩:=ih (i+1) M (by omega) (by omega);rw [A0D,E7g K6,E8e];cases hc:(iQ (D7 D n) L[i]).isSome with
  | false =>
   rw [hc] at hN;exact ⟨h,by simp only [esc,c0,ad,la,hN,E7v]⟩
  | true =>
   rw [hc] at hN;refine ⟨g',?_⟩;simp only [esc,c0,ad,la,hN,w1,E7w];exact f1
def C9m(hD:okD D)(k:IsLook D n m f h r):yF [pV r 0] h=A4 (bV (D3Q D n),h):=by
 have l4:=k.ro.v4;have hV:=C8t (n:=n) (m:=m) hD k.ro.view;have hl:=B94 (kdV D n) 128 0;obtain ⟨L,hL⟩:=xEq (zB (kdV D n) 128 0);rw [<-hL] at hV hl;obtain ⟨g',f1⟩:=D8w (q:=200) (id:=(ro h).length) (k.ro.more [rT (encI L)]) (by rw [I3];rfl) (by omega) (l_ L) 0 200 (by omega) (by omega);have z0:((0:Nat):Int)=0:=rfl;rw [z0,E7n] at f1;refine B0L (n:=200) (h2:=g') ?_ rfl;rw [B3i];unfold D3Q;rw [<-hL];generalize vwC (l_ D) n m f=V at *;simp only [esc,l4,hV];exact f1
end
def B8i(t:List Nd)(dir a:Int):Bool:=((iQ t dir).getD ⟨0,0,0,0,0,[],[]⟩).names.any λe=>decide (e.2=a)
def tA(t:List Nd)(x:Nd):Bool :=
 if x.ino=1 then decide ((cD t x.ino:Int)≠0) else
  (decide (x.links≠cD t x.ino)||(decide (x.kind=1)&&decide (x.parent≠0)))||(decide (x.kind=2)&&(decide ((cD t x.ino:Int)≠1) || !(B8i t x.parent x.ino)))
def D1L(D:Dev)(n:Int):Bool:=(D7 D n).any (tA (D7 D n))
section
variable {D:Dev} {n m:Int} {f:Cell} {h:A9} {r:Nat}
def D6B{y:Cell}{L:List Ent}(hL:l_ L<=1000000):∀ (e i M:Nat) (h:A9),i+e=l_ L->e<M->Has h (.c y) 2 (l_ L) (J7 L) ->
  ∃ g',A3l q M (.c (cI a)) (.c y) (.c (cI (l_ L:Nat))) (.c (cI (i:Int))) h=A4 (.c (.b ((L.drop i).any λe=>decide (e.2=a))),g'):=by
 intro e
 induction e with
 | zero =>
  intro i M h hi hM hy;obtain ⟨M,rfl⟩:=Z3 M (by omega);have c0:¬ (i:Int)<(l_ L:Nat):=by omega
  rw [zO,E7j (by omega)];exact ⟨_,by simp only [esc,c0]<;>rfl⟩
 | succ e ih =>
  intro i M h hi hM hy;obtain ⟨M,rfl⟩:=Z3 M (by omega);have K6:i<(l_ L):=by omega
  have c0:(i:Int)<(l_ L:Nat):=by omega
  have w1:=E3 (a:=i) (by omega);obtain ⟨ad,a1,a2⟩:=A4d hy K6;obtain ⟨x,hx⟩:=xEq (L[i]);rw [<-hx] at a2;obtain ⟨g',f1⟩:=ih (i+1) M (h++[rT (W5 (A4 x))]) (by omega) (by omega) (hy.more _);rw [zO,E7g K6,<-hx,List.any_cons];by_cases c:x.2=a
  ·rw [R9 c];exact ⟨h++[rT (W5 (A4 x))],by simp only [C7,G4,c0,decide_true,Y1,a1,a2,B4U,R4,E7o,C6N,dH,c,decide_true,E71]⟩
  ·rw [aC c,E79];refine ⟨g',?_⟩;simp only [C7,G4,c0,decide_true,Y1,a1,a2,B4U,R4,E7o,C6N,dH,c,decide_false,Y0,M7,w1];exact f1
def D3m{t:List Nd}(hs:small t):((iQ t a).getD ⟨0,0,0,0,0,[],[]⟩).names.length<=1000000:=by
 cases hf:iQ t a with
 | none=>exact Nat.zero_le _
 | some x=>exact (hs.2 x (List.mem_of_find?_eq_some hf)).2
def C8A{dir:Int}(k:IsLook D n m f h r):uH [.c (.p r 0),.c (cI dir),.c (cI a)] h=A4 (.c (.b (B8i (D7 D n) dir a)),h):=by
 obtain ⟨x,l1,ht⟩:=k.ro.tree;obtain ⟨cs,l,hF,hN⟩:=C0I (a:=dir) ht gB;have hs:=D3m (a:=dir) (gB (D:=D) (n:=n));unfold B8i;generalize (iQ (D7 D n) dir).getD ⟨0,0,0,0,0,[],[]⟩=nd at *;obtain ⟨G,hG⟩:=xEq (ro h++l);rw [<-hG] at hF hN;have st:G0 (G++[rT [o0,o0,o0,o0,o0,.ns,.ns]]) 7 (.c (.p (l_ G) 0)) (.a cs)=A4 (G++[rT cs]):=B4V hN.length;obtain ⟨x1,y,rfl,h1,h2⟩:=hN;obtain ⟨K,hK⟩:=xEq (G++[rT (ndC nd.ino nd.kind nd.links nd.parent nd.size x1 y)]);rw [<-hK] at st;have hny:=A9v h2;have l6:B8 K (.c (.p (l_ G) 6))=A4 (.c y):=C1 (by rw [hK,I3];rfl) rfl rfl;have hyK:Has K (.c y) 2 nd.names.length (J7 nd.names):=by rw [hK];exact h2.more _
 have hyl:=hyK.len;obtain ⟨g',f1⟩:=D6B (q:=nd.names.length+1) (a:=a) hs nd.names.length 0 (nd.names.length+1) K (by omega) (by omega) hyK;have z0:((0:Nat):Int)=0:=rfl;rw [z0,E7n] at f1;refine A8Y (n:=nd.names.length+1) (h2:=g') ?_ rfl;rw [B2h];generalize ndC nd.ino nd.kind nd.links nd.parent nd.size x1 y=N at *;simp only [C7,A6I,R4,E7o,l1,hF,yI,E7W,E7u,E7U,fV,fW,st,l6,hyl];exact f1
def D5S:∀ (e i M:Nat) (h:A9) (x:Cell),i+e=(D7 D n).length->e<M->IsLook D n m f h r->B8 h (pV r 4)=A4 (.c x)->IsTree h (.c x) (D7 D n) ->
  ∃ g',A3k q M (pV r 0) (.c x) (iV ((D7 D n).length:Nat)) (iV (i:Int)) h=A4 (bV (((D7 D n).drop i).any (tA (D7 D n))),g'):=by
 have hsm:=gB (D:=D) (n:=n);have hlen:=hsm.1;intro e
 induction e with
 | zero =>
  intro i M h x hi hM k l1 ht;obtain ⟨M,rfl⟩:=Z3 M (by omega);have c0:¬ (i:Int)<((D7 D n).length:Nat):=by omega
  rw [zN,E7j (by omega)];exact ⟨_,by simp only [esc,c0]<;>rfl⟩
 | succ e ih =>
  intro i M h x hi hM k l1 ht;obtain ⟨M,rfl⟩:=Z3 M (by omega);have K6:i<(D7 D n).length:=by omega
  have c0:(i:Int)<((D7 D n).length:Nat):=by omega
  have w1:=E3 (a:=i) (by omega);obtain ⟨id,o,cs,a1,a2,_,hN⟩:=A9Q ht K6;have st:G0 (h++[rT [o0,o0,o0,o0,o0,.ns,.ns]]) 7 (pV (l_ h) 0) (.a cs)=A4 (h++[rT cs]):=B4V hN.length;obtain ⟨K,hK⟩:=xEq (h++[rT cs]);have rK:rd K (l_ h)=rT cs:=by rw [hK,I3];rfl
  rw [<-hK] at st;have kK:IsLook D n m f K r:=by rw [hK];exact k.more _
  have htK:IsTree K (.c x) (D7 D n):=by rw [hK];exact ht.more _
  have lK:B8 K (pV r 4)=A4 (.c x):=by
   obtain ⟨x',l',_⟩:=kK.tree;obtain ⟨xx,w,r1,r2⟩:=k.row;have e1:rd K r=A4 ⟨vwC (l_ D) n m f++[xx],w⟩:=by rw [hK];exact B6 r1
   have hn:=A9v r2.choose_spec.1;have e2:B8 h (pV r 4)=A4 (.c xx):=C1 r1 rfl (by rw [hn];simp);rw [e2] at l1;cases l1;exact C1 e1 rfl (by rw [hn];simp)
  obtain ⟨nd,hnd⟩:=xEq ((D7 D n)[i]);rw [<-hnd] at hN;have hC:=C9f (a:=nd.ino) htK hsm;have hT:=C8A (dir:=nd.parent) (a:=nd.ino) kK;obtain ⟨g',f1⟩:=ih (i+1) M K x (by omega) (by omega) kK lK htK;obtain ⟨x1,y1,ecs,_,_⟩:=hN;have g0:B8 K (pV (l_ h) 0)=A4 (iV nd.ino):=C1 rK (by rw [ecs];rfl) rfl;have g1:B8 K (pV (l_ h) 1)=A4 (iV nd.kind):=C1 rK (by rw [ecs];rfl) rfl;have g2:B8 K (pV (l_ h) 2)=A4 (iV nd.links):=C1 rK (by rw [ecs];rfl) rfl;have g3:B8 K (pV (l_ h) 3)=A4 (iV nd.parent):=C1 rK (by rw [ecs];rfl) rfl;rw [zN,E7g K6,<-hnd,List.any_cons];have back:tA (D7 D n) nd=A6->A3j q M (pV r 0) (.c x) (iV ((D7 D n).length:Nat)) (iV (i:Int)) K=A4 (bV (tA (D7 D n) nd||((D7 D n).drop (i+1)).any (tA (D7 D n))),g'):=by
   intro hb;rw [B1v,hb,E79];simp only [C7,M7,w1];exact f1
  have pre:∀ {R:Option (Val × A9)},True:=λ{_}=>trivial
  by_cases c1:nd.ino=1
  ·by_cases c2:(cD (D7 D n) nd.ino:Int)=0
   ·have hb:tA (D7 D n) nd=A6:=by unfold tA;rw [C4 c1,aC (λh=>h c2)]
    refine ⟨g',?_⟩;rw [<-back hb];rw [c1] at g0 hC c2;simp only [esc,c0,a1,a2,st,lK,g0,hC,c2,eq_self]
   ·have hb:tA (D7 D n) nd=A5:=by unfold tA;rw [C4 c1,R9 c2]
    rw [hb];refine ⟨K,?_⟩;rw [c1] at g0 hC c2;simp only [esc,c0,a1,a2,st,lK,g0,hC,c2,eq_self,E71]
  ·have hl:tA (D7 D n) nd=((decide (nd.links≠cD (D7 D n) nd.ino)||(decide (nd.kind=1)&&decide (nd.parent≠0)))||(decide (nd.kind=2)&&(decide ((cD (D7 D n) nd.ino:Int)≠1) || !(B8i (D7 D n) nd.parent nd.ino)))):=by unfold tA;rw [C5 c1]
   generalize (cD (D7 D n) nd.ino:Int)=N at *;by_cases c2:nd.links=N
   ·by_cases c3:nd.kind=1
    ·by_cases c4:nd.parent=0
     ·have hb:tA (D7 D n) nd=A6:=by rw [hl,c2,c3,c4];simp
      refine ⟨g',?_⟩;rw [<-back hb];simp only [esc,c0,a1,a2,st,lK,g0,hC,c1,g1,g2,g3,c2,c3,c4,eq_self,R1];simp
     ·have hb:tA (D7 D n) nd=A5:=by rw [hl,R9 c3,R9 c4];simp
      rw [hb];refine ⟨K,?_⟩;simp only [esc,c0,a1,a2,st,lK,g0,hC,c1,g1,g2,g3,c2,c3,c4,eq_self,R1,E71]
    ·have n21:¬ (2:Int)=1:=by decide
     by_cases c4:nd.kind=2
     ·by_cases c5:N=1
      ·cases hb2:B8i (D7 D n) nd.parent nd.ino with
       | true =>
        rw [hb2] at hT;have hb:tA (D7 D n) nd=A6:=by rw [hl,c2,hb2,aC c3,c5];simp
        refine ⟨g',?_⟩;rw [<-back hb];simp only [esc,c0,a1,a2,st,lK,g0,hC,c1,g1,g2,g3,c2,c3,c4,n21,c5,hT,eq_self,R1]
       | false =>
        rw [hb2] at hT;have hb:tA (D7 D n) nd=A5:=by rw [hl,hb2,R9 c4];simp
        rw [hb];refine ⟨K,?_⟩;simp only [esc,c0,a1,a2,st,lK,g0,hC,c1,g1,g2,g3,c2,c3,c4,n21,c5,hT,eq_self,R1,E71]
      ·have hb:tA (D7 D n) nd=A5:=by rw [hl,R9 c4,R9 c5];simp
       rw [hb];refine ⟨K,?_⟩;simp only [esc,c0,a1,a2,st,lK,g0,hC,c1,g1,g2,g3,c2,c3,c4,n21,c5,eq_self,R1,E71]
     ·have hb:tA (D7 D n) nd=A6:=by rw [hl,c2,aC c3,aC c4];simp
      refine ⟨g',?_⟩;rw [<-back hb];simp only [esc,c0,a1,a2,st,lK,g0,hC,c1,g1,g2,g3,c2,c3,c4,eq_self,R1]
   ·have hb:tA (D7 D n) nd=A5:=by rw [hl,R9 c2];simp
    rw [hb];refine ⟨K,?_⟩;simp only [esc,c0,a1,a2,st,lK,g0,hC,c1,g1,g2,c2,eq_self,R1,E71]
def C8x(k:IsLook D n m f h r):uF [pV r 0] h=A4 (bV (D1L D n),h):=by
 obtain ⟨x,l1,ht⟩:=k.ro.tree;have hlen:=(gB (D:=D) (n:=n)).1;obtain ⟨g',f1⟩:=D5S (q:=(D7 D n).length+1) (D7 D n).length 0 ((D7 D n).length+1) _ x (by omega) (by omega) k.ro l1 ht;have z0:((0:Nat):Int)=0:=rfl;rw [z0,E7n] at f1;have al:=ht.len;refine A8W (n:=(D7 D n).length+1) (h2:=g') ?_ rfl;rw [B2f];simp only [C7,A6I,R4,E7o,l1,al];exact f1
end
def C2r(D:Dev)(n i:Int):Bool:=(fU D n (kdV D n i) (drV D n i)).any λe=>!(iQ (D7 D n) e.2).isSome
def C7B(D:Dev)(n:Int):Bool:=(D7 D n).any λx=>decide (x.kind=2)&&C2r D n x.ino
section
variable {D:Dev} {n m:Int} {f:Cell} {h:A9} {r:Nat}
def D3W{y:Cell}{L:List Ent}(hL:l_ L<=1000000):∀ (e i M:Nat) (h:A9),i+e=l_ L->e<M->IsLook D n m f h r->(∃ w,rd h pp=A4 ⟨[.p r 0],w⟩)->Has h (.c y) 2 (l_ L) (J7 L) ->
  ∃ g',A0E q M (.c (.p pp 0)) (.c y) (.c (cI (l_ L:Nat))) (.c (cI (i:Int))) h=A4 (.c (.b ((L.drop i).any λe=>!(iQ (D7 D n) e.2).isSome)),g'):=by
 intro e
 induction e with
 | zero =>
  intro i M h hi hM k hp hy;obtain ⟨M,rfl⟩:=Z3 M (by omega);have c0:¬ (i:Int)<(l_ L:Nat):=by omega
  rw [tG,E7j (by omega)];exact ⟨_,by simp only [esc,c0]<;>rfl⟩
 | succ e ih =>
  intro i M h hi hM k hp hy;obtain ⟨M,rfl⟩:=Z3 M (by omega);have K6:i<(l_ L):=by omega
  have c0:(i:Int)<(l_ L:Nat):=by omega
  have w1:=E3 (a:=i) (by omega);obtain ⟨ad,a1,a2⟩:=A4d hy K6;obtain ⟨x,hx⟩:=xEq (L[i]);rw [<-hx] at a2;obtain ⟨G,hG⟩:=xEq (h++[rT (W5 (A4 x))]);have st:G0 (h++[rT [.s [],o0]]) 2 (.c (.p (l_ h) 0)) (.a (W5 (A4 x)))=A4 G:=by rw [hG];exact B4U
  have e1:B8 G (.c (.p (l_ h) 1))=A4 (.c (cI x.2)):=by rw [hG];exact C6N
  have kG:IsLook D n m f G r:=by rw [hG];exact k.more _
  obtain ⟨w,hp1⟩:=hp;have hpG:rd G pp=A4 ⟨[.p r 0],w⟩:=by rw [hG];exact B6 hp1
  have lp:B8 G (.c (.p pp 0))=A4 (.c (.p r 0)):=C1 hpG rfl (by simp [Cell.isX]);have hN:=B67 (a:=x.2) kG;obtain ⟨g',f1⟩:=ih (i+1) M G (by omega) (by omega) kG ⟨w,hpG⟩ (by rw [hG];exact hy.more _);rw [tG,E7g K6,<-hx,List.any_cons];cases hc:(iQ (D7 D n) x.2).isSome with
  | false =>
   rw [hc] at hN;exact ⟨G,by simp only [C7,G4,c0,decide_true,Y1,a1,a2,st,lp,R4,E7o,e1,hN,yL,Bool.not_false,E71]⟩
  | true =>
   rw [hc] at hN;refine ⟨g',?_⟩;simp only [C7,G4,c0,decide_true,Y1,a1,a2,st,lp,R4,E7o,e1,hN,yL,Bool.not_true,Y0,M7,w1,E79];exact f1
def D8C{i:Int}(hD:okD D)(k:IsLook D n m f h r)(hp:rd h pp=A4 ⟨[.p r 0],w⟩) :
  fI [.c (cI i),.a (A2r D n i),.c (.p pp 0)] h=A4 (.c (.b (C2r D n i)),h):=by
 obtain ⟨I,hI⟩:=xEq (C9 (kdV D n i) (lnV D n i) (szV D n i) (paV D n i) (drV D n i));have hIl:l_ I=11:=by rw [hI];simp [C9,B9,J9]
 rw [dV,<-hI];obtain ⟨G,hG⟩:=xEq (ro h++[rT I]);have kG:IsLook D n m f G r:=by rw [hG];exact k.ro.more _
 have hpG:rd G pp=A4 ⟨[.p r 0],A6⟩:=by rw [hG];exact B6 (tV hp rfl)
 have lp:B8 G (.c (.p pp 0))=A4 (.c (.p r 0)):=C1 hpG rfl rfl;have l4:=kG.v4;have l11:D3 G 11 (.c (.p (ro h).length 0))=A4 (.a I):=C8 (by rw [hG,I3];rfl) hIl;have hLi:=B6I (n:=n) (m:=m) (k:=kdV D n i) (l:=lnV D n i) (s:=szV D n i) (p:=paV D n i) (d:=drV D n i) (h:=G) hD J9 kG.view;rw [<-hI] at hLi;have E50:=C2l (D:=D) (n:=n) (k:=kdV D n i) (d:=drV D n i);unfold C2r;obtain ⟨L,hL⟩:=xEq (fU D n (kdV D n i) (drV D n i));rw [<-hL] at hLi E50 ⊢;have hLq:quiet G (xT [.a (vwC (l_ D) n m f),.a I] G)=A4 (.c (.sl (l_ G) 0 (l_ L) 2),G++[rT (J7 L)]):=by rw [hLi];exact V6 (Grows.rfl'.new _)
 obtain ⟨g',f1⟩:=D3W (q:=1000) (pp:=pp) (y:=.sl (l_ G) 0 (l_ L) 2) (L:=L) (by omega) (l_ L) 0 1000 (G++[rT (J7 L)]) (by omega) (by omega) (kG.more _) ⟨A6,B6 hpG⟩ (Has.row (by rw [I3];rfl) iP A9n);have z0:((0:Nat):Int)=0:=rfl;rw [z0,E7n] at f1;refine A5U (n:=1000) (h2:=g') ?_ rfl;rw [A8F];generalize vwC (l_ D) n m f=V at *;simp only [esc,<-hG,lp,l4,l11,hLq];exact f1
def C2u{kd:Int}{B:Int->Bool}{fc:Val}{C:Val->List Val->A9->zQ}{L1:Nat->Cell->Val->A9->zQ}(hD:okD D)
  (hL:∀ M y x h,L1 (M+1) y x h=bnd (O0 .lss x (iV ((D7 D n).length:Nat))) λv5=>cnd v5 (bnd (F5 7 (.c y) x) λv6=>bnd (D3 h 7 v6) λv7=>bnd (G0 (h++[rT ([o0,o0,o0,o0,o0,.ns,.ns])]) 7 (pV (l_ h) 0) v7) λh8=>bnd (U8 (pV (l_ h) 0) 1) λv9=>bnd (B8 h8 v9) λv10=>bnd (O0 .eql v10 (iV kd)) λv11=>bnd (gd v11 A5 (A4 (fc,(h8++[]))) (A4 (.no,(h8++[])))) λp12=>bnd (gd v11 A5 (bnd (U8 (pV (l_ h) 0) 0) λv13=>A4 (v13,p12.2)) (A4 (.no,p12.2))) λp14=>bnd (gd v11 A5 (bnd (B8 h8 p14.1) λv15=>A4 (v15,p14.2)) (A4 (.no,p14.2))) λp16=>bnd (gd v11 A5 (A4 ((pV r 0),p16.2)) (A4 (.no,p16.2))) λp17=>bnd (gd v11 A5 (bnd (A6H p17.1) λv18=>A4 (v18,p17.2)) (A4 (.no,p17.2))) λp19=>bnd (gd v11 A5 (bnd (U8 p19.1 0) λv20=>A4 (v20,p19.2)) (A4 (.no,p19.2))) λp21=>bnd (gd v11 A5 (bnd (D3 h8 4 p21.1) λv22=>A4 (v22,p21.2)) (A4 (.no,p21.2))) λp23=>bnd (gd v11 A5 (bnd (U8 (pV (l_ h) 0) 0) λv24=>A4 (v24,p23.2)) (A4 (.no,p23.2))) λp25=>bnd (gd v11 A5 (bnd (B8 h8 p25.1) λv26=>A4 (v26,p25.2)) (A4 (.no,p25.2))) λp27=>bnd (gd v11 A5 (bnd (quiet p27.2 (F7 [p23.1,p27.1] p27.2)) λp28=>A4 (p28.1,p28.2)) (A4 (.no,p27.2))) λp29=>bnd (gd v11 A5 (bnd (C p12.1 [p16.1,p29.1] p29.2) λp30=>A4 (p30.1,p30.2)) (A4 (.no,p29.2))) λp31=>bnd (C9L v11 p31.1 (bV A6)) λv32=>cnd v32 (A4 ((bV A5),p31.2)) (bnd (O0 .add x (iV 1)) λv33=>L1 M y v33 p31.2)) (A4 ((bV A6),h)))
  (hC:∀ a K,IsLook D n m f K r->(∃ w,rd K pp=A4 ⟨[.p r 0],w⟩)->C fc [iV a,.a (A2r D n a)] K=A4 (bV (B a),K)):∀ (e i M:Nat) (h:A9) (x:Cell),i+e=(D7 D n).length->e<M->IsLook D n m f h r->(∃ w,rd h pp=A4 ⟨[.p r 0],w⟩)->IsTree h (.c x) (D7 D n) ->
  ∃ g',L1 M x (iV (i:Int)) h=A4 (bV (((D7 D n).drop i).any λx=>decide (x.kind=kd)&&B x.ino),g'):=by
 have hlen:=(gB (D:=D) (n:=n)).1;intro e
 induction e with
 | zero =>
  intro i M h x hi hM k hp ht;obtain ⟨M,rfl⟩:=Z3 M (by omega);have c0:¬ (i:Int)<((D7 D n).length:Nat):=by omega
  rw [hL,E7j (by omega)];exact ⟨_,by simp only [esc,c0]<;>rfl⟩
 | succ e ih =>
  intro i M h x hi hM k hp ht;obtain ⟨M,rfl⟩:=Z3 M (by omega);have K6:i<(D7 D n).length:=by omega
  have c0:(i:Int)<((D7 D n).length:Nat):=by omega
  have w1:=E3 (a:=i) (by omega);obtain ⟨id,o,cs,a1,a2,_,hN⟩:=A9Q ht K6;have st:G0 (h++[rT [o0,o0,o0,o0,o0,.ns,.ns]]) 7 (pV (l_ h) 0) (.a cs)=A4 (h++[rT cs]):=B4V hN.length;obtain ⟨K,hK⟩:=xEq (h++[rT cs]);have rK:rd K (l_ h)=rT cs:=by rw [hK,I3];rfl
  rw [<-hK] at st;have kK:IsLook D n m f K r:=by rw [hK];exact k.more _
  have htK:IsTree K (.c x) (D7 D n):=by rw [hK];exact ht.more _
  obtain ⟨w,hp1⟩:=hp;have hpK:∃ w,rd K pp=A4 ⟨[.p r 0],w⟩:=⟨w,by rw [hK];exact B6 hp1⟩;obtain ⟨nd,hnd⟩:=xEq ((D7 D n)[i]);rw [<-hnd] at hN;have l4:=kK.v4;have hI:=U5 (n:=n) (m:=m) (i:=nd.ino) hD kK.view;have hIq:quiet K (F7 [.a (vwC (l_ D) n m f),iV nd.ino] K)=A4 (.a (A2r D n nd.ino),K):=by rw [hI];exact aD
  have hB:=hC nd.ino K kK hpK;obtain ⟨g',f1⟩:=ih (i+1) M K x (by omega) (by omega) kK hpK htK;obtain ⟨x1,y1,ecs,_,_⟩:=hN;have g0:B8 K (pV (l_ h) 0)=A4 (iV nd.ino):=C1 rK (by rw [ecs];rfl) rfl;have g1:B8 K (pV (l_ h) 1)=A4 (iV nd.kind):=C1 rK (by rw [ecs];rfl) rfl;rw [hL,E7g K6,<-hnd,List.any_cons];generalize vwC (l_ D) n m f=V at *;generalize A2r D n nd.ino=I at *;by_cases c1:nd.kind=kd
  ·rw [R9 c1,E7w];cases hb:B nd.ino with
   | true =>
    rw [hb] at hB;exact ⟨K,by simp only [esc,c0,a1,a2,st,g0,g1,c1,l4,hIq,hB,E71]⟩
   | false =>
    rw [hb] at hB;refine ⟨g',?_⟩;simp only [esc,c0,a1,a2,st,g0,g1,c1,l4,hIq,hB,w1,E79];exact f1
  ·rw [aC c1,E7v,E79];refine ⟨g',?_⟩;simp only [esc,c0,a1,a2,st,g0,g1,c1,w1];exact f1
def D5v(hD:okD D):∀ (e i M:Nat) (h:A9) (x:Cell),i+e=(D7 D n).length->e<M->IsLook D n m f h r->(∃ w,rd h pp=A4 ⟨[.p r 0],w⟩)->IsTree h (.c x) (D7 D n) ->
  ∃ g',cJ q M (pV r 0) (iV 2) (.c (.f 90 [(pp,0)])) (.c x) (iV ((D7 D n).length:Nat)) (iV (i:Int)) h=A4 (bV (((D7 D n).drop i).any λx=>decide (x.kind=2)&&C2r D n x.ino),g') :=
 C2u (C:=aV dC) (L1:=λM y x h=>cJ q M (pV r 0) (iV 2) (.c (.f 90 [(pp,0)])) (.c y) (iV ((D7 D n).length:Nat)) x h) hD (λM y x h=>A1i ..) λa K k hp=>by
  obtain ⟨w,hp⟩:=hp;have hcv:∀ a b h',aV dC (.c (.f 90 [(pp,0)])) [a,b] h'=fI [a,b,pV pp 0] h':=λ_ _ _=>Eq.trans rfl rfl
  rw [hcv];exact D8C hD k hp
def C8z(hD:okD D)(k:IsLook D n m f h r):uG [pV r 0] h=A4 (bV (C7B D n),h):=by
 have hlen:=(gB (D:=D) (n:=n)).1;have hE:∀ g pp w,IsLook D n m f g r->rd g pp=A4 ⟨[.p r 0],w⟩->dF [pV r 0,iV 2,.c (.f 90 [(pp,0)])] g=A4 (bV (C7B D n),g):=by
  intro g pp w k hp;obtain ⟨x,l1,ht⟩:=k.ro.tree;obtain ⟨g',f1⟩:=D5v (q:=(D7 D n).length+1) (pp:=pp) hD (D7 D n).length 0 ((D7 D n).length+1) _ x (by omega) (by omega) k.ro ⟨A6,tV hp rfl⟩ ht;have z0:((0:Nat):Int)=0:=rfl;rw [z0,E7n] at f1;have al:=ht.len;refine zS (n:=(D7 D n).length+1) (h2:=g') ?_ rfl;rw [A10];simp only [C7,A6I,R4,E7o,l1,al];exact f1
 have e1:=hE (ro h++[rT [.p r 0]]) (ro h).length A5 (k.ro.more _) (by rw [I3];rfl);have lp:B8 (ro h++[rT [.p r 0]]) (pV (ro h).length 0)=A4 (pV r 0):=by rw [I6];rfl
 have mk:A3N 90 [pV (ro h).length 0]=A4 (.c (.f 90 [((ro h).length,0)])):=rfl;have cc:cells? (pV r 0)=A4 [.p r 0]:=rfl;refine A8X (n:=0) (h2:=ro h++[rT [.p r 0]]) ?_ rfl;rw [B2g];simp only [C7,cc,lp,mk,e1]
end
def A1j(D:Dev)(n k no keep:Int):Bool:=decide (no≠0)&&(!(F6 (l_ D) n no)||decide (keep<=k))
section
variable {D:Dev} {n m:Int} {f:Cell} {h:A9} {r:Nat}
def A5P{keep:Int}(L:IsLook D n m f h r):uJ [pV r 0,iV k,iV no,iV keep] h=A4 (bV (A1j D n k no keep),h):=by
 have l3:=L.ro.v3;have hD:=Y3 (b:=l_ D) (n:=n) (m:=m) (i:=no) (h:=ro h);refine A80 (n:=0) (h2:=ro h) ?_ rfl;rw [B2j];unfold A1j;generalize M4 (l_ D) n m=V at *;by_cases c0:no=0
 ·rw [aC (λh=>h c0)];simp only [esc,c0,E7v]
 ·rw [R9 c0,E7w];cases hd:F6 (l_ D) n no with
  | false =>
   rw [hd] at hD;simp only [esc,c0,l3,hD,E71]
  | true =>
   rw [hd] at hD;by_cases c1:keep<=k
   ·have c1':k>=keep:=c1;simp only [esc,c0,l3,hD,c1',E79,c1]
   ·have c1':¬ k>=keep:=c1;simp only [esc,c0,l3,hD,c1',E79,c1]
def E0k{pi:Nat}{kd ln sz pa keep:Int}(hD:okD D)(hd:l_ d=7)(L:IsLook D n m f h r)(hp:∃ w,rd h pp=A4 ⟨[.p r 0],w⟩)(hi:rd h pi=rT (C9 kd ln sz pa d)):∀ (e i M:Nat),i+e=128->e<M ->
  ∃ g',A0C q M (pV pp 0) (pV pi 0) (iV keep) (iV (i:Int)) h=A4 (bV ((E7G i e).any λk=>A1j D n (6+(k:Int)) (ptP (blk D (d.getD 6 0)) k) keep),g'):=by
 obtain ⟨w,hp⟩:=hp;have lp:B8 h (pV pp 0)=A4 (pV r 0):=C1 hp rfl (by simp [Cell.isX]);have l4:=L.v4;have l10:B8 h (pV pi 10)=A4 (iV (d.getD 6 0)):=by
  refine C1 hi ?_ rfl;simp only [C9,E7u];rw [G7,E67,E64 (by omega)];rfl
 intro e
 induction e with
 | zero =>
  intro i M hi hM;obtain ⟨M,rfl⟩:=Z3 M (by omega);have c0:¬ (i:Int)<128:=by omega
  rw [tF];exact ⟨_,by simp only [esc,c0]<;>rfl⟩
 | succ e ih =>
  intro i M hi hM;obtain ⟨M,rfl⟩:=Z3 M (by omega);have c0:(i:Int)<128:=by omega
  have w1:=E3 (a:=i) (by omega);have w6:E7f .i64 (6+(i:Int))=6+(i:Int):=wrap_i64 (by omega) (by omega);have hB:=N2 (n:=n) (m:=m) (no:=d.getD 6 0) hD L.view;have hBq:quiet h (E2 [.a (vwC (l_ D) n m f),iV (d.getD 6 0)] h)=A4 (.a (B4 (blk D (d.getD 6 0))),h):=by rw [hB];exact aD
  have hG:=A8k (b:=blk D (d.getD 6 0)) (k:=i) (h:=h) (J8 hD) (by omega);have hGq:quiet h (qI [.a (B4 (blk D (d.getD 6 0))),iV i] h)=A4 (iV (ptP (blk D (d.getD 6 0)) i),h):=by rw [hG];exact aD
  have hW:=A5P (k:=6+(i:Int)) (no:=ptP (blk D (d.getD 6 0)) i) (keep:=keep) L;obtain ⟨g',f1⟩:=ih (i+1) M (by omega) (by omega);rw [tF,List.range'_succ,List.any_cons];generalize vwC (l_ D) n m f=V at *;generalize B4 (blk D (d.getD 6 0))=X at *;cases hb:A1j D n (6+(i:Int)) (ptP (blk D (d.getD 6 0)) i) keep with
  | true =>
   rw [hb] at hW;exact ⟨h,by simp only [esc,c0,lp,w6,l4,l10,hBq,hGq,hW,E71]⟩
  | false =>
   rw [hb] at hW;refine ⟨g',?_⟩;simp only [esc,c0,lp,w6,l4,l10,hBq,hGq,hW,w1,E79];exact f1
def D7E(D:Dev)(n keep:Int)(d:List Int):Bool:=A1j D n 6 (d.getD 6 0) keep||(decide (d.getD 6 0≠0)&&(E7G 0 128).any λk=>A1j D n (6+(k:Int)) (ptP (blk D (d.getD 6 0)) k) keep)
def C19(D:Dev)(n i:Int):Bool:=((E7G 0 6).any λk=>A1j D n (k:Int) ((drV D n i).getD k 0) (T2 (szV D n i)))||D7E D n (T2 (szV D n i)) (drV D n i)
def E0j{pi:Nat}{kd ln sz pa keep:Int}(hq:200<q)(hD:okD D)(hd:l_ d=7)(L:IsLook D n m f h r)(hp:∃ w,rd h pp=A4 ⟨[.p r 0],w⟩)(hi:rd h pi=rT (C9 kd ln sz pa d)):∀ (e i M:Nat),i+e=6->e<M ->
  ∃ g',A0B q M (pV pp 0) (pV pi 0) (iV keep) (.a (encI (d.take 6))) (iV (i:Int)) h=A4 (bV (((E7G i e).any λk=>A1j D n (k:Int) (d.getD k 0) keep)||D7E D n keep d),g'):=by
 have hp':=hp;obtain ⟨w,hp'⟩:=hp';have lp:B8 h (pV pp 0)=A4 (pV r 0):=C1 hp' rfl (by simp [Cell.isX]);have l10:B8 h (pV pi 10)=A4 (iV (d.getD 6 0)):=by
  refine C1 hi ?_ rfl;simp only [C9,E7u];rw [G7,E67,E64 (by omega)];rfl
 intro e
 induction e with
 | zero =>
  intro i M hi' hM;obtain ⟨M,rfl⟩:=Z3 M (by omega);have c0:¬ (i:Int)<6:=by omega
  have hW:=A5P (k:=6) (no:=d.getD 6 0) (keep:=keep) L;rw [tD];have e0:((E7G i 0).any λk=>A1j D n (k:Int) (d.getD k 0) keep)=A6:=rfl;rw [e0,E79];unfold D7E;cases hb:A1j D n 6 (d.getD 6 0) keep with
  | true =>
   rw [hb] at hW;exact ⟨h,by simp only [esc,c0,lp,l10,hW,E71]⟩
  | false =>
   rw [hb] at hW;rw [E79];by_cases c1:d.getD 6 0=0
   ·rw [aC (λh=>h c1),E7v];rw [c1] at hW l10;exact ⟨h,by simp only [esc,c0,lp,l10,hW]⟩
   ·rw [R9 c1,E7w];obtain ⟨g',f1⟩:=E0k (q:=q) (keep:=keep) hD hd L hp hi 128 0 q (by omega) (by omega);have z0:((0:Nat):Int)=0:=rfl;rw [z0] at f1;refine ⟨g',?_⟩;simp only [esc,c0,lp,l10,hW,c1];exact f1
 | succ e ih =>
  intro i M hi' hM;obtain ⟨M,rfl⟩:=Z3 M (by omega);have hi6:i<6:=by omega
  have c0:(i:Int)<6:=by omega
  have w1:=E3 (a:=i) (by omega);have ad:A44 6 (.a (encI (d.take 6))) (iV (i:Int))=A4 (iV (d.getD i 0)):=by
   rw [B4m hi6,G7,E7M hi6,E67,E64 (by omega)];rfl
  have hW:=A5P (k:=(i:Int)) (no:=d.getD i 0) (keep:=keep) L;obtain ⟨g',f1⟩:=ih (i+1) M (by omega) (by omega);rw [tD,List.range'_succ,List.any_cons];generalize encI (d.take 6)=X at *;cases hb:A1j D n (i:Int) (d.getD i 0) keep with
  | true =>
   rw [hb] at hW;exact ⟨h,by simp only [esc,c0,lp,ad,hW,E71]⟩
  | false =>
   rw [hb] at hW;refine ⟨g',?_⟩;simp only [esc,c0,lp,ad,hW,w1,E79];exact f1
def D77{i:Int}(hD:okD D)(k:IsLook D n m f h r)(hp:rd h pp=A4 ⟨[.p r 0],w⟩) :
  fH [iV i,.a (A2r D n i),pV pp 0] h=A4 (bV (C19 D n i),h):=by
 rw [dV];obtain ⟨I,hI⟩:=xEq (C9 (kdV D n i) (lnV D n i) (szV D n i) (paV D n i) (drV D n i));have hIl:l_ I=11:=by rw [hI];simp [C9,B9,J9]
 obtain ⟨G,hG⟩:=xEq (ro h++[rT I]);have kG:IsLook D n m f G r:=by rw [hG];exact k.ro.more _
 have hpG:rd G pp=A4 ⟨[.p r 0],A6⟩:=by rw [hG];exact B6 (tV hp rfl)
 have rI:rd G (ro h).length=rT I:=by rw [hG,I3];rfl
 have l2:B8 G (pV (ro h).length 2)=A4 (iV (szV D n i)):=C1 rI (by rw [hI];rfl) rfl;have hBl:=B1W (n:=szV D n i) (h:=G);have eB:(if szV D n i<1 then (0:Int) else if 34304<szV D n i then 134 else (szV D n i+255)/256)=T2 (szV D n i):=rfl;rw [eB] at hBl;have l6:D3 G 6 (pV (ro h).length 4)=A4 (.a (encI ((drV D n i).take 6))):=by
  rw [U2 rI (by omega) rfl,hI];show A4 (Val.a ((encI (drV D n i)).take 6))=_;unfold encI;rw [List.map_take]
 obtain ⟨g',f1⟩:=E0j (q:=300) (pp:=pp) (pi:=(ro h).length) (keep:=T2 (szV D n i)) (by omega) hD J9 kG ⟨A6,hpG⟩ (by rw [<-hI];exact rI) 6 0 300 (by omega) (by omega);have z0:((0:Nat):Int)=0:=rfl;rw [z0] at f1;refine A5T (n:=300) (h2:=g') ?_ rfl;rw [A8E,<-hI];unfold C19;generalize encI ((drV D n i).take 6)=X at *;simp only [esc,<-hG,l2,hBl,l6];exact f1
end
def C6R(D:Dev)(n:Int):Bool:=(D7 D n).any λx=>decide (x.kind=1)&&C19 D n x.ino
section
variable {D:Dev} {n m:Int} {f:Cell} {h:A9} {r:Nat}
def D5u(hD:okD D):∀ (e i M:Nat) (h:A9) (x:Cell),i+e=(D7 D n).length->e<M->IsLook D n m f h r->(∃ w,rd h pp=A4 ⟨[.p r 0],w⟩)->IsTree h (.c x) (D7 D n) ->
  ∃ g',cH q M (pV r 0) (iV 1) (.c (.f 94 [(pp,0)])) (.c x) (iV ((D7 D n).length:Nat)) (iV (i:Int)) h=A4 (bV (((D7 D n).drop i).any λx=>decide (x.kind=1)&&C19 D n x.ino),g') :=
 C2u (C:=aV dB) (L1:=λM y x h=>cH q M (pV r 0) (iV 1) (.c (.f 94 [(pp,0)])) (.c y) (iV ((D7 D n).length:Nat)) x h) hD (λM y x h=>A1h ..) λa K k hp=>by
  obtain ⟨w,hp⟩:=hp;have hcv:∀ a b h',aV dB (.c (.f 94 [(pp,0)])) [a,b] h'=fH [a,b,pV pp 0] h':=λ_ _ _=>Eq.trans rfl rfl
  rw [hcv];exact D77 hD k hp
def C8w(hD:okD D)(k:IsLook D n m f h r):uE [pV r 0] h=A4 (bV (C6R D n),h):=by
 have hlen:=(gB (D:=D) (n:=n)).1;have hE:∀ g pp w,IsLook D n m f g r->rd g pp=A4 ⟨[.p r 0],w⟩->dD [pV r 0,iV 1,.c (.f 94 [(pp,0)])] g=A4 (bV (C6R D n),g):=by
  intro g pp w k hp;obtain ⟨x,l1,ht⟩:=k.ro.tree;obtain ⟨g',f1⟩:=D5u (q:=(D7 D n).length+1) (pp:=pp) hD (D7 D n).length 0 ((D7 D n).length+1) _ x (by omega) (by omega) k.ro ⟨A6,tV hp rfl⟩ ht;have z0:((0:Nat):Int)=0:=rfl;rw [z0,E7n] at f1;have al:=ht.len;refine zR (n:=(D7 D n).length+1) (h2:=g') ?_ rfl;rw [A1Z];simp only [C7,A6I,R4,E7o,l1,al];exact f1
 have e1:=hE (ro h++[rT [.p r 0]]) (ro h).length A5 (k.ro.more _) (by rw [I3];rfl);have lp:B8 (ro h++[rT [.p r 0]]) (pV (ro h).length 0)=A4 (pV r 0):=by rw [I6];rfl
 have mk:A3N 94 [pV (ro h).length 0]=A4 (.c (.f 94 [((ro h).length,0)])):=rfl;have cc:cells? (pV r 0)=A4 [.p r 0]:=rfl;refine A8V (n:=0) (h2:=ro h++[rT [.p r 0]]) ?_ rfl;rw [B2e];simp only [C7,cc,lp,mk,e1]
end
def E2g(D:Dev)(n no:Int):Bool:=!(F6 (l_ D) n no) || !(A8l (blk D no))
section
variable {D:Dev} {n m:Int} {f:Cell} {h:A9} {r:Nat}
def D9L{id:Nat}(hD:okD D)(k:IsLook D n m f h r)(hr:rd h id=rT (encI L))(hL:l_ L<=1000):∀ (e i M:Nat),i+e=l_ L->e<M ->
  ∃ g',A7f q M (pV r 0) (sV id 0 (l_ L) 1) (iV (l_ L:Nat)) (iV (i:Int)) h=A4 (bV ((L.drop i).any (E2g D n)),g'):=by
 intro e
 induction e with
 | zero =>
  intro i M hi hM;obtain ⟨M,rfl⟩:=Z3 M (by omega);have c0:¬ (i:Int)<(l_ L:Nat):=by omega
  rw [A2D,E7j (by omega)];exact ⟨_,by simp only [esc,c0]<;>rfl⟩
 | succ e ih =>
  intro i M hi hM;obtain ⟨M,rfl⟩:=Z3 M (by omega);have K6:i<(l_ L):=by omega
  have c0:(i:Int)<(l_ L:Nat):=by omega
  have w1:=E3 (a:=i) (by omega);have ad:F5 1 (sV id 0 (l_ L) 1) (iV (i:Int))=A4 (pV id i):=by rw [E4 K6];simp
  obtain ⟨no,X5⟩:=xEq (L[i]);have la:B8 h (pV id i)=A4 (iV no):=C1 hr (by rw [G7,E64 K6,X5];rfl) rfl;have l3:=k.v3;have l4:=k.v4;have hI:=Y3 (b:=l_ D) (n:=n) (m:=m) (i:=no) (h:=h);have hB:=N2 (n:=n) (m:=m) (no:=no) hD k.view;have hBq:quiet h (E2 [.a (vwC (l_ D) n m f),iV no] h)=A4 (.a (B4 (blk D no)),h):=by rw [hB];exact aD
  have hR:=C4I (b:=blk D no) (h:=h) (J8 hD);have hRq:quiet h (xO [.a (B4 (blk D no))] h)=A4 (bV (A8l (blk D no)),h):=by rw [hR];exact aD
  obtain ⟨g',f1⟩:=ih (i+1) M (by omega) (by omega);rw [A2D,E7g K6,<-X5,List.any_cons];unfold E2g at f1 ⊢;generalize vwC (l_ D) n m f=V at *;generalize M4 (l_ D) n m=Ly at *;generalize B4 (blk D no)=X at *;cases hd:F6 (l_ D) n no with
  | false =>
   rw [hd] at hI;exact ⟨h,by simp only [esc,c0,ad,la,l3,hI,E71]⟩
  | true =>
   rw [hd] at hI;cases hb:A8l (blk D no) with
   | false =>
    rw [hb] at hR hRq;exact ⟨h,by simp only [esc,c0,ad,la,l3,l4,hI,hB,hR,hBq,hRq,E71,E79]⟩
   | true =>
    rw [hb] at hR hRq;refine ⟨g',?_⟩;simp only [esc,c0,ad,la,l3,l4,hI,hB,hR,hBq,hRq,w1,E79];exact f1
end
def D9K(D:Dev)(n i:Int):Bool:=decide ((drV D n i).getD 0 0≠0)&&(!(X0 D n (kdV D n i) (drV D n i))||(!(A1b (getD (blk D ((drV D n i).getD 0 0))) (O8 (blk D ((drV D n i).getD 0 0)) 32)) ||
 (decide (0<(dQ D n (kdV D n i) (drV D n i) (oX D n (kdV D n i) (drV D n i))).length)||(J5 (O8 (blk D ((drV D n i).getD 0 0)) 32) (C6 (getD (blk D ((drV D n i).getD 0 0))))).any (E2g D n))))
def C6G(D:Dev)(n i:Int):Bool:=!(decide (((drV D n i).take 6).set 0 0=zI 6))||(decide ((drV D n i).getD 6 0≠0)||(decide (szV D n i≠0)||D9K D n i))
def D3c(D:Dev)(n:Int):Bool:=(D7 D n).any λx=>decide (x.kind=2)&&C6G D n x.ino
section
variable {D:Dev} {n m:Int} {f:Cell} {h:A9} {r:Nat}
def D2n{i:Int}(hD:okD D)(k:IsLook D n m f h r):A0R [pV r 0,.a (A2r D n i)] h=A4 (bV (D9K D n i),h):=by
 rw [dV];obtain ⟨I,hI⟩:=xEq (C9 (kdV D n i) (lnV D n i) (szV D n i) (paV D n i) (drV D n i));have hIl:l_ I=11:=by rw [hI];simp [C9,B9,J9]
 rw [<-hI];obtain ⟨g,hg⟩:=xEq (ro h);have kg:IsLook D n m f g r:=by rw [hg];exact k.ro
 suffices key:∃ g',A0O 1000 [pV r 0,.a I] g=A4 (bV (D9K D n i),g') by
  obtain ⟨g',e⟩:=key;rw [hg] at e;exact B2o e rfl
 obtain ⟨G,hG⟩:=xEq (g++[rT I]);have kG:IsLook D n m f G r:=by rw [hG];exact kg.more _
 have rI:rd G (l_ g)=rT I:=by rw [hG,I3];rfl
 have hd7:=J9 (D:=D) (n:=n) (i:=i);have ad:L6 6 1 (pV (l_ g) 4) (iV 0)=A4 (pV (l_ g) 4):=rfl;have l4i:B8 G (pV (l_ g) 4)=A4 (iV ((drV D n i).getD 0 0)):=by
  refine C1 rI ?_ rfl;rw [hI];simp only [C9,E7u];rw [G7,E67,E64 (by omega)];rfl
 have l4:=kG.v4;have l11:D3 G 11 (pV (l_ g) 0)=A4 (.a I):=C8 rI hIl;have cc:cells? (.a I)=A4 I:=rfl;rw [B5M];simp only [cc,C7];rw [<-hG];unfold D9K;by_cases c0:(drV D n i).getD 0 0=0
 ·rw [aC (λh=>h c0),E7v];rw [c0] at l4i;exact ⟨G,by simp only [esc,ad,l4i]⟩
 ·rw [R9 c0,E7w];have hX:=A1I (n:=n) (m:=m) (k:=kdV D n i) (l:=lnV D n i) (s:=szV D n i) (p:=paV D n i) (d:=drV D n i) (h:=G++[A7]) hD hd7 (kG.view.more _);rw [<-hI] at hX;have hXq:quiet (G++[A7]) (jS [.a (vwC (l_ D) n m f),.a I] (G++[A7]))=A4 (.t [.a (encI (sA D n (kdV D n i) (drV D n i))),.c (.b (X0 D n (kdV D n i) (drV D n i)))],G++[A7]):=by rw [hX];exact aD
  obtain ⟨X,hXe⟩:=xEq (encI (sA D n (kdV D n i) (drV D n i)));have hXl:l_ X=33:=by rw [hXe];exact A6Y ..
  rw [<-hXe] at hXq;obtain ⟨K,hK⟩:=xEq (G++[rT X]);have st:G0 (G++[rT (o0::E68 32 o0)]) 33 (pV (l_ G) 0) (.a X)=A4 K:=by
   rw [storeAll (n:=33) (cs:=o0::E68 32 o0) (by rw [I3];rfl) (by simp) hXl,tW,hK];rfl
  have kK:IsLook D n m f K r:=by rw [hK];exact kG.more _
  have rIK:rd K (l_ g)=rT I:=by rw [hK];exact B6 rI
  have rXK:rd K (l_ G)=rT X:=by rw [hK,I3];rfl
  have l33:D3 K 33 (pV (l_ G) 0)=A4 (.a X):=C8 rXK hXl;have l4K:=kK.v4;have l11K:D3 K 11 (pV (l_ g) 0)=A4 (.a I):=C8 rIK hIl;cases sF:X0 D n (kdV D n i) (drV D n i) with
  | false =>
   rw [sF] at hXq;refine ⟨K,?_⟩;generalize vwC (l_ D) n m f=V at *;simp only [esc,ad,l4i,c0,l4,l11,hXq,st,E71]
  | true =>
   rw [sF] at hXq;have hXX:X=encI (getD (blk D ((drV D n i).getD 0 0))::O8 (blk D ((drV D n i).getD 0 0)) 32):=by
    rw [hXe];unfold sA;rw [sF];rfl
   obtain ⟨dd,hdd⟩:=xEq (getD (blk D ((drV D n i).getD 0 0)));obtain ⟨tt,htt⟩:=xEq (O8 (blk D ((drV D n i).getD 0 0)) 32);have htl:tt.length=32:=by rw [htt];exact A2k (by omega)
   rw [<-hdd,<-htt] at hXX ⊢;have hR:=C7c (d:=dd) (t:=tt) (h:=K) htl;rw [<-hXX] at hR;have hRq:quiet K (A1G [.a X] K)=A4 (bV (A1b dd tt),K):=by rw [hR];exact aD
   obtain ⟨v,t,s1,s2,_⟩:=C6I (n:=n) (m:=m) (k:=kdV D n i) (l:=lnV D n i) (s:=szV D n i) (p:=paV D n i) (d:=drV D n i) (h:=K) hD hd7 kK.view;rw [<-hI] at s1;obtain ⟨N,hN⟩:=xEq ((dQ D n (kdV D n i) (drV D n i) (oX D n (kdV D n i) (drV D n i))).length);rw [<-hN] at s2 ⊢;have sl:=s2.len;obtain ⟨T,hT⟩:=xEq (K++t);rw [<-hT] at s1;have kT:IsLook D n m f T r:=by rw [hT];exact kK.more t
   have l33T:D3 T 33 (pV (l_ G) 0)=A4 (.a X):=C8 (by rw [hT];exact B6 rXK) hXl;have hBk:=iR (d:=dd) (t:=tt) (h:=T) htl;rw [<-hXX] at hBk;have hbl:=jG tt (C6 dd);have D8f:=U3 dd;obtain ⟨g',f1⟩:=D9L (q:=1000) (id:=l_ T) (L:=J5 tt (C6 dd)) hD (kT.more [rT (encI (J5 tt (C6 dd)))]) (by rw [I3];rfl) (by omega) (J5 tt (C6 dd)).length 0 1000 (by omega) (by omega);have z0:((0:Nat):Int)=0:=rfl;rw [z0,E7n] at f1;cases hr:A1b dd tt with
   | false =>
    rw [hr] at hRq;refine ⟨K,?_⟩;generalize vwC (l_ D) n m f=V at *;simp only [esc,ad,l4i,c0,l4,l11,hXq,st,l33,hRq,E71,E79]
   | true =>
    rw [hr] at hRq;by_cases cn:0<N
    ·have cn':(N:Int) > 0:=by omega
     rw [R9 cn];refine ⟨T,?_⟩;generalize vwC (l_ D) n m f=V at *;simp only [esc,ad,l4i,c0,l4,l11,hXq,st,l33,hRq,l4K,l11K,s1,sl,cn',E71,E79]
    ·have cn':¬ (N:Int) > 0:=by omega
     rw [aC cn];refine ⟨g',?_⟩;generalize vwC (l_ D) n m f=V at *;simp only [esc,ad,l4i,c0,l4,l11,hXq,st,l33,hRq,l4K,l11K,s1,sl,cn',l33T,hBk,E71,E79];exact f1
def E0b{i:Int}(hD:okD D)(k:IsLook D n m f h r)(hp:rd h pp=A4 ⟨[.p r 0],w⟩) :
  gY [iV i,.a (A2r D n i),pV pp 0] h=A4 (bV (C6G D n i),h):=by
 obtain ⟨g,hg⟩:=xEq (ro h);have kg:IsLook D n m f g r:=by rw [hg];exact k.ro
 have hpg:rd g pp=A4 ⟨[.p r 0],A6⟩:=by rw [hg];exact tV hp rfl
 suffices key:∃ g',rR 1000 [iV i,.a (A2r D n i),pV pp 0] g=A4 (bV (C6G D n i),g') by
  obtain ⟨g',e⟩:=key;rw [hg] at e;exact A72 e rfl
 have E36:=λh (kk:IsLook D n m f h r)=>D2n (i:=i) hD kk
 rw [dV] at E36 ⊢;obtain ⟨I,hI⟩:=xEq (C9 (kdV D n i) (lnV D n i) (szV D n i) (paV D n i) (drV D n i));obtain ⟨J,hJ⟩:=xEq (C9 (kdV D n i) (lnV D n i) (szV D n i) (paV D n i) ((drV D n i).set 0 0));have hIl:l_ I=11:=by rw [hI];simp [C9,B9,J9]
 have hJI:I.set 4 o0=J:=by rw [hI,hJ];exact C7g (i:=0)
 rw [<-hI] at E36 ⊢;obtain ⟨G,hG⟩:=xEq (g++[rT I]);have rI:rd G (l_ g)=rT I:=by rw [hG,I3];rfl
 have l11:D3 G 11 (pV (l_ g) 0)=A4 (.a I):=C8 rI hIl;obtain ⟨K,hK⟩:=xEq (G++[rT I]);have st:G0 (G++[rT [o0,o0,o0,o0,o0,o0,o0,o0,o0,o0,o0]]) 11 (pV (l_ G) 0) (.a I)=A4 K:=by
  rw [storeAll (n:=11) (cs:=[o0,o0,o0,o0,o0,o0,o0,o0,o0,o0,o0]) (by rw [I3];rfl) rfl hIl,tW,hK];rfl
 obtain ⟨Q,hQ⟩:=xEq (G++[rT J]);have s1:I7 K (pV (l_ G) 4) (iV 0)=A4 Q:=by
  rw [I8 (cs:=I) (by rw [hK,I3];rfl) (by omega),hJI,hK,hQ,tW];rfl
 have ad:L6 6 1 (pV (l_ G) 4) (iV 0)=A4 (pV (l_ G) 4):=rfl;have hd7:=J9 (D:=D) (n:=n) (i:=i);have l6:D3 Q 6 (pV (l_ G) 4)=A4 (.a (encI (((drV D n i).take 6).set 0 0))):=by
  rw [U2 (cs:=J) (by rw [hQ,I3];rfl) (by rw [hJ];simp [C9,B9,J9]) rfl,hJ];show A4 (Val.a ((encI ((drV D n i).set 0 0)).take 6))=_;unfold encI;rw [<-List.map_take,<-List.take_set]
 have rIQ:rd Q (l_ g)=rT I:=by rw [hQ];exact B6 rI
 have l10:B8 Q (pV (l_ g) 10)=A4 (iV ((drV D n i).getD 6 0)):=by
  refine C1 rIQ ?_ rfl;rw [hI];simp only [C9,E7u];rw [G7,E67,E64 (by omega)];rfl
 have l2:B8 Q (pV (l_ g) 2)=A4 (iV (szV D n i)):=C1 rIQ (by rw [hI];rfl) rfl;have l11Q:D3 Q 11 (pV (l_ g) 0)=A4 (.a I):=C8 rIQ hIl;have kQ:IsLook D n m f Q r:=by rw [hQ,hG];exact (kg.more _).more _
 have lpQ:B8 Q (pV pp 0)=A4 (pV r 0):=C1 (by rw [hQ,hG];exact B6 (B6 hpg)) rfl rfl;have hB:=E36 Q kQ;have z6:F9 [o0,o0,o0,o0,o0,o0] []=A4 (encI (zI 6)):=rfl;have eq:aeq A5 [Sh.i .i64,.i .i64,.i .i64,.i .i64,.i .i64,.i .i64] (.a (encI (((drV D n i).take 6).set 0 0))) (.a (encI (zI 6)))=A4 (bV (!(decide (((drV D n i).take 6).set 0 0=zI 6)))):=by
  have:=D9w (l:=((drV D n i).take 6).set 0 0) (m:=zI 6) (n:=6) (by simp [hd7]) (by simp [zI]);exact this
 refine ⟨Q,?_⟩;have cc:cells? (.a I)=A4 I:=rfl;rw [B0r];simp only [cc,C7];rw [<-hG];unfold C6G;generalize encI (((drV D n i).take 6).set 0 0)=Y at *;generalize encI (zI 6)=Z at *;cases ca:decide (((drV D n i).take 6).set 0 0=zI 6) with
 | false =>
  rw [ca] at eq;simp only [esc,l11,st,ad,s1,l6,z6,eq,E71]
 | true =>
  rw [ca] at eq;by_cases c6:(drV D n i).getD 6 0=0
  ·by_cases c2:szV D n i=0
   ·rw [aC (λh=>h c6),aC (λh=>h c2)];rw [c6] at l10;rw [c2] at l2;simp only [esc,l11,st,ad,s1,l6,z6,eq,l10,l2,lpQ,l11Q,hB,E71,E79]
   ·rw [aC (λh=>h c6),R9 c2];rw [c6] at l10;simp only [esc,l11,st,ad,s1,l6,z6,eq,l10,l2,c2,E71,E79]
  ·rw [R9 c6];simp only [esc,l11,st,ad,s1,l6,z6,eq,l10,c6,E71,E79]
def D5t(hD:okD D):∀ (e i M:Nat) (h:A9) (x:Cell),i+e=(D7 D n).length->e<M->IsLook D n m f h r->(∃ w,rd h pp=A4 ⟨[.p r 0],w⟩)->IsTree h (.c x) (D7 D n) ->
  ∃ g',dS q M (pV r 0) (iV 2) (.c (.f 92 [(pp,0)])) (.c x) (iV ((D7 D n).length:Nat)) (iV (i:Int)) h=A4 (bV (((D7 D n).drop i).any λx=>decide (x.kind=2)&&C6G D n x.ino),g') :=
 C2u (C:=aV eJ) (L1:=λM y x h=>dS q M (pV r 0) (iV 2) (.c (.f 92 [(pp,0)])) (.c y) (iV ((D7 D n).length:Nat)) x h) hD (λM y x h=>A2E ..) λa K k hp=>by
  obtain ⟨w,hp⟩:=hp;have hcv:∀ a b h',aV eJ (.c (.f 92 [(pp,0)])) [a,b] h'=gY [a,b,pV pp 0] h':=λ_ _ _=>Eq.trans rfl rfl
  rw [hcv];exact E0b hD k hp
def C9l(hD:okD D)(k:IsLook D n m f h r):yE [pV r 0] h=A4 (bV (D3c D n),h):=by
 have hlen:=(gB (D:=D) (n:=n)).1;have hE:∀ g pp w,IsLook D n m f g r->rd g pp=A4 ⟨[.p r 0],w⟩->eQ [pV r 0,iV 2,.c (.f 92 [(pp,0)])] g=A4 (bV (D3c D n),g):=by
  intro g pp w k hp;obtain ⟨x,l1,ht⟩:=k.ro.tree;obtain ⟨g',f1⟩:=D5t (q:=(D7 D n).length+1) (pp:=pp) hD (D7 D n).length 0 ((D7 D n).length+1) _ x (by omega) (by omega) k.ro ⟨A6,tV hp rfl⟩ ht;have z0:((0:Nat):Int)=0:=rfl;rw [z0,E7n] at f1;have al:=ht.len;refine A0S (n:=(D7 D n).length+1) (h2:=g') ?_ rfl;rw [A2L];simp only [C7,A6I,R4,E7o,l1,al];exact f1
 have e1:=hE (ro h++[rT [.p r 0]]) (ro h).length A5 (k.ro.more _) (by rw [I3];rfl);have lp:B8 (ro h++[rT [.p r 0]]) (pV (ro h).length 0)=A4 (pV r 0):=by rw [I6];rfl
 have mk:A3N 92 [pV (ro h).length 0]=A4 (.c (.f 92 [((ro h).length,0)])):=rfl;have cc:cells? (pV r 0)=A4 [.p r 0]:=rfl;refine B0K (n:=0) (h2:=ro h++[rT [.p r 0]]) ?_ rfl;rw [B3h];simp only [C7,cc,lp,mk,e1]
end
def D9B{o:zQ}(ha:E3L h o l):∃ v t,o=A4 (v,h++t)/\quiet h (A4 (v,h++t))=A4 (v,h++t)/\(t=[]/\v=.c .ns/\l=[]\/t=[rT (encI l)]/\v=sV (l_ h) 0 (l_ l) 1):=by
 obtain ⟨v,t,e,hh,ht⟩:=ha;refine ⟨v,t,e,?_,ht⟩;rcases ht with ⟨rfl,_,_⟩ | ⟨rfl,_⟩
 ·rw [E7q];exact V6 Grows.rfl'
 ·exact V6 (Grows.rfl'.new _)
def E2c{j:Int}(h:atF D n k d j≠0):F6 (l_ D) n (atF D n k d j)=A5:=by
 unfold atF at h ⊢;split at h
 ·rename_i c;rw [C4 c];unfold fM at h ⊢;cases e:F6 (l_ D) n (C2B D n d j.toNat) with
  | true=>rw [R8];exact e
  | false=>rw [e,bZ] at h;exact absurd rfl h
 ·exact absurd rfl h
def C2z:∀ x∈pJ D n k d,F6 (l_ D) n x=A5:=by
 intro x hx;unfold pJ at hx;have he:∀ e j,x∈(bU (atF D n k d) e j).map (·.2)->F6 (l_ D) n x=A5:=λe j h=>by
  obtain ⟨q,hq,rfl⟩:=E7B.1 h;have:=A9l e j q hq;rw [this.2.2.1];exact E2c (by rw [<-this.2.2.1];exact this.2.2.2)
 split at hx
 ·rcases E7J.1 hx with hx | hx
  ·split at hx
   ·rename_i c;rw [E7K.1 hx];unfold X0 at c;rw [E66,E66] at c;exact c.1.2
   ·simp at hx
  ·unfold T5 at hx;cases c:X0 D n k d with
   | true=>rw [c,R8] at hx;exact (E7N.1 hx).2
   | false=>rw [c,bZ] at hx;simp at hx
 ·rcases E7J.1 hx with hx | hx
  ·rcases E7J.1 hx with hx | hx
   ·exact he _ _ hx
   ·split at hx
    ·rename_i c;rw [E7K.1 hx];exact c.2
    ·simp at hx
  ·exact he _ _ hx
def D53:(pJ D n k d).length<=1000:=by
 unfold pJ;split
 ·have hbl:(T5 D n k d).length<=32:=A6N;rw [E7c];split
  ·simp;omega
  ·simp;omega
 ·have h1:=B0Z (atF D n k d) 6 0;have h2:=B0Z (atF D n k d) 128 6;simp only [E7c,E8s];split
  ·simp;omega
  ·simp;omega
def B7I(l:List Int)(no:Int):List Int:=l.set no.toNat (l.getD no.toNat 0+1)
def D4c(D:Dev)(n:Int)(l:List Int)(x:Nd):List Int:=(pJ D n (kdV D n x.ino) (drV D n x.ino)).foldl B7I l
def A5C(D:Dev)(n:Int):List Int:=(D7 D n).foldl (D4c D n) (zI (l_ D))
structure OwI(g H0:A9)(oid:Nat)(D:Dev)(l:List Int)(B:Nat)(h:A9):Prop where
 low:Low (l_ g) g h
 keep:∀ id r,id≠oid->rd H0 id=A4 r->rd h id=A4 r
 out:rd h oid=rT (encI l)
 len:l_ l=(l_ D)
 bnd:∀ x∈l,0<=x/\x<=(B:Int)
section
variable {D:Dev} {n m:Int} {f:Cell} {g H0 h:A9} {r oid:Nat} {l:List Int} {B:Nat}
def OwI.more(P:OwI g H0 oid D l B h)(t:A9):OwI g H0 oid D l B (h++t) :=
 ⟨P.low.new t,λid r hn hr=>B6 (P.keep id r hn hr),B6 P.out,P.len,P.bnd⟩
def OwI.wide{B':Nat}(P:OwI g H0 oid D l B h)(hB:B<=B'):OwI g H0 oid D l B' h :=
 ⟨P.low,P.keep,P.out,P.len,λx hx=>⟨(P.bnd x hx).1,by have:=(P.bnd x hx).2;omega⟩⟩
def OwI.put(P:OwI g H0 oid D l B h)(hg:l_ g<=oid)(hB:B<1000000000)(h0:0<=no)(h1:no<l_ D) :
  ∃ a,F5 1 (sV oid 0 (l_ D) 1) (iV no)=A4 a/\B8 h a=A4 (iV (l.getD no.toNat 0))/\E7f .i64 (l.getD no.toNat 0+1)=l.getD no.toNat 0+1 /\
   I7 h a (iV (l.getD no.toNat 0+1))=A4 (h.set oid (rT (encI (B7I l no))))/\OwI g H0 oid D (B7I l no) (B+1) (h.set oid (rT (encI (B7I l no)))):=by
 obtain ⟨k,rfl⟩:=Int.eq_ofNat_of_zero_le h0;have hk:k<(l_ D):=by omega
 have hkl:k<(l_ l):=by rw [P.len];exact hk
 have X4:=E5 P.out;have hb:0<=l.getD k 0/\l.getD k 0<=(B:Int):=by
  rw [E67,E64 hkl];exact P.bnd _ (E7y hkl)
 refine ⟨pV oid k,by rw [E4 hk];simp,?_,?_,?_,?_⟩
 ·refine C1 P.out ?_ rfl;rw [G7,E7s,E67,E64 hkl];rfl
 ·rw [E7s];exact wrap_i64 (by omega) (by omega)
 ·rw [I8 P.out (by rw [B9];exact hkl)];unfold B7I;rw [E7s];show A4 (h.set oid (rT ((encI l).set k _)))=_;unfold encI;rw [List.map_set]
 ·refine ⟨P.low.set hg _,λid r hn hr=>?_,E1 X4,by unfold B7I;rw [E7R];exact P.len,λx hx=>?_⟩
  ·rw [B7 (λe=>hn e.symm)];exact P.keep id r hn hr
  ·unfold B7I at hx;rw [E7s] at hx;rcases List.mem_or_eq_of_mem_set hx with h | rfl
   ·have:=P.bnd x h;omega
   ·omega
def D8M{x1 x17 x18 x19:Val}{sid M0:Nat}{C:Nat}(hg:l_ g<=oid)(hL:∀ x∈L,F6 (l_ D) n x=A5)(hs:sid≠oid)(E6N:l_ L<=1000) :
  ∀ (e i M:Nat) (l:List Int) (B:Nat) (h:A9),i+e=l_ L->e<M->B+e<=C->C<1000000000->OwI g H0 oid D l B h->(L=[]\/(v=sV sid 0 (l_ L) 1/\rd h sid=rT (encI L))) ->
  ∃ h',B2a q M0 M x1 (sV oid 0 (l_ D) 1) x17 x18 x19 v (iV (l_ L:Nat)) (iV (i:Int)) h=bnd (O0 .add x19 (iV 1)) (λv33=>A2W q M0 x1 (sV oid 0 (l_ D) 1) x17 x18 v33 h')/\OwI g H0 oid D ((L.drop i).foldl B7I l) C h':=by
 intro e
 induction e with
 | zero =>
  intro i M l B h hi hM hB hC P hv;obtain ⟨M,rfl⟩:=Z3 M (by omega);have c0:¬ (i:Int)<(l_ L:Nat):=by omega
  rw [A5N,E7j (by omega)];exact ⟨h,by simp only [C7,G4,c0,decide_false,Y0],P.wide (by omega)⟩
 | succ e ih =>
  intro i M l B h hi hM hB hC P hv;obtain ⟨M,rfl⟩:=Z3 M (by omega);have K6:i<(l_ L):=by omega
  rcases hv with hv | ⟨rfl,hr⟩
  ·rw [hv] at K6;simp at K6
  ·have c0:(i:Int)<(l_ L:Nat):=by omega
   have w1:=E3 (a:=i) (by omega);have ad:F5 1 (sV sid 0 (l_ L) 1) (iV (i:Int))=A4 (pV sid i):=by rw [E4 K6];simp
   have la:B8 h (pV sid i)=A4 (iV L[i]):=C1 hr (by rw [G7,E64 K6];rfl) rfl;obtain ⟨_,h0,h1⟩:=pE.1 (hL _ (E7y K6));have h0:0<=L[i]:=by have:=(oV (b:=l_ D) (n:=n)).1;omega
   obtain ⟨a,a1,a2,a3,a4,a5⟩:=P.put hg (by omega) h0 h1;obtain ⟨h',f1,f2⟩:=ih (i+1) M _ (B+1) _ (by omega) (by omega) (by omega) hC a5 (.inr ⟨rfl,by rw [B7 (λe=>hs e.symm)];exact hr⟩);refine ⟨h',?_,by rw [E7g K6,E8f];exact f2⟩;rw [A5N];simp only [C7,G4,c0,decide_true,Y1,ad,la,a1,a2,M7,a3,a4,w1];exact f1
def D8L{pv:Nat}{x:Val}(hD:okD D)(hq:1000<q)(hg:l_ g<=oid)(hv:IsView g f D)(hpv:pv≠oid)(hr0:rd H0 pv=rT (vwC (l_ D) n m f))(ho:oid<H0.length)(hT:E3P (oid+1) H0 x (D7 D n)) :
  ∀ (e i M:Nat) (l:List Int) (h:A9),i+e=(D7 D n).length->e<M->OwI g H0 oid D l (i*1000) h ->
  ∃ h',A2W q M (pV pv 0) (sV oid 0 (l_ D) 1) x (iV ((D7 D n).length:Nat)) (iV (i:Int)) h=A4 (sV oid 0 (l_ D) 1,h')/\OwI g H0 oid D (((D7 D n).drop i).foldl (D4c D n) l) ((D7 D n).length*1000) h':=by
 have hlen:=A9M (D:=D) (n:=n);intro e
 induction e with
 | zero =>
  intro i M l h hi hM P;obtain ⟨M,rfl⟩:=Z3 M (by omega);have c0:¬ (i:Int)<((D7 D n).length:Nat):=by omega
  rw [A5M,E7j (by omega)];exact ⟨h,by simp only [C7,G4,c0,decide_false,Y0],P.wide (by omega)⟩
 | succ e ih =>
  intro i M l h hi hM P;obtain ⟨M,rfl⟩:=Z3 M (by omega);have K6:i<(D7 D n).length:=by omega
  have c0:(i:Int)<((D7 D n).length:Nat):=by omega
  have w1:=E3 (a:=i) (by omega);have ht:IsTree h x (D7 D n):=hT h λid r hid hr=>P.keep id r (by omega) hr
  obtain ⟨id,cs,a1,a2,hN⟩:=ht.at K6;have st:G0 (h++[rT [o0,o0,o0,o0,o0,.ns,.ns]]) 7 (pV (l_ h) 0) (.a cs)=A4 (h++[rT cs]):=B4V hN.length;obtain ⟨K,hK⟩:=xEq (h++[rT cs]);have rK:rd K (l_ h)=rT cs:=by rw [hK,I3];rfl
  rw [<-hK] at st;have PK:OwI g H0 oid D l (i*1000) K:=by rw [hK];exact P.more _
  obtain ⟨nd,hnd⟩:=xEq ((D7 D n)[i]);rw [<-hnd] at hN;have hvK:IsView K f D:=hv.since PK.low;have l4:D3 K 4 (pV pv 0)=A4 (.a (vwC (l_ D) n m f)):=C8 (PK.keep pv _ hpv hr0) rfl;have hI:=U5 (n:=n) (m:=m) (i:=nd.ino) hD hvK;have hIq:quiet K (F7 [.a (vwC (l_ D) n m f),iV nd.ino] K)=A4 (.a (A2r D n nd.ino),K):=by rw [hI];exact aD
  rw [dV] at hIq;obtain ⟨v,t,o1,o2,o3⟩:=D9B (D1w (n:=n) (m:=m) (k:=kdV D n nd.ino) (l:=lnV D n nd.ino) (s:=szV D n nd.ino) (p:=paV D n nd.ino) (d:=drV D n nd.ino) hD J9 hvK);rw [<-o1] at o2;rw [o1] at o2;have oq:quiet K (Y5 [.a (vwC (l_ D) n m f),.a (C9 (kdV D n nd.ino) (lnV D n nd.ino) (szV D n nd.ino) (paV D n nd.ino) (drV D n nd.ino))] K)=A4 (v,K++t):=by rw [o1];exact o2
  obtain ⟨x1,y1,ecs,_,_⟩:=hN;have g0:B8 K (pV (l_ h) 0)=A4 (iV nd.ino):=C1 rK (by rw [ecs];rfl) rfl;have E3B:=D53 (D:=D) (n:=n) (k:=kdV D n nd.ino) (d:=drV D n nd.ino);have A8g:=C2z (D:=D) (n:=n) (k:=kdV D n nd.ino) (d:=drV D n nd.ino);obtain ⟨L,hL⟩:=xEq (pJ D n (kdV D n nd.ino) (drV D n nd.ino));rw [<-hL] at E3B A8g o3;have al:B5X v=A4 (iV (l_ L:Nat)):=by
   rcases o3 with ⟨_,rfl,rfl⟩ | ⟨_,rfl⟩<;>rfl
  have hoK:oid<(l_ K):=E5 PK.out;obtain ⟨h',f1,f2⟩:=D8M (q:=q) (v:=v) (x1:=pV pv 0) (x17:=x) (x18:=iV ((D7 D n).length:Nat)) (x19:=iV (i:Int)) (L:=L) (sid:=l_ K) (M0:=M) (C:=(i+1)*1000) (D:=D) (n:=n) hg A8g (by omega) E3B (l_ L) 0 q l (i*1000) (K++t) (by omega) (by omega) (by omega) (by omega) (PK.more t) (by
   rcases o3 with ⟨_,_,h⟩ | ⟨rfl,rfl⟩
   ·exact .inl h
   ·exact .inr ⟨rfl,by rw [I3];rfl⟩)
  obtain ⟨h2,f3,f4⟩:=ih (i+1) M _ h' (by omega) (by omega) f2;refine ⟨h2,?_,by rw [E7g K6,E8f,<-hnd];unfold D4c at f4 ⊢;rw [<-hL];exact f4⟩;have z0:((0:Nat):Int)=0:=rfl;rw [z0] at f1;rw [A5M];generalize vwC (l_ D) n m f=V at *;generalize C9 (kdV D n nd.ino) (lnV D n nd.ino) (szV D n nd.ino) (paV D n nd.ino) (drV D n nd.ino)=I at *;simp only [C7,G4,c0,decide_true,Y1,a1,a2,st,l4,R4,E7o,g0,E7q,hIq,oq,al,f1,M7,w1];exact f3
def B19(hD:okD D)(hm:O6 (l_ D) n=A5)(hv:IsView h f D):yD [.a (vwC (l_ D) n m f)] h=A4 (sV (l_ h) 0 (l_ D) 1,h++[rT (encI (A5C D n))]):=by
 obtain ⟨g,hg⟩:=xEq (ro h);have hvg:IsView g f D:=by rw [hg];exact hv.ro
 obtain ⟨b16,b512,_⟩:=G8.1 hm;have hlen:=A9M (D:=D) (n:=n);have hCk:=λh=>dR (b:=l_ D) (n:=n) (m:=m) (h:=h)
 rw [hm,R8] at hCk;obtain ⟨V,hV⟩:=xEq (vwC (l_ D) n m f);obtain ⟨G,hG⟩:=xEq (g++[rT V,rT []]);have rV:rd G (l_ g)=rT V:=by rw [hG,I3];rfl
 have lG:l_ G=l_ g+2:=by rw [hG];simp
 have l3:D3 G 3 (pV (l_ g) 0)=A4 (.a (M4 (l_ D) n m)):=by
  rw [U2 rV (by rw [hV];simp [vwC]) (by simp),hV];rfl
 have l1:B8 G (pV (l_ g) 0)=A4 (iV (l_ D:Nat)):=C1 rV (by rw [hV];rfl) rfl;have mk:=D5b (N:=l_ D) (by omega);have rz:rows [o0] (l_ D)=encI (zI (l_ D)):=by simp [rows,encI,zI,List.map_replicate,List.flatten_replicate_singleton]
 obtain ⟨K,hK⟩:=xEq (G++[rT (encI (zI (l_ D)))]);have rVK:rd K (l_ g)=rT V:=by rw [hK];exact B6 rV
 have l4:D3 K 4 (pV (l_ g) 0)=A4 (.a V):=C8 rVK (by rw [hV];rfl);have hvK:IsView K f D:=by rw [hK,hG];exact (hvg.more _).more _
 obtain ⟨x,H0,t1,t2,t3,_,t5⟩:=B8j (n:=n) (m:=m) hD hvK;rw [<-hV] at t1;have al:=t2.len;have lK:l_ K=l_ g+3:=by rw [hK];simp [lG]
 have rVH:rd H0 (l_ g)=rT V:=by rw [t3.2.2 _ (by omega)];exact rVK
 have rOH:rd H0 (l_ G)=rT (encI (zI (l_ D))):=by rw [t3.2.2 _ (by omega),hK,I3];rfl
 have lowH:Low (l_ g) g H0:=by
  refine Low.trans (h':=K) ?_ ⟨by omega,t3.2.1,λid hid=>t3.2.2 id (by omega)⟩;rw [hK,hG];exact ((Low.refl (E69 _)).new _).new _
 have P0:OwI g H0 (l_ G) D (zI (l_ D)) (0*1000) H0:=⟨lowH,λid r _ hr=>hr,rOH,by simp [zI],λy hy=>by
  have:y=0:=List.eq_of_mem_replicate hy;omega⟩
 rw [lK] at t5;obtain ⟨h',f1,f2⟩:=D8L (q:=2000) (pv:=l_ g) (x:=x) (n:=n) (m:=m) hD (by omega) (by omega) hvg (by omega) (by rw [<-hV];exact rVH) (by have:=E5 rOH;omega) (by rw [lG];exact t5) (D7 D n).length 0 2000 (zI (l_ D)) H0 (by omega) (by omega) P0;have z0:((0:Nat):Int)=0:=rfl;rw [z0,E7n] at *;refine B7F (n:=2000) (h2:=h') ?_ ⟨by rw [B9,E8i];exact f2.len,l_ G,rfl,?_,f2.out⟩ B7Y
 ·rw [B8O,<-hV,<-hg];have cc:cells? (.a V)=A4 V:=rfl;have ap:(g++[rT V])++[rT []]=G:=by rw [hG];simp
  simp only [cc,C7];rw [ap];simp only [C7,R4,E7o,l3,hCk,B3J,ne_eq,not_true_eq_false,decide_false,Y0,l1,mk,rz];rw [<-hK];simp only [C7,l4,t1,al];exact f1
 ·rw [lG,hg,H8];omega
end
def C8q(D:Dev)(n:Int):Bool:=(A5C D n).any λx=>decide (1<x)
def C8r(D:Dev)(n:Int)(i e:Nat):List Nat:=(E7G i e).filter λk=>decide (0<(A5C D n).getD k 0)
def E2L(D:Dev)(n:Int):List Nat:=E7H (aX (l_ D) n).toNat++C8r D n 0 (l_ D)
def C0b(D:Dev)(n:Int):Bool:=!(decide (dZ (E2L D n)=blk D 1))
section
variable {D:Dev} {n m:Int} {f:Cell} {h:A9} {r:Nat}
def D2A:(B7I l no).length=(l_ l):=by unfold B7I;rw [E7R]
def D0c:∀ {L l:List Int},(L.foldl B7I l).length=(l_ l)
 | [],_=>rfl
 | x::L,l=>by rw [E8f,D0c,D2A]
def D0z:∀ {t:List Nd} {l:List Int},(t.foldl (D4c D n) l).length=(l_ l)
 | [],_=>rfl
 | x::t,l=>by rw [E8f,D0z];unfold D4c;rw [D0c]
def D39:(A5C D n).length=(l_ D):=by unfold A5C;rw [D0z];simp [zI]
def D6E{id:Nat}(hr:rd h id=rT (encI L))(hL:l_ L<=1000):∀ (e i M:Nat),i+e=l_ L->e<M ->
  A3m q M (sV id 0 (l_ L) 1) (iV (l_ L:Nat)) (iV (i:Int)) h=A4 (bV ((L.drop i).any λx=>decide (1<x)),h):=by
 intro e
 induction e with
 | zero =>
  intro i M hi hM;obtain ⟨M,rfl⟩:=Z3 M (by omega);have c0:¬ (i:Int)<(l_ L:Nat):=by omega
  rw [zP,E7j (by omega)];simp only [esc,c0]<;>rfl
 | succ e ih =>
  intro i M hi hM;obtain ⟨M,rfl⟩:=Z3 M (by omega);have K6:i<(l_ L):=by omega
  have c0:(i:Int)<(l_ L:Nat):=by omega
  have w1:=E3 (a:=i) (by omega);have ad:F5 1 (sV id 0 (l_ L) 1) (iV (i:Int))=A4 (pV id i):=by rw [E4 K6];simp
  obtain ⟨no,X5⟩:=xEq (L[i]);have la:B8 h (pV id i)=A4 (iV no):=C1 hr (by rw [G7,E64 K6,X5];rfl) rfl;have f1:=ih (i+1) M (by omega) (by omega);rw [zP,E7g K6,<-X5,List.any_cons];by_cases c:1<no
  ·have c':no > 1:=c;rw [R9 c];simp only [esc,c0,ad,la,c',E71]
  ·have c':¬ no > 1:=c;rw [aC c,E79];simp only [esc,c0,ad,la,c',w1];exact f1
def C8B(hD:okD D)(hm:O6 (l_ D) n=A5)(k:IsLook D n m f h r):uI [pV r 0] h=A4 (bV (C8q D n),h):=by
 obtain ⟨b16,b512,_⟩:=G8.1 hm;have l4:=k.ro.v4;have hO:=B19 (m:=m) hD hm k.ro.view;have hl:=D39 (D:=D) (n:=n);have f1:=D6E (q:=1000) (id:=(ro h).length) (h:=ro h++[rT (encI (A5C D n))]) (L:=A5C D n) (by rw [I3];rfl) (by omega) (A5C D n).length 0 1000 (by omega) (by omega);have z0:((0:Nat):Int)=0:=rfl;rw [z0,E7n,hl] at f1;refine A8Z (n:=1000) (h2:=ro h++[rT (encI (A5C D n))]) ?_ rfl;rw [B2i];unfold C8q;generalize vwC (l_ D) n m f=V at *;simp only [esc,l4,hO];exact f1
def D3S{g:A9}{cid:Nat}(hD:okD D)(b512:l_ D<=512)(hc:cid<(g++[A7]).length)(hcg:cid=l_ g) :
  ∀ (e i M id:Nat) (S:List Nat) (h:A9),i+e=l_ D->e<M->IsLook D n m f h r->(∀ x∈S,x<2048)->l_ S<=600+i->rd h id=rT (encI (S.map λx:Nat=>(x:Int)))->id≠cid->r<id->rd h cid=rT (encI (A5C D n))->r<cid ->
  (∀ h',(∀ j x,j≠id->rd h j=A4 x->rd h' j=A4 x)->IsLook D n m f h' r) ->
  ∃ h',A2F q M (pV r 0) (sV id 0 (l_ S) 1) (sV cid 0 (l_ D) 1) (iV (l_ D:Nat)) (iV (i:Int)) h=A4 (bV (!(decide (dZ (S++C8r D n i (l_ D-i))=blk D 1))),h'):=by
 have hl:=D39 (D:=D) (n:=n);intro e
 induction e with
 | zero =>
  intro i M id S h hi hM k hS hlen hr hid E5s hcr hrc pL;obtain ⟨M,rfl⟩:=Z3 M (by omega);have c0:¬ (i:Int)<(l_ D:Nat):=by omega
  have eU:C8r D n i (l_ D-i)=[]:=by
   rw [show (l_ D)-i=0 by omega];rfl
  have hC:=A79 (v:=sV id 0 (l_ S) 1) (nv:=l_ S) (l:=S) (h:=h) hS (by omega) (Has.row hr (by simp [B9]) (A5B _));have hCq:quiet h (pY [sV id 0 (l_ S) 1] h)=A4 (.a (B4 (dZ S)),h):=by rw [hC];exact aD
  have l4:=k.v4;have hB:=N2 (n:=n) (m:=m) (no:=1) hD k.view;have hM1:∀ h,quiet h (uB [] h)=A4 (iV 1,h):=λh=>by rw [vL];exact aD
  have q1:=C9C (l:=dZ S) (m:=blk D 1) (n:=256) (by unfold dZ;rw [fP,zeros_length]) (J8 hD);rw [vY,eU,E7q];refine ⟨h,?_⟩;generalize vwC (l_ D) n m f=V at *;generalize B4 (dZ S)=X at *;generalize B4 (blk D 1)=Y at *;generalize E68 256 (Sh.i .u8)=Z at *;simp only [esc,c0,hCq,l4,hM1,hB,q1]
 | succ e ih =>
  intro i M id S h hi hM k hS hlen hr hid E5s hcr hrc pL;obtain ⟨M,rfl⟩:=Z3 M (by omega);have K6:i<(A5C D n).length:=by omega
  have E5i:i<(l_ D):=by omega
  have c0:(i:Int)<(l_ D:Nat):=by omega
  have w1:=E3 (a:=i) (by omega);have ad:F5 1 (sV cid 0 (l_ D) 1) (iV (i:Int))=A4 (pV cid i):=by rw [E4 E5i];simp
  obtain ⟨no,X5⟩:=xEq ((A5C D n).getD i 0);have la:B8 h (pV cid i)=A4 (iV no):=C1 hcr (by rw [G7,X5,E67,E64 K6];rfl) rfl;have eU:C8r D n i (l_ D-i)=(if 0<no then [i] else [])++C8r D n (i+1) (l_ D-(i+1)):=by
   unfold C8r;rw [show (l_ D)-i=(l_ D-(i+1))+1 by omega,List.range'_succ];by_cases c:0<no
   ·rw [C4 c,E7Z (by rw [<-X5];simpa using c)];rfl
   ·rw [C5 c,E73 (by rw [<-X5];simpa using c)];rfl
  rw [vY,eU];by_cases c:0<no
  ·have c':no > 0:=c;rw [C4 c,<-E7i];have hlS:(encI (S.map λx:Nat=>(x:Int))).length=l_ S*1:=by simp [B9]
   obtain ⟨h2,p1,p2,p3,p4⟩:=B8b (h:=h) (n:=l_ S) (sz:=1) (ys:=[cI (i:Int)]) hr hlS rfl (by omega) (by omega);have E6f:=E5 hr;have e2:encI (S.map λx:Nat=>(x:Int))++[cI (i:Int)]=encI ((S++[i]).map λx:Nat=>(x:Int)):=by simp [encI]
   rw [e2] at p2;have nF:=E5 hcr;obtain ⟨h',f1⟩:=ih (i+1) M (l_ h+1) (S++[i]) h2 (by omega) (by omega) (pL h2 p3) (λx hx=>by
    rcases E7J.1 hx with hx | hx
    ·exact hS x hx
    ·rw [E7K.1 hx];omega) (by rw [E7c];simp;omega) p2 (by omega) (by omega) (p3 cid _ (λe=>hid e.symm) hcr) hrc (λh3 hk=>pL h3 λj x hj hx=>by
     by_cases hje:j=l_ h+1
     ·have:=E5 hx;omega
     ·exact hk j x hje (p3 j x hj hx))
   have el:(S++[i]).length=l_ S+1:=by simp
   rw [el] at f1;have ef:F9 [o0] [(0,1,iV (i:Int))]=A4 [cI (i:Int)]:=rfl;refine ⟨h',?_⟩;simp only [C7,G4,c0,decide_true,Y1,ad,la,C54,c',ef,p1,vX,M7,w1];exact f1
  ·have c':¬ no > 0:=c;rw [C5 c,E7A];obtain ⟨h',f1⟩:=ih (i+1) M id S h (by omega) (by omega) k hS (by omega) hr hid E5s hcr hrc pL;refine ⟨h',?_⟩;simp only [C7,G4,c0,decide_true,Y1,ad,la,C54,c',decide_false,Y0,vX,M7,w1];exact f1
def IsLook.stay{g:A9}{b:Nat}(k:IsLook D n m f g r)(hb:b=l_ g)(hk:∀ j x,j<b->rd g j=A4 x->rd h' j=A4 x)(mE:l_ g<=l_ h'):IsLook D n m f h' r:=by
 subst hb;have low:∀ j x,rd g j=A4 x->rd h' j=A4 x:=λj x hx=>hk j x (E5 hx) hx
 obtain ⟨x,w,h1,⟨cs,h2,h3⟩⟩:=k.row;obtain ⟨a,q,rw1,rw2,e1,e2,e3⟩:=k.view;refine ⟨⟨a,q,rw1,rw2,e1,low _ _ e2,low _ _ e3⟩,x,w,low _ _ h1,cs,?_,?_⟩
 ·rcases h2 with hv | ⟨id,off,r,e,hr,h2⟩
  ·exact .inl hv
  ·exact .inr ⟨id,off,r,e,low _ _ hr,h2⟩
 ·clear h1 h2 k e1
  have:∀ (t:List Nd) (cs:List Cell),IsNds g cs t->IsNds h' cs t:=by
   intro t
   induction t with
   | nil=>intro cs h;exact h
   | cons y t ih =>
    rintro cs ⟨c1,c2,e,⟨u,v,ev,hu,hv⟩,h2⟩;have st:∀ {x:Cell} {sz n:Nat} {cs:List Cell},Has g (.c x) sz n cs->Has h' (.c x) sz n cs:=λhv=>by
     rcases hv with hv | ⟨id,off,r,e,hr,h2⟩
     ·exact .inl hv
     ·exact .inr ⟨id,off,r,e,low _ _ hr,h2⟩
    exact ⟨c1,c2,e,⟨u,v,ev,st hu,st hv⟩,ih _ h2⟩
  exact this _ _ h3
def C4W(hD:okD D)(hm:O6 (l_ D) n=A5)(k:IsLook D n m f h r):rW [pV r 0] h=A4 (bV (C0b D n),h):=by
 obtain ⟨b16,b512,_⟩:=G8.1 hm;obtain ⟨g,hg⟩:=xEq (ro h);have kg:IsLook D n m f g r:=by rw [hg];exact k.ro
 have hrl:r<(l_ g):=by
  obtain ⟨x,w,h1,_⟩:=kg.row;exact E5 h1
 have hdr:=oV (b:=l_ D) (n:=n);obtain ⟨d,hd⟩:=xEq ((aX (l_ D) n).toNat);have l3:=kg.v3;have hO:=B4e (b:=l_ D) (n:=n) (m:=m) (h:=g);rw [<-hd] at hO;obtain ⟨G,hG⟩:=xEq (g++[rT (encI (upto d))]);rw [<-hG] at hO;have lG:l_ G=l_ g+1:=by rw [hG];simp
 have kG:IsLook D n m f G r:=by rw [hG];exact kg.more _
 have l4:=kG.v4;have hW:=B19 (m:=m) hD hm kG.view;obtain ⟨K,hK⟩:=xEq (G++[rT (encI (A5C D n))]);rw [<-hK] at hW;have kK:IsLook D n m f K r:=by rw [hK];exact kG.more _
 have rO:rd K (l_ g)=rT (encI (upto d)):=by rw [hK];exact B6 (by rw [hG,I3];rfl)
 have rC:rd K (l_ G)=rT (encI (A5C D n)):=by rw [hK,I3];rfl
 obtain ⟨h',f1⟩:=D3S (g:=G) (q:=1000) (cid:=l_ G) (n:=n) (m:=m) (f:=f) (r:=r) hD (by omega) (by simp) rfl (l_ D) 0 1000 (l_ g) (E7H d) K (by omega) (by omega) kK (λx hx=>by rw [List.mem_range] at hx;omega) (by rw [List.length_range];omega) rO (by omega) hrl rC (by omega)
  (λh3 hk=>kg.stay rfl (λj x hj hx=>hk j x (by omega) (by rw [hK,hG];exact B6 (B6 hx))) (by have:=E5 (hk (l_ G) _ (by omega) rC);omega))
 rw [List.length_range] at f1;have z0:((0:Nat):Int)=0:=rfl;rw [z0,Nat.sub_zero] at f1;refine A73 (n:=1000) (h2:=h') ?_ rfl;rw [B0s,<-hg];unfold C0b E2L;rw [<-hd];generalize vwC (l_ D) n m f=V at *;generalize M4 (l_ D) n m=Y at *;simp only [C7,A6I,R4,Nat.add_zero,l3,hO,l4,hW,B5X];exact f1
end
def cF(D:Dev)(n:Int):List Bool:=[B4Z D n,D0F D n,D3Q D n,D1L D n,C7B D n,D3c D n,C6R D n,C8q D n,C0b D n]
def C81(l:List Nat):List Int:=l.map λ(k:Nat)=>(k:Int)+2
def D0s(r:Nat):List Cell:=[.fb 40 r 0,.fb 41 r 0,.fb 42 r 0,.fb 43 r 0,.fb 44 r 0,.fb 45 r 0,.fb 46 r 0,.fb 47 r 0,.fb 48 r 0]
section
variable {D:Dev} {n m:Int} {f:Cell} {h:A9} {r:Nat}
def D8B(hD:okD D)(hm:O6 (l_ D) n=A5):∀ (i:Nat) (c:Cell) (b:Bool),(D0s r)[i]?=A4 c->(cF D n)[i]?=A4 b->∀ h,IsLook D n m f h r->aV rP (.c c) [] h=A4 (bV b,h)
 | 0,c,b,hc,hb,h,k=>by cases hc;cases hb;exact Eq.trans (Eq.trans rfl rfl) (C2O hD k)
 | 1,c,b,hc,hb,h,k=>by cases hc;cases hb;exact Eq.trans (Eq.trans rfl rfl) (C9o hD k)
 | 2,c,b,hc,hb,h,k=>by cases hc;cases hb;exact Eq.trans (Eq.trans rfl rfl) (C9m hD k)
 | 3,c,b,hc,hb,h,k=>by cases hc;cases hb;exact Eq.trans (Eq.trans rfl rfl) (C8x k)
 | 4,c,b,hc,hb,h,k=>by cases hc;cases hb;exact Eq.trans (Eq.trans rfl rfl) (C8z hD k)
 | 5,c,b,hc,hb,h,k=>by cases hc;cases hb;exact Eq.trans (Eq.trans rfl rfl) (C9l hD k)
 | 6,c,b,hc,hb,h,k=>by cases hc;cases hb;exact Eq.trans (Eq.trans rfl rfl) (C8w hD k)
 | 7,c,b,hc,hb,h,k=>by cases hc;cases hb;exact Eq.trans (Eq.trans rfl rfl) (C8B hD hm k)
 | 8,c,b,hc,hb,h,k=>by cases hc;cases hb;exact Eq.trans (Eq.trans rfl rfl) (C4W hD hm k)
 | i+9,c,b,hc,_,_,_=>by cases hc
def D3i{cid:Nat}{C:List Cell}{F:List Bool}(hC:l_ C=9)(hF:F.length=9)(hnx:noX C=A5)
  (D3v:∀ (i:Nat) (c:Cell) (b:Bool),C[i]?=A4 c->F[i]?=A4 b->∀ h,IsLook D n m f h r->aV rP (.c c) [] h=A4 (bV b,h)) :
  ∀ (e i M id:Nat) (S:List Nat) (h:A9),i+e=9->e<M->IsLook D n m f h r->l_ S<=i->rd h id=rT (encI (C81 S))->id≠cid->rd h cid=rT C ->
  (∀ h',(∀ j x,j≠id->rd h j=A4 x->rd h' j=A4 x)->IsLook D n m f h' r) ->
  ∃ h' dX,A2C q M (sV id 0 (l_ S) 1) (sV cid 0 9 1) (iV 9) (iV (i:Int)) h=A4 (sV dX 0 (S++qU i (F.drop i)).length 1,h')/\rd h' dX=rT (encI (C81 (S++qU i (F.drop i))))/\(dX=id\/(l_ h)<=dX):=by
 intro e
 induction e with
 | zero =>
  intro i M id S h hi hM k hlen hr hid hcr pL;obtain ⟨M,rfl⟩:=Z3 M (by omega);have e9:i=9:=by omega
  subst e9;rw [E7j (by omega)];have e0:qU 9 []=[]:=rfl;rw [e0,E7q,vW];have c0:¬ ((9:Nat):Int)<9:=by omega
  exact ⟨h,id,by simp only [C7,G4,c0,decide_false,Y0],hr,.inl rfl⟩
 | succ e ih =>
  intro i M id S h hi hM k hlen hr hid hcr pL;obtain ⟨M,rfl⟩:=Z3 M (by omega);have K6:i<(l_ C):=by omega
  have hiF:i<F.length:=by omega
  have c0:(i:Int)<9:=by omega
  have w1:=E3 (a:=i) (by omega);have w2:E7f .i64 ((i:Int)+2)=(i:Int)+2:=wrap_i64 (by omega) (by omega);have ad:F5 1 (sV cid 0 9 1) (iV (i:Int))=A4 (pV cid i):=by rw [E4 (show i<9 by omega)];simp
  have la:B8 h (pV cid i)=A4 (.c C[i]):=C1 hcr (E64 K6) rfl;have hc:=D3v i C[i] F[i] (E64 K6) (E64 hiF) h k;rw [E7g hiF,vW];cases hb:F[i] with
  | false =>
   rw [hb] at hc;have e1:qU i (A6::F.drop (i+1))=qU (i+1) (F.drop (i+1)):=rfl;rw [e1];obtain ⟨h',dX,f1,f2,f3⟩:=ih (i+1) M id S h (by omega) (by omega) k (by omega) hr hid hcr pL;refine ⟨h',dX,?_,f2,f3⟩;simp only [C7,G4,c0,decide_true,Y1,ad,la,hc,Y0,vV,M7,w1];exact f1
  | true =>
   rw [hb] at hc;have e1:qU i (A5::F.drop (i+1))=i::qU (i+1) (F.drop (i+1)):=rfl;rw [e1];have ea:S++i::qU (i+1) (F.drop (i+1))=(S++[i])++qU (i+1) (F.drop (i+1)):=by simp
   rw [ea];have hlS:(encI (C81 S)).length=l_ S*1:=by simp [B9,C81]
   obtain ⟨h2,p1,p2,p3,p4⟩:=B8b (h:=h) (n:=l_ S) (sz:=1) (ys:=[cI ((i:Int)+2)]) hr hlS rfl (by omega) (by omega);have e2:encI (C81 S)++[cI ((i:Int)+2)]=encI (C81 (S++[i])):=by simp [encI,C81]
   rw [e2] at p2;have nF:=E5 hcr;have E6f:=E5 hr;have hl2:=E5 p2;obtain ⟨h',dX,f1,f2,f3⟩:=ih (i+1) M (l_ h+1) (S++[i]) h2 (by omega) (by omega) (pL h2 p3) (by rw [E7c];simp;omega) p2 (by omega) (p3 cid _ (λe=>hid e.symm) hcr) (λh3 hk=>pL h3 λj x hj hx=>by
     by_cases hje:j=l_ h+1
     ·have:=E5 hx;omega
     ·exact hk j x hje (p3 j x hj hx))
   have el:(S++[i]).length=l_ S+1:=by simp
   rw [el] at f1;have ef:F9 [o0] [(0,1,iV ((i:Int)+2))]=A4 [cI ((i:Int)+2)]:=rfl;refine ⟨h',dX,?_,f2,.inr (by omega)⟩;simp only [C7,G4,c0,decide_true,Y1,ad,la,hc,M7,w2,ef,p1,vV,w1];exact f1
def C4V(hD:okD D)(hv:Has h v 256 (l_ D) (E7 D))(hn:B51 D=A5)(hm:O6 (l_ D) (A9j D)=A5) :
  rU [v] h=A4 (sV (l_ h) 0 (qU 0 (cF D (A9j D))).length 1,h++[rT (encI (C81 (qU 0 (cF D (A9j D)))))]):=by
 obtain ⟨b16,b512,_⟩:=G8.1 hm;obtain ⟨g,hg⟩:=xEq (ro h);have hvg:Has g v 256 (l_ D) (E7 D):=by rw [hg];exact hv.ro
 obtain ⟨G,hG⟩:=xEq (g++[rT []]);obtain ⟨f,t,o1,o2⟩:=B1t (v:=v) (h:=G) (by rw [hG];exact hvg.more _) hD hn (by omega);obtain ⟨V,hV⟩:=xEq (vwC (l_ D) (A9j D) (C4J D) f);rw [<-hV] at o1;have hVl:l_ V=4:=by rw [hV];rfl
 obtain ⟨G1,hG1⟩:=xEq (G++t);rw [<-hG1] at o1 o2;obtain ⟨K,hK⟩:=xEq (G1++[rT V]);have st:G0 (G1++[rT [o0,o0,.i .u64 0,.nf]]) 4 (pV G1.length 0) (.a V)=A4 K:=by
  rw [storeAll (n:=4) (cs:=[o0,o0,.i .u64 0,.nf]) (by rw [I3];rfl) rfl hVl,tW,hK];rfl
 have l4:D3 K 4 (pV G1.length 0)=A4 (.a V):=C8 (by rw [hK,I3];rfl) hVl;obtain ⟨r,H,p1,p2,p3⟩:=C9n (n:=A9j D) (m:=C4J D) (h:=K) hD (by rw [hK];exact o2.more _);rw [<-hV] at p1;have hgl:l_ g<=(l_ H):=by
  have h1:=p2.len;rw [hK,hG1,hG] at h1;simp at h1;omega
 obtain ⟨Q,hQ⟩:=xEq (H++[rT [],rT (D0s r)]);have k:IsLook D (A9j D) (C4J D) f Q r:=by rw [hQ];exact p3.more _
 have hrl:r<(l_ H):=by
  obtain ⟨x,w,h1,_⟩:=p3.row;exact E5 h1
 have nx:noX (D0s r)=A5:=rfl;obtain ⟨h',dX,f1,f2,f3⟩:=D3i (q:=100) (cid:=l_ H+1) (C:=D0s r) (F:=cF D (A9j D)) rfl rfl nx (D8B (m:=C4J D) (f:=f) hD hm) 9 0 100 (l_ H) [] Q (by omega) (by omega) k (by simp) (by rw [hQ,I3];rfl) (by omega) (by rw [hQ,rM];rfl)
  (λh3 hk=>p3.stay rfl (λj x hj hx=>hk j x (by omega) (by rw [hQ];exact B6 hx)) (by have:=E5 (hk (l_ H+1) _ (by omega) (by rw [hQ,rM];rfl));omega))
 rw [E7n,E7A] at f1 f2;have z0:((0:Nat):Int)=0:=rfl;rw [z0,E7Q] at f1;refine A8U (n:=100) (h2:=h') ?_ ⟨by simp [B9,C81],dX,rfl,?_,f2⟩ B7Y
 ·rw [B0q,<-hg];have b1:∀ k:Nat,E16 k (pV r 0)=A4 (.c (.fb k r 0)):=λ_=>rfl
  have ef:F9 (E68 9 Cell.nf) [(0,1,.c (.fb 40 r 0)),(1,1,.c (.fb 41 r 0)),(2,1,.c (.fb 42 r 0)),(3,1,.c (.fb 43 r 0)),(4,1,.c (.fb 44 r 0)),(5,1,.c (.fb 45 r 0)),(6,1,.c (.fb 46 r 0)),(7,1,.c (.fb 47 r 0)),(8,1,.c (.fb 48 r 0))]=A4 (D0s r):=rfl;have ln:(H++[rT []]).length=l_ H+1:=by simp
  have ap:(H++[rT []])++[rT (D0s r)]=Q:=by rw [hQ];simp
  have al:B5X (sV (l_ H+1) 0 9 1)=A4 (iV 9):=rfl;rw [<-hG];simp only [C7,o1,yI,E7W,E7u,E7U,fV,fW,st,B3J,ne_eq,not_true_eq_false,decide_false,Y0,l4,p1,b1,ef,ln,al];rw [ap];exact f1
 ·have e1:(ro h).length=(l_ h):=H8;have e2:l_ Q=l_ H+2:=by rw [hQ];simp
  rw [<-e1,<-hg];rcases f3 with rfl | h1<;>omega
def C8v(hD:okD D)(hv:Has h v 256 (l_ D) (E7 D))(hn:B51 D=A5)(hm:O6 (l_ D) (A9j D)=A5) :
  A71 [v] h=A4 (bV (decide (qU 0 (cF D (A9j D))=[])),h):=by
 have hF:=C4V (h:=ro h) hD hv.ro hn hm;refine B7G (n:=0) (h2:=(ro h)++[rT (encI (C81 (qU 0 (cF D (A9j D)))))]) ?_ rfl;rw [C1k];generalize qU 0 (cF D (A9j D))=S at *;cases S with
 | nil=>simp only [C7,hF,B5X,E7Q,dH]<;>rfl
 | cons x S =>
  have:¬ ((x::S).length:Int)=0:=by rw [E7k];omega
  simp only [C7,hF,B5X,dH,this]<;>rfl
end
def D41{N:Int->List Ent}{S:Int->Prop}(hS:∀ a,S a->∀ e∈N a,S e.2)(h1:S 1):∀ (e i:Nat) (R:List Int),(∀ x∈R,S x)->∀ x∈A9R N e i R,S x
 | 0,_,_,h=>h
 | e+1,i,R,h=>by
  unfold A9R;by_cases hl:i<(1::R).length
  ·rw [dif_pos hl];refine D41 hS h1 e (i+1) _ λx hx=>?_
   rcases B4Q.1 hx with h2 | ⟨f,hf,rfl⟩
   ·exact h x h2
   ·refine hS _ ?_ f hf;have:=E7y hl;rcases E7m.1 this with h3 | h3
    ·rw [h3];exact h1
    ·exact h _ h3
  ·rw [dif_neg hl];exact h
section
variable {D:Dev} {n:Int} {F:Cl}
def Wb.tk(W:Wb D n F):F.row.take F.row.length=F.row:=List.take_length ..
def Wb.nms(W:Wb D n F)(ha:a∈F.row):A09 D n a=nmV D n a:=by
 unfold A09;show (nmV D n a).filter _=_;refine List.filter_eq_self.2 λe he=>?_
 have h:=(W.I.one a (by rw [W.tk];exact ha) e he).2.1;unfold C7j;rcases C49 (D:=D) (n:=n) (i:=e.2) with h0 | h0 | h0
 ·exact absurd h0 h
 ·rw [h0];rfl
 ·rw [h0];rfl
def Wb.row(W:Wb D n F):a∈A3X D n↔a∈F.row:=by
 constructor
 ·have h1:(1:Int)∈F.row:=E7p W.I.hd;refine D41 (S:=λa=>a∈F.row) (λb hb e he=>?_) h1 130 0 [1] (λx hx=>by rw [E7K.1 hx];exact h1) a;rw [W.nms hb] at he;exact (W.I.one b (by rw [W.tk];exact hb) e he).2.2
 ·exact W.I.sub a
def Wb.node(W:Wb D n F){x:Nd}:x∈D7 D n↔x.ino∈F.row/\x=iT D n x.ino:=by
 rw [vU,W.row];exact ⟨λh=>h.2,λh=>⟨W.root,h⟩⟩
def Wb.kind(W:Wb D n F)(ha:a∈F.row):(zW D n a/\kdV D n a=1)\/(¬ zW D n a/\kdV D n a=2):=by
 by_cases hf:zW D n a
 ·exact .inl ⟨hf,hf.2⟩
 ·exact .inr ⟨hf,((W.I.sta a (by rw [W.tk];exact ha)).dir hf).1⟩
def Wb.perm(W:Wb D n F):List.Perm ((D7 D n).map (·.ino)) F.row:=by
 have nd:((D7 D n).map (·.ino)).Nodup:=by
  rw [List.Nodup,List.pairwise_map];exact treeV_up.imp λ{a b} h=>by omega
 refine (List.perm_ext_iff_of_nodup nd W.I.w.nd).2 λa=>?_
 rw [E7B];constructor
 ·rintro ⟨x,hx,rfl⟩;exact (W.node.1 hx).1
 ·intro ha;exact ⟨iT D n a,W.node.2 ⟨ha,rfl⟩,rfl⟩
def E1c{l m:List Nat}(h:l.Perm m):l.sum=m.sum:=by
 induction h with
 | nil=>rfl
 | cons x _ ih=>rw [List.sum_cons,List.sum_cons,ih]
 | swap x y l=>rw [List.sum_cons,List.sum_cons,List.sum_cons,List.sum_cons];omega
 | trans _ _ h1 h2=>exact h1.trans h2
def Wb.count(W:Wb D n F)(a:Int):(cD (D7 D n) a:Int)=(F.lnk a).getD 0:=by
 rw [W.I.lnk a,W.tk];have e1:cD (D7 D n) a=(((D7 D n).map (·.ino)).map λb=>vZ (nmV D n b) a).sum:=by
  unfold cD;rw [List.map_map]
  congr 1
  refine List.map_congr_left λx hx=>?_
  obtain ⟨h1,h2⟩:=W.node.1 hx;show (x.names.filter _).length=vZ (nmV D n x.ino) a;rw [<-W.nms h1];rw [h2];rfl
 rw [e1,E1c (W.perm.map _)]
def D9t(h0:0<=no)(h1:no<l_ l):(B7I l no).getD j 0=l.getD j 0+(if no=(j:Int) then 1 else 0):=by
 unfold B7I;rw [E67,E76];by_cases e:no.toNat=j
 ·subst e;rw [C4 rfl,C4 (by omega),C4 (by omega)];rfl
 ·rw [C5 e,C5 (by omega),<-E67];omega
def C2c:∀ {L l:List Int},(∀ x∈L,0<=x/\x<l_ l)->(L.foldl B7I l).getD j 0=l.getD j 0+((L.filter λx=>decide (x=(j:Int))).length:Int)
 | [],l,_=>by simp
 | x::L,l,h=>by
  have hx:=h x (E7e ..);rw [E8f,C2c (by rw [D2A];exact λy hy=>h y (E7d _ hy)),D9t hx.1 hx.2];by_cases e:x=(j:Int)
  ·rw [C4 e,E7Z (by simpa using e),E7k];omega
  ·rw [C5 e,E73 (by simpa using e)];omega
def D0y:A5C D n=((D7 D n).flatMap λx=>owV D n x.ino).foldl B7I (zI (l_ D)):=by
 unfold A5C;generalize zI (l_ D)=l
 induction D7 D n generalizing l with
 | nil=>rfl
 | cons x t ih=>rw [E8f,List.flatMap_cons,List.foldl_append,ih];rfl
def Wb.owns(W:Wb D n F):List.Perm ((D7 D n).flatMap λx=>owV D n x.ino) (F.row.flatMap (owV D n)):=by
 have e:((D7 D n).flatMap λx=>owV D n x.ino)=((D7 D n).map (·.ino)).flatMap (owV D n):=by rw [List.flatMap_map]
 rw [e];exact W.perm.flatMap_right _
def Wb.owned(W:Wb D n F)(j:Nat):(A5C D n).getD j 0=if ∃ a∈F.row,(j:Int)∈owV D n a then 1 else 0:=by
 have hdt:∀ x∈(D7 D n).flatMap λx=>owV D n x.ino,0<=x/\x<(zI (l_ D)).length:=by
  intro x hx;obtain ⟨y,hy,hx⟩:=List.mem_flatMap.1 hx;have:=zC (W.I.dt y.ino (by rw [W.tk];exact (W.node.1 hy).1) x hx);simp [zI];omega
 have nd:((D7 D n).flatMap λx=>owV D n x.ino).Nodup:=by
  have:=W.I.nd;rw [W.tk] at this;exact W.owns.nodup_iff.2 this
 rw [D0y,C2c hdt];have z:(zI (l_ D)).getD j (0:Int)=0:=by
  unfold zI;rw [E67,List.getElem?_replicate];split<;>rfl
 rw [z];have iZ:(j:Int)∈((D7 D n).flatMap λx=>owV D n x.ino)↔∃ a∈F.row,(j:Int)∈owV D n a:=by
  rw [W.owns.mem_iff,List.mem_flatMap]
 generalize ((D7 D n).flatMap λx=>owV D n x.ino)=L at nd iZ;have key:∀ L:List Int,L.Nodup->(L.filter λx=>decide (x=(j:Int))).length=if (j:Int)∈L then 1 else 0:=by
  intro L
  induction L with
  | nil=>intro _;rfl
  | cons x L ih =>
   intro hn;obtain ⟨n1,n2⟩:=List.nodup_cons.1 hn;by_cases e:x=(j:Int)
   ·rw [E7Z (by simpa using e),E7k,ih n2,C5 (by rw [<-e];exact n1),C4 (by rw [e];exact E7e ..)]
   ·rw [E73 (by simpa using e),ih n2];by_cases h:(j:Int)∈L
    ·rw [C4 h,C4 (E7d _ h)]
    ·rw [C5 h,C5 (λh2=>(E7m.1 h2).elim (λe2=>e e2.symm) h)]
 rw [key L nd];by_cases h:(j:Int)∈L
 ·rw [C4 h,C4 (iZ.1 h)];rfl
 ·rw [C5 h,C5 (λh2=>h (iZ.2 h2))];rfl
def C73:∀ {l:List Bool} {i:Nat},qU i l=(E7G i (l_ l)).filter λk=>l.getD (k-i) A6
 | [],_=>rfl
 | b::l,i=>by
  rw [E7k,List.range'_succ];have e:(E7G (i+1) (l_ l)).filter (λk=>(b::l).getD (k-i) A6)=qU (i+1) l:=by
   rw [C73];refine List.filter_congr λk hk=>?_
   rw [E8o] at hk;rw [show k-i=(k-(i+1))+1 by omega];rfl
  cases b with
  | true =>
   rw [E7Z (by rw [E8l];rfl),e];rfl
  | false =>
   rw [E73 (by rw [E8l];exact Bool.false_ne_true),e];rfl
def Wb.map_same(W:Wb D n F):E2L D n=qU 0 F.taken:=by
 have hdr:=oV (b:=l_ D) (n:=n);obtain ⟨b16,b512,n8,n128,nm8,nb⟩:=G8.1 W.may;have hF:aX (l_ D) n=2+n/8:=by unfold aX bE nM;rw [W.may];rfl
 obtain ⟨d,hd⟩:=xEq ((aX (l_ D) n).toNat);have hdl:d<=(l_ D):=by omega
 have hsp:E7G 0 (l_ D)=E7G 0 d++E7G d (l_ D-d):=by
  have h:=(List.range'_append_1 (s:=0) (m:=d) (n:=l_ D-d)).symm;rw [E7o,show d+(l_ D-d)=(l_ D) by omega] at h;exact h
 have hlow:∀ j,j<d->¬ ∃ a∈F.row,(j:Int)∈owV D n a:=by
  rintro j hj ⟨a,ha,hx⟩;have:=(pE.1 (W.I.dt a (by rw [W.tk];exact ha) _ hx)).2.1;omega
 have E5u:∀ j,j<l_ D->(F.taken.getD (j-0) A6=A5↔j<d\/∃ a∈F.row,(j:Int)∈owV D n a):=by
  intro j hj;have h:=W.I.tak j;rw [W.tk,<-hd] at h;have e:F.taken.getD (j-0) A6=F.taken.getD j A5:=by
   rw [Nat.sub_zero,E67,E67,E64 (by rw [W.tl];exact hj)];rfl
  rw [e,h];constructor
  ·rintro ((h | h) | h)
   ·exact .inl h
   ·omega
   ·exact .inr h
  ·rintro (h | h)
   ·exact .inl (.inl h)
   ·exact .inr h
 unfold E2L C8r;rw [<-hd,C73,W.tl,hsp,E8k,E8k];have e1:(E7G 0 d).filter (λk=>decide (0<(A5C D n).getD k 0))=[]:=by
  refine List.filter_eq_nil_iff.2 λk hk=>?_
  rw [E8o] at hk;rw [W.owned,C5 (hlow k (by omega))];decide
 have e2:(E7G 0 d).filter (λk=>F.taken.getD (k-0) A6)=E7H d:=by
  rw [List.range_eq_range'];refine List.filter_eq_self.2 λk hk=>?_
  rw [E8o] at hk;exact (E5u k (by omega)).2 (.inl (by omega))
 rw [e1,e2,E7A]
 congr 1
 refine List.filter_congr λk hk=>?_
 rw [E8o] at hk;rw [Bool.eq_iff_iff,E5u k (by omega),decide_eq_true_iff,W.owned];constructor
 ·intro h;by_cases c:∃ a∈F.row,(k:Int)∈owV D n a
  ·exact .inr c
  ·rw [C5 c] at h;exact absurd h (by decide)
 ·rintro (h | h)
  ·omega
  ·rw [C4 h];decide
end
def D4G:∀ {l:List Bool} {i:Nat},qU i l=[]->∀ b∈l,b=A6
 | [],_,_,b,hb=>by cases hb
 | true::l,i,h,b,hb=>by
  have:i::qU (i+1) l=[]:=h;cases this
 | false::l,i,h,b,hb=>by
  rcases E7m.1 hb with rfl | hb
  ·rfl
  ·exact D4G (l:=l) (i:=i+1) h b hb
def B5E{f:Int->Nat}:∀ {l:List Int} {a:Int},a∈l->f a<=(l.map f).sum
 | x::l,a,h=>by
  rw [E7X,List.sum_cons];rcases E7m.1 h with rfl | h
  ·omega
  ·have:=B5E (f:=f) h;omega
def D2h{f:Int->Nat}:∀ {l:List Int} {a b:Int},a∈l->b∈l->a≠b->f a+f b<=(l.map f).sum
 | x::l,a,b,ha,hb,hn=>by
  rw [E7X,List.sum_cons];rcases E7m.1 ha with e1 | h1
  ·rcases E7m.1 hb with e2 | h2
   ·exact absurd (e1.trans e2.symm) hn
   ·have:=B5E (f:=f) h2;rw [e1];omega
  ·rcases E7m.1 hb with e2 | h2
   ·have:=B5E (f:=f) h1;rw [e2];omega
   ·have:=D2h (f:=f) h1 h2 hn;omega
def E6C(h:l_ l=7):∃ a b c d e f g,l=[a,b,c,d,e,f,g]:=by
 match l,h with
 | [a,b,c,d,e,f,g],_=>exact ⟨a,b,c,d,e,f,g,rfl⟩
section
variable {D:Dev} {n a:Int}
structure Rt(D:Dev)(n:Int):Prop where
 okD:okD D
 may:O6 (l_ D) n=A5
 fl:∀ b∈cF D n,b=A6
def Rt.rt(R:Rt D n):kdV D n 1=2/\lnV D n 1=1/\paV D n 1=1:=by
 have h:=R.fl (D0F D n) (by simp [cF]);unfold D0F at h;rw [Bool.not_eq_false'] at h;exact of_decide_eq_true h
def Rt.mem(R:Rt D n)(ha:a∈A3X D n):iT D n a∈D7 D n:=vU.2 ⟨R.rt.1,ha,rfl⟩
def D3n{i:Int}(h:(iQ (D7 D n) i).isSome=A5):i∈A3X D n:=by
 cases hf:iQ (D7 D n) i with
 | none=>rw [hf] at h;cases h
 | some x =>
  have h1:=(vU.1 (List.mem_of_find?_eq_some hf)).2.1;have h2:=List.find?_some hf;rw [<-of_decide_eq_true h2];exact h1
def Rt.kind(R:Rt D n)(ha:a∈A3X D n):(zW D n a/\kdV D n a=1)\/(¬ zW D n a/\kdV D n a=2):=by
 by_cases hf:zW D n a
 ·exact .inl ⟨hf,hf.2⟩
 ·refine .inr ⟨hf,?_⟩;rcases C2F R.rt.1 ha with h | h
  ·by_cases h1:a=1
   ·subst h1;exact R.rt.1
   ·exact absurd ⟨h1,h⟩ hf
  ·exact h
def Rt.names(R:Rt D n)(ha:a∈A3X D n):∀ e∈nmV D n a,e.2∈A3X D n/\kdV D n e.2≠0:=by
 intro e he;have h:=R.fl (C7B D n) (by simp [cF]);unfold C7B at h;rw [List.any_eq_false] at h;have h2:kdV D n a=2:=C7r he;have h:=h _ (R.mem ha);have e2:(iT D n a).kind=kdV D n a:=rfl;have e3:(iT D n a).ino=a:=rfl;rw [e2,e3,h2,R9 rfl,E7w] at h;have h:C2r D n a=A6:=by simpa using h
 unfold C2r at h;rw [List.any_eq_false] at h;have h:=h e he;have hr:e.2∈A3X D n:=D3n (by rw [Bool.not_eq_true,Bool.not_eq_false'] at h;exact h);refine ⟨hr,?_⟩;rcases C2F R.rt.1 hr with h | h<;>omega
def Rt.nms(R:Rt D n)(ha:a∈A3X D n):A09 D n a=nmV D n a:=by
 unfold A09;show (nmV D n a).filter _=_;refine List.filter_eq_self.2 λe he=>?_
 have h:=(R.names ha e he).2;unfold C7j;rcases C49 (D:=D) (n:=n) (i:=e.2) with h0 | h0 | h0
 ·exact absurd h0 h
 ·rw [h0];rfl
 ·rw [h0];rfl
def C7i(D:Dev)(n:Int):List Int:=(D7 D n).map (·.ino)
def Rt.inos(R:Rt D n):a∈C7i D n↔a∈A3X D n:=by
 unfold C7i;rw [E7B];constructor
 ·rintro ⟨x,hx,rfl⟩;exact (vU.1 hx).2.1
 ·intro h;exact ⟨_,R.mem h,rfl⟩
def Rt.count(R:Rt D n)(x:Int):cD (D7 D n) x=((C7i D n).map λb=>vZ (nmV D n b) x).sum:=by
 unfold cD C7i;rw [List.map_map]
 congr 1
 refine List.map_congr_left λy hy=>?_
 have h:=vU.1 hy;show (y.names.filter _).length=vZ (nmV D n y.ino) x;rw [<-R.nms h.2.1,h.2.2];rfl
def Rt.link(R:Rt D n)(ha:a∈A3X D n):tA (D7 D n) (iT D n a)=A6:=by
 have h:=R.fl (D1L D n) (by simp [cF]);unfold D1L at h;rw [List.any_eq_false] at h;simpa using h _ (R.mem ha)
def Rt.link1(R:Rt D n):cD (D7 D n) 1=0:=by
 obtain ⟨j,_,hi⟩:=B4P (D:=D) (n:=n);have h:=R.link hi.hd;unfold tA at h;rw [C4 (show (iT D n 1).ino=1 from rfl)] at h;have h:=of_decide_eq_false h;have h:¬ ((cD (D7 D n) 1:Int)≠0):=h;omega
def Rt.links(R:Rt D n)(ha:a∈A3X D n)(h1:a≠1):lnV D n a=(cD (D7 D n) a:Nat)/\(kdV D n a=1->paV D n a=0)/\(kdV D n a=2->cD (D7 D n) a=1/\B8i (D7 D n) (paV D n a) a=A5):=by
 have h:=R.link ha;unfold tA at h;rw [C5 (show ¬ (iT D n a).ino=1 from h1),E78,E78,Bool.and_eq_false_iff,Bool.and_eq_false_iff] at h;obtain ⟨⟨h2,h3⟩,h4⟩:=h;have h2:¬ (lnV D n a≠(cD (D7 D n) a:Nat)):=of_decide_eq_false h2;refine ⟨by omega,λhk=>?_,λhk=>?_⟩
 ·rcases h3 with h | h
  ·exact absurd hk (of_decide_eq_false h)
  ·have:¬ (paV D n a≠0):=of_decide_eq_false h;omega
 ·rcases h4 with h | h
  ·exact absurd hk (of_decide_eq_false h)
  ·rw [E78,Bool.not_eq_false'] at h;have h5:¬ ((cD (D7 D n) a:Int)≠1):=of_decide_eq_false h.1;exact ⟨by omega,h.2⟩
def D8U(hk:∀ s∈J3 b,U9 b s.2.1=A4 s)(hr:A8l b=A5):clB b (λ_=>A5)=b:=by
 have hr:B1N b=b:=of_decide_eq_true hr;refine Eq.trans ?_ hr;have key:∀ (e k:Nat) (cur:List UInt8),(∀ s∈Q5 b e k,U9 b s.2.1=A4 s)->A0y (λ_=>A5) cur (Q5 b e k)=fixF b e k cur:=by
  intro e
  induction e with
  | zero=>intro k cur _;rfl
  | succ e ih =>
   intro k cur h;show _=fixF b e (k+1) (C2b b k cur);cases hr:O7 b k with
   | none =>
    rw [aI hr] at h ⊢;have:C2b b k cur=cur:=by unfold C2b;rw [hr]
    rw [this];exact ih (k+1) cur h
   | some x =>
    rw [aJ hr] at h ⊢;have hx:U9 b x.1=A4 (k,x):=h (k,x) (E7e ..);have:C2b b k cur=H5 cur (H9 k) (U6 x.1 x.2):=by
     unfold C2b;rw [hr];show (bif B1b b k x then _ else _)=_;have:B1b b k x=A5:=by unfold B1b;rw [hx];simp
     rw [this];rfl
    rw [this,<-ih (k+1) _ λs hs=>h s (E7d _ hs)];rfl
 exact key 7 0 hdB hk
def Rt.dir(R:Rt D n)(ha:a∈A3X D n)(hf:¬ zW D n a):kdV D n a=2/\szV D n a=0/\drV D n a=noV D n a::zI 6/\(noV D n a≠0->DirS D n a/\∀ x∈noV D n a::bkV D n a,F6 (l_ D) n x=A5):=by
 have k2:kdV D n a=2:=by
  rcases R.kind ha with ⟨h,_⟩ | ⟨_,h⟩
  ·exact absurd h hf
  ·exact h
 have h:=R.fl (D3c D n) (by simp [cF]);unfold D3c at h;rw [List.any_eq_false] at h;have h:=h _ (R.mem ha);have e2:(iT D n a).kind=kdV D n a:=rfl;have e3:(iT D n a).ino=a:=rfl;rw [e2,e3,k2,R9 rfl,E7w] at h;have h:C6G D n a=A6:=by simpa using h
 unfold C6G at h;rw [E78,E78,E78,Bool.not_eq_false'] at h;obtain ⟨h1,h2,h3,h4⟩:=h;have h1:=of_decide_eq_true h1;have h2:¬ ((drV D n a).getD 6 0≠0):=of_decide_eq_false h2;have h3:¬ (szV D n a≠0):=of_decide_eq_false h3;have hdr:drV D n a=noV D n a::zI 6:=by
  unfold noV;obtain ⟨a0,a1,a2,a3,a4,a5,a6,e⟩:=E6C (J9 (D:=D) (n:=n) (i:=a));rw [e] at h1 h2 ⊢;have z6:zI 6=[0,0,0,0,0,0]:=rfl;rw [z6] at h1 ⊢;have h1:[0,a1,a2,a3,a4,a5]=[0,0,0,0,0,0]:=h1;have h2:¬ (a6≠0):=h2;simp only [List.cons.injEq] at h1;obtain ⟨_,rfl,rfl,rfl,rfl,rfl,_⟩:=h1;have:a6=0:=by omega
  subst this;rfl
 refine ⟨k2,by omega,hdr,λh0=>?_⟩;unfold D9K at h4;have e0:(drV D n a).getD 0 0=noV D n a:=rfl;rw [e0,R9 h0,E7w,E78,E78,E78,Bool.not_eq_false',Bool.not_eq_false'] at h4;obtain ⟨b1,b2,b3,b4⟩:=h4;have ok:=b1;unfold X0 at b1;rw [E66,E66,e0] at b1;have b2:A1b (dpV D n a) (toV D n a)=A5:=b2;obtain ⟨d0,d5,_⟩:=C2E.1 b2;have fr:=D6Y (sW _) b2;rw [List.any_eq_false] at b4;have hbk:∀ b∈bkV D n a,F6 (l_ D) n b=A5/\A8l (blk D b)=A5:=by
  intro b hb;have h:=b4 b hb;unfold E2g at h;simp only [Bool.or_eq_true,E7Y,not_or,Bool.not_eq_false] at h;exact h
 have A8g:∀ x∈noV D n a::bkV D n a,F6 (l_ D) n x=A5:=by
  intro x hx;rcases E7m.1 hx with rfl | hx
  ·exact b1.1.2
  ·exact (hbk x hx).1
 obtain ⟨_,hX,hB,_,_⟩:=B9C k2 b1.2 A8g;have hs:dQ D n (kdV D n a) (drV D n a) (oX D n (kdV D n a) (drV D n a))=[]:=by
  have:=of_decide_eq_false b3;exact List.length_eq_zero_iff.1 (by omega)
 have hat:=(D6w ok hX hB).1 hs;refine ⟨⟨b1.2,d0,d5,fr,hat,λb hb=>D8U (λs hs=>?_) (hbk b hb).2⟩,A8g⟩;obtain ⟨a1,a2⟩:=B5d.1 (hat b hb s hs);rw [uR a1 (oN hb)] at a2;exact a2
def Rt.file(R:Rt D n)(ha:a∈A3X D n)(hf:zW D n a):FilS D n a/\∀ x∈flV D n a,F6 (l_ D) n x=A5:=by
 have h:=R.fl (C6R D n) (by simp [cF]);unfold C6R at h;rw [List.any_eq_false] at h;have h:=h _ (R.mem ha);have e2:(iT D n a).kind=kdV D n a:=rfl;have e3:(iT D n a).ino=a:=rfl;rw [e2,e3,hf.2,R9 rfl,E7w] at h;have h:C19 D n a=A6:=by simpa using h
 unfold C19 D7E at h;rw [E78,E78,Bool.and_eq_false_iff,List.any_eq_false,List.any_eq_false] at h;obtain ⟨h1,h2,h3⟩:=h;have wr:∀ {k no:Int},A1j D n k no (T2 (szV D n a))=A6->no≠0->F6 (l_ D) n no=A5/\k<T2 (szV D n a):=by
  intro k no h h0;unfold A1j at h;rw [R9 h0,E7w,E78,Bool.not_eq_false'] at h;have:=of_decide_eq_false h.2;exact ⟨h.1,by omega⟩
 have ei:(drV D n a).getD 6 0=S3 D n a:=rfl;rw [ei] at h2 h3;have w1:∀ j:Nat,j<6->(drV D n a).getD j 0≠0->F6 (l_ D) n ((drV D n a).getD j 0)=A5/\(j:Int)<T2 (szV D n a):=λj hj h0 =>
  wr (by simpa using h1 j (by rw [E8o];omega)) h0
 have w3:∀ j:Nat,j<128->wD D n a j≠0->F6 (l_ D) n (wD D n a j)=A5/\(6:Int)+j<T2 (szV D n a):=by
  intro j hj h0;have z:S3 D n a≠0:=λz=>by unfold wD at h0;rw [C4 z] at h0;exact h0 rfl
  have ep:wD D n a j=ptP (blk D (S3 D n a)) j:=by unfold wD;rw [C5 z]
  rw [ep] at h0 ⊢;rcases h3 with h | h
  ·exact absurd z (of_decide_eq_false h)
  ·exact wr (by simpa using h j (by rw [E8o];omega)) h0
 refine ⟨⟨λj hj h0=>(w1 j hj h0).2,λh0=>(wr h2 h0).2,λj hj h0=>by have:=(w3 j hj h0).2;omega⟩,λx hx=>?_⟩;unfold flV at hx;rcases E7J.1 hx with hx | hx
 ·rcases E7J.1 hx with hx | hx
  ·obtain ⟨h0,j,_,hj,rfl⟩:=A9H.1 hx;exact (w1 j (by omega) h0).1
  ·by_cases z:S3 D n a=0
   ·rw [z,B4J] at hx;cases hx
   ·rw [zG z] at hx;rcases E7m.1 hx with rfl | hx
    ·exact (wr h2 z).1
    ·cases hx
 ·obtain ⟨h0,j,_,hj,rfl⟩:=A9H.1 hx;exact (w3 j (by omega) h0).1
def Rt.owns_nd(R:Rt D n):((C7i D n).flatMap (owV D n)).Nodup:=by
 have h:=R.fl (C8q D n) (by simp [cF]);unfold C8q at h;rw [List.any_eq_false] at h;have hd:∀ x∈(D7 D n).flatMap λx=>owV D n x.ino,0<=x/\x<(zI (l_ D)).length:=by
  intro x hx;obtain ⟨y,_,hx⟩:=List.mem_flatMap.1 hx;have:=zC (C2z x hx);simp [zI];omega
 have e:(C7i D n).flatMap (owV D n)=(D7 D n).flatMap λx=>owV D n x.ino:=by unfold C7i;rw [List.flatMap_map]
 rw [e];have hc:∀ j:Nat,(((D7 D n).flatMap λx=>owV D n x.ino).filter λx=>decide (x=(j:Int))).length<=1:=by
  intro j;have h1:=C2c (j:=j) hd;rw [<-D0y] at h1;have z:(zI (l_ D)).getD j (0:Int)=0:=by
   unfold zI;rw [E67,List.getElem?_replicate];split<;>rfl
  rw [z] at h1;by_cases hj:j<(A5C D n).length
  ·have h2:=h _ (E7y hj);have e3:(A5C D n).getD j 0=(A5C D n)[j]:=by rw [E67,E64 hj];rfl
   rw [e3] at h1;have:¬ (1<(A5C D n)[j]):=by simpa using h2
   omega
  ·have e3:(A5C D n).getD j 0=0:=by rw [E67,E7z (by omega)];rfl
   rw [e3] at h1;omega
 have hnn:∀ x∈(D7 D n).flatMap λx=>owV D n x.ino,0<=x:=λx hx=>(hd x hx).1
 generalize ((D7 D n).flatMap λx=>owV D n x.ino)=L at hc hnn
 clear hd h e
 induction L with
 | nil=>exact List.nodup_nil
 | cons x L ih =>
  refine List.nodup_cons.2 ⟨λhx=>?_,ih (λj=>?_) λy hy=>hnn y (E7d _ hy)⟩
  ·have h0:=hnn x (E7e ..);have h1:=hc x.toNat;have e:((x.toNat:Nat):Int)=x:=Int.toNat_of_nonneg h0;rw [e,E7Z (by simp),E7k] at h1;have h2:0<(L.filter λy=>decide (y=x)).length:=List.length_pos_of_mem (E7N.2 ⟨hx,by simp⟩);omega
  ·have h1:=hc j;by_cases h:x=(j:Int)
   ·rw [E7Z (by simpa using h),E7k] at h1;omega
   ·rw [E73 (by simpa using h)] at h1;exact h1
def C6X{f:Int->List Int}:∀ {l:List Int} {a b:Int},(l.flatMap f).Nodup->a∈l->b∈l->a≠b->∀ x∈f a,x ∉ f b
 | y::l,a,b,hn,ha,hb,Z2=>by
  rw [List.flatMap_cons,List.nodup_append] at hn;intro x hxa hxb;rcases E7m.1 ha with e1 | h1
  ·rcases E7m.1 hb with e2 | h2
   ·exact Z2 (e1.trans e2.symm)
   ·exact hn.2.2 x (by rw [<-e1];exact hxa) x (List.mem_flatMap.2 ⟨b,h2,hxb⟩) rfl
  ·rcases E7m.1 hb with e2 | h2
   ·exact hn.2.2 x (by rw [<-e2];exact hxb) x (List.mem_flatMap.2 ⟨a,h1,hxa⟩) rfl
   ·exact C6X hn.2.1 h1 h2 Z2 x hxa hxb
def C6W{f:Int->List Int}:∀ {l:List Int} {a:Int},(l.flatMap f).Nodup->a∈l->(f a).Nodup
 | y::l,a,hn,ha=>by
  rw [List.flatMap_cons,List.nodup_append] at hn;rcases E7m.1 ha with rfl | ha
  ·exact hn.1
  ·exact C6W hn.2.1 ha
def Rt.kp(R:Rt D n)(I:Inv D n i c)(hi:c.row[i]?=A4 a):Kp D n c a:=by
 have ham:=E7p hi;have hr:=I.sub a ham;have Z2:∀ b∈c.row.take i,b≠a:=by
  intro b hb e;obtain ⟨j,hj⟩:=E7O.1 hb;have hjl:=(E7b.1 hj).1;rw [E7L] at hjl;rw [E7M (by omega)] at hj;have:=(List.getElem?_inj (by omega) I.w.nd).1 (hj.trans ((congrArg A4 e).trans hi.symm));omega
 have nd:=R.owns_nd;have D65:J1 D n c (owV D n a)=owV D n a:=by
  refine A5y.2 ⟨C6W nd (R.inos.2 hr),λx hx=>?_⟩;have hd:=C2z x hx;refine ⟨hd,?_⟩;cases ht:c.taken.getD x.toNat A5 with
  | false=>rfl
  | true =>
   exfalso;have h0:=zC hd;rcases (I.tak x.toNat).1 ht with (h | h) | ⟨b,hb,h⟩
   ·have:=(pE.1 hd).2.1;omega
   ·omega
   ·rw [Int.toNat_of_nonneg h0.1] at h;exact C6X nd (R.inos.2 (I.sub b (List.mem_of_mem_take hb))) (R.inos.2 hr) (Z2 b hb) x h hx
 by_cases hf:zW D n a
 ·obtain ⟨S,A8g⟩:=R.file hr hf;have e:owV D n a=flV D n a:=(B5p hf.2 A8g).1;rw [e] at D65;exact .inl ⟨hf,S,D65⟩
 ·obtain ⟨k2,_,hdr,A5r⟩:=R.dir hr hf;refine .inr ⟨hf,k2,hdr,λh0=>?_⟩;obtain ⟨S,A8g⟩:=A5r h0;obtain ⟨_,_,_,o1,o2⟩:=B9C k2 S.good A8g;have e:owV D n a=noV D n a::bkV D n a:=o1;rw [e] at D65;have el:nmV D n a=S7 D (dpV D n a::toV D n a) (bkV D n a):=o2;refine ⟨S,D65,?_⟩;rw [<-el];refine E1C (λf hf=>?_) λf hf hk=>?_
  ·refine ⟨λh1=>?_,(R.names hr f hf).2⟩;have hc:=R.link1;rw [R.count] at hc;have h2:=B5E (f:=λb=>vZ (nmV D n b) 1) (R.inos.2 hr);have h3:=A9i ⟨f,hf,h1⟩;have h2:vZ (nmV D n a) 1<=_:=h2;omega
  ·have hrf:=(R.names hr f hf).1;have h3:=A9i ⟨f,hf,rfl⟩;have hn1:f.2≠1:=λh1=>by
    have hc:=R.link1;rw [R.count] at hc;have h2:=B5E (f:=λb=>vZ (nmV D n b) 1) (R.inos.2 hr);have h2:vZ (nmV D n a) 1<=_:=h2;rw [h1] at h3;omega
   have hc:=((R.links hrf hn1).2.2 hk).1;rw [R.count] at hc;have h2:=B5E (f:=λb=>vZ (nmV D n b) f.2) (R.inos.2 hr);have h2:vZ (nmV D n a) f.2<=_:=h2;refine ⟨?_,by omega⟩;cases hp:c.par f.2 with
   | none=>rfl
   | some v =>
    exfalso;obtain ⟨p,hpm,_,e',he',hee⟩:=I.par f.2 ((I.w.par f.2).1 (by rw [hp];rfl)) hn1;have h4:=A9i ⟨e',he',hee⟩;have h5:=D2h (f:=λb=>vZ (nmV D n b) f.2) (R.inos.2 (I.sub p (List.mem_of_mem_take hpm))) (R.inos.2 hr) (Z2 p hpm);have h5:vZ (nmV D n p) f.2+vZ (nmV D n a) f.2<=_:=h5;omega
def Rt.inv(R:Rt D n):Inv D n (D1 D n).row.length (D1 D n):=C9Y R.okD R.may λi c a I hi _=>R.kp I hi
end
def C90:∀ {e i:Nat},A5g b e i=A5->∀ j,i<=j->j<i+e->aW (eV b j)=A5
 | 0,i,_,j,h1,h2=>by omega
 | e+1,i,h,j,h1,h2=>by
  have h:(aW (eV b i)&&A5g b e (i+1))=A5:=h;rw [E66] at h;by_cases c:j=i
  ·rw [c];exact h.1
  ·exact C90 h.2 j (by omega) (by omega)
def D3G{kd:Int->Int}{i:Int}(hk:kd i≠0):∀ {e k:Nat},(k:Int)+1<=i->i<=(k+e:Nat)->i∈zB kd e k
 | 0,k,h1,h2=>by omega
 | e+1,k,h1,h2=>by
  unfold zB;by_cases c:i=(k:Int)+1
  ·rw [<-c,C5 hk];exact E7e ..
  ·have ih:=D3G hk (e:=e) (k:=k+1) (by omega) (by omega);split
   ·exact ih
   ·exact E7d _ ih
def E2W{c:List UInt8}(hb:l_ b=256)(hc:c.length=256)(h:∀ j,j<8->eV b j=eV c j):b=c:=by
 refine List.ext_getElem (by rw [hb,hc]) λk h1 h2=>?_
 have hj:=congrArg (λl=>l[k%32]?) (h (k/32) (by omega));unfold eV at hj;have hj:(List.take 32 (List.drop (32*(k/32)) b))[k%32]?=(List.take 32 (List.drop (32*(k/32)) c))[k%32]? := hj;rw [E7M (by omega),E7M (by omega),E8j,E8j,show 32*(k/32)+k%32=k by omega,E64 h1,E64 h2] at hj;exact E8n hj
def D4T{ino:List (List Int)}{b:Nat}(hi:∀ j,j<8->(ino.getD (b+j) []).length=11):∀ {e k:Nat} {a:List UInt8},a.length=256->k+e<=8->(D4S ino b e k a).length=256
 | 0,_,_,h,_=>h
 | e+1,k,a,h,hk=>by
  refine D4T hi (e:=e) (k:=k+1) (a:=H5 a (32*k) (A8h (ino.getD (b+k) []))) ?_ (by omega);rw [O1 (by rw [A64 (hi k (by omega))];omega),h]
section
variable {D:Dev} {n a:Int}
def Rt.wb(R:Rt D n):Wb D n (D1 D n):=by
 obtain ⟨_,s2,_⟩:=cQ (L:=(D1 D n).row) (c:=D1 D n);have s2:(E6 D n).taken=(D1 D n).taken:=s2;exact ⟨R.okD,R.may,R.inv,by rw [<-s2];exact (eY R.okD R.may).tak,R.rt.1⟩
def Rt.raw(R:Rt D n){i:Int}(hi:P9 (l_ D) n i=A5):qS D n i=A8h (C9e D n i):=by
 obtain ⟨hm,i1,i2⟩:=N1.1 hi;obtain ⟨b16,b512,n8,n128,nm8,nb⟩:=G8.1 hm;have h:=R.fl (B4Z D n) (by simp [cF]);unfold B4Z at h;rw [Bool.not_eq_false',E7D] at h;have hT:nM (l_ D) n=n/8:=by unfold nM;rw [hm];rfl
 have hF:bE (l_ D) n=2:=by unfold bE;rw [hm];rfl
 have h:=h ((i-1)/8).toNat (by rw [List.mem_range,hT];omega);have h:=C90 h ((i-1)%8).toNat (by omega) (by omega);have hB:Z4 (l_ D) n i=2+(i-1)/8:=by unfold Z4;rw [hi];rfl
 have hK:gQ (l_ D) n i=(i-1)%8:=by unfold gQ;rw [hi];rfl
 have D5M:qS D n i=eV (blk D (bE (l_ D) n+(((i-1)/8).toNat:Nat))) ((i-1)%8).toNat:=by
  unfold qS;rw [hB,hK,hF]
  congr 2
  omega
 rw [<-D5M] at h;have hc:B0V D n i=A5:=by unfold B0V;rw [hi,h];rfl
 unfold C9e A8h;rw [C48];unfold lnV szV paV drV;rw [hc];unfold aW at h;rw [E66] at h;exact (of_decide_eq_true h.2).symm
def Rt.ino(R:Rt D n){i:Int}(hi:P9 (l_ D) n i=A5):(E6 D n).ino.getD i.toNat []=C9e D n i:=by
 obtain ⟨hm,i1,i2⟩:=N1.1 hi;have B:=sQ hm;have W:=R.wb;by_cases hr:i∈(D1 D n).row
 ·rw [D69 W.I hr];have nG:=W.row.2 hr;unfold C9e;by_cases hf:zW D n i
  ·obtain ⟨l1,l2,_⟩:=R.links nG hf.1;rw [C4 hf,hf.2,l1,l2 hf.2,W.count]
  ·obtain ⟨k2,hs,_⟩:=R.dir nG hf;rw [C5 hf];unfold C2i;rw [C5 hf,k2,hs];by_cases h1:i=1
   ·subst h1;rw [R.rt.2.1,R.rt.2.2,W.I.par1];rfl
   ·obtain ⟨l1,_,l3⟩:=R.links nG h1;obtain ⟨c1,c2⟩:=l3 k2;obtain ⟨p,hpm,hp,e,he,hee⟩:=W.I.par i hr h1;rw [W.tk] at hpm;have hpp:p=paV D n i:=by
     unfold B8i at c2;cases hfd:iQ (D7 D n) (paV D n i) with
     | none=>rw [hfd] at c2;exact absurd (show A6=A5 from c2) (by decide)
     | some y =>
      rw [hfd] at c2;have hy:=List.mem_of_find?_eq_some hfd;have hyi:y.ino=paV D n i:=by
       unfold iQ at hfd;have h0:=List.find?_some hfd;exact of_decide_eq_true h0
      have hyr:=(vU.1 hy).2.1;rw [hyi] at hyr;have hyn:y.names=nmV D n (paV D n i):=by
       rw [(vU.1 hy).2.2,hyi,<-R.nms hyr];rfl
      obtain ⟨e2,he2,h2⟩:=List.any_eq_true.1 c2;have he2:e2∈y.names:=he2;rw [hyn] at he2;by_cases Z2:p=paV D n i
      ·exact Z2
      ·exfalso;have h3:=D2h (f:=λb=>vZ (nmV D n b) i) (R.inos.2 (W.row.2 hpm)) (R.inos.2 hyr) Z2;have h3:vZ (nmV D n p) i+vZ (nmV D n (paV D n i)) i<=_:=h3;rw [<-R.count,c1] at h3;have h4:=A9i ⟨e,he,hee⟩;have h5:=A9i ⟨e2,he2,by simpa using h2⟩;omega
    rw [l1,c1,hp,hpp];rfl
 ·have h1:(D1 D n).ino.getD i.toNat []=zI 11:=by
   unfold D1 at hr ⊢;rw [A67 i1 B.w B.bm (λj _ hj=>hr (E7p hj))];exact B.zero i i1 i2
  have h2:=C2k (a:=i) (by omega) (L:=(D1 D n).row) (c:=D1 D n) W.I.w.nd λx hx=>by have:=W.I.w.rg x hx;omega
  have h2:(E6 D n).ino.getD i.toNat []=_:=h2;rw [h2,C5 (λh=>hr h.1),h1];refine (D8V.2 ?_).symm;by_cases hk:kdV D n i=0
  ·exact hk
  ·exfalso;have h:=R.fl (D3Q D n) (by simp [cF]);unfold D3Q at h;rw [Bool.not_eq_false',E7D] at h;obtain ⟨_,_,n8,n128,_⟩:=G8.1 hm;have:=h i (D3G hk (by omega) (by omega));exact hr (W.row.1 (D3n this))
def Rt.still(R:Rt D n):fS D n (E6 D n)=D:=by
 have hm:=R.may;have hD:=R.okD;obtain ⟨b16,b512,n8,n128,nm8,nb⟩:=G8.1 hm;have ok:=eY hD hm;have W:=R.wb;obtain ⟨_,_,_,K6,_⟩:=X9 hD hm;obtain ⟨s1,s2,s3,s4,_⟩:=cQ (L:=(D1 D n).row) (c:=D1 D n);have s2:(E6 D n).taken=(D1 D n).taken:=s2;have s3:(E6 D n).blocks=(D1 D n).blocks:=s3;have s4:(E6 D n).made=(D1 D n).made:=s4;have P:Pend D n (D1 D n) []:=by unfold D1;exact A9I hD (by omega) (sQ hm).pend
 have l1:=B08 hD hm ok;refine E8h λi=>?_
 by_cases hi:i<(l_ D)
 ·rw [B4n hD hm ok K6 hi,E64 hi]
  congr 1
  by_cases h1:i=1
  ·subst h1;rw [C4 rfl,s2,<-W.map_same];have h:=R.fl (C0b D n) (by simp [cF]);unfold C0b at h;rw [Bool.not_eq_false'] at h;rw [of_decide_eq_true h];exact A48 hi
  ·rw [C5 h1];unfold C7Y;by_cases ha:B1J (l_ D) n i=3
   ·rw [C4 ha];have h2i:2<=i/\(i-2)*8<n:=by
     unfold B1J at ha;rw [C4 ⟨hm,by omega,by omega⟩] at ha;by_cases c:(i:Int)<2
     ·rw [C4 c] at ha;omega
     ·rw [C5 c] at ha;by_cases c2:((i:Int)-2)*8<n
      ·omega
      ·rw [C5 c2] at ha;exact absurd ha (by decide)
    have hin:∀ j,j<8->P9 (l_ D) n ((8*(i-2)+1+j:Nat):Int)=A5:=λj hj=>N1.2 ⟨hm,by omega,by omega⟩
    have hlen:∀ j,j<8->((E6 D n).ino.getD (8*(i-2)+1+j) []).length=11:=by
     intro j hj;have:=R.ino (hin j hj);rw [E7s] at this;rw [this];exact D4w
    refine E2W (D4T hlen zeros_length (by omega)) (hD.at hi) λj hj=>?_
    rw [C8c hj zeros_length (by omega) hlen,C4 ⟨by omega,by omega⟩];have h2:=R.ino (hin j hj);rw [E7s] at h2;rw [h2,<-R.raw (hin j hj)];unfold qS Z4 gQ;rw [hin j hj,R8,R8];have e1:2+(((8*(i-2)+1+j:Nat):Int)-1)/8=(i:Int):=by omega
    have e2:((((8*(i-2)+1+j:Nat):Int)-1)%8).toNat=j:=by omega
    rw [e1,e2,A48 hi]
   ·rw [C5 ha,s3,s4];have eD:D.getD i []=D[i]:=by rw [E67,E64 hi];rfl
    rw [eD];by_cases hin:(i:Int)∈(D1 D n).blocks
    ·obtain ⟨j,hj⟩:=E7O.1 hin;have hjl:=(E7b.1 hj).1;have hjm:j<(D1 D n).made.length:=by rw [<-P.bm];exact hjl
     have hq:((i:Int),(D1 D n).made[j])∈cZ (D1 D n):=by
      unfold cZ;rw [E7O];refine ⟨j,?_⟩;rw [List.getElem?_zip_eq_some];exact ⟨hj,E64 hjm⟩
     have h2:=W.I.put _ hq;have h2:blk D (i:Int)=(D1 D n).made[j]:=h2;have h3:=P.pick (a:=D[i]) hq;have h3:rF (D1 D n).blocks (D1 D n).made (i:Int) D[i]=(D1 D n).made[j]:=h3;rw [h3,<-h2,A48 hi]
    ·rw [A4g hin]
 ·rw [E7z (by rw [l1];omega),E7z (by omega)]
def E5H(hD:okD D)(hm:O6 (l_ D) n=A5)(h:qU 0 (cF D n)=[]):Rt D n:=⟨hD,hm,D4G h⟩
end
section
variable {D:Dev} {n a:Int}
def D4B(n128:n<=128):∀ {e i:Nat} {c:Cl},i+e=129->RowW n c->c.blocks.length=c.made.length->c.ino.length=(n+1).toNat->∀ (j:Nat) (a:Int),i<=j->(ofR D n e i c).row[j]?=A4 a ->
  ∃ c0,c0.blocks.length=c0.made.length/\a.toNat<c0.ino.length/\Ext D n c0 (ofR D n e i c) a
 | 0,i,c,hi,w,_,_,j,a,hj,h=>by
  have h:c.row[j]?=A4 a:=h;have hl:=A3Y w.nd λb hb=>⟨(w.rg b hb).1,by have:=(w.rg b hb).2;omega⟩
  have:=(E7b.1 h).1;omega
 | e+1,i,c,hi,w,hbm,K6,j,a,hj,h=>by
  unfold ofR at h ⊢;cases hc:c.row[i]? with
  | none =>
   rw [hc] at h;have h:c.row[j]?=A4 a:=h;have h1:=(E7b.1 h).1;have h2:=List.getElem?_eq_none_iff.1 hc;omega
  | some b =>
   rw [hc] at h;have h:(ofR D n e (i+1) (S4 D n c b)).row[j]?=A4 a:=h;have g:=zH (D:=D) (n:=n) (a:=b) hbm;obtain ⟨h1,h2,h3,h4⟩:=B5x (D:=D) (n:=n) (e:=e) (i:=i+1) g.bm;have hrg:=w.rg b (E7p hc);have hat:=vQ (g.row.trans h1) hc;have wF:=A2y (D:=D) (n:=n) (e:=e) (i:=i+1) (bY (D:=D) (ino:=b) w);have D3x:=A67 (D:=D) (n:=n) hrg.1 (e:=e) (i:=i+1) (bY (D:=D) (ino:=b) w) g.bm λj hj he=>by
    have:=(List.getElem?_inj (E7b.1 hat).1 wF.nd).1 (hat.trans he.symm);omega
   by_cases e1:j=i
   ·subst e1;rw [hat] at h;have e2:=E8n h;subst e2;exact ⟨c,hbm,by omega,λx hx=>h1.subset hx,h3,D3x⟩
   ·exact D4B n128 (by omega) (bY w) g.bm (g.il.trans K6) j a (by omega) h
def D3a{d:List Int}{j:Nat}:∀ {e k:Nat} {s:Cl × List Int},(s.2.getD j 0=0\/s.2.getD j 0=d.getD j 0)->(cE D n d e k s).2.getD j 0=0\/(cE D n d e k s).2.getD j 0=d.getD j 0
 | 0,_,_,h=>h
 | e+1,k,s,h=>by
  refine D3a (d:=d) (j:=j) (e:=e) (k:=k+1) (s:=(K0 D n s.1 (d.getD k 0),s.2.set k (K3 D n s.1 (d.getD k 0)))) ?_;show (s.2.set k _).getD j 0=0\/(s.2.set k _).getD j 0=d.getD j 0;rw [E67,E76];by_cases e:k=j
  ·subst e;rw [C4 rfl];by_cases hl:k<s.2.length
   ·rw [C4 hl];show K3 D n s.1 (d.getD k 0)=0\/K3 D n s.1 (d.getD k 0)=d.getD k 0;by_cases z:K3 D n s.1 (d.getD k 0)=0
    ·exact .inl z
    ·exact .inr (A6R z).1
   ·rw [C5 hl];exact .inl rfl
  ·rw [C5 e,<-E67];exact h
def C97:(H7 D n c a).2.getD j 0=0\/(H7 D n c a).2.getD j 0=(drV D n a).getD j 0:=by
 rw [A00];unfold A2x;have h:=D3a (D:=D) (n:=n) (d:=drV D n a) (j:=j) (e:=(min (T2 (szV D n a)) 6).toNat) (k:=0) (s:=(c,zI 7)) (by
  left
  show (zI 7).getD j 0=0;unfold zI;rw [E67,List.getElem?_replicate];split<;>rfl)
 generalize cE D n (drV D n a) (min (T2 (szV D n a)) 6).toNat 0 (c,zI 7)=s at h;unfold A04;split
 ·show (s.2.set 6 _).getD j 0=0\/(s.2.set 6 _).getD j 0=_;rw [E67,E76];by_cases e:6=j
  ·subst e;rw [C4 rfl];by_cases hl:6<s.2.length
   ·rw [C4 hl];show K3 D n s.1 ((drV D n a).getD 6 0)=0\/K3 D n s.1 ((drV D n a).getD 6 0)=_;by_cases z:K3 D n s.1 ((drV D n a).getD 6 0)=0
    ·exact .inl z
    ·exact .inr (A6R z).1
   ·rw [C5 hl];exact .inl rfl
  ·rw [C5 e,<-E67];exact h
 ·exact h
def C99{many:Int}(hi:i<128):∀ {e k:Nat} {s:Cl × List UInt8},s.2.length=256->k+e<=128->ptP (K7 D n many e k s).2 i=0\/ptP (K7 D n many e k s).2 i=ptP s.2 i
 | 0,_,_,_,_=>.inr rfl
 | e+1,k,s,hs,hk=>by
  have h:=C99 hi (many:=many) (e:=e) (k:=k+1) (s:=R2 D n many s k) (by rw [A03];exact hs;omega) (by omega);have h:ptP (K7 D n many (e+1) k s).2 i=0\/ptP (K7 D n many (e+1) k s).2 i=ptP (R2 D n many s k).2 i:=h;rw [B4d hs (by omega) hi] at h;rcases h with h | h
  ·exact .inl h
  ·by_cases e1:i=k
   ·rw [C4 e1] at h;split at h
    ·rw [e1] at h ⊢;exact .inr h
    ·exact .inl h
   ·rw [C5 e1] at h;exact .inr h
end
section
variable {D I:Dev} {n a:Int}
structure Pair(D I:Dev)(n:Int):Prop where
 okD:okD D
 may:O6 (l_ D) n=A5
 img:I=fS D n (E6 D n)
 mix:Mixed D I n
 len:l_ I=(l_ D)
 wh:Wh I n (D1 I n)
def Pair.row(P:Pair D I n):(D1 I n).row=(D1 D n).row/\(D1 I n).blocks=(D1 D n).blocks:=by
 obtain ⟨x,hx⟩:=P.mix.claim;obtain ⟨a1,_,a3,_⟩:=cQ (L:=(D1 I n).row) (c:=D1 I n);obtain ⟨b1,_,b3,_⟩:=cQ (L:=(D1 D n).row) (c:=D1 D n);have a1:(E6 I n).row=(D1 I n).row:=a1;have a3:(E6 I n).blocks=(D1 I n).blocks:=a3;have b1:(E6 D n).row=(D1 D n).row:=b1;have b3:(E6 D n).blocks=(D1 D n).blocks:=b3;rw [<-a1,<-a3,<-b1,<-b3,hx];exact ⟨rfl,rfl⟩
def Pair.pend(P:Pair D I n):Pend D n (D1 D n) []:=by
 obtain ⟨_,b512,_⟩:=G8.1 P.may;unfold D1;exact A9I P.okD (by omega) (sQ P.may).pend
def Pair.dat(P:Pair D I n)(hd:F6 (l_ D) n no=A5):blk I no=rF (D1 D n).blocks (D1 D n).made no (blk D no):=by
 obtain ⟨_,_,b3,b4,_⟩:=cQ (L:=(D1 D n).row) (c:=D1 D n);have b3:(E6 D n).blocks=(D1 D n).blocks:=b3;have b4:(E6 D n).made=(D1 D n).made:=b4;have ok:=eY P.okD P.may;obtain ⟨_,_,_,K6,_⟩:=X9 P.okD P.may;rw [P.img,C45 P.okD P.may ok K6 hd,b3,b4]
def Pair.put(P:Pair D I n){q:Int × List UInt8}(hq:q∈cZ (D1 D n)):blk I q.1=q.2:=by
 have hd:F6 (l_ D) n q.1=A5:=(P.pend.dat q.1 (E7I _ (List.of_mem_zip hq).1)).1;rw [P.dat hd];exact P.pend.pick hq
def Pair.ino(P:Pair D I n)(ha:a∈(D1 D n).row):∃ c0,c0.blocks.length=c0.made.length/\a.toNat<c0.ino.length/\Ext D n c0 (D1 D n) a/\(kdV I n a=((S4 D n c0 a).ino.getD a.toNat []).getD 0 0/\szV I n a=((S4 D n c0 a).ino.getD a.toNat []).getD 2 0/\drV I n a=((S4 D n c0 a).ino.getD a.toNat []).drop 4):=by
 have B:=sQ P.may;have hm:=P.may;have w:RowW n (D1 D n):=by unfold D1;exact A2y B.w
 obtain ⟨j,hj⟩:=E7O.1 ha;have hj':=hj;unfold D1 at hj';obtain ⟨c0,h1,h2,h3⟩:=D4B (D:=D) (C7u hm) rfl B.w B.bm B.il j a (by omega) hj';have h3:Ext D n c0 (D1 D n) a:=h3;refine ⟨c0,h1,h2,h3,?_⟩;have ok:=eY P.okD hm;obtain ⟨_,_,_,K6,_⟩:=X9 P.okD hm;have hr:=w.rg a ha;have hi:P9 (l_ D) n a=A5:=N1.2 ⟨hm,hr.1,hr.2⟩;have h:=C46 P.okD hm ok K6 hi;rw [<-P.img] at h;have hy:D1S ((E6 D n).ino.getD a.toNat []):=by
  rw [E67,E64 (by omega)];exact ok.ino _ (E7y _)
 obtain ⟨v1,v2,v3⟩:=C8s (by rw [P.len];exact hi) hy h;obtain ⟨k1,k2,k3⟩:=A2j (j:=a.toNat) (L:=(D1 D n).row) (c:=D1 D n);have k1:((E6 D n).ino.getD a.toNat []).getD 0 0=_:=k1;have k2:((E6 D n).ino.getD a.toNat []).getD 2 0=_:=k2;have k3:((E6 D n).ino.getD a.toNat []).drop 4=_:=k3;rw [<-h3.ino];exact ⟨v1.trans k1,v2.trans k2,v3.trans k3⟩
def Pair.fl(P:Pair D I n)(ha:a∈(D1 D n).row):zW I n a↔zW D n a:=by
 by_cases h1:a=1
 ·subst h1;exact ⟨λh=>absurd rfl h.1,λh=>absurd rfl h.1⟩
 ·rcases P.mix.half.kd a h1 with h | ⟨h,_⟩
  ·unfold zW;rw [h]
  ·exact absurd ha h
def Pair.nums(P:Pair D I n)(ha:a∈(D1 D n).row)(hf:zW D n a):kdV I n a=1/\szV I n a=szV D n a/\∀ j,j<134->fM I n (drV I n a) j≠0->fM D n (drV D n a) j=fM I n (drV I n a) j/\blk I (fM I n (drV I n a) j)=blk D (fM I n (drV I n a) j):=by
 obtain ⟨c0,hbm,hal,X,y1,y2,y3⟩:=P.ino ha;have e:S4 D n c0 a=U0 D n c0 a:=by unfold S4;rw [C4 hf]
 rw [e,(A4e hbm).2 hal] at y1 y2 y3;have y3:drV I n a=(H7 D n c0 a).2:=y3;refine ⟨y1,y2,λj hj h0=>?_⟩;have hfI:=(P.fl ha).2 hf;have W:=P.wh;have haI:a∈(D1 I n).row:=by rw [P.row.1];exact ha
 obtain ⟨S,A8g⟩:=(W.I.sta a (by rw [W.tk];exact haI)).fil hfI;have A2n:owV I n a=flV I n a:=(B5p hfI.2 A8g).1;have ndI:=W.I.nd;rw [W.tk] at ndI;have ndA:(flV I n a).Nodup:=by rw [<-A2n];exact C6W ndI haI
 obtain ⟨x,hx⟩:=xEq (fM I n (drV I n a) j);rw [<-hx] at h0 ⊢;have hxr:F6 (l_ I) n x=A5/\x=C2B I n (drV I n a) j:=by
  unfold fM at hx;cases hd:F6 (l_ I) n (C2B I n (drV I n a) j) with
  | false=>rw [hd] at hx;exact absurd hx h0
  | true=>rw [hd] at hx;rw [hx];exact ⟨hd,rfl⟩
 obtain ⟨hxd,hxr⟩:=hxr;have ei:(drV I n a).getD 6 0=S3 I n a:=rfl;have D5M:C2B D n (drV D n a) j=x/\(x∈W6 (λj=>(drV I n a).getD j 0) 0 6\/x∈W6 (wD I n a) 0 128):=by
  unfold C2B at hxr ⊢;by_cases h6:j<6
  ·rw [C4 h6] at hxr ⊢;refine ⟨?_,.inl (A9H.2 ⟨h0,j,by omega,by omega,hxr.symm⟩)⟩;rcases C97 (D:=D) (n:=n) (a:=a) (c:=c0) (j:=j) with h | h
   ·rw [y3,h] at hxr;exact absurd hxr h0
   ·rw [y3,h] at hxr;exact hxr.symm
  ·rw [C5 h6] at hxr ⊢;rw [ei] at hxr;cases hd:F6 (l_ I) n (S3 I n a) with
   | false=>rw [hd] at hxr;exact absurd hxr h0
   | true =>
    rw [hd,R8] at hxr;have hz:=(zC hd).2.2;have hi6:(drV D n a).getD 6 0=S3 I n a:=by
     rcases C97 (D:=D) (n:=n) (a:=a) (c:=c0) (j:=6) with h | h
     ·exfalso;apply hz;rw [<-ei,y3];exact h
     ·rw [<-ei,y3];exact h.symm
    have e6:(H7 D n c0 a).2.getD 6 0=S3 I n a:=by rw [<-y3];rfl
    have hdD:F6 (l_ D) n (S3 I n a)=A5:=by rw [<-P.len];exact hd
    have C2g:∀ q∈cZ (U0 D n c0 a),blk I q.1=q.2:=λq hq=>P.put (X.put q (by rw [e];exact hq))
    have hs:=jZ (D:=D) (n:=n) (ino:=a) (c:=c0);have hfr:=gM (D:=D) (n:=n) (many:=T2 (szV D n a)) (e:=128) (k:=0) (s:=(L5 D n c0 a,blk D (S3 I n a)));have A2o:=C99 (D:=D) (n:=n) (many:=T2 (szV D n a)) (i:=j-6) (by omega) (e:=128) (k:=0) (s:=(L5 D n c0 a,blk D (S3 I n a))) (J8 P.okD) (by omega);have eC:U0 D n c0 a=dO (K7 D n (T2 (szV D n a)) 128 0 (L5 D n c0 a,blk D (S3 I n a))).1 (S3 I n a) (K7 D n (T2 (szV D n a)) 128 0 (L5 D n c0 a,blk D (S3 I n a))).2:=by
     unfold U0;rw [e6,C5 hz]
    dsimp only at hfr A2o;generalize K7 D n (T2 (szV D n a)) 128 0 (L5 D n c0 a,blk D (S3 I n a))=s at hfr A2o eC;have hfb:s.1.blocks.length=s.1.made.length:=by
     rw [hfr.blocks,hfr.made];show (H7 D n c0 a).1.blocks.length=(H7 D n c0 a).1.made.length;rw [hs.1.blocks,hs.1.made];exact hbm
    rw [eC] at C2g;have hb:=C2g (S3 I n a,s.2) (by rw [vR hfb];exact E7C _ (E7K.2 rfl));have hb:blk I (S3 I n a)=s.2:=hb;have hpt:ptP (blk I (S3 I n a)) (j-6)=wD I n a (j-6):=by unfold wD;rw [C5 hz]
    refine ⟨?_,.inr (A9H.2 ⟨h0,j-6,by omega,by omega,by rw [hxr,hpt]⟩)⟩;rw [hi6,hdD,R8];rw [hb] at hxr;rcases A2o with h | h
    ·rw [h] at hxr;exact absurd hxr h0
    ·rw [h] at hxr;exact hxr.symm
 refine ⟨?_,?_⟩
 ·unfold fM;rw [D5M.1,<-P.len,hxd];rfl
 ·have hdD:F6 (l_ D) n x=A5:=by rw [<-P.len];exact hxd
  rw [P.dat hdD,A4g];intro hin;rw [<-P.row.2] at hin;obtain ⟨k,hk⟩:=E7O.1 hin;have hkl:=(E7b.1 hk).1;have hkm:k<(D1 I n).made.length:=by rw [<-W.I.bm];exact hkl
  have hq:(x,(D1 I n).made[k])∈cZ (D1 I n):=by
   unfold cZ;rw [E7O];refine ⟨k,?_⟩;rw [List.getElem?_zip_eq_some];exact ⟨hk,E64 hkm⟩
  obtain ⟨b,hb,hmk⟩:=W.I.mks _ hq;rw [W.tk] at hb;have hmk:x∈mkV I n b:=hmk;have hxa:x∈owV I n a:=by
   rw [A2n];unfold flV;rcases D5M.2 with h | h
   ·exact E7I _ (E7I _ h)
   ·exact E7C _ h
  have hxb:x∈owV I n b:=by
   unfold mkV at hmk;by_cases k2:kdV I n b=2
   ·rw [C4 k2] at hmk;exact hmk
   ·rw [C5 k2] at hmk;rcases W.kind hb with ⟨hfb,_⟩ | ⟨_,h⟩
    ·obtain ⟨_,hdb⟩:=(W.I.sta b (by rw [W.tk];exact hb)).fil hfb;have hob:owV I n b=flV I n b:=(B5p hfb.2 hdb).1;rw [hob];by_cases z:(drV I n b).getD 6 0=0
     ·rw [C4 z] at hmk;cases hmk
     ·rw [C5 z] at hmk;rw [E7K.1 hmk];unfold flV;have z':S3 I n b≠0:=z;exact E7I _ (E7C _ (by rw [zG z'];exact E7e ..))
    ·exact absurd h k2
  have hab:b=a:=by
   by_cases h:b=a
   ·exact h
   ·exact absurd hxa (C6X ndI hb haI h x hxb)
  subst hab;have k2:¬ kdV I n b=2:=by rw [hfI.2];decide
  unfold mkV at hmk;rw [C5 k2] at hmk;by_cases z:(drV I n b).getD 6 0=0
  ·rw [C4 z] at hmk;cases hmk
  ·rw [C5 z,ei] at hmk;have hxi:=E7K.1 hmk;have z':S3 I n b≠0:=z;unfold flV at ndA;rw [zG z'] at ndA;rw [List.nodup_append,List.nodup_append] at ndA;rcases D5M.2 with h | h
   ·exact ndA.1.2.2 x h (S3 I n b) (E7e ..) hxi
   ·exact ndA.2.2 (S3 I n b) (E7C _ (E7e ..)) x h hxi.symm
def Pair.bytes(P:Pair D I n)(ha:a∈(D1 D n).row)(hf:zW D n a)(hp:p<34304)(h0:B6D I n (drV I n a) p≠0):B6D D n (drV D n a) p=B6D I n (drV I n a) p:=by
 obtain ⟨_,_,h⟩:=P.nums ha hf;unfold B6D at h0 ⊢;by_cases z:fM I n (drV I n a) (p/256)=0
 ·rw [C4 z] at h0;exact absurd rfl h0
 ·obtain ⟨h1,h2⟩:=h (p/256) (by omega) z;rw [C5 z,h1,C5 z,h2]
def Pair.names(P:Pair D I n)(ha:a∈(D1 D n).row){e:Ent}(he:e∈A09 I n a):∃ p,A2v D n (kdV D n a) (drV D n a) e.1=A4 p/\p.2.2=e.2:=by
 have W:=P.wh;have haI:a∈(D1 I n).row:=by rw [P.row.1];exact ha
 rw [W.nms haI] at he;have k2:kdV I n a=2:=C7r he;have hfI:¬ zW I n a:=λh=>by have:=h.2;omega
 have hf:¬ zW D n a:=λh=>hfI ((P.fl ha).2 h)
 obtain ⟨_,hdr,A5r⟩:=(W.I.sta a (by rw [W.tk];exact haI)).dir hfI;have hz:noV I n a≠0:=λz=>by
  have:=(D3b k2 z).2.2;unfold nmV at he;rw [this] at he;cases he
 obtain ⟨S,A8g⟩:=A5r hz;obtain ⟨_,_,_,_,o2⟩:=B9C k2 S.good A8g;have el:nmV I n a=S7 I (dpV I n a::toV I n a) (bkV I n a):=o2;rw [el] at he;obtain ⟨m1,y,m2,m3,m4⟩:=D0q (λno=>oN) he;obtain ⟨c0,hbm,hal,X,y1,y2,y3⟩:=P.ino ha;have eo:S4 D n c0 a=mD D n c0 a:=by unfold S4;rw [C5 hf]
 rw [eo,(A5h hbm).2 hal] at y3;have y3:drV I n a=(K5 D n c0 a).2::zI 6:=y3;have X5:(K5 D n c0 a).2=noV I n a:=by unfold noV;rw [y3];rfl
 obtain ⟨kd,hg,hP,nF,_⟩:=A4c (by rw [X5];exact hz);have hp:∀ q∈cZ (mD D n c0 a),blk I q.1=q.2:=λq hq=>P.put (X.put q (by rw [eo];exact hq))
 have hs:=qM (D:=D) (n:=n) (ino:=a) (c:=c0);have hib:(T3 D n c0 a).blocks.length=(T3 D n c0 a).made.length:=by
  show (K5 D n c0 a).1.blocks.length=(K5 D n c0 a).1.made.length;rw [hs.blocks,hs.made];exact hbm
 rw [X5] at hP;rw [<-hP] at hg nF;rw [vJ (by rw [X5];exact hz),X5] at hp;obtain ⟨d,hd⟩:=xEq (getD (blk D (noV I n a)));obtain ⟨t,ht⟩:=xEq (O8 (blk D (noV I n a)) 32);rw [<-hd,<-ht] at hp;rw [(A38 (D:=D) (n:=n) (c:=T3 D n c0 a) (a:=a) (no:=noV I n a) (d:=d) (t:=t) hib).1] at hp;obtain ⟨f0,f5,_⟩:=A9p d t;obtain ⟨fT,_,_⟩:=A6K (D:=D) (n:=n) (c:=T3 D n c0 a) (d:=d) (t:=t);obtain ⟨g1,g2⟩:=C65 f0 f5 fT;have hi:=hp (_,_) (E7C _ (E7e ..));rw [g1] at hi;have hi:blk I (noV I n a)=nJ (O3 d t) (G6 D n (T3 D n c0 a) d t).2:=hi;have hdI:dpV I n a=O3 d t:=(congrArg getD hi).trans (B9M f0 f5);have htI:toV I n a=(G6 D n (T3 D n c0 a) d t).2:=(congrArg (λb=>O8 b 32) hi).trans (B9N fT.len (B9H fT));obtain ⟨b,hb⟩:=xEq (R3 (dpV I n a::toV I n a) e.1);rw [<-hb] at m1 m3;have hbz:=oN m1;obtain ⟨K,hK⟩:=xEq ((bodyT D n (T3 D n c0 a) a d t).2);rw [<-hK] at hp;have hbb:blk I b=clB (blk D b) (V5 D (dpV I n a::toV I n a) b K):=by
  rw [hdI,htI];refine hp (b,_) (E7C _ (E7d _ (E7B.2 ⟨b,?_,rfl⟩)));rw [<-hdI,<-htI];exact m1
 rw [hbb,D1N,E7N] at m3;obtain ⟨⟨q1,q2⟩,_⟩:=vN.1 m3.2;have e1:y.2.1=e.1:=by rw [m4]
 rw [e1] at q1 q2;rw [uR q1 hbz] at q2;have sF:okX d t=A5:=by
  have:=hg;unfold Q4 at this;rw [E66,<-hd,<-ht] at this;exact this.1
 have E6b:0<=d/\d<=5:=by
  unfold okX at sF;rw [E66,E66] at sF;exact ⟨of_decide_eq_true sF.1,of_decide_eq_true sF.2.1⟩
 have hfd:O3 d t=d:=by unfold O3;rw [C4 E6b]
 have E5g:R3 (d::t) e.1=b:=by
  rw [hdI,htI,hfd] at hb;have hb:b=toX (G6 D n (T3 D n c0 a) d t).2 (B53 e.1%C6 d):=hb;show toX t (B53 e.1%C6 d)=b;obtain ⟨L,hL⟩:=xEq (J5 (bD d t) (C6 (O3 d t)));obtain ⟨_,_,fF⟩:=A9p d t;obtain ⟨_,a2⟩:=A39 (D:=D) (n:=n) (c:=T3 D n c0 a) (L:=L) fF.len (by rw [hL];exact B9u) (λx hx=>by rw [hL] at hx;exact oN hx);have eB:G6 D n (T3 D n c0 a) d t=V8 D n (T3 D n c0 a,bD d t) L:=by rw [hL];rfl
  rw [eB] at hb;have h3:=a2.get (B53 e.1%C6 d);rw [<-hb] at h3;split at h3
  ·obtain ⟨e',u,u1,_,_,_,_,u6⟩:=D0a d t;rw [A5n] at u1;obtain ⟨_,rfl⟩:=List.cons.inj u1;rcases u6 (B53 e.1%C6 d) with h | h
   ·rw [h] at h3;exact absurd h3 hbz
   ·rw [h3,h]
  ·exact absurd h3 hbz
 have E5j:X0 D n (kdV D n a) (drV D n a)=A5:=by
  unfold X0;rw [kd,<-hP,hg,(B9z.1 nF).1];rfl
 have hX:sA D n (kdV D n a) (drV D n a)=d::t:=by
  unfold sA;rw [E5j,R8,<-hP,hd,ht]
 have hbd:F6 (l_ D) n b=A5:=by rw [<-P.len];exact A8g b (E7d _ m1)
 refine ⟨(b,y.1,y.2.2),?_,by rw [m4]⟩;unfold A2v;rw [hX,E5g,C4 ⟨E5j,hbd⟩,q2];rfl
end
section
variable (n m m2:Nat) (a0 a1 a2:Val) (h:A9)
def A9T:FD A8:=⟨px 0X119f2003a238004881c6b760550525f00138038614022b201042,[.c .np],[.min (.t 3) (.v (.c (cI 512))),.max (.v (.c (cI 16))) (.t 4),.build ([.ns,o0,.b A6,.b A6,o0,o0]) [(0,1,(.t 7))]],[.tmp 2],[]⟩
def C5l:=A9T.R
def C8E:=mR C5l A9T (tT []) n [a0] h
def C5g:=A9T.K Tryz.func111
def B7k:=A9T.Q
def C8K:OfT C5l B7k:=C5g.of
def pQ:FD A8:=⟨px 0X119f200290400503d75060201120140062240386121942031201042,[],[.eqN A6 A6 (.t 3)],[.tmp 2],[]⟩
def A0M:=pQ.R
def B5K:=mR A0M pQ (tT []) n [a0] h
def A0K:=pQ.K Tryz.func144
def qF:=pQ.S
def B2m:G3 A0M qF:=A0K.flat
def tL:FD A8:=⟨px 0X114010201194012a0522438f1d001b281901c4481a0484b0481e00481f0486c7487484870110123a1e01c3b05216940118000072241cf1800430503d71905296101d2154012000072247f5003876031b611c2050023140130182,[],[.eqN A6 A6 (.t 6)],[.tmp 4],[]⟩
def A2I:=tL.R
def B7b:=mR A2I tL (tT []) n [a0,a1] h
def B1z:=tL.K Tryz.func166
def bN:=tL.S
def A4S:SOk A8 166 bN:=B1z.sok
def B3r:G3 A2I bN:=B1z.flat
def gU:FD A8:=⟨px 0X422a4051a3d50020440503d6418182410224259273182,[],[],[],[]⟩
def A24:=gU.R
def B0b:=mR A24 gU (tT []) n [a0,a1] h
def B5G:=gU.K Tryz.func167
def S6:=gU.Q
def A8L:D9l A8 167 S6:=D7f (D6W _) Tryz.func167 (by kernel_rfl)
def B0B:OfT A24 S6:=B5G.of
def B8m:DFn:=⟨[([1,3,5,6],(.ops [aB 3 0,aB 5 2,aO 6 (.alloc ([o0]))])),([1,3,5,6],(sO [1,3,5,6] [aL 7 3,aM 8 1,aO 9 (.call 166 [(.t 7),(.t 8)]),aN (.store1 (.t 6) (.t 9))] (sO [1,3,5,6,11] [aL 10 6,aO 11 (.bin .neq (.t 10) (.v (iV 0)))] (.cond (.t 11) (sO [6] [aL 12 6,aN (.store1 (.t 6) (.t 12))] .ret) .skip))))],[1,3,5,6],13,167,[(.t 6),(.t 3)],(.seq [1,3,5,6] (sO [1,3,5,6,24] [aL 14 3,aO 15 (.nilc (.t 14)),aF 16 15 2,aL 17 16,aM 18 17,aG 19 18 A5 (.load1 (.t 3)),aG 20 18 A5 (.nilc (.t 19)),aG 21 18 A5 (.fAddr (.t 20) 1),aG 22 18 A5 (.load1 (.t 21)),aG 23 18 A5 (.bin .eql (.t 22) (.v (iV 0))),aO 24 (.pick (.t 18) (.t 23) (.v (bV A6)))] (.cond (.t 24) (sO [6] [aL 25 3,aO 26 (.nilc (.t 25)),aF 27 26 3,aN (.store1 (.t 27) (.v (bV A5)))] (sO [6] [aN (.store1 (.t 6) (.v (iV 12)))] .ret)) .skip)) (.seq [1,3,5,6] (sO [1,3,5,6,31] [aL 28 3,aO 29 (.nilc (.t 28)),aF 30 29 2,aL 31 30] (.cond (.t 31) (.ops [aL 32 3,aO 33 (.nilc (.t 32)),aF 34 33 1,aL 35 34,aO 36 (.bin .sub (.t 35) (.v (iV 1))),aO 37 (.nilc (.t 32)),aF 38 37 1,aN (.store1 (.t 38) (.t 36))]) .skip)) (.seq [6] (.draw 0 [aL 39 3,aO 40 (.nilc (.t 39)),aF 41 40 0,aL 42 41,aM 43 1,aL' 44 256 5] [aO 45 (.iAddrL 256 (.t 42) (.t 43)),aN (.storeN 256 (.t 45) (.t 44))]) (sO [6] [aN (.store1 (.t 6) (.v (iV 0)))] .ret)))),[.cell1 6]⟩
def B8n:L7:=E0c 166 bN D3e
def xS:Fun:=B8m.run B8n S6 0
def B3q:SOk A8 145 xS:=D92 (D6s A4S D6r) A8L Tryz.func145 (by kernel_rfl)
def B3p:xS [a0,a1,a2] h=bnd (cells? a0) λc1=>bnd (cells? a2) λc2=>bnd (B8 (((h++[rT (c1)])++[rT (c2)])++[rT ([o0])]) (pV (l_ h) 0)) λv3=>bnd (bN [v3,a1] (((h++[rT (c1)])++[rT (c2)])++[rT ([o0])])) λp4=>bnd (I7 p4.2 (pV ((h++[rT (c1)])++[rT (c2)]).length 0) p4.1) λh5=>bnd (B8 h5 (pV ((h++[rT (c1)])++[rT (c2)]).length 0)) λv6=>bnd (O0 .neq v6 (iV 0)) λv7=>cnd v7 (bnd (B8 h5 (pV ((h++[rT (c1)])++[rT (c2)]).length 0)) λv8=>bnd (I7 h5 (pV ((h++[rT (c1)])++[rT (c2)]).length 0) v8) λh9=>mp (B8 h9 (pV ((h++[rT (c1)])++[rT (c2)]).length 0)) λv=>(v,h9)) (bnd (A3N 167 [(pV ((h++[rT (c1)])++[rT (c2)]).length 0),(pV (l_ h) 0)]) λv10=>bnd (B8 h5 (pV (l_ h) 0)) λv11=>bnd (A6H v11) λv12=>bnd (U8 v12 2) λv13=>bnd (B8 h5 v13) λv14=>bnd (gd v14 A5 (bnd (B8 h5 (pV (l_ h) 0)) λv15=>A4 (v15,h5)) (A4 (.no,h5))) λp16=>bnd (gd v14 A5 (bnd (A6H p16.1) λv17=>A4 (v17,p16.2)) (A4 (.no,p16.2))) λp18=>bnd (gd v14 A5 (bnd (U8 p18.1 1) λv19=>A4 (v19,p18.2)) (A4 (.no,p18.2))) λp20=>bnd (gd v14 A5 (bnd (B8 p20.2 p20.1) λv21=>A4 (v21,p20.2)) (A4 (.no,p20.2))) λp22=>bnd (gd v14 A5 (bnd (O0 .eql p22.1 (iV 0)) λv23=>A4 (v23,p22.2)) (A4 (.no,p22.2))) λp24=>bnd (C9L v14 p24.1 (bV A6)) λv25=>cnd v25 (bnd (B8 p24.2 (pV (l_ h) 0)) λv26=>bnd (A6H v26) λv27=>bnd (U8 v27 3) λv28=>bnd (I7 p24.2 v28 (bV A5)) λh29=>bnd (I7 h29 (pV ((h++[rT (c1)])++[rT (c2)]).length 0) (iV 12)) λh30=>bnd (B9v S6 v10 h30) λp31=>mp (B8 p31.2 (pV ((h++[rT (c1)])++[rT (c2)]).length 0)) λv=>(v,p31.2)) (bnd (B8 p24.2 (pV (l_ h) 0)) λv32=>bnd (A6H v32) λv33=>bnd (U8 v33 2) λv34=>bnd (B8 p24.2 v34) λv35=>cnd v35 (bnd (B8 p24.2 (pV (l_ h) 0)) λv36=>bnd (A6H v36) λv37=>bnd (U8 v37 1) λv38=>bnd (B8 p24.2 v38) λv39=>bnd (O0 .sub v39 (iV 1)) λv40=>bnd (A6H v36) λv41=>bnd (U8 v41 1) λv42=>bnd (I7 p24.2 v42 v40) λh43=>bnd (B8 h43 (pV (l_ h) 0)) λv44=>bnd (A6H v44) λv45=>bnd (U8 v45 0) λv46=>bnd (B8 h43 v46) λv47=>bnd (D3 h43 256 (pV (h++[rT (c1)]).length 0)) λv48=>bnd (F5 256 v47 a1) λv49=>bnd (G0 (h43++[]) 256 v49 v48) λh50=>bnd (I7 h50 (pV ((h++[rT (c1)])++[rT (c2)]).length 0) (iV 0)) λh51=>bnd (B9v S6 v10 h51) λp52=>mp (B8 p52.2 (pV ((h++[rT (c1)])++[rT (c2)]).length 0)) λv=>(v,p52.2)) (bnd (B8 p24.2 (pV (l_ h) 0)) λv53=>bnd (A6H v53) λv54=>bnd (U8 v54 0) λv55=>bnd (B8 p24.2 v55) λv56=>bnd (D3 p24.2 256 (pV (h++[rT (c1)]).length 0)) λv57=>bnd (F5 256 v56 a1) λv58=>bnd (G0 (p24.2++[]) 256 v58 v57) λh59=>bnd (I7 h59 (pV ((h++[rT (c1)])++[rT (c2)]).length 0) (iV 0)) λh60=>bnd (B9v S6 v10 h60) λp61=>mp (B8 p61.2 (pV ((h++[rT (c1)])++[rT (c2)]).length 0)) λv=>(v,p61.2)))):=by kernel_rfl
def jK:FD A8:=⟨px 0X422a5051a3d50020450503d041818,[],[],[],[]⟩
def A4z:=jK.R
def B2c:=mR A4z jK (tT []) n [a0] h
def B69:=jK.K Tryz.func168
def Z9:=jK.Q
def B0A:D9l A8 168 Z9:=D7f (D6W _) Tryz.func168 (by kernel_rfl)
def B2l:OfT A4z Z9:=B69.of
def C0L:DFn:=⟨[([1,2,4],(.ops [aB 2 0,aO 4 (.alloc (E68 256 (.i .u8 0))),aO 5 (.mv (.v (iV 0)))])),([1,2,4],(sO [1,2,4,5] [aL 6 2,aM 7 1,aO 8 (.call 166 [(.t 6),(.t 7)]),aM 5 8] (sO [1,2,4,5,10] [aM 9 5,aO 10 (.bin .neq (.t 9) (.v (iV 0)))] (.cond (.t 10) (sO [4,5] [aL' 11 256 4,aM 12 5,aN (.storeN 256 (.t 4) (.t 11)),aM 5 12] .ret) .skip))))],[1,2,4],13,168,[(.t 2)],(sO [4,5] [aL 14 2,aO 15 (.nilc (.t 14)),aF 16 15 0,aL 17 16,aM 18 1,aO 19 (.iAddrL 256 (.t 17) (.t 18)),aL' 20 256 19,aN (.storeN 256 (.t 4) (.t 20)),aO 5 (.mv (.v (iV 0)))] .ret),[.cellN 4 256,.tmp 5]⟩
def C0M:L7:=E0c 166 bN D3e
def A0P:Fun:=C0L.run C0M Z9 0
def B5R:SOk A8 146 A0P:=D92 (D6s A4S D6r) B0A Tryz.func146 (by kernel_rfl)
def B5Q:A0P [a0,a1] h=bnd (cells? a0) λc1=>bnd (B8 ((h++[rT (c1)])++[rT (E68 256 (.i .u8 0))]) (pV (l_ h) 0)) λv2=>bnd (bN [v2,a1] ((h++[rT (c1)])++[rT (E68 256 (.i .u8 0))])) λp3=>bnd (O0 .neq p3.1 (iV 0)) λv4=>cnd v4 (bnd (D3 p3.2 256 (pV (h++[rT (c1)]).length 0)) λv5=>bnd (G0 p3.2 256 (pV (h++[rT (c1)]).length 0) v5) λh6=>C2N [D3 h6 256 (pV (h++[rT (c1)]).length 0),A4 p3.1] h6) (bnd (A3N 168 [(pV (l_ h) 0)]) λv7=>bnd (B8 p3.2 (pV (l_ h) 0)) λv8=>bnd (A6H v8) λv9=>bnd (U8 v9 0) λv10=>bnd (B8 p3.2 v10) λv11=>bnd (F5 256 v11 a1) λv12=>bnd (D3 p3.2 256 v12) λv13=>bnd (G0 p3.2 256 (pV (h++[rT (c1)]).length 0) v13) λh14=>bnd (B9v Z9 v7 h14) λp15=>C2N [D3 p15.2 256 (pV (h++[rT (c1)]).length 0),A4 (iV 0)] p15.2):=by kernel_rfl
def mO:FD A8:=⟨px 0X11af2001a488390400503d7100048855d70201488248140062240386121942034882481042,[],[.eqN A6 A6 (.t 3)],[.tmp 2],[]⟩
def xD:=mO.R
def B2R:=mR xD mO (tT []) n [a0] h
def A6b:=mO.K Tryz.func61
def xR:=mO.S
def B2k:A4u xD xR:=A6b.out
end
def dkC(q len:Nat)(w r:Int):List Cell:=[.sl q 0 len 256,o0,.b A6,.b A6,cI w,cI r]
structure IsDk(h:A9)(p q:Nat)(D:Dev)(w r:Int):Prop where
 ne:p≠q
 row:rd h p=rT (dkC q (l_ D) w r)
 blk:rd h q=rT (E7 D)
def But(p q:Nat)(h h':A9):Prop:=l_ h<=l_ h'/\∀ id,id<l_ h->id≠p->id≠q->rd h' id=rd h id
def But.refl(p q:Nat)(h:A9):But p q h h:=⟨E69 _,λ_ _ _ _=>rfl⟩
def But.trans{h'':A9}(a:But p q h h')(b:But p q h' h''):But p q h h'' :=
 ⟨Nat.le_trans a.1 b.1,λid hid h1 h2=>(b.2 id (by have:=a.1;omega) h1 h2).trans (a.2 id hid h1 h2)⟩
def But.more(a:But p q h h')(t:A9):But p q h (h'++t) :=
 ⟨by have:=a.1;simp;omega,λid hid h1 h2=>by rw [D5 (by have:=a.1;omega)];exact a.2 id hid h1 h2⟩
def But.set{id:Nat}{x:Option Row}(a:But p q h h')(hid:l_ h<=id\/id=p\/id=q):But p q h (h'.set id x) :=
 ⟨by simpa using a.1,λj hj h1 h2=>by rw [B7 (by omega)];exact a.2 j hj h1 h2⟩
def IsDk.more{w r:Int}(k:IsDk h p q D w r)(t:A9):IsDk (h++t) p q D w r:=⟨k.ne,B6 k.row,B6 k.blk⟩
def IsDk.setO{id:Nat}{w r:Int}{x:Option Row}(k:IsDk h p q D w r)(h1:id≠p)(h2:id≠q):IsDk (h.set id x) p q D w r :=
 ⟨k.ne,by rw [B7 h1];exact k.row,by rw [B7 h2];exact k.blk⟩
def IsDk.ro{w r:Int}(k:IsDk h p q D w r):rd (ro h) p=A4 ⟨dkC q (l_ D) w r,A6⟩/\rd (ro h) q=A4 ⟨E7 D,A6⟩:=by
 have e1:(Row.mk (dkC q (l_ D) w r) A5).head=A6:=rfl;refine ⟨C0w k.row e1,C0w k.blk ?_⟩;cases hD:E7 D with
 | nil=>rfl
 | cons c l =>
  have:=gP D;rw [hD] at this;cases c<;>first | rfl | (simp [noX,Cell.isX] at this)
def D3d{N:Nat}(h1:16<=N)(h2:N<=512):B7k [iV (N:Int)] h=A4 (pV (l_ h+1) 0,h++[rT (E7 (E68 N (zeros 256))),rT (dkC (l_ h) N 0 0)]):=by
 refine C8K (n:=0) ?_;have m1:B5Y (iV (N:Int)) (iV 512)=A4 (iV (N:Int)):=by simp only [B5Y];simp;omega
 have m2:C4E (iV 16) (iV (N:Int))=A4 (iV (N:Int)):=by simp only [C4E];simp;omega
 have mk:=D5b (N:=N) (by omega);have ef:F9 [.ns,o0,.b A6,.b A6,o0,o0] [(0,1,sV (l_ h) 0 N 256)]=A4 (dkC (l_ h) N 0 0):=rfl;rw [C8E];simp only [esc,m1,m2,mk,ef,D4y]
section
variable {h:A9} {p q:Nat} {D:Dev} {w r:Int}
def B9D(k:IsDk h p q D w r):qF [pV p 0] h=A4 (iV (l_ D:Nat),h):=by
 have l0:B8 (ro h) (pV p 0)=A4 (sV q 0 (l_ D) 256):=C1 k.ro.1 rfl rfl;have key:A0M 0 [pV p 0] (ro h)=A4 (iV (l_ D:Nat),ro h):=by
  rw [B5K];simp only [esc,l0]
 exact B2m key rfl
def C3x{no:Nat}(k:IsDk h p q D w r)(X5:no<l_ D):bN [pV p 0,iV (no:Int)] h=A4 (iV 0,h):=by
 have l0:B8 (ro h) (pV p 0)=A4 (sV q 0 (l_ D) 256):=C1 k.ro.1 rfl rfl;have l3:B8 (ro h) (pV p 3)=A4 (bV A6):=C1 k.ro.1 rfl rfl;have c0:¬ (no:Int)<0:=by omega
 have c1:¬ (no:Int)>=(l_ D:Nat):=by omega
 have key:A2I 0 [pV p 0,iV (no:Int)] (ro h)=A4 (iV 0,ro h):=by
  rw [B7b];simp only [esc,l0,l3,c0,c1]
 exact B3r key rfl
def C4K{a b:Nat}(k:IsDk h p q D w r)(ha:rd h a=rT [o0])(hb:rd h b=rT [.p p 0])(hw:0<=w/\w<1000) :
  S6 [pV a 0,pV b 0] h=A4 (.t [],h.set p (rT (dkC q (l_ D) (w+1) r))):=by
 refine B0B (n:=0) ?_;have l1:B8 h (pV a 0)=A4 (iV 0):=C1 ha rfl rfl;have l2:B8 h (pV b 0)=A4 (pV p 0):=C1 hb rfl rfl;have l3:B8 h (pV p 4)=A4 (iV w):=C1 k.row rfl rfl;have s1:I7 h (pV p 4) (iV (w+1))=A4 (h.set p (rT (dkC q (l_ D) (w+1) r))):=by rw [I8 k.row (by simp [dkC])];rfl
 have ww:E7f .i64 (w+1)=w+1:=wrap_i64 (by omega) (by omega);rw [B0b];simp only [esc,l1,l2,l3,ww,s1];rfl
def A8b{no:Nat}(k:IsDk h p q D w r)(hD:okD D)(hb:l_ b=256)(X5:no<l_ D)(hw:0<=w/\w<1000) :
  ∃ h',xS [pV p 0,iV (no:Int),.a (B4 b)] h=A4 (iV 0,h')/\IsDk h' p q (D.set no b) (w+1) r/\But p q h h':=by
 have kp:=E5 k.row;have kq:=E5 k.blk;obtain ⟨G,hG⟩:=xEq (h++[rT [.p p 0],rT (B4 b),rT [o0]]);have kG:IsDk G p q D w r:=by rw [hG];exact k.more _
 have lG:l_ G=l_ h+3:=by rw [hG];simp
 have r0:rd G (l_ h)=rT [.p p 0]:=by rw [hG,I3];rfl
 have r1:rd G (l_ h+1)=rT (B4 b):=by rw [hG,rM];rfl
 have r2:rd G (l_ h+2)=rT [o0]:=by rw [hG,rM];rfl
 have hm:=C3x kG X5;have l0:B8 G (pV (l_ h) 0)=A4 (pV p 0):=C1 r0 rfl rfl;have lb:D3 G 256 (pV (l_ h+1) 0)=A4 (.a (B4 b)):=C8 r1 (by rw [B5,hb]);have l2:B8 G (pV (l_ h+2) 0)=A4 (iV 0):=C1 r2 rfl rfl;have s2:I7 G (pV (l_ h+2) 0) (iV 0)=A4 G:=by
  rw [I8 r2 (by simp),hG];simp
 have d0:B8 G (pV p 0)=A4 (sV q 0 (l_ D) 256):=C1 kG.row rfl rfl;have d2:B8 G (pV p 2)=A4 (bV A6):=C1 kG.row rfl rfl;have ad:F5 256 (sV q 0 (l_ D) 256) (iV (no:Int))=A4 (pV q (no*256)):=by rw [E4 X5];simp
 have sd:G0 G 256 (pV q (no*256)) (.a (B4 b))=A4 (G.set q (rT (E7 (D.set no b)))):=B5D kG.blk hD hb X5;obtain ⟨H,hH⟩:=xEq (G.set q (rT (E7 (D.set no b))));have kH:IsDk H p q (D.set no b) w r:=by
  rw [hH];refine ⟨k.ne,?_,?_⟩
  ·rw [B7 (Ne.symm k.ne),E7R];exact kG.row
  ·rw [E1 (by omega)]
 have q0:rd H (l_ h)=rT [.p p 0]:=by rw [hH,B7 (by omega)];exact r0
 have q2:rd H (l_ h+2)=rT [o0]:=by rw [hH,B7 (by omega)];exact r2
 have s3:I7 H (pV (l_ h+2) 0) (iV 0)=A4 H:=by
  rw [I8 q2 (by simp)];have:H.set (l_ h+2) (rT ([o0].set 0 o0))=H:=by
   rw [rd_some] at q2;refine E8h λi=>?_
   rw [E76];split
   ·rename_i e;subst e;have hl:=(E7b.1 q2).1;rw [C4 hl,q2];rfl
   ·rfl
  rw [this]
 have hW:=C4K kH q2 q0 hw;have hcd:B9v S6 (.c (.f 167 [(l_ h+2,0),(l_ h,0)])) H=A4 (.t [],H.set p (rT (dkC q (D.set no b).length (w+1) r))):=hW;have l4:B8 (H.set p (rT (dkC q (D.set no b).length (w+1) r))) (pV (l_ h+2) 0)=A4 (iV 0):=C1 (by rw [B7 (by omega)];exact q2) rfl rfl;refine ⟨H.set p (rT (dkC q (D.set no b).length (w+1) r)),?_,⟨k.ne,?_,?_⟩,?_⟩
 ·rw [B3p];have e1:cells? (pV p 0)=A4 [.p p 0]:=rfl;have e2:cells? (.a (B4 b))=A4 (B4 b):=rfl;have mf:A3N 167 [pV (l_ h+2) 0,pV (l_ h) 0]=A4 (.c (.f 167 [(l_ h+2,0),(l_ h,0)])):=rfl;simp only [e1,e2,C7,E7i,E8a,E7A,E7c,E7k,E7Q,E7o,Nat.reduceAdd,<-hG];simp only [esc,l0,hm,s2,l2,mf,d0,d2,lb,ad,sd,<-hH,s3,hcd,l4]
 ·rw [E1 (by rw [hH];simp;omega)]
 ·rw [B7 k.ne];exact kH.blk
 ·refine But.set ?_ (.inr (.inl rfl));rw [hH];refine But.set ?_ (.inr (.inr rfl));rw [hG];exact (But.refl p q h).more _
def D1u{no:Nat}(k:IsDk h p q D w r)(hD:okD D)(X5:no<l_ D)(hr:0<=r/\r<1000) :
  ∃ h',A0P [pV p 0,iV (no:Int)] h=A4 (.t [.a (B4 D[no]),.c o0],h')/\IsDk h' p q D w (r+1)/\But p q h h':=by
 have kp:=E5 k.row;have kq:=E5 k.blk;obtain ⟨G,hG⟩:=xEq (h++[rT [.p p 0],rT (B4 (zeros 256))]);have kG:IsDk G p q D w r:=by rw [hG];exact k.more _
 have lG:l_ G=l_ h+2:=by rw [hG];simp
 have r0:rd G (l_ h)=rT [.p p 0]:=by rw [hG,I3];rfl
 have r1:rd G (l_ h+1)=rT (B4 (zeros 256)):=by rw [hG,rM];rfl
 have hm:=C3x kG X5;have l0:B8 G (pV (l_ h) 0)=A4 (pV p 0):=C1 r0 rfl rfl;have d0:B8 G (pV p 0)=A4 (sV q 0 (l_ D) 256):=C1 kG.row rfl rfl;have ad:F5 256 (sV q 0 (l_ D) 256) (iV (no:Int))=A4 (pV q (no*256)):=by rw [E4 X5];simp
 have ld:D3 G 256 (pV q (no*256))=A4 (.a (B4 D[no])):=by
  rw [U2 kG.blk (by rw [J0 hD];omega) rfl,qL hD X5]
 have sb:G0 G 256 (pV (l_ h+1) 0) (.a (B4 D[no]))=A4 (G.set (l_ h+1) (rT (B4 D[no]))):=storeAll r1 (by rw [B5,zeros_length]) (by rw [B5,hD.at X5]);obtain ⟨H,hH⟩:=xEq (G.set (l_ h+1) (rT (B4 D[no])));have kH:IsDk H p q D w r:=by rw [hH];exact kG.setO (by omega) (by omega)
 have q0:rd H (l_ h)=rT [.p p 0]:=by rw [hH,B7 (by omega)];exact r0
 have q1:rd H (l_ h+1)=rT (B4 D[no]):=by rw [hH,E1 (by omega)]
 have ww:E7f .i64 (r+1)=r+1:=wrap_i64 (by omega) (by omega);have h1:Z9 [pV (l_ h) 0] H=A4 (.t [],H.set p (rT (dkC q (l_ D) w (r+1)))):=by
  refine B2l (n:=0) ?_;have l1:B8 H (pV (l_ h) 0)=A4 (pV p 0):=C1 q0 rfl rfl;have l3:B8 H (pV p 5)=A4 (iV r):=C1 kH.row rfl rfl;have s1:I7 H (pV p 5) (iV (r+1))=A4 (H.set p (rT (dkC q (l_ D) w (r+1)))):=by rw [I8 kH.row (by simp [dkC])];rfl
  rw [B2c];simp only [esc,l1,l3,ww,s1];rfl
 have hcd:B9v Z9 (.c (.f 168 [(l_ h,0)])) H=A4 (.t [],H.set p (rT (dkC q (l_ D) w (r+1)))):=h1;have l4:D3 (H.set p (rT (dkC q (l_ D) w (r+1)))) 256 (pV (l_ h+1) 0)=A4 (.a (B4 D[no])):=C8 (by rw [B7 (by omega)];exact q1) (by rw [B5,hD.at X5]);refine ⟨H.set p (rT (dkC q (l_ D) w (r+1))),?_,⟨k.ne,?_,?_⟩,?_⟩
 ·rw [B5Q];have e1:cells? (pV p 0)=A4 [.p p 0]:=rfl;have mf:A3N 168 [pV (l_ h) 0]=A4 (.c (.f 168 [(l_ h,0)])):=rfl;have ez:E68 256 (Cell.i .u8 0)=B4 (zeros 256):=J4 256;simp only [e1,ez,C7,E7i,E8a,E7A,E7c,E7k,E7Q,E7o,<-hG];simp only [esc,l0,hm,mf,d0,ad,ld,sb,<-hH,hcd,l4]
 ·rw [E1 (by rw [hH];simp;omega)]
 ·rw [B7 k.ne];exact kH.blk
 ·refine But.set ?_ (.inr (.inl rfl));rw [hH];refine But.set ?_ (.inl (by omega));rw [hG];exact (But.refl p q h).more _
def C8Y(k:IsDk h p q D w r)(hD:okD D)(hl:l_ D<=512):xR [pV p 0] h=A4 (sV (l_ h) 0 (l_ D) 256,h++[rT (E7 D)]):=by
 obtain ⟨G,hG⟩:=xEq (ro h++[rT [],rT []]);have d0:B8 G (pV p 0)=A4 (sV q 0 (l_ D) 256):=by rw [hG];exact C1 (B6 k.ro.1) rfl rfl
 have hQ:Has G (sV q 0 (l_ D) 256) 256 (l_ D) (E7 D):=by
  rw [hG];exact Has.row (B6 k.ro.2) (J0 hD) (gP D)
 have rI:rd G ((ro h).length+1)=rT []:=by rw [hG,rM];rfl
 have ho:Out (ro h).length G (sV ((ro h).length+1) 0 0 256) 256 0 []:=⟨rfl,(ro h).length+1,rfl,by omega,rI⟩;obtain ⟨id,v',h',e1,e2,e3,_⟩:=ho.app (m:=l_ D) (by omega) hQ.add (by rw [J0 hD]) (by omega);have key:xD 0 [pV p 0] (ro h)=A4 (v',h'):=by
  rw [B2R];have ef:F9 [] []=A4 []:=rfl;simp only [E7i,E8a,E7A,E7c,E7k,E7Q,E7o,ef,C7,<-hG];simp only [esc,d0,e2]
 rw [E7o,E7A] at e3;exact B2k key (by rw [H8] at e3;exact e3) kA
end
section
variable (n m m2:Nat) (a0:Val) (h:A9)
def A5Z:FD A8:=⟨px 0X118f2003a238138750502012b20140062240386121942032b201042,[.c .np],[.eqN A6 A6 (.t 3),.mkMap,.build ([.np,.nm,.ns,o0]) [(0,1,(.t 5)),(1,1,(.t 6))]],[.tmp 2],[]⟩
def C20:=A5Z.R
def C5k:=mR C20 A5Z (tT []) n [a0] h
def C2R:=A5Z.K Tryz.func147
def B3m:=A5Z.Q
def C5L:SOk A8 147 B3m:=C2R.ok
def C5K:OfT C20 B3m:=C2R.of
end
section
variable (n m m2:Nat) (a0 a1 x0 x3 x5 x7 x8:Val) (h:A9)
def aQ:FD A8:=⟨px 0X17ff400143535f4881877d0402017cf401cc121900001722410321c87a021ef4279f1a00181a3532017301633f31802376c050192d434101934af7050026c490318016bf401ac12190000003722410321a869021cd4268f19004635319e488187f17152b446200198488611a280185b2c5af4f0014343513511191033b3b188488581c7182406225002023784b0419d42011a1c181b168421541307024061201336e3185c3d041894203006053cf705002023b5c31f421b2101d301194015c000017224063210405a5011372e040196d431b2101d30154014a00001722401b6191034c1a3a4c701038728065b423131ff11ef248861c51b11828061e2c1df1b001032a31c1c181d1b18211432e270182,[],[.eqN A6 A6 (.t 16)],[.tmp 4],[D9 A6A B2L,D9 qF A0K,D9 uB A4i,D9 vC A6d,D9 xZ A93,cal B3q,D9 A4V A9Z,D9 pY A3C]⟩
def B25:=aQ.R
def C4U:AtH:=aQ.lj 0 n [m] [x0,x3,x5,x7]
def C4T:AtH:=aQ.lj 1 n [m] [x0,x3,x5,x7,x8]
def A40:=tT [⟨2,4,C4U⟩,⟨2,5,C4T⟩]
def B8N:=mR B25 aQ A40 n [a0,a1] h
def A5H:=mL aQ A40 0 n [m] [x0,x3,x5,x7] h
def B8h:=mJ aQ A40 1 n [m] [x0,x3,x5,x7,x8] h
def B2J:=aQ.K Tryz.func112
def A4X:=aQ.Q
def B9f:OfT B25 A4X:=B2J.of
def A1z:FD A8:=⟨px 0X1114cf2003a2384101986e318013373f0411903016d12b2027500001b22401b1c19063681a2012682f76870681e04e681f0110324a2e070197d431132df502cf2362a61b11828062c2c2bf29001133c4882a1c181d1b6001e20128f12b202e1375000011b22410322a1e023f01822131df11cf248861c41b11828061c2c1bf1901020371a0181b196001e201512b20275001a2240387702294203112b202042,[.c .np],[.eqN A6 A6 (.t 7),.mkMap,.build ([.np,o0,o0,.i .u64 0,o0,.nm]) [(0,1,(.t 32)),(1,3,(.t 33)),(5,1,(.t 34))]],[.tmp 2,.tmp 3],[cal B5R,D9 A6z B2K,D9 qF A0K,cal C5L]⟩
def B6q:=A1z.R
def C1g:=mR B6q A1z (tT []) n [a0] h
def B6j:=A1z.K Tryz.func113
def A7Y:=A1z.Q
def C1G:OfT B6q A7Y:=B6j.of
end
section
variable (n m m2:Nat) (a0:Val) (h:A9)
def A3q:FD A8:=⟨px 0X12df12cf20481482c0465001a22bf12af5011828062a2c29f1f001233828071b19001a2012b11ef202c1375001a2241032042132c3181c1a043b4201319f4001030401c72b419422b12b103a3342,[.c .np],[],[.tmp 2,.tmp 3],[gG B7k C5g,gG A4X B2J,gG A7Y B6j]⟩
def B8F:=A3q.R
def C39:=mR B8F A3q (tT []) n [a0] h
def A9X:=A3q.K Tryz.func60
def A3F:=A3q.Q
def C4t:SOk A8 60 A3F:=A9X.ok
def C4s:OfT B8F A3F:=A9X.of
end
section
variable (n m m2:Nat) (h:A9)
def A9U:FD A8:=⟨px 0X1203649111891022a3b2022a01b1042,[],[],[.cellN 0 3],[]⟩
def B7c:=A9U.R
def C8F:=mR B7c A9U (tT []) n [] h
def C5h:=A9U.K Tryz.func23
def B7m:=A9U.S
def C4u:G3 B7c B7m:=C5h.flat
end
section
variable (n m m2:Nat) (a0:Val) (h:A9)
def pS:FD A8:=⟨px 0X11bf2001131e1a03405219f118f301182806182c7f5001031a361c770524884a03a2342,[],[],[.tmp 2],[gG A3F A9X,D9 xR A6b]⟩
def A0N:=pS.R
def B5L:=mR A0N pS (tT []) n [a0] h
def A8v:=pS.K Tryz.func22
def A0Q:=pS.S
def B3t:A4u A0N A0Q:=A8v.out
end
def map40:List UInt8:=dZ [0,1,2]
def tab40:List UInt8:=H5 (zeros 256) (32*0) (cY 2 1 0 1 (zI 7))
def D40a:Dev:=(E68 16 (zeros 256)).set 2 tab40
def D40b:Dev:=D40a.set 1 map40
def D40:Dev:=D40b.set 0 (wE 16 8 0)
def C0a:map40.length=256:=by unfold map40 dZ;rw [fP,zeros_length]
def A3Z:tab40.length=256:=by decide +kernel
def okD40a:okD D40a:=(C2w 16).set A3Z
def okD40b:okD D40b:=okD40a.set C0a
def okD40:okD D40:=okD40b.set cR
def E2I:D40a.length=16:=by unfold D40a;rw [E7R,List.length_replicate]
def E2J:D40b.length=16:=by unfold D40b;rw [E7R,E2I]
def kB:l_ D40=16:=by unfold D40;rw [E7R,E2J]
def D0D{t:A9}(hn:t.all B4H=A5):quiet h (A4 (v,h++t))=A4 (v,h++t):=by
 have:=D0E (g:=h) (l:=[]) (l':=t) (v:=v) (List.nil_prefix) (by simpa using hn);simpa using this
def E0P(h:A9):B7m [] h=A4 (.a (M4 16 8 0),h):=by
 have key:∀ g,∃ g',B7c 0 [] g=A4 (.a (M4 16 8 0),g'):=λg=>by
  have ef:F9 [o0,o0,.i .u64 0] [(0,1,iV 16),(1,1,iV 8)]=A4 (M4 16 8 0):=rfl;have st:G0 (g++[rT [o0,o0,.i .u64 0]]) 3 (pV (l_ g) 0) (.a (M4 16 8 0))=A4 (g++[rT (M4 16 8 0)]):=by rw [H6];rfl
  have ll:ldN (rT (M4 16 8 0)) 0 3=A4 (.a (M4 16 8 0)):=rfl;rw [C8F];generalize M4 16 8 0=L at *;exact ⟨_,by simp only [esc,ef,st,G9,ll]<;>rfl⟩
 obtain ⟨g',e⟩:=key (ro h);exact C4u e rfl
def C4S(k:IsDk h p q (E68 16 (zeros 256)) 0 0) :
  ∃ h',A4X [pV p 0,.a (M4 16 8 0)] h=A4 (iV 0,h')/\IsDk h' p q D40 3 0/\But p q h h':=by
 have kp:=E5 k.row;have kq:=E5 k.blk;have hm:O6 16 8=A5:=by decide
 have hp:=λh=>C0D (b:=16) (n:=8) (m:=0) (h:=h) (by omega) (by omega)
 simp only [hm,R8] at hp;have A8g:∀ h,vC [.a (M4 16 8 0)] h=A4 (iV 3,h):=λh=>A3S
 have A2n:=λh=>B4e (b:=16) (n:=8) (m:=0) (h:=h)
 have ed:(aX 16 8).toNat=3:=by decide
 rw [ed] at A2n;have hT:∀ h,xZ [.a (B4 (zeros 256)),iV 0,.a (C9 2 1 0 1 (zI 7))] h=A4 (.t [.a (B4 tab40),.c o0],h):=λh=>B62 (j:=0) (k:=2) (l:=1) (s:=0) (p:=1) (d:=zI 7) (b:=zeros 256) (h:=h) zeros_length rfl (by omega) (by decide)
 obtain ⟨G,hG⟩:=xEq (h++[rT (M4 16 8 0),rT (B4 (wE 16 8 0))]);have lG:l_ G=l_ h+2:=by rw [hG];simp
 have kG:IsDk G p q (E68 16 (zeros 256)) 0 0:=by rw [hG];exact k.more _
 have r0:rd G (l_ h)=rT (M4 16 8 0):=by rw [hG,I3];rfl
 have r1:rd G (l_ h+1)=rT (B4 (wE 16 8 0)):=by rw [hG,rM];rfl
 obtain ⟨h1,w1,k1,b1⟩:=A8b (no:=2) (b:=tab40) (kG.more [rT (B4 tab40)]) (C2w 16) A3Z (by simp) (by omega);have x1:rd h1 (l_ h)=rT (M4 16 8 0):=by rw [b1.2 _ (by simp;omega) (by omega) (by omega)];exact B6 r0
 have y1:rd h1 (l_ h+1)=rT (B4 (wE 16 8 0)):=by rw [b1.2 _ (by simp;omega) (by omega) (by omega)];exact B6 r1
 have lh1:=b1.1;rw [E7c] at lh1;have kO:=k1.more [rT (encI (upto 3))];obtain ⟨h2,w2,k2,b2⟩:=A8b (no:=1) (b:=map40) kO okD40a C0a (by simp) (by omega);have y2:rd h2 (l_ h+1)=rT (B4 (wE 16 8 0)):=by rw [b2.2 _ (by simp;omega) (by omega) (by omega)];exact B6 y1
 have lh2:=b2.1;rw [E7c] at lh2;obtain ⟨h3,w3,k3,b3⟩:=A8b (no:=0) (b:=wE 16 8 0) k2 okD40b cR (by simp) (by omega);have hC:=A79 (v:=sV h1.length 0 3 1) (nv:=3) (l:=[0,1,2]) (h:=h1++[rT (encI (upto 3))]) (by decide) (by decide) (Has.tr (cs:=encI (upto 3)) (by simp) rfl rfl);have eC:dZ [0,1,2]=map40:=rfl;rw [eC] at hC;refine ⟨h3,?_,k3,?_⟩
 ·refine B9f (n:=9) ?_;have hSz:=B9D kG;have lR:((E68 16 (zeros 256)).length:Int)=16:=rfl;rw [lR] at hSz;have eS:G0 (h++[rT (M4 16 8 0),rT (B4 (zeros 256))]) 256 (pV (l_ h+1) 0) (.a (B4 (wE 16 8 0)))=A4 G:=by
   rw [storeAll (cs:=B4 (zeros 256)) (by rw [rM];rfl) (by rw [B5,zeros_length]) (by rw [B5,cR]),hG,B8e];rfl
  have l3:D3 (h++[rT (M4 16 8 0)]) 3 (pV (l_ h) 0)=A4 (.a (M4 16 8 0)):=by rw [G9];rfl
  have g0:B8 G (pV (l_ h) 0)=A4 (iV 16):=C1 r0 rfl rfl;have g3:D3 G 3 (pV (l_ h) 0)=A4 (.a (M4 16 8 0)):=C8 r0 rfl;have ef:F9 [o0,o0,o0,o0,o0,o0,o0,o0,o0,o0,o0] [(0,1,iV 2),(1,1,iV 1),(3,1,iV 1)]=A4 (C9 2 1 0 1 (zI 7)):=rfl;have lz:D3 (G++[rT (B4 (zeros 256))]) 256 (pV (l_ G) 0)=A4 (.a (B4 (zeros 256))):=C8 (by rw [I3];rfl) (by rw [B5,zeros_length]);have sz:G0 (G++[rT (B4 (zeros 256))]) 256 (pV (l_ G) 0) (.a (B4 tab40))=A4 (G++[rT (B4 tab40)]):=by
   rw [storeAll (cs:=B4 (zeros 256)) (by rw [I3];rfl) (by rw [B5,zeros_length]) (by rw [B5,A3Z]),tW];rfl
  have lt:D3 (G++[rT (B4 tab40)]) 256 (pV (l_ G) 0)=A4 (.a (B4 tab40)):=C8 (by rw [I3];rfl) (by rw [B5,A3Z]);have h13:D3 h1 3 (pV (l_ h) 0)=A4 (.a (M4 16 8 0)):=C8 x1 rfl;have h26:D3 h2 256 (pV (l_ h+1) 0)=A4 (.a (B4 (wE 16 8 0))):=C8 y2 (by rw [B5,cR]);have cl:cells? (.a (M4 16 8 0))=A4 (M4 16 8 0):=rfl;have c2:((2:Nat):Int)=2:=rfl;have c1:((1:Nat):Int)=1:=rfl;have c0:((0:Nat):Int)=0:=rfl;rw [c2] at w1;rw [c1] at w2;rw [c0] at w3;have wr2:E7f .i64 (1+1)=2:=rfl;have wr3:E7f .i64 (2+1)=3:=rfl;have l23:(2:Int)<3:=by decide
  have l33:¬ (3:Int)<3:=by decide
  have e4:G++[rT (B4 (zeros 256))]=G++[rT (B4 (zeros 256))]:=rfl;rw [B8N,J4];generalize B4 tab40=T at *;generalize B4 map40=M at *;generalize B4 (wE 16 8 0)=S at *;generalize hZ:B4 (zeros 256)=Z at *;generalize encI (upto 3)=U at *;generalize C9 2 1 0 1 (zI 7)=I at *;generalize M4 16 8 0=L at *;simp only [esc,cl,l3,hp,eS,hSz,g0,vL,wr2];rw [A5H,J4,hZ];simp only [esc,g3,A8g,l23,vL,wr2,lz,ef,hT,sz,lt,B8h,w1,wr3];rw [A5H,J4,hZ];have hq:=D0D (h:=h1) (t:=[rT U]) (v:=sV h1.length 0 3 1) rfl;simp only [esc,h13,A8g,l33,vL,A2n,hq,hC,w2,h26,w3]
 ·refine But.trans (h':=h1) ?_ (But.trans (h':=h2) ?_ b3)
  ·refine But.trans (h':=G++[rT (B4 tab40)]) ?_ b1;rw [hG];exact ((But.refl p q h).more _).more _
  ·refine But.trans (h':=h1++[rT (encI (upto 3))]) ((But.refl p q h1).more _) b2
def E5A:okS (wE 16 8 0)=A5:=by decide +kernel
def E4B:D1K (wE 16 8 0)=M4 16 8 0:=by decide +kernel
def C77(k:IsDk h p q D40 3 0) :
  ∃ v h',A7Y [.c (.p p 0)] h=A4 (.t [.c v,.c o0],h')/\IsDk h' p q D40 3 1:=by
 obtain ⟨h1,e1,k1,b1⟩:=D1u (no:=0) k okD40 (by rw [kB];omega) (by omega);have kp:=E5 k1.row;have kq:=E5 k1.blk;have e0:D40[0]'(by rw [kB];omega)=wE 16 8 0:=by unfold D40;rw [List.getElem_set_self]
 rw [e0] at e1;have hG:=λh=>B1s (b:=wE 16 8 0) (h:=h) cR
 rw [E5A,R8,E4B] at hG;have c0:((0:Nat):Int)=0:=rfl;rw [c0] at e1;obtain ⟨T,hT⟩:∃ T:A9,T=[rT (B4 (wE 16 8 0)),rT (M4 16 8 0)]:=⟨_,rfl⟩;obtain ⟨H,hH⟩:=xEq (h1++T);have kH:IsDk H p q D40 3 (0+1):=by rw [hH];exact k1.more _
 have hS:=B9D kH;have e16:(l_ D40:Int)=16:=by rw [kB];rfl
 rw [e16] at hS;have hN:∀ g,B3m [.c (.p p 0)] g=A4 (.c (.p (l_ g+1) 0),g++[A4 (Q1 []),rT [.p p 0,.m (l_ g),.ns,o0]]):=λg=>by
  refine C5K (n:=0) ?_;have ef:F9 [Cell.np,.nm,.ns,o0] [(0,1,.c (.p p 0)),(1,1,.c (.m (l_ g)))]=A4 [.p p 0,.m (l_ g),.ns,o0]:=rfl;rw [C5k];simp only [esc,ef]
 have s1:G0 (h1++[rT (B4 (zeros 256))]) 256 (.c (.p h1.length 0)) (.a (B4 (wE 16 8 0)))=A4 (h1++[rT (B4 (wE 16 8 0))]):=by
  rw [storeAll (cs:=B4 (zeros 256)) (by rw [I3];rfl) (by rw [B5,zeros_length]) (by rw [B5,cR]),tW];rfl
 have l1:D3 (h1++[rT (B4 (wE 16 8 0))]) 256 (.c (.p h1.length 0))=A4 (.a (B4 (wE 16 8 0))):=C8 (by rw [I3];rfl) (by rw [B5,cR]);have s2:G0 (h1++[rT (B4 (wE 16 8 0)),rT [o0,o0,.i .u64 0]]) 3 (.c (.p (h1.length+1) 0)) (.a (M4 16 8 0))=A4 H:=by
  rw [storeAll (n:=3) (cs:=[o0,o0,.i .u64 0]) (by rw [rM];rfl) rfl rfl,B8e,hH,hT];rfl
 have l2:B8 H (.c (.p (h1.length+1) 0))=A4 (.c (cI 16)):=C1 (cs:=M4 16 8 0) (rw:=A5) (by rw [hH,hT,rM];rfl) rfl rfl;have l3:D3 H 3 (.c (.p (h1.length+1) 0))=A4 (.a (M4 16 8 0)):=C8 (by rw [hH,hT,rM];rfl) rfl;obtain ⟨H2,hH2⟩:=xEq ((H++[A4 (Q1 []),A4 (Q1 []),rT [.p p 0,.m (l_ H+1),.ns,o0]])++[rT [.p (l_ H+2) 0,cI 16,cI 8,.i .u64 0,o0,.m (l_ H)]]);refine ⟨.p (l_ H+3) 0,H2,?_,by rw [hH2];exact (kH.more _).more _⟩
 ·refine C1G (n:=0) ?_;have hNH:=hN (H++[A7]);have qs:(H++[A7]).length+1=l_ H+2:=by simp
  rw [qs] at hNH;have ef:F9 [Cell.np,o0,o0,.i .u64 0,o0,.nm] [(0,1,.c (.p (l_ H+2) 0)),(1,3,.a (M4 16 8 0)),(5,1,.c (.m (l_ H)))]=A4 [.p (l_ H+2) 0,cI 16,cI 8,.i .u64 0,o0,.m (l_ H)]:=rfl;rw [C1g,J4];generalize B4 (wE 16 8 0)=S at *;generalize hZ:B4 (zeros 256)=Z at *;generalize M4 16 8 0=L at *;simp only [esc,e1,s1,l1,hG,s2,l2,hS,eq_self];have hq:=D0D (h:=H++[A7]) (t:=[A4 (Q1 []),rT [.p p 0,.m (H++[A7]).length,.ns,o0]]) (v:=.c (.p (l_ H+2) 0)) (by simp [C7C,D0t]);simp only [E7c,E7k,E7Q,E7o] at hq hNH;simp only [esc] at hq hNH;simp only [esc,Nat.reduceAdd,hNH,hq,l3,ef,hH2]
def D5d:∃ p q v h',A3F [.a (M4 16 8 0)] h=A4 (.t [.c (.p p 0),.c v],h')/\IsDk h' p q D40 3 1/\(l_ h)<=q/\(l_ h)<=p:=by
 obtain ⟨G,hG⟩:=xEq (h++[rT (M4 16 8 0)]);have lG:l_ G=l_ h+1:=by rw [hG];simp
 have hN:=D3d (N:=16) (h:=G) (by omega) (by omega);obtain ⟨H,hH⟩:=xEq (G++[rT (E7 (E68 16 (zeros 256))),rT (dkC (l_ G) 16 0 0)]);rw [<-hH] at hN;have kH:IsDk H (l_ G+1) (l_ G) (E68 16 (zeros 256)) 0 0:=by
  refine ⟨by omega,?_,?_⟩
  ·rw [hH,rM];rfl
  ·rw [hH,I3];rfl
 obtain ⟨h1,e1,k1,b1⟩:=C4S kH;obtain ⟨v,h2,e2,k2⟩:=C77 k1;refine ⟨l_ G+1,l_ G,v,h2,?_,k2,by omega,by omega⟩;refine C4s (n:=0) ?_;have l0:B8 G (pV (l_ h) 0)=A4 (iV 16):=C1 (cs:=M4 16 8 0) (rw:=A5) (by rw [hG,I3];rfl) rfl rfl;have l3:D3 H 3 (pV (l_ h) 0)=A4 (.a (M4 16 8 0)):=C8 (by rw [hH];refine B6 ?_;rw [hG,I3];rfl) rfl;have cl:cells? (.a (M4 16 8 0))=A4 (M4 16 8 0):=rfl;have c16:((16:Nat):Int)=16:=rfl;rw [c16] at hN;rw [C39];generalize M4 16 8 0=L at *;simp only [esc,cl,<-hG,l0,hN,l3,e1,eq_self,e2]
def D1y(h:A9):A0Q [.a (M4 16 8 0)] h=A4 (sV (l_ h) 0 16 256,h++[rT (E7 D40)]):=by
 have key:∀ g,∃ v g',A0N 0 [.a (M4 16 8 0)] g=A4 (v,g')/\Out (l_ g) g' v 256 16 (E7 D40):=λg=>by
  obtain ⟨G,hG⟩:=xEq (g++[rT (M4 16 8 0),rT []]);have lG:l_ G=l_ g+2:=by rw [hG];simp
  obtain ⟨p,q,v,h',e1,k,_,_⟩:=D5d (h:=G);have hI:=C8Y k okD40 (by rw [kB];omega);have l3:D3 G 3 (pV (l_ g) 0)=A4 (.a (M4 16 8 0)):=C8 (by rw [hG,I3];rfl) rfl;have cl:cells? (.a (M4 16 8 0))=A4 (M4 16 8 0):=rfl;have hl:l_ G<=(l_ h'):=(C4t _ _ _ _ e1).2.2;refine ⟨sV (l_ h') 0 16 256,h'++[rT (E7 D40)],?_,by rw [J0 okD40,kB],l_ h',rfl,by omega,O2⟩;have ll:l_ D40=16:=kB;rw [ll] at hI;rw [B5L];generalize M4 16 8 0=L at *;simp only [esc,cl,<-hG,l3,e1,hI]
 obtain ⟨v,g',e,ho⟩:=key (ro h);exact B3t e (by rw [H8] at ho;exact ho) kA
def D0l{u:Val}{nv nu:Nat}{r:List Int}(hv:Has h v 1 nv (encI l))(hu:Has h u 1 nu (encI r))(hlr:l_ l=r.length)(hl:l_ l<9223372036854775807){k:Nat}:∀ d i m,i+d=l_ l->d<m ->
  B9G k m v u (iV i) h=A4 (bV (decide (l.drop i=r.drop i)),h)
 | d,i,0,_,hm=>by omega
 | 0,i,m+1,hi,hm=>by
  have hnv:l_ l=nv:=by simpa [B9] using hv.length
  have e1:l.drop i=[]:=E7j (by omega);have e2:r.drop i=[]:=E7j (by omega);have h1':¬ (i:Int)<(l_ l):=by omega
  rw [B1M];simp only [esc,hv.len,<-hnv,h1',e1,e2]
 | d+1,i,m+1,hi,hm=>by
  have ih:=D0l hv hu hlr hl (k:=k) d (i+1) m (by omega) (by omega);have hnv:l_ l=nv:=by simpa [B9] using hv.length
  have hnu:r.length=nu:=by simpa [B9] using hu.length
  have hlen:=hv.len;obtain ⟨id,off,rfl,hid,h1,h2⟩:=hv.sl (by omega);obtain ⟨dX,off',rfl,E5i,h1',h2'⟩:=hu.sl (by omega);have hx:=h1 i (cI l[i]) (by rw [G7,E64 (by omega)];rfl);have hy:=h1' i (cI r[i]) (by rw [G7,E64 (by omega)];rfl);have ea:F5 1 (sV id off nv 1) (iV (i:Int))=A4 (pV id (off+i)):=by rw [E4 (by omega)];simp
  have eb:F5 1 (sV dX off' nu 1) (iV (i:Int))=A4 (pV dX (off'+i)):=by rw [E4 (by omega)];simp
  have c1:(i:Int)<nv:=by omega
  rw [B1M,E7g (by omega:i<l_ l),E7g (by omega:i<r.length)];by_cases c:l[i]=r[i]
  ·simp only [esc,c1,ea,eb,hx,hy,c,E3 (a:=i) (by omega),List.cons.injEq];exact ih
  ·simp only [esc,c1,ea,eb,hx,hy,c,List.cons.injEq,false_and]
def C9d{u:Val}{nv nu:Nat}{r:List Int}(hv:Has h v 1 nv (encI l))(hu:Has h u 1 nu (encI r))(hl:l_ l<9223372036854775807) :
  B3v [v,u] h=A4 (bV (decide (l=r)),h):=by
 refine C1p (n:=l_ l+1) (h2:=ro h) ?_ (by simp);have hnv:l_ l=nv:=by simpa [B9] using hv.length
 have hnu:r.length=nu:=by simpa [B9] using hu.length
 rw [C5n];by_cases c:l_ l=r.length
 ·have:=D0l hv.ro hu.ro c hl (k:=l_ l+1) (l_ l) 0 (l_ l+1) (by omega) (by omega);simp only [E7n] at this;have c':(nv:Int)=nu:=by omega
  simp only [esc,hv.len,hu.len,c'];exact this
 ·have c':¬ (nv:Int)=nu:=by omega
  have c2:¬ l=r:=λe=>c (by rw [e])
  simp only [esc,hv.len,hu.len,c',c2]
section
variable (n m m2:Nat) (h:A9)
def A3r:FD A8:=⟨px 0X178f0030281911c94e304881c93c1904881c94f1f1c9704881c93c1904881c94f5f1c9701038048818504881d1f1048818504881d5f5901e0190301300110000722401b6191902619a2f4f619a3c0101b181901884d50261882f7a61883c0101b1c1906a4d04256a2f51011116a19906a1e05c6a1f0101b181918903581a0584b485870110323e2a02f1a942112329f5004243386183a41f1c41b1521ef2663e41b01332e41d1c419421cf11bf2462e21b11828061b2c1af18001232819018751827f1001130065c3342300102,[],[.eqA A6 (E68 256 (.i .u8)) (.t 43) (.t 46),.eqA A6 (E68 256 (.i .u8)) (.t 51) (.t 54)],[.tmp 0],[D9 B7m C5h,D9 A0Q A8v,gG vF B49,D9 A4R B68,D9 U7 jO,D9 B3v C2T,D9 B0x B8u]⟩
def B0d:=A3r.R
def C4a:=mR B0d A3r (tT []) n [] h
def B8v:=A3r.K Tryz.func6
def B0D:=A3r.S
def B82:G3 B0d B0D:=B8v.flat
end
def E30:B51 D40=A5:=by decide +kernel
def E32:A9j D40=8:=by decide +kernel
def E31:C4J D40=0:=by decide +kernel
def D7r:(E6 D40 8).row=[1]:=by decide +kernel
def E5w:fS D40 8 (E6 D40 8)=D40:=by decide +kernel
def B8k(h:A9):B0D [] h=A4 (bV A5,h):=by
 have key:∀ g,∃ g',B0d 0 [] g=A4 (bV A5,g'):=λg=>by
  have hm:O6 (l_ D40) 8=A5:=by rw [kB];decide
  have hF:=D1y g;obtain ⟨G,hG⟩:=xEq (g++[rT (E7 D40)]);rw [<-hG] at hF;have hH:Has G (sV (l_ g) 0 (l_ D40) 256) 256 (l_ D40) (E7 D40):=by rw [hG];exact Has.tr (by simp) (J0 okD40) (gP _)
  obtain ⟨f,t,hO,hV⟩:=B1t hH okD40 E30 (by rw [kB];omega);obtain ⟨H,hHe⟩:=xEq (G++t);rw [<-hHe,E32,E31] at hO;rw [<-hHe] at hV;have hH1:Has H (sV (l_ g) 0 (l_ D40) 256) 256 (l_ D40) (E7 D40):=by rw [hHe];exact hH.more _
  have hS5:G0 (H++[rT [o0,o0,.i .u64 0,.nf]]) 4 (pV (l_ H) 0) (.a (vwC (l_ D40) 8 0 f))=A4 (H++[rT (vwC (l_ D40) 8 0 f)]):=by rw [H6];rfl
  obtain ⟨K,hK⟩:=xEq (H++[rT (vwC (l_ D40) 8 0 f)]);rw [<-hK] at hS5;have l4:D3 K 4 (pV (l_ H) 0)=A4 (.a (vwC (l_ D40) 8 0 f)):=C8 (by rw [hK,I3];rfl) rfl;have rv:rd K (l_ H)=rT (vwC (l_ D40) 8 0 f):=by rw [hK,I3];rfl
  obtain ⟨cs,t2,hC,hI,_⟩:=C3q (h:=K) okD40 (by rw [hK];exact hV.more _) hm;obtain ⟨L,hL⟩:=xEq (K++t2);rw [<-hL] at hC hI;have nF:l_ cs=6:=by obtain ⟨_,_,_,_,_,rfl,_⟩:=hI.form;rfl
  obtain ⟨M,hM⟩:=xEq (L++[rT cs]);have hS6:G0 (L++[rT [.ns,.ns,.ns,.ns,.ns,o0]]) 6 (pV (l_ L) 0) (.a cs)=A4 M:=by
   rw [storeAll (n:=6) (cs:=[.ns,.ns,.ns,.ns,.ns,o0]) (by rw [I3];rfl) rfl nF,tW,hM];rfl
  have hIM:IsCl M cs (E6 D40 8):=by
   obtain ⟨xr,xi,xt,xb,xm,e,h1,h2,h3,h4,h5⟩:=hI.form;rw [hM];exact ⟨xr,xi,xt,xb,xm,e,h1.more _,h2.more _,h3.more _,h4.more _,h5.more _⟩
  have hVM:IsView M f D40:=by rw [hM,hL,hK];exact ((hV.more _).more _).more _
  have m4:D3 M 4 (pV (l_ H) 0)=A4 (.a (vwC (l_ D40) 8 0 f)):=C8 (by rw [hM,hL];exact B6 (B6 rv)) rfl;have m6:D3 M 6 (pV (l_ L) 0)=A4 (.a cs):=C8 (by rw [hM,I3];rfl) nF;have hIm:=B6F (m:=0) okD40 hVM hm hIM;rw [E5w] at hIm;obtain ⟨N,hN⟩:=xEq (M++[rT (E7 D40)]);rw [<-hN] at hIm;obtain ⟨xr,xi,xt,xb,xm,e,h1,_⟩:=hIM.form;rw [D7r] at h1;have ef:F9 [o0] [(0,1,iV 1)]=A4 (encI [1]):=rfl;have n0:B8 N (pV (l_ L) 0)=A4 (.c xr):=C1 (cs:=cs) (rw:=A5) (by rw [hN,hM];refine B6 ?_;rw [I3];rfl) (by rw [e];rfl) rfl;have hQ:=C9d (h:=N++[rT (encI [1])]) (v:=.c xr) (nv:=1) (u:=sV N.length 0 1 1) (nu:=1) (l:=[1]) (r:=[1]) (by rw [hN];exact (h1.more _).more _) (Has.tr (by simp) rfl rfl) (by decide);obtain ⟨Q,hQe⟩:=xEq (N++[rT (encI [1])]);rw [<-hQe] at hQ;have hIQ:IsCl Q cs (E6 D40 8):=by
   obtain ⟨xr,xi,xt,xb,xm,e,h1,h2,h3,h4,h5⟩:=hIM.form;rw [hQe,hN];exact ⟨xr,xi,xt,xb,xm,e,(h1.more _).more _,(h2.more _).more _,(h3.more _).more _,(h4.more _).more _,(h5.more _).more _⟩
  have q6:D3 Q 6 (pV (l_ L) 0)=A4 (.a cs):=C8 (by rw [hQe,hN,hM];refine B6 (B6 ?_);rw [I3];rfl) nF;have k1:=B6G (a:=1) hIQ (by rw [D7r];decide);have k2:=B6G (a:=2) hIQ (by rw [D7r];decide);rw [D7r] at k1 k2;have d1:decide ((1:Int)∈[(1:Int)])=A5:=by decide
  have d2:decide ((2:Int)∈[(1:Int)])=A6:=by decide
  rw [d1] at k1;rw [d2] at k2;have hHQ:Has Q (sV (l_ g) 0 (l_ D40) 256) 256 (l_ D40) (E7 D40):=by rw [hQe,hN,hM,hL,hK];exact ((((hH1.more _).more _).more _).more _).more _
  have hIH:Has Q (sV M.length 0 (l_ D40) 256) 256 (l_ D40) (E7 D40):=by rw [hQe,hN];exact (Has.tr (h:=M++[rT (E7 D40)]) (by simp) (J0 okD40) (gP _)).more _
  obtain ⟨_,_,e1,_,a1,b1⟩:=B06 (i:=1) hHQ okD40 (by rw [kB];omega);cases e1;obtain ⟨_,_,e2,_,a2,b2⟩:=B06 (i:=2) hHQ okD40 (by rw [kB];omega);cases e2;obtain ⟨_,_,e3,_,a3,b3⟩:=B06 (i:=1) hIH okD40 (by rw [kB];omega);cases e3;obtain ⟨_,_,e4,_,a4,b4⟩:=B06 (i:=2) hIH okD40 (by rw [kB];omega);cases e4;have q1:=E3u (l:=D40[1]'(by rw [kB];omega)) (m:=D40[1]'(by rw [kB];omega)) (n:=256) (okD40.at _) (okD40.at _);have q2:=E3u (l:=D40[2]'(by rw [kB];omega)) (m:=D40[2]'(by rw [kB];omega)) (n:=256) (okD40.at _) (okD40.at _);rw [R9 rfl] at q1 q2;rw [kB] at hO a1 a2 a3 a4 hIm hS5 l4 hC m4;have c1:((1:Nat):Int)=1:=rfl;have c2:((2:Nat):Int)=2:=rfl;have c16:((16:Nat):Int)=16:=rfl;rw [c1] at a1 a3;rw [c2] at a2 a4;rw [c16] at hO hIm hS5 l4 hC m4;have dd:decide ([(1:Int)]=[1])=A5:=by decide
  rw [dd] at hQ;rw [C4a];generalize B4 (D40[1]'(by rw [kB];omega))=X1 at *;generalize B4 (D40[2]'(by rw [kB];omega))=X2 at *;generalize vwC 16 8 0 f=V at *;exact ⟨Q,by simp only [esc,E0P,hF,hO,hS5,l4,hC,hS6,m4,m6,hIm,eq_self,c16,n0,ef,<-hQe,hQ,q6,k1,k2,a1,a2,a3,a4,b1,b2,b3,b4,q1,q2]⟩
 obtain ⟨g',e⟩:=key (ro h);exact B82 e rfl
def E0v{t:A9}(ht:t.all B4H=A5):quiet h (A4 (v,h++t))=A4 (v,h++t):=by
 refine V6 (Grows.rfl'.trans' ⟨List.prefix_append _ _,λid x hid hx=>?_⟩);rw [rd_some,List.getElem?_append_right hid] at hx;exact E7D.1 ht _ (E7p hx)
section
variable {D:Dev} {n:Int}
def D8g(hD:okD D)(hm:O6 (l_ D) n=A5):fS (fS D n (E6 D n)) n (E6 (fS D n (E6 D n)) n)=fS D n (E6 D n):=by
 obtain ⟨_,lI⟩:=B9S hD hm;have hM:=D3V hD hm (m:=(A68 (fS D n (E6 D n)) D 0).length);have e:C2o (A68 (fS D n (E6 D n)) D 0).length (fS D n (E6 D n)) D=fS D n (E6 D n):=C5b (i:=0) lI (E69 _);rw [e] at hM;exact hM.img
def E4v(hD:okD D)(hm:O6 (l_ D) n=A5):Wh (fS D n (E6 D n)) n (D1 (fS D n (E6 D n)) n):=by
 obtain ⟨okI,lI⟩:=B9S hD hm;exact E5K okI (by rw [lI];exact hm) (D8g hD hm)
end
section
variable {I:Dev} {X:A9} {q:Nat} {x5 x9:Val}
end
section
variable (n m m2:Nat) (a0 x4 x9 x10 x11 x12 x15 x16 x17:Val) (h:A9)
def L8:FD A8:=⟨px 0X12acf20002ac5c2027af1a050021be79031828bf29050023ca28a03180132015000000047224302c1901a34ab1a204ab1e0414ab4f3fc4ab73fe4ab704ab1e0414ab4f3ec4ab73ec4ab7012b032040411d3d813d828c01e0194cf43556134702406120293be13ba1fe0448b420303645129014b493f2d2b19039201320150000003722406320293ae10293ac1f9053fb42031f8f111ebf1f0045050471d3ae13ae10421a339e1b184f41819019493f331a3017245032041050471d38c138c1db063c94224628029319bf1c050021fc19a031801320150000003722401b3a1902c32fa1a202fa1e102fa1f0422fa4f2ea2fa702fa1e602fa1f0472fa4f2de2fa72de2fa702fa1e22ca2fa1f0103f2ba1bb01e0193ad55631baf1101b9f2362b01d5a13c2803a1b92c1b8f19c002c2e3193040050421d2a81046050471d29c129c128e1b184f419d1c2811b3d3b183355132702401e12029046050471d1ec11ec11dc18a0182ab420301625111394203189f21b613b01b5a01c2183040050471d1ce11ce14f47b1c181192f43153121a0702406120291ba11ae6d041e94203006051112d01a1c200236cf19001737f46b1c32b19019201320150000722410321aa69021cd4221368f15ff2462e71b11828065f2c5ef5c001236f5d018291f1901d2013201500007224301a19019d4d042619d2f719d76f19d70101533f4c0181af4200234bf6006243201337a418784481c30191d19740293013ff20003250000172241032683d027d423133cf13bf2462e41b11828063b2c3af38001235c390181b191822ff30011372e03740192012df20003250062243e905202972a035942033201042,[.c (.i .u8 0)],[],[.tmp 2],[D9 B0D B8v,D9 C1o C9q,gG vF B49,D9 A4R B68,D9 U7 jO,D9 A71 B6m,D9 B3s C2S,gG Y7 tP,D9 F7 J6,D9 iJ wS,D9 A14 B2y]⟩
def xH:=L8.R
def A5i:AtH:=L8.lj 0 n [m] [x4,x9,x10]
def A5j:AtH:=L8.lj 1 n [m,m2] [x4,x9,x10,x11,x12]
def uP:AtH:=L8.lj 2 n [m] [x4,x9,x10]
def A5k:AtH:=L8.lj 3 n [m,m2] [x4,x9,x10,x15,x16,x17]
def fJ:=tT [⟨2,3,A5i⟩,⟨3,5,A5j⟩,⟨2,3,uP⟩,⟨3,6,A5k⟩]
def B2T:=mR xH L8 fJ n [a0] h
def A0v:=mL L8 fJ 0 n [m] [x4,x9,x10] h
def A0w:=mL L8 fJ 1 n [m,m2] [x4,x9,x10,x11,x12] h
def B2s:=mJ L8 fJ 2 n [m] [x4,x9,x10] h
def A0x:=mL L8 fJ 3 n [m,m2] [x4,x9,x10,x15,x16,x17] h
def A6c:=L8.K Tryz.func4
def xW:=L8.S
def B3u:SOk A8 4 xW:=A6c.sok
def B0C:G3 xH xW:=A6c.flat
end
def E2S(hD:okD D)(hm:O6 (l_ D) n=A5):Pair D (fS D n (E6 D n)) n:=by
 obtain ⟨_,lI⟩:=B9S hD hm;have hM:=D3V hD hm (m:=(A68 (fS D n (E6 D n)) D 0).length);have e:C2o (A68 (fS D n (E6 D n)) D 0).length (fS D n (E6 D n)) D=fS D n (E6 D n):=C5b (i:=0) lI (E69 _);rw [e] at hM;exact ⟨hD,hm,rfl,hM,lI,E4v hD hm⟩
def C9T{x:Val}{l:List UInt8}(hx:Has h x 1 (l_ l) (B4 l))(hi:i<l_ l):∃ a,F5 1 x (iV (i:Int))=A4 a/\B8 h a=A4 (.c (.i .u8 (l[i].toNat:Int))):=by
 obtain ⟨id,off,rfl,hid,h1,_⟩:=hx.sl (by omega);exact ⟨pV id (off+i),by rw [E4 hi];simp,h1 i _ (by rw [yX,E64 hi];rfl)⟩
def C95{y:Cell}{l:List Ent}(hy:Has h (.c y) 2 (l_ l) (J7 l))(hi:i<l_ l):∃ id o,F5 2 (.c y) (.c (cI (i:Int)))=A4 (.c (.p id o))/\B8 h (.c (.p id o))=A4 (.c (.s l[i].1))/\B8 h (.c (.p id (o+1)))=A4 (.c (cI l[i].2)):=by
 obtain ⟨id,off,e,hid,hA,_⟩:=hy.sl (by omega);cases e;have hc:=B36 l i hi;have hk:∀ k,k<2->(J7 l)[i*2+k]?=(W5 (A4 l[i]))[k]? := λk hk=>by
  rw [<-hc,E7M hk,E8j]
 refine ⟨id,off+i*2,E4 hi,hA _ _ ((hk 0 (by omega)).trans rfl),?_⟩;have:=hA _ _ ((hk 1 (by omega)).trans rfl)
 rwa [<-Nat.add_assoc] at this
section
variable {D I:Dev} {n m:Int} {f:Cell} {q pv:Nat} {x9:Val}
structure KpH(D I:Dev)(n m:Int)(f:Cell)(pv:Nat)(x9:Val)(h:A9):Prop where
 v:rd h pv=rT (vwC (l_ D) n m f)
 vw:IsView h f D
 tr:IsTree h x9 (D7 I n)
def KpH.more(k:KpH D I n m f pv x9 h)(t:A9):KpH D I n m f pv x9 (h++t):=⟨B6 k.v,k.vw.more t,k.tr.more t⟩
def E0N{x4 x10 x15 x16:Val}{A B:List UInt8}(hA:Has h x15 1 A.length (B4 A))(hB:Has h x16 1 (l_ B) (B4 B))(hl:A.length=l_ B)(hlen:l_ B<=34304)
  (hk:∀ i,i<l_ B->∀ b,B[i]?=A4 b->b≠0->A[i]?=A4 b) {M0:Nat}:∀ (e i M:Nat),i+e=l_ B->e<M ->
  A5k q M0 M x4 x9 x10 x15 x16 (iV (i:Int)) h=uP q M0 x4 x9 x10 h:=by
 intro e
 induction e with
 | zero =>
  intro i M hi hM;obtain ⟨M,rfl⟩:=Z3 M (by omega);have c0:¬ (i:Int)<(l_ B:Nat):=by omega
  have al:=hB.len;rw [A0x];simp only [C7,al,G4,c0,decide_false,Y0]
 | succ e ih =>
  intro i M hi hM;obtain ⟨M,rfl⟩:=Z3 M (by omega);have K6:i<(l_ B):=by omega
  have c0:(i:Int)<(l_ B:Nat):=by omega
  have w1:=E3 (a:=i) (by omega);have al:=hB.len;obtain ⟨a,a1,a2⟩:=C9T hB K6;obtain ⟨c,c1,c2⟩:=C9T hA (show i<A.length by omega);have hki:=hk i K6 B[i] (E64 K6);rw [E64 (show i<A.length by omega)] at hki;have f1:=ih (i+1) M (by omega) (by omega);rw [A0x];by_cases z:B[i]=0
  ·have z1:(B[i].toNat:Int)=0:=by rw [z];rfl
   rw [z1] at a2;simp only [esc,al,c0,a1,a2,eq_self,w1];exact f1
  ·have z1:¬ (B[i].toNat:Int)=0:=λh=>z (UInt8.toNat_inj.1 (by show B[i].toNat=0;omega))
   have e1:A[i]=B[i]:=E8n (hki z);rw [e1] at c2;simp only [esc,al,c0,a1,a2,z1,c1,c2,eq_self,w1];exact f1
def E0M{M0 pw:Nat}(P:Pair D I n)(hq:40000<q)(hi:i<(D7 I n).length):∀ (e k M:Nat) (h:A9),k+e=(D7 I n)[i].names.length->e<M->KpH D I n m f pv x9 h->rd h pw=rT (A2r D n (D7 I n)[i].ino) ->
  ∃ h',A5j q M0 M (pV pv 0) x9 (iV (i:Int)) (pV pw 0) (iV (k:Int)) h=uP q M0 (pV pv 0) x9 (iV (i:Int)) h'/\KpH D I n m f pv x9 h':=by
 have hD:=P.okD;have iZ:=E7y hi;have hnm:=B4Y iZ;obtain ⟨a,ha⟩:=xEq ((D7 I n)[i].ino);have D3A:=(P.wh.node.1 iZ);rw [<-ha] at D3A;have har:a∈(D1 D n).row:=by rw [<-P.row.1];exact D3A.1
 have e1:(D7 I n)[i].names=A09 I n a:=by rw [D3A.2];rfl
 have e2:(D7 I n)[i].kind=kdV I n a:=by rw [D3A.2];rfl
 have e3:(D7 I n)[i].data=zT I n a:=by rw [D3A.2];rfl
 intro e
 induction e with
 | zero =>
  intro k M h hk hM K hw;obtain ⟨M,rfl⟩:=Z3 M (by omega);rw [<-ha] at hw;obtain ⟨id,o,cs,a1,_,a3,x1,y1,ecs,hx,hy⟩:=A9Q K.tr hi;have l6:B8 h (pV id (o+6))=A4 (.c y1):=a3 6 _ (by rw [ecs];rfl);have l5:B8 h (pV id (o+5))=A4 (.c x1):=a3 5 _ (by rw [ecs];rfl);have l1:B8 h (pV id (o+1))=A4 (iV (kdV I n a)):=by rw [<-e2];exact a3 1 _ (by rw [ecs];rfl)
  have aly:=hy.len;have alx:=hx.len;have c0:¬ (k:Int)<((D7 I n)[i].names.length:Nat):=by omega
  rw [A0w];by_cases hkd:kdV I n a=1
  ·have hf:zW D n a:=by
    refine (P.fl har).1 ⟨λh1=>?_,hkd⟩;rw [h1] at hkd;have:=P.wh.root;omega
   obtain ⟨_,hsz,_⟩:=P.nums har hf;have l4:D3 h 4 (pV pv 0)=A4 (.a (vwC (l_ D) n m f)):=C8 K.v rfl;have l11:D3 h 11 (pV pw 0)=A4 (.a (A2r D n a)):=C8 hw (by rw [dV];simp [C9,B9,J9]);rw [dV] at l11;have hA:=B9L (n:=n) (m:=m) (k:=kdV D n a) (l:=lnV D n a) (s:=szV D n a) (p:=paV D n a) (d:=drV D n a) hD J9 K.vw;obtain ⟨A,eA⟩:=xEq (vS D n (kdV D n a) (szV D n a) (drV D n a) 0 34304);rw [<-eA] at hA;have hAq:quiet h (A14 [.a (vwC (l_ D) n m f),.a (C9 (kdV D n a) (lnV D n a) (szV D n a) (paV D n a) (drV D n a))] h)=A4 (sV (l_ h) 0 A.length 1,h++[rT (B4 A)]):=by rw [hA];exact V6 (Grows.rfl'.new _)
   rw [e3] at hx;obtain ⟨B,eB⟩:=xEq (zT I n a);rw [<-eB] at hx;have alB:=hx.len;have eB2:B=vS I n 1 (szV D n a) (drV I n a) 0 34304:=by rw [eB];unfold zT;rw [hkd,hsz]
   have hAl:A.length=(l_ B):=by rw [eA,eB2,B1k,B1k,hf.2]
   have hBl:l_ B<=34304:=by rw [eB];exact D24
   have E39:∀ j,j<l_ B->∀ b,B[j]?=A4 b->b≠0->A[j]?=A4 b:=by
    intro j hj b hb h0;have E6h:j<34304:=by omega
    have hAj:j<A.length:=by omega
    rw [eA] at hAj ⊢;rw [eB2] at hb hj;unfold vS at hb hAj hj ⊢;rw [hf.2] at hAj ⊢;rw [E8s,List.length_range'] at hj;rw [List.getElem?_map,List.getElem?_range' hj] at hb ⊢;have hb:=E8n hb;have e0:(0:Int).toNat+1*j=j:=by simp
    rw [e0] at hb ⊢;rw [<-hb] at h0;show A4 (B6D D n (drV D n a) j)=A4 b;rw [<-hb,P.bytes har hf E6h h0]
   have K2:=K.more [rT (B4 A)];have hAh:Has (h++[rT (B4 A)]) (sV (l_ h) 0 A.length 1) 1 A.length (B4 A):=Has.tr (by rw [I3];rfl) (by rw [B5,E8i]) (W1 _);have f1:=E0N (q:=q) (x9:=x9) (x4:=pV pv 0) (x10:=iV (i:Int)) (M0:=M0) hAh (hx.more _) hAl hBl E39 (l_ B) 0 q (by omega) (by omega);have z0:((0:Nat):Int)=0:=rfl;rw [z0] at f1;rw [hkd] at l1;have alA:B5X (sV (l_ h) 0 A.length 1)=A4 (iV (l_ B:Nat)):=by rw [<-hAl];rfl
   refine ⟨_,?_,K2⟩;generalize vwC (l_ D) n m f=V at *;generalize C9 (kdV D n a) (lnV D n a) (szV D n a) (paV D n a) (drV D n a)=N at *;simp only [esc,a1,l6,aly,c0,l1,eq_self,l4,l11,hAq,l5,alA,alB];exact f1
  ·refine ⟨h,?_,K⟩;simp only [esc,a1,l6,aly,c0,l1,hkd]
 | succ e ih =>
  intro k M h hk hM K hw;obtain ⟨M,rfl⟩:=Z3 M (by omega);have hkl:k<(D7 I n)[i].names.length:=by omega
  have c0:(k:Int)<((D7 I n)[i].names.length:Nat):=by omega
  have w1:=E3 (a:=k) (by omega);obtain ⟨id,o,cs,a1,_,a3,x1,y1,ecs,hx,hy⟩:=A9Q K.tr hi;have l6:B8 h (pV id (o+6))=A4 (.c y1):=a3 6 _ (by rw [ecs];rfl);have aly:=hy.len;obtain ⟨jd,jo,b1,b2,b3⟩:=C95 hy hkl;obtain ⟨en,hen⟩:=xEq ((D7 I n)[i].names[k]);rw [<-hen] at b2 b3;have E4f:en∈(D7 I n)[i].names:=by rw [hen];exact E7y hkl
  have h24:=hnm.2 en E4f;rw [e1] at E4f;obtain ⟨p,hp1,hp2⟩:=P.names har E4f;have l4:D3 h 4 (pV pv 0)=A4 (.a (vwC (l_ D) n m f)):=C8 K.v rfl;have hwk:=hw;rw [<-ha] at hw;have l11:D3 h 11 (pV pw 0)=A4 (.a (A2r D n a)):=C8 hw (by rw [dV];simp [C9,B9,J9]);rw [dV] at l11;have hL:=A2Q (n:=n) (m:=m) (k:=kdV D n a) (l:=lnV D n a) (s:=szV D n a) (p:=paV D n a) (d:=drV D n a) (nm:=en.1) (h:=h++[A7]) hD J9 (K.vw.more _) (by omega);have hLq:quiet (h++[A7]) (iJ [.a (vwC (l_ D) n m f),.a (C9 (kdV D n a) (lnV D n a) (szV D n a) (paV D n a) (drV D n a)),.c (.s en.1)] (h++[A7]))=A4 (.t [.a (nK (A2v D n (kdV D n a) (drV D n a) en.1)),.c (.b (A2v D n (kdV D n a) (drV D n a) en.1).isSome)],h++[A7]):=by rw [hL];exact aD
  rw [hp1] at hLq;obtain ⟨X,hX⟩:=xEq (nK (A4 p));have hXl:l_ X=3:=by rw [hX];rfl
  rw [<-hX] at hLq;obtain ⟨H,hH⟩:=xEq (h++[rT X]);have st:G0 (h++[rT [o0,o0,o0]]) 3 (pV (l_ h) 0) (.a X)=A4 H:=by
   rw [storeAll (n:=3) (cs:=[o0,o0,o0]) (by rw [I3];rfl) rfl hXl,tW,hH];rfl
  have KH:KpH D I n m f pv x9 H:=by rw [hH];exact K.more _
  have hwH:rd H pw=rT (A2r D n (D7 I n)[i].ino):=by rw [hH];exact B6 hwk
  have s2:B8 H (pV (l_ h) 2)=A4 (iV en.2):=by
   rw [<-hp2];exact C1 (by rw [hH,I3];rfl) (by rw [hX];rfl) rfl
  obtain ⟨dX,o',cs',a1',_,a3',x1',y1',ecs',hx',hy'⟩:=A9Q KH.tr hi;have l6':B8 H (pV dX (o'+6))=A4 (.c y1'):=a3' 6 _ (by rw [ecs'];rfl);obtain ⟨jd',jo',b1',_,b3'⟩:=C95 hy' hkl;rw [<-hen] at b3';rw [a1] at a1';have ea:=E8n a1';simp only [Val.c.injEq,Cell.p.injEq] at ea;obtain ⟨rfl,rfl⟩:=ea;obtain ⟨h',f1,f2⟩:=ih (k+1) M H (by omega) (by omega) KH hwH;refine ⟨h',?_,f2⟩;rw [A0w];have isS:(A4 p).isSome=A5:=rfl;rw [isS] at hLq;generalize vwC (l_ D) n m f=V at *;generalize C9 (kdV D n a) (lnV D n a) (szV D n a) (paV D n a) (drV D n a)=N at *;simp only [esc,a1,l6,aly,c0,l4,l11,b1,b2,hLq,st,s2,l6',b1',b3',eq_self,w1];exact f1
def E0L(P:Pair D I n)(hq:40000<q):∀ (e i M:Nat) (h:A9),i+e=(D7 I n).length->e<M->KpH D I n m f pv x9 h ->
  ∃ h',A5i q M (pV pv 0) x9 (iV (i:Int)) h=A4 (bV A5,h'):=by
 have hlen:=A9M (D:=I) (n:=n);intro e
 induction e with
 | zero =>
  intro i M h hi hM K;obtain ⟨M,rfl⟩:=Z3 M (by omega);have al:=K.tr.len;have c0:¬ (i:Int)<((D7 I n).length:Nat):=by omega
  rw [A0v];exact ⟨h,by simp only [esc,al,c0,B8k]⟩
 | succ e ih =>
  intro i M h hi hM K;obtain ⟨M,rfl⟩:=Z3 M (by omega);have K6:i<(D7 I n).length:=by omega
  have al:=K.tr.len;have c0:(i:Int)<((D7 I n).length:Nat):=by omega
  have w1:=E3 (a:=i) (by omega);obtain ⟨id,o,cs,a1,_,a3,x1,y1,ecs,hx,hy⟩:=A9Q K.tr K6;have l0:B8 h (pV id o)=A4 (iV (D7 I n)[i].ino):=a3 0 _ (by rw [ecs];rfl);have l4:D3 h 4 (pV pv 0)=A4 (.a (vwC (l_ D) n m f)):=C8 K.v rfl;have hI:=U5 (n:=n) (m:=m) (i:=(D7 I n)[i].ino) P.okD (K.vw.more [A7]);have hIq:quiet (h++[A7]) (F7 [.a (vwC (l_ D) n m f),iV (D7 I n)[i].ino] (h++[A7]))=A4 (.a (A2r D n (D7 I n)[i].ino),h++[A7]):=by rw [hI];exact aD
  obtain ⟨N,hN⟩:=xEq (A2r D n (D7 I n)[i].ino);have hNl:N.length=11:=by rw [hN,dV];simp [C9,B9,J9]
  obtain ⟨H,hH⟩:=xEq (h++[rT N]);rw [<-hN] at hIq;have st:G0 (h++[rT [o0,o0,o0,o0,o0,o0,o0,o0,o0,o0,o0]]) 11 (pV (l_ h) 0) (.a N)=A4 H:=by
   rw [storeAll (n:=11) (cs:=[o0,o0,o0,o0,o0,o0,o0,o0,o0,o0,o0]) (by rw [I3];rfl) rfl hNl,tW,hH];rfl
  have KH:KpH D I n m f pv x9 H:=by rw [hH];exact K.more _
  have hw:rd H (l_ h)=rT (A2r D n (D7 I n)[i].ino):=by rw [hH,I3,<-hN];rfl
  have hnm:=(B4Y (E7y K6)).1;obtain ⟨h1,f1,K1⟩:=E0M (q:=q) (M0:=M) P hq K6 (D7 I n)[i].names.length 0 q H (by omega) (by omega) KH hw;obtain ⟨h',f2⟩:=ih (i+1) M h1 (by omega) (by omega) K1;refine ⟨h',?_⟩;have z0:((0:Nat):Int)=0:=rfl;rw [z0] at f1;rw [A0v];generalize vwC (l_ D) n m f=V at *;simp only [esc,al,c0,l4,a1,l0,hIq,st,f1,B2s,w1];exact f2
end
def C8X(hv:Has h v 256 (l_ D) (E7 D))(hD:okD D):xW [v] h=A4 (bV A5,h):=by
 have key:∀ g,Has g v 256 (l_ D) (E7 D)->∃ g',xH 50000 [v] g=A4 (bV A5,g'):=by
  intro g hv;have hl:=hv.len;have n13:¬ (13:Int)=0:=by decide
  rw [B2T];by_cases c0:(60:Int)<(l_ D:Nat)
  ·exact ⟨_,by simp only [esc,hl,c0,B8k]<;>rfl⟩
  ·have hT:=E5J hv hD (by omega);obtain ⟨G,hG⟩:=xEq (g++[rT (E7 D)]);rw [<-hG] at hT;have hH:Has G (sV (l_ g) 0 (l_ D) 256) 256 (l_ D) (E7 D):=by rw [hG];exact Has.tr (by simp) (J0 hD) (gP D)
   have hvG:Has G v 256 (l_ D) (E7 D):=by rw [hG];exact hv.more _
   cases cd:B51 D with
   | false =>
    obtain ⟨t,hO⟩:=D4X hH hD cd;obtain ⟨H,hHe⟩:=xEq (G++t);rw [<-hHe] at hO;have hS5:G0 (H++[rT [o0,o0,.i .u64 0,.nf]]) 4 (pV (l_ H) 0) (.a (vwC 0 0 0 .nf))=A4 (H++[rT (vwC 0 0 0 .nf)]):=by rw [H6];rfl
    generalize vwC 0 0 0 .nf=V at *;exact ⟨_,by simp only [esc,hl,c0,hT,hO,hS5,n13,B8k]<;>rfl⟩
   | true =>
    obtain ⟨f,t,hO,hV⟩:=B1t hH hD cd (by omega);obtain ⟨H,hHe⟩:=xEq (G++t);rw [<-hHe] at hO hV;have hm:=D90 cd;obtain ⟨n,en⟩:=xEq (A9j D);obtain ⟨m,em⟩:=xEq (C4J D);obtain ⟨okI,lI⟩:=B9S hD hm;have hh0:=E0G hD hm;have P:=E2S hD hm;rw [<-en] at hO hm okI lI hh0 P;rw [<-em] at hO;obtain ⟨I,eI⟩:=xEq (fS D n (E6 D n));rw [<-eI] at okI lI hh0 P;obtain ⟨dI1,dI2,dI3⟩:=D91 lI hh0;have dI:B51 I=A5:=dI1.trans cd;have nI:A9j I=n:=dI2.trans en.symm;have mI:C4J I=m:=dI3.trans em.symm;have hmI:O6 (l_ I) n=A5:=by rw [lI];exact hm
    obtain ⟨B,hB⟩:=xEq (H++[rT (vwC (l_ D) n m f)]);have hS5:G0 (H++[rT [o0,o0,.i .u64 0,.nf]]) 4 (pV (l_ H) 0) (.a (vwC (l_ D) n m f))=A4 B:=by rw [H6,hB];rfl
    have rB:rd B (l_ H)=rT (vwC (l_ D) n m f):=by rw [hB,I3];rfl
    have y4:D3 B 4 (pV (l_ H) 0)=A4 (.a (vwC (l_ D) n m f)):=C8 rB rfl;have hVB:IsView B f D:=by rw [hB];exact hV.more _
    obtain ⟨cs,tc,p1,p2,p3⟩:=C3q (n:=n) (m:=m) (f:=f) (h:=B) hD hVB hm;have q1:quiet B (A4R [.a (vwC (l_ D) n m f)] B)=A4 (.a cs,B++tc):=by rw [p1];exact E0v p3
    obtain ⟨E,hE⟩:=xEq (B++tc);rw [<-hE] at p2 q1;have hI:=B6F (m:=m) hD (by rw [hE];exact hVB.more _) hm p2;rw [<-eI] at hI;obtain ⟨J,hJ⟩:=xEq (E++[rT (E7 I)]);rw [<-hJ] at hI;have hI:U7 [.a (vwC (l_ D) n m f),.a cs] E=A4 (sV (l_ E) 0 (l_ I) 256,J):=by rw [lI];exact hI
    have hIJ:Has J (sV (l_ E) 0 (l_ I) 256) 256 (l_ I) (E7 I):=by rw [hJ];exact Has.tr (by rw [I3];rfl) (J0 okI) (gP I)
    have up:∀ {x:Val},Has G x 256 (l_ D) (E7 D)->Has J x 256 (l_ D) (E7 D):=λhx=>by rw [hJ,hE,hB,hHe];exact (((hx.more _).more _).more _).more _
    have hR:=C8v (h:=J) hD (up hH) cd (by rw [<-en];exact hm);rw [<-en] at hR;obtain ⟨f2,t2,hO2,hV2⟩:=B1t hIJ okI dI (by omega);rw [nI,mI] at hO2;obtain ⟨J2,hJ2⟩:=xEq (J++t2);rw [<-hJ2] at hO2 hV2;obtain ⟨B2,hB2⟩:=xEq (J2++[rT (vwC (l_ I) n m f2)]);have hS6:G0 (J2++[rT [o0,o0,.i .u64 0,.nf]]) 4 (pV J2.length 0) (.a (vwC (l_ I) n m f2))=A4 B2:=by rw [H6,hB2];rfl
    have z4:D3 B2 4 (pV J2.length 0)=A4 (.a (vwC (l_ I) n m f2)):=C8 (by rw [hB2,I3];rfl) rfl;have E54:IsView B2 f2 I:=by rw [hB2];exact hV2.more _
    obtain ⟨x9,X,o1,o2,o3⟩:=D6C (n:=n) (m:=m) okI E54;have KX:KpH D I n m f (l_ H) x9 X:=by
     refine ⟨o3.rd ?_,IsView.since ?_ o3,o2⟩
     ·rw [hB2,hJ2,hJ,hE];exact B6 (B6 (B6 (B6 rB)))
     ·rw [hB2,hJ2,hJ,hE];exact (((hVB.more _).more _).more _).more _
    have hlen:=A9M (D:=I) (n:=n);obtain ⟨g',e1⟩:=E0L (q:=50000) (x9:=x9) P (by omega) (D7 I n).length 0 50000 X (by omega) (by omega) KX;have z0:((0:Nat):Int)=0:=rfl;rw [z0] at e1;refine ⟨g',?_⟩;by_cases cr:qU 0 (cF D n)=[]
    ·rw [R9 cr] at hR;have hID:I=D:=by rw [eI];exact (E5H hD hm cr).still
     have hSm:=same_eq (h:=J) hD (by omega) (v:=sV (l_ E) 0 (l_ I) 256) (u:=v) (by rw [<-hID];exact hIJ) (up hvG);generalize vwC (l_ D) n m f=V at *;generalize vwC (l_ I) n m f2=V2 at *;simp only [esc,eq_self,hl,c0,hT,hO,hS5,y4,q1,hI,hR,hSm,hO2,hS6,z4,o1];exact e1
    ·rw [aC cr] at hR;generalize vwC (l_ D) n m f=V at *;generalize vwC (l_ I) n m f2=V2 at *;simp only [esc,eq_self,hl,c0,hT,hO,hS5,y4,q1,hI,hR,hO2,hS6,z4,o1];exact e1
 obtain ⟨g',e⟩:=key (ro h) hv.ro;exact B0C e rfl
end Go.Proofs.YtbipebfdappanaaGreat
