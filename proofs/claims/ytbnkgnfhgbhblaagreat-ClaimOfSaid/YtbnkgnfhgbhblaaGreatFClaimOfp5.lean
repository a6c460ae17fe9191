/- What the proof of this claim leans on, part 5. -/
import Derived.Test.YtbnkgnfhgbhblaaGreatFClaimOfp4
set_option linter.all false
open Bool renaming and_eq_true→E3R,false_and→E3W,true_and→E31
open Int renaming cast_ofNat_Int→E4j,eq_ofNat_of_zero_le→E4v,reduceEq→E4V,toNat_natCast→E38
open List renaming all_cons→E4x,all_eq_true→E4H,append_assoc→E3U,append_nil→E4f,cons_append→E4l,drop_drop→E4S,drop_eq_getElem_cons→E3V,drop_of_length_le→E32,drop_zero→E39,ext_getElem?→E4I,getD_eq_getElem?_getD→E30,getElem?_append_left→E4r,getElem?_append_right→E35,getElem?_cons_succ→E4C,getElem?_drop→E4G,getElem?_eq_getElem→E3P,getElem?_eq_none→E4q,getElem_mem→E4u,length_append→E3S,length_cons→E3Z,length_nil→E4h,length_replicate→E4g,length_set→E4o,length_take→E4k,map_append→E4J,map_cons→E4R,mem_cons_of_mem→E4a,mem_cons_self→E4c,mem_of_getElem?→E4e,mem_or_eq_of_mem_set→E4z,nil_append→E37,range→E4m,replicate→E3Q,set_append_right→E4p,set_cons_succ→E4B,set_cons_zero→E4A,take_of_length_le→E3Y,take_succ_eq_append_getElem→E36
open Nat renaming add_zero→E4U,le_refl→E3T,le_trans→E4t,min_eq_left→E4N,sub_self→E4y,zero_add→E4b
open Option renaming bind_some→E3X,getD_none→E4F,getD_some→E4w,isSome_none→E4d,isSome_some→E33,map_some→E4T
namespace Go.Proofs.YtbnkgnfhgbhblaaGreat
open Go Go.Esc
structure RowW (n:Int) (c:Cl):Prop where
 nd:c.row.Nodup
 par:∀ i,(c.par i).isSome=true↔i∈c.row
 rg:∀ i∈c.row,1<=i/\i<=n
theorem RowW.same {n:Int} {c c':Cl} (h:RowW n c) (h1:c'.row=c.row) (h2:c'.par=c.par):RowW n c' :=
 ⟨by rw [h1];exact h.nd,λi=>by rw [h1,h2];exact h.par i,by rw [h1];exact h.rg⟩
theorem D6o {D:Dev} {n dir ino:Int} {c:Cl} (h:RowW n c):RowW n (cK D n c dir ino):=by
 unfold cK;cases ht:gG D n c ino with
 | false=>exact h
 | true =>
  rw [cond_true];cases hs:(c.par ino).isSome with
  | true=>exact h.same rfl rfl
  | false =>
   rw [cond_false];have bH:ino ∉ c.row:=λhm=>by
    rw [(h.par ino).2 hm] at hs;cases hs
   have hk:kdV D n ino≠0:=by
    intro e;unfold gG at ht;rw [e] at ht;simp at ht
   have hr:=(D3y hk).2;refine ⟨?_,λi=>?_,λi hi=>?_⟩
   ·show (c.row++[ino]).Nodup;rw [List.nodup_append];exact ⟨h.nd,by simp,λa ha b hb e=>by simp at hb;subst hb;subst e;exact bH ha⟩
   ·show (tP c.par ino dir i).isSome=true↔i∈c.row++[ino];unfold tP;by_cases e:i=ino
    ·subst e;simp
    ·rw [if_neg e,h.par i];simp [e]
   ·have hi:i∈c.row++[ino]:=hi;rcases List.mem_append.1 hi with h1 | h1
    ·exact h.rg i h1
    ·simp at h1;subst h1;exact hr
theorem B9h {D:Dev} {n ino:Int}:∀ {L:List Ent} {s:Cl × (List UInt8->Option Int)},RowW n s.1->RowW n (Z4 D n ino s L).1
 | [],_,h=>h
 | x::L,s,h=>by
  have h1:RowW n (Y3 D n ino s x).1:=by
   unfold Y3;cases gG D n s.1 x.2 with
   | false=>exact h
   | true=>exact D6o h
  exact B9h (L:=L) (s:=Y3 D n ino s x) h1
theorem A5W {D:Dev} {X:List Int} {K:List UInt8->Option Int}:∀ {L:List Int} {c:Cl},(L9 D X K c L).row=c.row/\(L9 D X K c L).par=c.par
 | [],_=>⟨rfl,rfl⟩
 | no::L,c=>by
  have h1:=A5W (D:=D) (X:=X) (K:=K) (L:=L) (c:=tL D X K c no);have h2:=oH (D:=D) (X:=X) (no:=no) (K:=K) (l:=M7 (blk D no)) (s:=(c,aQ []));exact ⟨h1.1.trans h2.row,h1.2.trans h2.par⟩
theorem zL {D:Dev} {n ino:Int} {c:Cl}:SameC c (fM D n c ino).1:=by
 unfold fM;cases (decide (kdV D n ino=2)&&T6 (blk D ((drV D n ino).getD 0 0))) with
 | true=>exact oI ..
 | false=>exact .rfl' _
theorem D67 {D:Dev} {n ino:Int} {c:Cl} (h:RowW n c):RowW n (oS D n c ino):=by
 have hs:=zL (D:=D) (n:=n) (ino:=ino) (c:=c);have hI:RowW n (W6 D n c ino):=h.same hs.row hs.par;unfold oS;split
 ·exact hI
 ·unfold vF;have hb:=fG (D:=D) (n:=n) (L:=J4 (eG (getD (blk D ((drV D n ino).getD 0 0))) (M6 (blk D ((drV D n ino).getD 0 0)) 32)) (B9 (V3 (getD (blk D ((drV D n ino).getD 0 0))) (M6 (blk D ((drV D n ino).getD 0 0)) 32)))) (s:=(W6 D n c ino,eG (getD (blk D ((drV D n ino).getD 0 0))) (M6 (blk D ((drV D n ino).getD 0 0)) 32)));have h1:RowW n (T5 D n (W6 D n c ino) (getD (blk D ((drV D n ino).getD 0 0))) (M6 (blk D ((drV D n ino).getD 0 0)) 32)).1:=hI.same hb.row hb.par;have h2:RowW n (bodyT D n (W6 D n c ino) ino (getD (blk D ((drV D n ino).getD 0 0))) (M6 (blk D ((drV D n ino).getD 0 0)) 32)).1:=B9h (by exact h1);generalize bodyT D n (W6 D n c ino) ino (getD (blk D ((drV D n ino).getD 0 0))) (M6 (blk D ((drV D n ino).getD 0 0)) 32)=s2 at *;refine h2.same (A5W.1.trans rfl) (A5W.2.trans rfl)
theorem tC {D:Dev} {n ino:Int} {c:Cl}:(gA D n c ino).row=c.row/\(gA D n c ino).par=c.par/\(gA D n c ino).lnk=c.lnk/\(gA D n c ino).lost=c.lost/\(gA D n c ino).ino.length=c.ino.length/\(gA D n c ino).blocks.length<=c.blocks.length+1/\(gA D n c ino).made.length<=c.made.length+1:=by
 have hf:=A0P (D:=D) (n:=n) (ino:=ino) (c:=c);have e1:(Y2 D n c ino).row=c.row:=hf.1.row;have e2:(Y2 D n c ino).par=c.par:=hf.1.par;have e3:(Y2 D n c ino).lnk=c.lnk:=hf.1.lnk;have e4:(Y2 D n c ino).lost=c.lost:=hf.1.lost;have e5:(Y2 D n c ino).ino.length=c.ino.length:=by unfold Y2;simp [hf.1.ino]
 have e6:(Y2 D n c ino).blocks=c.blocks:=hf.1.blocks;have e7:(Y2 D n c ino).made=c.made:=hf.1.made;unfold gA;split
 ·exact ⟨e1,e2,e3,e4,e5,by rw [e6];omega,by rw [e7];omega⟩
 ·have hs:=tD (D:=D) (n:=n) (many:=A3g (szV D n ino)) (e:=128) (k:=0) (s:=(Y2 D n c ino,blk D ((dF D n c ino).2.getD 6 0)));dsimp only at hs;generalize bF D n (A3g (szV D n ino)) 128 0 (Y2 D n c ino,blk D ((dF D n c ino).2.getD 6 0))=s at *;refine ⟨hs.row.trans e1,hs.par.trans e2,hs.lnk.trans e3,hs.lost.trans e4,?_,?_,?_⟩
  ·show s.1.ino.length=_;rw [hs.ino];exact e5
  ·show (s.1.blocks++[_]).length<=_;rw [E3S,hs.blocks,e6];simp
  ·show (s.1.made++[_]).length<=_;rw [E3S,hs.made,e7];simp
section
def gE (D:Dev) (n:Int) (c:Cl) (ino:Int):Cl:=if ino≠1/\kdV D n ino=1 then gA D n c ino else oS D n c ino
def ofR (D:Dev) (n:Int):Nat->Nat->Cl->Cl
 | 0,_,c=>c
 | e+1,i,c=>match c.row[i]? with
  | none=>c
  | some a=>ofR D n e (i+1) (gE D n c a)
theorem C9v {D:Dev} {n ino:Int}:∀ {L:List Ent} {s:Cl × (List UInt8->Option Int)},s.1.row.length<=(Z4 D n ino s L).1.row.length
 | [],_=>E3T _
 | x::L,s=>by
  have h1:s.1.row.length<=(Y3 D n ino s x).1.row.length:=by
   unfold Y3 cK;cases gG D n s.1 x.2 with
   | false=>exact E3T _
   | true =>
    simp only [cond_true];cases (s.1.par x.2).isSome with
    | true=>exact E3T _
    | false=>simp [D3N,A98]
  exact E4t h1 (C9v (L:=L) (s:=Y3 D n ino s x))
theorem C86 {c:Cl} {no:Int} {b:List UInt8}:(R3 c no b).row=c.row:=rfl
theorem D68 {D:Dev} {n ino:Int} {c:Cl}:c.row.length<=(oS D n c ino).row.length:=by
 have hs:=zL (D:=D) (n:=n) (ino:=ino) (c:=c);have e1:(W6 D n c ino).row=c.row:=hs.row;unfold oS;split
 ·rw [e1];exact E3T _
 ·unfold vF;rw [A5W.1,C86,<-e1];unfold bodyT;refine E4t (Nat.le_of_eq ?_) C9v;unfold T5;exact congrArg List.length (fG (D:=D) (n:=n) (s:=(W6 D n c ino,_)) (L:=_)).row.symm
theorem C54 {D:Dev} {n ino:Int} {c:Cl}:c.row.length<=(gE D n c ino).row.length:=by
 unfold gE;split
 ·rw [tC.1];exact E3T _
 ·exact D68
section
variable {D:Dev} {n m:Int} {f:Cell} {g:A6} {r:Nat} {h:A6}
theorem C53 {D:Dev} {n ino:Int} {c:Cl} (h:RowW n c):RowW n (gE D n c ino):=by
 unfold gE;split
 ·exact h.same tC.1 tC.2.1
 ·exact D67 h
theorem D9l {pv pr q:Nat} {zr:List Cell} {h0:A6} (hD:okD D) (hv:IsView g f D) (hn:n<=128) :
  ∀ (e i M:Nat) (c:Cl) (h:A6),i+e=129->e<M->i<=c.row.length->RowW n c->Small c 128 (224*i) (33*i) (224*i)->WP D n m f g r c h->Fr r h0 h->LocV h r pv (vwC D.length n m f)->LocV h r pr zr ->
  ∃ M' h',oG q M (pV pv 0) (pV pr 0) (pV r 0) (iV (i:Int)) h=oG q (M'+1) (pV pv 0) (pV pr 0) (pV r 0) (iV ((ofR D n e i c).row.length:Nat)) h' /\
   WP D n m f g r (ofR D n e i c) h'/\Fr r h0 h'/\LocV h' r pv (vwC D.length n m f)/\LocV h' r pr zr/\RowW n (ofR D n e i c)/\Small (ofR D n e i c) 128 (224*129) (33*129) (224*129):=by
 intro e
 induction e with
 | zero =>
  intro i M c h hi hM bJ hR sm;have:=B65 hR.nd λa ha=>⟨(hR.rg a ha).1,by have:=(hR.rg a ha).2;omega⟩
  omega
 | succ e ih =>
  intro i M c h hi hM bJ hR sm P F hpv hpr;obtain ⟨M,rfl⟩:∃ M',M=M'+1:=⟨M-1,by omega⟩;have hv2:=hv.get;unfold ofR;cases hc:c.row[i]? with
  | none =>
   have hlen:=List.getElem?_eq_none_iff.1 hc;have ei:i=c.row.length:=by omega
   dsimp only;rw [<-ei];exact ⟨M,h,rfl,P,F,hpv,hpr,hR,⟨sm.row,sm.lnk.mono (by omega),E4t sm.blocks (by omega),E4t sm.made (by omega),sm.lost0,by have:=sm.lost;omega⟩⟩
  | some a =>
   dsimp only;have R6:i<c.row.length:=(List.getElem?_eq_some_iff.1 hc).1;have ha:a∈c.row:=E4e hc;obtain ⟨ra1,ra2⟩:=hR.rg a ha;obtain ⟨xr,xi,xt,xb,xm,ml,mp,es1,es2,g1,g2,g3,g4,g5,g6,g7,g8,g9,g10,g11⟩:=id P.row;have w1:=C6 (show i+1<9223372036854775808 by omega);have c0:((i:Int)<(c.row.length:Nat)):=by omega
   rcases g3 with ⟨e0,_,_⟩ | ⟨rid,rfl,r1,r2,r3⟩
   ·omega
   ·have l4:B4 h (pV r 4)=some (sV rid 0 c.row.length 1):=B5 g1 rfl rfl;have ad:D6 1 (sV rid 0 c.row.length 1) (iV (i:Int))=some (pV rid i):=by rw [C5 R6];simp
    have la:B4 h (pV rid i)=some (iV a):=B5 r1 (by rw [F0,hc];rfl) rfl;have lV:C8 h 4 (pV pv 0)=some (.a (vwC D.length n m f)):=B8 hpv.2 rfl;have hI:=uT (n:=n) (m:=m) (i:=a) hD (hv.since P.lo);rw [A57] at hI;have f0:∀ k l s p d,B5Y (.a (E6 k l s p d)) 0=some (iV k):=λ_ _ _ _ _=>rfl
    have hin:a.toNat<c.ino.length:=by rw [P.ilen];omega
    have hR':=C53 (D:=D) (ino:=a) hR;have r128:=B65 hR'.nd λa ha=>⟨(hR'.rg a ha).1,by have:=(hR'.rg a ha).2;omega⟩
    have step:∃ h1,WP D n m f g r (gE D n c a) h1/\Fr r h h1/\Small (gE D n c a) 128 (224*(i+1)) (33*(i+1)) (224*(i+1)) /\
      oG q (M+1) (pV pv 0) (pV pr 0) (pV r 0) (iV (i:Int)) h=oG q M (pV pv 0) (pV pr 0) (pV r 0) (iV ((i+1:Nat):Int)) h1:=by
     rw [A9u];have hs:=tC (D:=D) (n:=n) (ino:=a) (c:=c);have sb:=sm.blocks;have smd:=sm.made;have sl:=sm.lost;by_cases c1:a=1
     ·obtain ⟨h1,f1,f2,f3,f4⟩:=D7b hD hv P (by omega) hin (by omega) (by omega) (by omega) (by omega) sm;have eo:gE D n c a=oS D n c a:=by unfold gE;rw [if_neg (by simp [c1])]
      rw [eo] at r128 ⊢;refine ⟨h1,f2,f3,⟨r128,f4.lnk.mono (by omega),by have:=f4.blocks;omega,by have:=f4.made;omega,f4.lost0,by have:=f4.lost;omega⟩,?_⟩;rw [c1] at la f1;generalize vwC D.length n m f=V at *;simp only [esc,Nat.reduceAdd,l4,c0,ad,la,eq_self,f1,A0H,w1]
     ·by_cases c2:kdV D n a=1
      ·obtain ⟨h1,f1,f2,f3⟩:=D83 hD hv P (by omega) (by omega) (by omega) hin;have eo:gE D n c a=gA D n c a:=by unfold gE;rw [if_pos ⟨c1,c2⟩]
       rw [eo] at r128 ⊢;refine ⟨h1,f2,f3,⟨r128,λj=>by rw [hs.2.2.1];have:=sm.lnk j;omega,by have:=hs.2.2.2.2.2.1;omega,by have:=hs.2.2.2.2.2.2;omega,by rw [hs.2.2.2.1];exact sm.lost0,by rw [hs.2.2.2.1];omega⟩,?_⟩;generalize vwC D.length n m f=V at *;simp only [esc,Nat.reduceAdd,l4,c0,ad,la,c1,lV,hI,f0,c2,f1,A0H,w1]
      ·obtain ⟨h1,f1,f2,f3,f4⟩:=D7b hD hv P (by omega) hin (by omega) (by omega) (by omega) (by omega) sm;have eo:gE D n c a=oS D n c a:=by unfold gE;rw [if_neg (by simp [c2])]
       rw [eo] at r128 ⊢;refine ⟨h1,f2,f3,⟨r128,f4.lnk.mono (by omega),by have:=f4.blocks;omega,by have:=f4.made;omega,f4.lost0,by have:=f4.lost;omega⟩,?_⟩;generalize vwC D.length n m f=V at *;simp only [esc,Nat.reduceAdd,l4,c0,ad,la,c1,lV,hI,f0,c2,f1,A0H,w1]
    obtain ⟨h1,s1,s2,s3,s4⟩:=step;have hlen:i+1<=(gE D n c a).row.length:=by
     have:c.row.length<=(gE D n c a).row.length:=C54;omega
    obtain ⟨M',h',e1,e2⟩:=ih (i+1) M (gE D n c a) h1 (by omega) (by omega) hlen hR' s3 s1 (F.trans s2) (hpv.fr s2) (hpr.fr s2);exact ⟨M',h',s4.trans e1,e2⟩
end
end
section
theorem C6q:∀ {l:List (List Int)} {i k:Nat} {v:Int} (h:∀ x∈l,x.length=11) (hi:i<l.length) (hk:k<11),(S6 l).set (i*11+k) (.i .i64 v)=S6 (l.set i ((l.getD i []).set k v))
 | x::l,0,k,v,h,_,hk=>by
  have hx:=h x (E4c ..);rw [Y8,Nat.zero_mul,E4b,List.set_append_left _ _ (by rw [A8];omega),aX];rfl
 | x::l,i+1,k,v,h,hi,hk=>by
  have hx:=h x (E4c ..);have ih:=C6q (l:=l) (i:=i) (k:=k) (v:=v) (λy hy=>h y (E4a _ hy)) (by simpa using hi) hk;rw [Y8,E4p _ _ (by rw [A8,hx];omega),A8,hx,show (i+1)*11+k-11=i*11+k by omega,ih];rfl
theorem C5p:∀ {l:List (List Int)} {i k:Nat} (h:∀ x∈l,x.length=11) (hi:i<l.length) (hk:k<11),(S6 l)[i*11+k]?=some (.i .i64 ((l.getD i []).getD k 0))
 | x::l,0,k,h,_,hk=>by
  have hx:=h x (E4c ..);rw [Y8,Nat.zero_mul,E4b,E4r (by rw [A8];omega),F0,E3P (by omega)];simp [List.getD,show k<x.length by omega]
 | x::l,i+1,k,h,hi,hk=>by
  have hx:=h x (E4c ..);have ih:=C5p (l:=l) (i:=i) (k:=k) (λy hy=>h y (E4a _ hy)) (by simpa using hi) hk;rw [Y8,E35 (by rw [A8,hx];omega),A8,hx,show (i+1)*11+k-11=i*11+k by omega,ih];rfl
def Z3 (c:Cl) (a:Int):Cl:=if (c.ino.getD a.toNat []).getD 0 0=1 then { c with ino:=c.ino.set a.toNat ((c.ino.getD a.toNat []).set 1 ((c.lnk a).getD 0)) } else c
def Q6 (c:Cl) (L:List Int):Cl:=L.foldl Z3 c
section
variable {D:Dev} {n m:Int} {f:Cell} {g:A6} {r:Nat} {c:Cl} {h:A6}
theorem WP.setLink (hv:∃ id cs,f=.f id cs) (P:WP D n m f g r c h) {k:Nat} (hk:k<c.ino.length) (v:Int) :
  ∃ id h',B4 h (pV r 5)=some (sV id 0 c.ino.length 11)/\rd h id=rT (S6 c.ino)/\F9 h (pV id (k*11+1)) (iV v)=some h'/\WP D n m f g r { c with ino:=c.ino.set k ((c.ino.getD k []).set 1 v) } h'/\Fr r h h' /\
   ∀ rid nn,rd h r≠none->(∃ cs,rd h r=rT cs/\cs[4]?=some (.sl rid 0 nn 1))->rd h' r=rd h r/\rd h' rid=rd h rid:=by
 obtain ⟨xr,xi,xt,xb,xm,ml,mp,es1,es2,g1,g2,g3,g4,g5,g6,g7,g8,g9,g10,g11⟩:=id P.row;rcases g4 with ⟨e,_,_⟩ | ⟨t,rfl,t1,t2,t3⟩
 ·omega
 ·have l1:B4 h (pV r 5)=some (sV t 0 c.ino.length 11):=B5 g1 rfl rfl;have st:=E9 (x:=.i .i64 v) (off:=k*11+1) t1 (by rw [t2];omega);rw [C6q P.il hk (by omega)] at st;obtain ⟨q1,q2,q3,q4,q5⟩:=P.mod (off:=5) (x:=.sl t 0 c.ino.length 11) hv g1 rfl rfl (rT (S6 (c.ino.set k ((c.ino.getD k []).set 1 v))));have hkl:(c.ino.getD k []).length=11:=by
   rw [E30,E3P hk];exact P.il _ (E4u hk)
  have R6:∀ x∈c.ino.set k ((c.ino.getD k []).set 1 v),x.length=11:=λx hx=>by
   rcases E4z hx with h1 | h1
   ·exact P.il x h1
   ·rw [h1,E4o];exact hkl
  refine ⟨t,_,l1,t1,st,⟨q2,P.ge,λid hn=>P.low id ((Nam.same q3).1 hn),R6,by simpa using P.ilen,P.tlen,xr,_,xt,xb,xm,ml,mp,es1,es2,by rw [q3];exact g1,g2,g3.kept λid e=>q4 4 _ _ (by decide) rfl e,.inr ⟨t,by simp,q5,by rw [U2 R6],t3⟩,g5.kept λid e=>q4 6 _ _ (by decide) rfl e,g6.kept λid e=>q4 7 _ _ (by decide) rfl e,g7.kept λid e=>q4 8 _ _ (by decide) rfl e,?_,g9,?_,g11⟩,q1,λrid nn _ hc=>⟨q3,?_⟩⟩
  ·rw [q4 10 (.m ml) ml (by decide) rfl rfl];exact g8
  ·rw [q4 11 (.m mp) mp (by decide) rfl rfl];exact g10
  ·obtain ⟨cs,hc1,hc2⟩:=hc;rw [g1] at hc1;cases hc1;exact q4 4 _ rid (by decide) hc2 rfl
theorem D5Q {pr q rid:Nat} {R:List Int} {h0:A6} (hv:IsView g f D) (hR:R.length<=1000) (hrg:∀ a∈R,1<=a/\a<=n) :
  ∀ (e i M:Nat) (c:Cl) (h:A6),i+e=R.length->e<M->WP D n m f g r c h->Fr r h0 h->(∃ z,z.length=6/\LocV h r pr z)->(∃ cs,rd h r=rT cs/\cs[4]?=some (.sl rid 0 R.length 1))->rd h rid=rT (encI R) ->
  ∃ M' h',A9v q M (pV pr 0) (pV r 0) (sV rid 0 R.length 1) (iV (R.length:Nat)) (iV (i:Int)) h=A9v q (M'+1) (pV pr 0) (pV r 0) (sV rid 0 R.length 1) (iV (R.length:Nat)) (iV (R.length:Nat)) h' /\
   WP D n m f g r (Q6 c (R.drop i)) h'/\Fr r h0 h'/\(∃ z,z.length=6/\LocV h' r pr z):=by
 intro e
 induction e with
 | zero =>
  intro i M c h hi hM P F hz hc hr;obtain ⟨M,rfl⟩:∃ M',M=M'+1:=⟨M-1,by omega⟩;have ei:i=R.length:=by omega
  subst ei;rw [List.drop_length];exact ⟨M,h,rfl,P,F,hz⟩
 | succ e ih =>
  intro i M c h hi hM P F hz hc hr;obtain ⟨M,rfl⟩:∃ M',M=M'+1:=⟨M-1,by omega⟩;have R6:i<R.length:=by omega
  have hv2:=hv.get;have c0:((i:Int)<(R.length:Nat)):=by omega
  have w1:=C6 (show i+1<9223372036854775808 by omega);have ad:D6 1 (sV rid 0 R.length 1) (iV (i:Int))=some (pV rid i):=by rw [C5 R6];simp
  have la:B4 h (pV rid i)=some (iV R[i]):=B5 hr (by rw [F0,E3P R6];rfl) rfl;obtain ⟨ra1,ra2⟩:=hrg _ (E4u R6);rw [E3V R6];have er:∀ T,Q6 c (R[i]::T)=Q6 (Z3 c R[i]) T:=λT=>rfl
  rw [er];obtain ⟨k,hk⟩:=E4v (show 0<=R[i] by omega);rw [hk] at la ra1 ra2 ⊢;have hin:k<c.ino.length:=by rw [P.ilen];omega
  obtain ⟨id,h1,a1,a2,a3,a4,a5,a6⟩:=P.setLink hv2 hin ((c.lnk k).getD 0);obtain ⟨ml,hx,b1,b2,_⟩:=P.setLnk hv2 0 0;have b2':=b2 false k;have adI:D6 11 (sV id 0 c.ino.length 11) (iV (k:Int))=some (pV id (k*11)):=by rw [C5 hin];simp
  have lk:B4 h (pV id (k*11))=some (iV ((c.ino.getD k []).getD 0 0)):=B5 a2 (by have:=C5p (l:=c.ino) (i:=k) (k:=0) P.il hin (by omega);simpa using this) rfl;rw [A9w];by_cases c1:(c.ino.getD k []).getD 0 0=1
  ·have ec:Z3 c (k:Int)={ c with ino:=c.ino.set k ((c.ino.getD k []).set 1 ((c.lnk k).getD 0)) }:=by unfold Z3;rw [E38,if_pos c1]
   rw [ec];have U1:rd h r≠none:=by obtain ⟨cs,h1,_⟩:=hc;rw [h1];simp
   obtain ⟨k1,k2⟩:=a6 rid R.length U1 hc;obtain ⟨z,wE,hz⟩:=hz;obtain ⟨M',h',e1,e2⟩:=ih (i+1) M _ h1 (by omega) (by omega) a4 (F.trans a5) ⟨z,wE,hz.fr a5⟩ (by rw [k1];exact hc) (by rw [k2];exact hr);refine ⟨M',h',?_,e2⟩;simp only [esc,Nat.reduceAdd,c0,ad,la,a1,adI,lk,c1,b1,b2',A4B,a3,A9s,w1];exact e1
  ·have ec:Z3 c (k:Int)=c:=by unfold Z3;rw [E38,if_neg c1]
   rw [ec];obtain ⟨M',h',e1,e2⟩:=ih (i+1) M c h (by omega) (by omega) P F hz hc hr;refine ⟨M',h',?_,e2⟩;simp only [esc,Nat.reduceAdd,c0,ad,la,a1,adI,lk,c1,A9s,w1];exact e1
def oV (c:Cl):Nat->Cl
 | 0=>c
 | k+1=>{ oV c k with taken:=(oV c k).taken.set k true }
theorem D7V {pv pr q sid K:Nat} {cv cr:List Cell} {h0:A6} (hv:IsView g f D) (hK:K<=D.length) (hK2:K<=1000) :
  ∀ (e i M:Nat) (h:A6),i+e=K->e<M->WP D n m f g r (oV c i) h->Fr r h0 h->LocV h r pv cv->LocV h r pr cr->LocV h r sid (encI (upto K)) ->
  ∃ h',C0u q M (pV pv 0) (pV pr 0) (pV r 0) (sV sid 0 K 1) (iV (K:Nat)) (iV (i:Int)) h=oG q q (pV pv 0) (pV pr 0) (pV r 0) (iV 0) h' /\
   WP D n m f g r (oV c K) h'/\Fr r h0 h'/\LocV h' r pv cv/\LocV h' r pr cr:=by
 intro e
 induction e with
 | zero =>
  intro i M h hi hM P F hp hr hs;obtain ⟨M,rfl⟩:∃ M',M=M'+1:=⟨M-1,by omega⟩;have ei:i=K:=by omega
  subst ei;refine ⟨h,?_,P,F,hp,hr⟩;have c0:¬ ((i:Int)<(i:Nat)):=by omega
  rw [A9t];simp only [esc,c0]
 | succ e ih =>
  intro i M h hi hM P F hp hr hs;obtain ⟨M,rfl⟩:∃ M',M=M'+1:=⟨M-1,by omega⟩;have hiK:i<K:=by omega
  have c0:((i:Int)<(K:Nat)):=by omega
  have w1:=C6 (show i+1<9223372036854775808 by omega);have ad:D6 1 (sV sid 0 K 1) (iV (i:Int))=some (pV sid i):=by rw [C5 hiK];simp
  have la:B4 h (pV sid i)=some (iV (i:Int)):=B5 hs.2 (by rw [F0];simp [upto,hiK]) rfl;obtain ⟨xr,xi,xt,xb,xm,ml,mp,es1,es2,g1,_⟩:=id P.row;obtain ⟨t,rfl,t1,t2,t3⟩:=P.take (k:=i) (v:=true) g1 (by omega);have lT:B4 h (pV r 6)=some (sV t 0 D.length 1):=B5 g1 rfl rfl;have hit:i<(oV c i).taken.length:=by rw [P.tlen];omega
  have adT:D6 1 (sV t 0 D.length 1) (iV (i:Int))=some (pV t i):=by rw [C5 (show i<D.length by omega)];simp
  have s1:F9 h (pV t i) (bV true)=some (h.set t (rT (N6 ((oV c i).taken.set i true)))):=by
   rw [E9 t1 (by simp [N6,hit])];simp [N6,List.map_set]
  obtain ⟨h',e1,e2⟩:=ih (i+1) M _ (by omega) (by omega) t2 (F.trans t3) (hp.fr t3) (hr.fr t3) (hs.fr t3);refine ⟨h',?_,e2⟩;rw [A9t];simp only [esc,Nat.reduceAdd,c0,ad,la,lT,adT,s1,w1];exact e1
end
end
theorem B3Z {h2:A6} {b:Nat}:∀ (l:List Cell) (seen:List Nat),(∀ x∈l,x.flat=true\/∃ id off n sz cs,x=.sl id off n sz/\b<=id/\rd h2 id=rT cs/\N3 cs=true) ->
  (∀ (i j a:Nat) (x y:Cell),l[i]?=some x->l[j]?=some y->nmC x=some a->nmC y=some a->i=j)->(∀ x∈l,∀ a,nmC x=some a->a ∉ seen) ->
  ∃ l2 fin,Q5 h2 b seen l=some (l2,fin)/\seen <+: fin/\l2.length=l.length/\∀ (i:Nat) (x:Cell),l[i]?=some x->(x.flat=true/\l2[i]?=some x)\/∃ id off n sz j,x=.sl id off n sz/\l2[i]?=some (.sl (b+j) off n sz)/\fin[j]?=some id
 | [],seen,_,_,_=>⟨[],seen,rfl,List.prefix_refl _,rfl,λi x h=>by simp at h⟩
 | c::l,seen,hf,hd,hs=>by
  have hd':∀ (i j a:Nat) (x y:Cell),l[i]?=some x->l[j]?=some y->nmC x=some a->nmC y=some a->i=j:=λi j a x y h1 h2 h3 h4=>by
   have:=hd (i+1) (j+1) a x y (by simpa using h1) (by simpa using h2) h3 h4;omega
  rcases hf c (E4c ..) with hc | ⟨id,off,n,sz,cs,rfl,hb,hr,hfl⟩
  ·obtain ⟨l2,fin,e1,e2,e3,e4⟩:=B3Z l seen (λx hx=>hf x (E4a _ hx)) hd' λx hx=>hs x (E4a _ hx)
   refine ⟨c::l2,fin,?_,e2,by simp [e3],λi x hi=>?_⟩
   ·unfold Q5;rw [if_pos (Cell.low_of_flat hc),e1];rfl
   ·cases i with
    | zero=>simp at hi;subst hi;exact .inl ⟨hc,rfl⟩
    | succ i=>simpa using e4 i x (by simpa using hi)
  ·have hns:id ∉ seen:=hs _ (E4c ..) id rfl;obtain ⟨l2,fin,e1,e2,e3,e4⟩:=B3Z l (seen++[id]) (λx hx=>hf x (E4a _ hx)) hd' λx hx a ha=>by
    rw [List.mem_append];rintro (h1 | h1)
    ·exact hs x (E4a _ hx) a ha h1
    ·simp at h1;subst h1;obtain ⟨j,hj⟩:=List.mem_iff_getElem?.1 hx;have:=hd 0 (j+1) a _ x rfl (by simpa using hj) rfl ha;omega
   have hlow:¬ (Cell.sl id off n sz).low b=true:=by simp [Cell.low,Cell.flat];omega
   refine ⟨.sl (b+seen.length) off n sz::l2,fin,?_,(List.prefix_append _ _).trans e2,by simp [e3],λi x hi=>?_⟩
   ·unfold Q5;rw [if_neg hlow];dsimp only;rw [if_pos ⟨hb,hns,zP hr hfl⟩,e1];rfl
   ·cases i with
    | zero =>
     simp at hi;subst hi;refine .inr ⟨id,off,n,sz,seen.length,rfl,rfl,?_⟩;obtain ⟨t,rfl⟩:=e2;simp
    | succ i=>simpa using e4 i x (by simpa using hi)
structure IsCl (h:A6) (cs:List Cell) (c:Cl):Prop where
 form:∃ xr xi xt xb xm,cs=[xr,xi,xt,xb,xm,.i .i64 c.lost]/\Has h (.c xr) 1 c.row.length (encI c.row)/\Has h (.c xi) 11 c.ino.length (S6 c.ino)/\Has h (.c xt) 1 c.taken.length (N6 c.taken)/\Has h (.c xb) 1 c.blocks.length (encI c.blocks)/\Has h (.c xm) 256 c.made.length (D4 c.made)
section
def G8 (D:Dev) (n:Int):Cl:=⟨[1],E3Q (n+1).toNat (zI 11),E3Q D.length false,[],[],0,λ_=>none,tP (λ_=>none) 1 1⟩
def W5 (D:Dev) (n:Int):Cl:=ofR D n 129 0 (oV (G8 D n) (jU D.length n).toNat)
def P6 (D:Dev) (n:Int):Cl:=Q6 (W5 D n) (W5 D n).row
theorem HeldX.canon {g h:A6} {x:Cell} {l:List Cell} {n sz r:Nat} (hx:HeldX h x l n sz r) (hf:N3 l=true) (hlow:∀ id,nmC x=some id->g.length<=id):x.flat=true\/∃ id off n sz cs,x=.sl id off n sz/\g.length<=id/\rd h id=rT cs/\N3 cs=true:=by
 rcases hx with ⟨_,_,rfl⟩ | ⟨id,rfl,h1,h2,h3⟩
 ·exact .inl rfl
 ·exact .inr ⟨id,0,n,sz,l,rfl,hlow id rfl,h1,hf⟩
theorem HeldX.moved {h h2:A6} {x y:Cell} {l:List Cell} {n sz r:Nat} {fin:List Nat} (hx:HeldX h2 x l n sz r) (hn:noX l=true) (hy:(x.flat=true/\y=x)\/∃ id off n sz j,x=.sl id off n sz/\y=.sl (h.length+j) off n sz/\fin[j]?=some id):Has (h++fin.map (rd h2)) (.c y) sz n l:=by
 rcases hx with ⟨h1,h3,h4⟩ | ⟨id,rfl,h1,h3,h4⟩
 ·subst h4;rcases hy with ⟨_,rfl⟩ | ⟨_,_,_,_,_,e,_⟩
  ·exact .inl ⟨rfl,h1,h3⟩
  ·cases e
 ·rcases hy with ⟨e,_⟩ | ⟨fX,off,n',sz',j,e,rfl,hj⟩
  ·cases e
  ·cases e;refine Has.row (rw:=true) ?_ h3 hn;unfold rd;rw [E35 (by omega),show h.length+j-h.length=j by omega,List.getElem?_map,hj];exact h1
theorem D0E {D:Dev} {n:Int}:∀ {e i:Nat} {c:Cl},c.row.length<=(ofR D n e i c).row.length
 | 0,_,_=>E3T _
 | e+1,i,c=>by
  unfold ofR;cases c.row[i]? with
  | none=>exact E3T _
  | some a=>exact E4t C54 D0E
theorem D8Z {b n:Int} (h:R9 b n=true):jU b n<=b:=by
 obtain ⟨_,_,_,_,_,h6⟩:=N8.1 h;have:=N8.1 h;unfold jU A02 A7A;rw [h];simp only [cond_true];omega
theorem ownR_same {c:Cl}:∀ {k:Nat},SameC c (oV c k)
 | 0=>.rfl' _
 | k+1=>by
  have h:=ownR_same (c:=c) (k:=k);exact ⟨h.row,h.ino,h.blocks,h.made,h.lost,h.lnk,h.par⟩
section
variable {D:Dev} {n m:Int} {f:Cell} {h:A6}
theorem C8J {g:A6} (hD:okD D) (hv:IsView g f D) (hm:R9 D.length n=true) :
  ∃ six g',zW 1200 [.a (vwC D.length n m f)] g=some (.a six,g')/\WP D n m f g (g.length+4) (P6 D n) g'/\∃ V t,rd g' (g.length+4)=rT (V++six++t)/\V.length=4/\six.length=6/\RowW n (W5 D n)/\Small (W5 D n) 128 (224*129) (33*129) (224*129):=by
 have hv2:=hv.get;obtain ⟨b16,b512,n8,n128,_,_⟩:=N8.1 hm;obtain ⟨N,hN⟩:∃ N:Nat,n+1=(N:Int):=E4v (by omega);have hCk:=λh=>bB (b:=D.length) (n:=n) (m:=m) (h:=h)
 rw [hm,cond_true] at hCk;obtain ⟨W,hW⟩:∃ W,W=wkC D n m f (.sl (g.length+5) 0 1 1) (.sl (g.length+6) 0 N 11) (.sl (g.length+7) 0 D.length 1) .ns .ns 0 (g.length+2) (g.length+3):=⟨_,rfl⟩;obtain ⟨T,hT⟩:∃ T:A6,T=[rT (vwC D.length n m f),rT [.ns,.ns,.ns,.ns,.ns,o0],some (S3 []),some (S3 [(.i .i64 1,.c (.i .i64 1))]),rT W,rT [.i .i64 1],rT (S6 (E3Q N (zI 11))),rT (N6 (E3Q D.length false))]:=⟨_,rfl⟩;have at_:∀ (k:Nat) (x:Option Row),T[k]?=some x->rd (g++T) (g.length+k)=x:=λk x hk=>by
  unfold rd;rw [E35 (by omega),show g.length+k-g.length=k by omega,hk];rfl
 have R6:∀ x∈E3Q N (zI 11),x.length=11:=λx hx=>by rw [List.eq_of_mem_replicate hx];simp [zI]
 have P0:WP D n m f g (g.length+4) (G8 D n) (g++T):=by
  have r4:=at_ 4 (rT W) (by rw [hT];rfl);rw [hW] at r4;refine ⟨(Low.refl (E3T _)).new _,by omega,λid hn=>?_,?_,?_,?_,?_⟩
  ·obtain ⟨R,x,hR,hx,hnm⟩:=hn;rw [r4] at hR;cases hR;obtain ⟨fi,fc,rfl⟩:=hv2;simp only [wkC,List.mem_cons,List.not_mem_nil,or_false] at hx;rcases hx with rfl | rfl | rfl | rfl | rfl | rfl | rfl | rfl | rfl | rfl | rfl | rfl<;>cases hnm<;>omega
  ·intro x hx;exact R6 x (by unfold G8 at hx;dsimp only at hx;rw [hN] at hx;simpa using hx)
  ·simp [G8]
  ·simp [G8]
  ·refine ⟨_,_,_,_,_,_,_,[],[(.i .i64 1,.c (.i .i64 1))],r4,⟨λi j a x y hi hj hx hy=>?_,λx hx=>?_⟩,.inr ⟨_,rfl,at_ 5 _ (by rw [hT];rfl),rfl,by omega⟩,?_,?_,.inl ⟨rfl,rfl,rfl⟩,.inl ⟨rfl,rfl,rfl⟩,at_ 2 _ (by rw [hT];rfl),MapI.nil,at_ 3 _ (by rw [hT];rfl),MapI.nil.put 1 1⟩
   ·obtain ⟨fi,fc,rfl⟩:=hv2;have hi2:=(List.getElem?_eq_some_iff.1 hi).1;have hj2:=(List.getElem?_eq_some_iff.1 hj).1;simp only [wkC,E3Z,E4h] at hi2 hj2;have cases12:∀ k:Nat,k<12->k=0\/k=1\/k=2\/k=3\/k=4\/k=5\/k=6\/k=7\/k=8\/k=9\/k=10\/k=11:=λk hk=>by omega
    rcases cases12 i (by omega) with rfl | rfl | rfl | rfl | rfl | rfl | rfl | rfl | rfl | rfl | rfl | rfl<;>(cases hi;try cases hx) <;>
     (rcases cases12 j (by omega) with rfl | rfl | rfl | rfl | rfl | rfl | rfl | rfl | rfl | rfl | rfl | rfl<;>(cases hj;try simp [nmC] at hy)<;>first | rfl | omega)
   ·obtain ⟨fi,fc,rfl⟩:=hv2;simp only [wkC,List.mem_cons,List.not_mem_nil,or_false] at hx;rcases hx with rfl | rfl | rfl | rfl | rfl | rfl | rfl | rfl | rfl | rfl | rfl | rfl<;>simp [nmC]
   ·have e:(G8 D n).ino=E3Q N (zI 11):=by unfold G8;rw [hN];simp
    rw [e,E4g];exact .inr ⟨_,rfl,at_ 6 _ (by rw [hT];rfl),by rw [U2 R6,E4g],by omega⟩
   ·have e:(G8 D n).taken=E3Q D.length false:=rfl;rw [e,E4g];exact .inr ⟨_,rfl,at_ 7 _ (by rw [hT];rfl),by simp [N6],by omega⟩
 have r4:=at_ 4 (rT W) (by rw [hT];rfl);have noN:∀ k:Nat,k<2->¬ Nam (g++T) (g.length+4) (g.length+k):=by
  rintro k hk ⟨R,x,hR,hx,hnm⟩;rw [r4,hW] at hR;cases hR;obtain ⟨fi,fc,rfl⟩:=hv2;simp only [wkC,List.mem_cons,List.not_mem_nil,or_false] at hx;rcases hx with rfl | rfl | rfl | rfl | rfl | rfl | rfl | rfl | rfl | rfl | rfl | rfl<;>simp [nmC] at hnm<;>omega
 have hTl:T.length=8:=by rw [hT];rfl
 have hGl:(g++T).length=g.length+8:=by rw [E3S,hTl]
 have LV:LocV (g++T) (g.length+4) g.length (vwC D.length n m f):=⟨⟨by omega,by omega,by simpa using noN 0 (by omega)⟩,by simpa using at_ 0 _ (by rw [hT];rfl)⟩;have LR:LocV (g++T) (g.length+4) (g.length+1) [.ns,.ns,.ns,.ns,.ns,o0]:=⟨⟨by omega,by omega,noN 1 (by omega)⟩,at_ 1 _ (by rw [hT];rfl)⟩;obtain ⟨K,hK⟩:∃ K,K=(jU D.length n).toNat:=⟨_,rfl⟩;have hKr:=A0I (b:=(D.length:Int)) (n:=n);have hKD:K<=D.length/\K<=1000:=by
  rw [hK];have:jU (D.length:Int) n<=D.length:=D8Z hm;omega
 have D84:=C0O (b:=D.length) (n:=n) (m:=m) (h:=g++T);rw [<-hK] at D84;have eu:(upto K).length=K:=by simp [upto]
 have P1:=P0.more hv2 [rT (encI (upto K))];have F1:Fr (g.length+4) (g++T) (g++T++[rT (encI (upto K))]):=Fr.low ((Low.refl (E3T _)).new _) P0.rlt;have LO:LocV (g++T++[rT (encI (upto K))]) (g.length+4) ((g++T).length+0) (encI (upto K)):=LocV.new (k:=0) hv2 P0 rfl;rw [E4U] at LO;obtain ⟨h1,e1,P2,F2,LV2,LR2⟩:=D7V (c:=G8 D n) (q:=1200) (pv:=g.length) (pr:=g.length+1) (sid:=(g++T).length) (h0:=g++T) hv hKD.1 hKD.2 K 0 1200 _ (by omega) (by omega) P1 F1 (LV.fr F1) (LR.fr F1) LO;have hsO:=ownR_same (c:=G8 D n) (k:=K);have rI:RowW n (oV (G8 D n) K):=by
  refine RowW.same (c:=G8 D n) ⟨by simp [G8],λi=>?_,λi hi=>?_⟩ hsO.row hsO.par
  ·by_cases c1:i=1
   ·subst c1;simp [G8,tP]
   ·simp [G8,tP,c1]
  ·simp [G8] at hi;omega
 have smI:Small (oV (G8 D n) K) 128 (224*0) (33*0) (224*0):=⟨by rw [hsO.row];simp [G8],λi=>by rw [hsO.lnk];simp [G8],by rw [hsO.blocks];simp [G8],by rw [hsO.made];simp [G8],by rw [hsO.lost];simp [G8],by rw [hsO.lost];simp [G8]⟩;obtain ⟨M',h2,e2,P3,F3,LV3,LR3,rO,smO⟩:=D9l (q:=1200) (pv:=g.length) (pr:=g.length+1) (h0:=g++T) hD hv n128 129 0 1200 (oV (G8 D n) K) h1 (by omega) (by omega) (by omega) rI smI P2 F2 LV2 LR2;have ecO:ofR D n 129 0 (oV (G8 D n) K)=W5 D n:=by unfold W5;rw [<-hK]
 rw [ecO] at e2 P3 rO smO;obtain ⟨c,hc⟩:∃ c,c=W5 D n:=⟨_,rfl⟩;rw [<-hc] at e2 P3 rO smO;have vQ:1<=c.row.length:=by
  have:(oV (G8 D n) K).row.length<=c.row.length:=by rw [hc,<-ecO];exact D0E
  rw [hsO.row] at this;simpa [G8] using this
 obtain ⟨xr,xi,xt,xb,xm,ml,mp,es1,es2,g1,g2,g3,g4,g5,g6,g7,g8,g9,g10,g11⟩:=id P3.row;rcases g3 with ⟨e0,_,_⟩ | ⟨rid,rfl,r1,r2,r3⟩
 ·omega
 have l4:B4 h2 (.c (.p (g.length+4) 4))=some (.c (.sl rid 0 c.row.length 1)):=B5 g1 rfl rfl;have c0:¬ ((c.row.length:Nat):Int)<(c.row.length:Nat):=by omega
 have r128:=B65 rO.nd λa ha=>⟨(rO.rg a ha).1,by have:=(rO.rg a ha).2;omega⟩
 obtain ⟨M2,h3,e3,P4,F4,z,wE,LR4⟩:=D5Q (q:=1200) (pr:=g.length+1) (rid:=rid) (R:=c.row) (h0:=g++T) hv (by omega) rO.rg c.row.length 0 1200 c h2 (by omega) (by omega) P3 F3 ⟨_,rfl,LR3⟩ ⟨_,g1,rfl⟩ r1;rw [E39] at P4;have ecF:Q6 c c.row=P6 D n:=by unfold P6;rw [<-hc]
 rw [ecF] at P4;obtain ⟨yr,yi,yt,yb,ym,nl,np,fs1,fs2,k1,k2,_⟩:=id P4.row;have l6:C8 h3 6 (.c (.p (g.length+4) 4))=some (.a [yr,yi,yt,yb,ym,.i .i64 (P6 D n).lost]):=by rw [cF k1 (by simp [wkC]) rfl];rfl
 have s6:=storeAll (n:=6) (xs:=[yr,yi,yt,yb,ym,.i .i64 (P6 D n).lost]) LR4.2 wE rfl;have LR5:=LR4.self (cs':=[yr,yi,yt,yb,ym,.i .i64 (P6 D n).lost]);have l6':=B8 (n:=6) LR5.2 rfl;refine ⟨[yr,yi,yt,yb,ym,.i .i64 (P6 D n).lost],h3.set (g.length+1) (rT [yr,yi,yt,yb,ym,.i .i64 (P6 D n).lost]),?_,P4.set LR4.1 (by omega),vwC D.length n m f,[.m nl,.m np],?_,rfl,rfl,by rw [<-hc];exact rO,by rw [<-hc];exact smO⟩
 rotate_left
 ·rw [A7 LR4.1.2.1,k1];rfl
 rw [B1K];rw [A9u 1200 M'] at e2;rw [A9w 1200 M2] at e3;have E0S:A1R (g++[rT (vwC D.length n m f),rT [Cell.ns,.ns,.ns,.ns,.ns,o0],some (S3 []),some (S3 [])]) (some .i64) (.c (.m (g.length+3))) (.c (.i .i64 1)) (.c (.i .i64 1))=some (g++[rT (vwC D.length n m f),rT [Cell.ns,.ns,.ns,.ns,.ns,o0],some (S3 []),some (S3 [(.i .i64 1,.c (.i .i64 1))])]):=by
  rw [E1j (F:=λ_=>none) (es:=[]) (by simp) MapI.nil];simp [A7y,B0a,mgo]
 have ef1:D9 [o0,o0,.i .u64 0,.nf,.ns,.ns,.ns,.ns,.ns,o0,.nm,.nm] [(0,4,.a (vwC D.length n m f)),(10,1,.c (.m (g.length+2))),(11,1,.c (.m (g.length+3)))]=some (vwC D.length n m f++[.ns,.ns,.ns,.ns,.ns,o0,.m (g.length+2),.m (g.length+3)]):=rfl;have ef2:D9 [o0] [(0,1,.c (.i .i64 1))]=some [.i .i64 1]:=rfl;have lv0:ld1 (rT (vwC D.length n m f)) 0=some (.c (.i .i64 (D.length:Int))):=rfl;have lv1:ld1 (rT (vwC D.length n m f)) 1=some (.c (.i .i64 n)):=rfl;have l4v:=E0e (b:=D.length) (n:=n) (m:=m) (f:=f);have l3v:=D2Z (b:=D.length) (n:=n) (m:=m) (f:=f);have wn:IntKind.wrap .i64 (n+1)=(N:Int):=by rw [wrap_i64 (by omega) (by omega),hN]
 have nt:∀ k:Nat,k<=1000->A4y (.c (.i .i64 (k:Int)))=some k:=λk hk=>by
  simp only [A4y];rw [if_pos (by omega)];simp
 have am1:A5P (.c (.i .i64 (N:Int))) (.c (.i .i64 (N:Int)))=some N:=by simp only [A5P,nt N (by omega),E3X];rw [if_pos (E3T _)]
 have am2:A5P (.c (.i .i64 (D.length:Int))) (.c (.i .i64 (D.length:Int)))=some D.length:=by simp only [A5P,nt D.length (by omega),E3X];rw [if_pos (E3T _)]
 have ef3:D9 [Cell.ns,.ns,.ns,.ns,.ns,o0] [(0,1,.c (.sl (g.length+5) 0 1 1)),(1,1,.c (.sl (g.length+6) 0 N 11)),(2,1,.c (.sl (g.length+7) 0 D.length 1))]=some [.sl (g.length+5) 0 1 1,.sl (g.length+6) 0 N 11,.sl (g.length+7) 0 D.length 1,.ns,.ns,o0]:=rfl;have sw:stN (rT (vwC D.length n m f++[.ns,.ns,.ns,.ns,.ns,o0,.m (g.length+2),.m (g.length+3)])) 4 6 [.sl (g.length+5) 0 1 1,.sl (g.length+6) 0 N 11,.sl (g.length+7) 0 D.length 1,.ns,.ns,o0]=rT W:=by rw [hW];rfl
 have rz1:rows [o0,o0,o0,o0,o0,o0,o0,o0,o0,o0,o0] N=S6 (E3Q N (zI 11)):=by unfold rows S6;rw [List.map_replicate];rfl
 have rz2:rows [Cell.b false] D.length=N6 (E3Q D.length false):=by unfold rows N6;rw [List.map_replicate,List.flatten_replicate_singleton]
 rw [hT] at e1;rw [hT] at D84;simp only [esc,Nat.reduceAdd] at D84;have c00:((0:Nat):Int)=0:=rfl;rw [c00] at e1 e2 e3;generalize S6 (E3Q N (zI 11))=ZI at *;generalize N6 (E3Q D.length false)=ZB at *;generalize vwC D.length n m f=V at *;simp only [esc,X8,N2,gO,S7,R4,J0,Nat.reduceAdd,l3v,l4v,hCk,E0S,ef1,ef2,lv0,lv1,wn,am1,am2,ef3,sw,rz1,rz2,Nat.add_assoc];simp only [esc,D84];simp only [esc,Nat.reduceAdd] at e1;refine e1.trans ?_;refine e2.trans ?_;simp only [esc,Nat.reduceAdd,l4,c0];refine e3.trans ?_;simp only [esc,Nat.reduceAdd,c0,l6,s6,l6']
end
end
theorem D13 (l:List (List Int)):N3 (S6 l)=true:=by
 induction l with
 | nil=>rfl
 | cons x l ih =>
  rw [Y8,yR,ih];simp [N3,encI,Cell.flat]
theorem D12 (l:List Bool):N3 (N6 l)=true:=by simp [N3,N6,Cell.flat]
theorem C89 (l:List Bool):noX (N6 l)=true:=by simp [noX,N6,Cell.isX]
theorem C0t {D:Dev} {n m:Int} {f:Cell} {h:A6} (hD:okD D) (hv:IsView h f D) (hm:R9 D.length n=true) :
  ∃ cs t,sM [.a (vwC D.length n m f)] h=some (.a cs,h++t)/\IsCl (h++t) cs (P6 D n)/\t.all B2q=true:=by
 obtain ⟨six,g',e,P,V,t,hr,hV,h6,_,_⟩:=C8J (n:=n) (m:=m) hD hv.ro hm;obtain ⟨xr,xi,xt,xb,xm,ml,mp,es1,es2,g1,g2,g3,g4,g5,g6,g7,_⟩:=id P.row;obtain ⟨c,hc⟩:∃ c,c=P6 D n:=⟨_,rfl⟩;rw [<-hc] at g1 g2 g3 g4 g5 g6 g7 P ⊢;rw [g1] at hr;simp only [Option.some.injEq,Row.mk.injEq,and_true] at hr;have e6:six=[xr,xi,xt,xb,xm,.i .i64 c.lost]:=by
  have h1:(wkC D n m f xr xi xt xb xm c.lost ml mp).drop 4=(six++t):=by rw [hr,E3U,List.drop_left' hV]
  have h2:((wkC D n m f xr xi xt xb xm c.lost ml mp).drop 4).take 6=six:=by rw [h1,List.take_left' h6]
  rw [<-h2];rfl
 have low:∀ (i:Nat) (x:Cell) (id:Nat),(wkC D n m f xr xi xt xb xm c.lost ml mp)[i]?=some x->nmC x=some id->(ro h).length<=id:=λi x id hi hx=>P.low id (B4i g1 hi hx)
 obtain ⟨l2,fin,c1,_,c3,c4⟩:=B3Z (h2:=g') (b:=(ro h).length) six [] (λx hx=>by
   rw [e6] at hx;simp only [List.mem_cons,List.not_mem_nil,or_false] at hx;rcases hx with rfl | rfl | rfl | rfl | rfl | rfl
   ·exact g3.canon (by simp [N3,encI,Cell.flat]) λid e=>low 4 _ _ rfl e
   ·exact g4.canon (D13 _) λid e=>low 5 _ _ rfl e
   ·exact g5.canon (D12 _) λid e=>low 6 _ _ rfl e
   ·exact g6.canon (by simp [N3,encI,Cell.flat]) λid e=>low 7 _ _ rfl e
   ·exact g7.canon fN λid e=>low 8 _ _ rfl e
   ·exact .inl rfl) (λi j a x y hi hj hx hy=>by
   have sh:∀ (i:Nat) (x:Cell),six[i]?=some x->(wkC D n m f xr xi xt xb xm c.lost ml mp)[4+i]?=some x:=λi x hi=>by
    rw [hr,E3U,E35 (by omega),hV,show 4+i-4=i by omega,E4r (List.getElem?_eq_some_iff.1 hi).1];exact hi
   have:=g2.1 (4+i) (4+j) a x y (sh i x hi) (sh j y hj) hx hy;omega) (λx hx a ha=>by simp)
 have hgood:=(A33 (μ:=λ_=>none) (μ':=λ_=>none) (λ_ _=>rfl) _ _ _ _ c1 Good.nil).1;have D17:(fin.map (rd g')).all B2q=true:=by
  rw [E4H];intro x hx;obtain ⟨j,hj,rfl⟩:=List.mem_map.1 hx;obtain ⟨_,r,h1,h2,_⟩:=hgood.ok j hj;rw [h1];exact Row.own_rw h2
 rw [E7] at c1 c4;have hS:=C1C e (v2:=.a l2) (ids:=fin) (by simp only [W4,c1,E4T]);refine ⟨l2,_,hS,?_⟩;rw [e6] at c3 c4;have q0:=c4 0 _ rfl;have q1:=c4 1 _ rfl;have q2:=c4 2 _ rfl;have q3:=c4 3 _ rfl;have q4:=c4 4 _ rfl;have q5:=c4 5 _ rfl;obtain ⟨y0,y1,y2,y3,y4,y5,rfl⟩:∃ y0 y1 y2 y3 y4 y5,l2=[y0,y1,y2,y3,y4,y5]:=by
  match l2,c3 with
  | [a,b,c,d,e,f],_=>exact ⟨a,b,c,d,e,f,rfl⟩
 simp only [List.getElem?_cons_zero,E4C,Option.some.injEq] at q0 q1 q2 q3 q4 q5;have e5:y5=.i .i64 c.lost:=by
  rcases q5 with ⟨_,h1⟩ | ⟨_,_,_,_,_,h1,_⟩
  ·exact h1
  ·cases h1
 subst e5;exact ⟨⟨_,_,_,_,_,rfl,g3.moved (cG _) q0,g4.moved (B0V _) q1,g5.moved (C89 _) q2,g6.moved (cG _) q3,g7.moved (fS _) q4⟩,D17⟩
theorem D0a {b n m:Int} {f:Cell} {h:A6} (hm:R9 b n=false):sM [.a (vwC b n m f)] h=some (.a [.ns,.ns,.ns,.ns,.ns,o0],h):=by
 have hCk:=λh=>bB (b:=b) (n:=n) (m:=m) (h:=h)
 rw [hm,cond_false] at hCk;have key:∀ g,∃ g',zW 0 [.a (vwC b n m f)] g=some (.a [.ns,.ns,.ns,.ns,.ns,o0],g'):=by
  intro g;have l3v:=D2Z (b:=b) (n:=n) (m:=m) (f:=f);have n10:¬ (1:Int)=0:=by decide
  have ef:D9 [Cell.ns,.ns,.ns,.ns,.ns,o0] []=some [.ns,.ns,.ns,.ns,.ns,o0]:=rfl;have s6:stN (rT [Cell.ns,.ns,.ns,.ns,.ns,o0]) 0 6 [.ns,.ns,.ns,.ns,.ns,o0]=rT [.ns,.ns,.ns,.ns,.ns,o0]:=rfl;have l6:ldN (rT [Cell.ns,.ns,.ns,.ns,.ns,o0]) 0 6=some (.a [.ns,.ns,.ns,.ns,.ns,o0]):=rfl;rw [B1K];generalize vwC b n m f=V at *;exact ⟨_,by simp only [esc,X8,N2,R4,J0,Nat.reduceAdd,l3v,hCk,n10,ef,s6,l6]<;>rfl⟩
 obtain ⟨g',e⟩:=key (ro h);exact C1B e rfl
theorem C82 {R:List Int} {a:Int} {y:Cell} {q:Nat} {h:A6} (hy:∀ i,i<R.length->∃ ad,D6 1 (.c y) (iV (i:Int))=some ad/\B4 h ad=some (iV (R.getD i 0))) (hR:R.length<=1000):∀ (e i M:Nat),i+e=R.length->e<M ->
  B13 q M (iV a) (.c y) (iV (R.length:Nat)) (iV (i:Int)) h=some (bV (decide (a∈R.drop i)),h)
 | e,i,0,_,hM=>by omega
 | 0,i,M+1,hi,_=>by
  have c0:¬ ((i:Int)<(R.length:Nat)):=by omega
  rw [A39,E32 (by omega)];simp only [esc,c0];simp
 | e+1,i,M+1,hi,hM=>by
  have R6:i<R.length:=by omega
  have c0:((i:Int)<(R.length:Nat)):=by omega
  have w1:=C6 (show i+1<9223372036854775808 by omega);obtain ⟨ad,a1,a2⟩:=hy i R6;have eg:R.getD i 0=R[i]:=by simp [List.getD,R6]
  rw [eg] at a2;rw [A39,E3V R6];by_cases c1:R[i]=a
  ·rw [c1] at a2 ⊢;simp only [esc,c0,a1,a2,eq_self];simp
  ·have ih:=C82 (q:=q) (a:=a) hy hR e (i+1) M (by omega) (by omega);simp only [esc,c0,a1,a2,c1,w1];rw [ih];have:(a∈R[i]::R.drop (i+1))↔a∈R.drop (i+1):=by
    rw [List.mem_cons];constructor
    ·rintro (h | h)
     ·exact absurd h.symm c1
     ·exact h
    ·exact .inr
   simp only [this]
theorem A3i {cs:List Cell} {c:Cl} {a:Int} {h:A6} (hc:IsCl h cs c) (hR:c.row.length<=1000):A5i [.a cs,iV a] h=some (bV (decide (a∈c.row)),h):=by
 obtain ⟨xr,xi,xt,xb,xm,rfl,h1,_⟩:=hc.form;have key:∃ g',A4Y 1100 [.a [xr,xi,xt,xb,xm,.i .i64 c.lost],iV a] (ro h)=some (bV (decide (a∈c.row)),g'):=by
  have h2:=h1.ro.more [rT [xr,xi,xt,xb,xm,.i .i64 c.lost]];have hl:=h2.len;have k:=C82 (q:=1100) (a:=a) (R:=c.row) (y:=xr) (h:=ro h++[rT [xr,xi,xt,xb,xm,.i .i64 c.lost]]) (λi hi=>by
   obtain ⟨id,off,e,_,hA,_⟩:=h2.sl (by omega);cases e;refine ⟨pV id (off+i*1),C5 hi,?_⟩;rw [Nat.mul_one];exact hA i _ (by rw [F0,E30,E3P hi];rfl)) hR c.row.length 0 1100 (by omega) (by omega)
  rw [E39] at k;refine ⟨ro h++[rT [xr,xi,xt,xb,xm,.i .i64 c.lost]],?_⟩
  ·rw [C1d];have l0:B4 (ro h++[rT [xr,xi,xt,xb,xm,.i .i64 c.lost]]) (pV (ro h).length 0)=some (.c xr):=by rw [S7];exact A6a
   simp only [esc,l0,hl];exact k
 obtain ⟨g',e⟩:=key;exact B5n e rfl
section
def A4C (O:Dev) (no:Int) (b:List UInt8):Dev:=if 0<=no/\no<O.length then O.set no.toNat b else O
theorem vW {O:Dev} {no:Int} {b:List UInt8}:(A4C O no b).length=O.length:=by unfold A4C;split<;>simp
theorem okD.put {O:Dev} (h:okD O) {no:Int} {b:List UInt8} (hb:b.length=256):okD (A4C O no b):=by
 unfold A4C;split
 ·exact h.set hb
 ·exact h
structure OutD (g:A6) (p id:Nat) (O:Dev) (h:A6):Prop where
 lo:Low g.length g h
 gp:g.length<=p
 gid:g.length<=id
 ne:p≠id
 var:rd h p=rT [.sl id 0 O.length 256]
 blk:rd h id=rT (D4 O)
theorem OutD.more {g h:A6} {p id:Nat} {O:Dev} (k:OutD g p id O h) (t:A6):OutD g p id O (h++t) :=
 ⟨k.lo.new t,k.gp,k.gid,k.ne,B7 k.var,B7 k.blk⟩
theorem OutD.set {g h:A6} {p id:Nat} {O O':Dev} (k:OutD g p id O h) (hl:O'.length=O.length):OutD g p id O' (h.set id (rT (D4 O'))) :=
 ⟨k.lo.set k.gid _,k.gp,k.gid,k.ne,by rw [A7 (Ne.symm k.ne),hl];exact k.var,by rw [B6 (C4 k.blk)]⟩
theorem put_eq {g h:A6} {p id:Nat} {O:Dev} {no:Int} {b:List UInt8} (k:OutD g p id O h) (hO:okD O) (hb:b.length=256) :
  ∃ h',nA [iV no,.a (A5 b),pV p 0] h=some (.t [],h')/\OutD g p id (A4C O no b) h'/\h.length<=h'.length/\∀ j,j<h.length->j≠id->rd h' j=rd h j:=by
 obtain ⟨H,hH⟩:∃ H,H=h++[rT (A5 b)]:=⟨_,rfl⟩;have kH:OutD g p id O H:=by rw [hH];exact k.more _
 have lV:B4 H (pV p 0)=some (sV id 0 O.length 256):=B5 kH.var rfl rfl;have lB:C8 H 256 (pV h.length 0)=some (.a (A5 b)):=B8 (by rw [hH,F8];rfl) (by rw [A4,hb]);have cl:cells? (.a (A5 b))=some (A5 b):=rfl;have same:∀ j,j<h.length->rd H j=rd h j:=λj hj=>by rw [hH,D1 hj]
 have len:H.length=h.length+1:=by rw [hH];simp
 by_cases c0:0<=no
 ·by_cases c1:no<(O.length:Nat)
  ·obtain ⟨i,rfl⟩:=E4v c0;have hi:i<O.length:=by omega
   have ad:D6 256 (sV id 0 O.length 256) (iV (i:Int))=some (pV id (i*256)):=by rw [C5 hi];simp
   have sd:E1 H 256 (pV id (i*256)) (.a (A5 b))=some (H.set id (rT (D4 (O.set i b)))):=B02 kH.blk hO hb hi;have ep:A4C O (i:Int) b=O.set i b:=by unfold A4C;rw [if_pos ⟨c0,c1⟩];simp
   rw [ep];refine ⟨_,nH (n:=0) (p:=(.t [],H.set id (rT (D4 (O.set i b))))) ?_,kH.set (by simp),by simp;omega,λj hj U1=>by rw [A7 (Ne.symm U1)];exact same j hj⟩;rw [nF];have c0':(i:Int)>=0:=c0;simp only [esc,cl,<-hH,c0',lV,c1,lB,ad,sd];rfl
  ·have ep:A4C O no b=O:=by unfold A4C;rw [if_neg (by omega)]
   rw [ep];refine ⟨_,nH (n:=0) (p:=(.t [],H)) ?_,kH,by omega,λj hj U1=>same j hj⟩;rw [nF];have c0':no>=0:=c0;simp only [esc,cl,<-hH,c0',lV,c1];rfl
 ·have ep:A4C O no b=O:=by unfold A4C;rw [if_neg (by omega)]
  rw [ep];refine ⟨_,nH (n:=0) (p:=(.t [],H)) ?_,kH,by omega,λj hj U1=>same j hj⟩;rw [nF];have c0':¬ no>=0:=c0;simp only [esc,cl,<-hH,c0'];rfl
def D5V (x:List Int):Prop:=x.length=11/\A1a (x.getD 0 0) (x.getD 1 0) (x.getD 2 0) (x.getD 3 0) (x.drop 4)=true
def D2c (x:List Int):List UInt8:=fO (x.getD 0 0) (x.getD 1 0) (x.getD 2 0) (x.getD 3 0) (x.drop 4)
theorem D5v {x:List Int} (h:x.length=11):encI x=E6 (x.getD 0 0) (x.getD 1 0) (x.getD 2 0) (x.getD 3 0) (x.drop 4):=by
 match x,h with
 | [a,b,c,d,e,f,g,i,j,k,l],_=>rfl
theorem C0S {x:List Int} (h:x.length=11):(D2c x).length=32:=by
 unfold D2c fO;rw [E3S,E3S,eZ,kD,List.length_drop,h,zeros_length]
def C6d (O:Dev):List Int->List (List UInt8)->Dev
 | no::l,b::m=>C6d (A4C O no b) l m
 | _,_=>O
def B9l (O:Dev) (no:Int):Nat->Dev
 | 0=>O
 | e+1=>B9l (A4C O no (zeros 256)) (no+1) e
def C7L (n:Int) (O:Dev) (i:Nat) (x:List Int):Dev :=
 if S8 O.length n i=true then A4C O (dZ O.length n i) (I6 (blk O (dZ O.length n i)) (32*(fW O.length n i).toNat) (D2c x)) else O
def C0T (n:Int):Dev->Nat->List (List Int)->Dev
 | O,_,[]=>O
 | O,i,x::l=>C0T n (C7L n O i x) (i+1) l
def C7X:Nat->List Bool->List Nat
 | _,[]=>[]
 | i,b::l=>if b=true then i::C7X (i+1) l else C7X (i+1) l
def D3w (D:Dev) (n:Int) (c:Cl):Dev :=
 A4C (C0T n (B9l (C6d D c.blocks c.made) (A02 D.length n) (A7A D.length n).toNat) 0 c.ino) 1 (oM (C7X 0 c.taken))
theorem C9g {O:Dev} {m:List (List UInt8)}:C6d O [] m=O:=by cases m<;>rfl
theorem D2z:∀ {l:List Int} {m:List (List UInt8)} {O:Dev},okD O->(∀ b∈m,b.length=256)->okD (C6d O l m)/\(C6d O l m).length=O.length
 | [],_,O,h,_=>by rw [C9g];exact ⟨h,rfl⟩
 | _::_,[],O,h,_=>⟨h,rfl⟩
 | no::l,b::m,O,h,hm=>by
  obtain ⟨h1,h2⟩:=D2z (l:=l) (m:=m) (O:=A4C O no b) (h.put (hm b (E4c ..))) λx hx=>hm x (E4a _ hx)
  exact ⟨h1,h2.trans vW⟩
theorem C9y:∀ {e:Nat} {no:Int} {O:Dev},okD O->okD (B9l O no e)/\(B9l O no e).length=O.length
 | 0,_,O,h=>⟨h,rfl⟩
 | e+1,no,O,h=>by
  obtain ⟨h1,h2⟩:=C9y (e:=e) (no:=no+1) (h.put (no:=no) zeros_length);exact ⟨h1,h2.trans vW⟩
theorem D4G {n:Int} {O:Dev} {i:Nat} {x:List Int} (h:okD O) (hx:x.length=11) (hn:n<=128):okD (C7L n O i x)/\(C7L n O i x).length=O.length:=by
 unfold C7L;split
 ·refine ⟨h.put ?_,vW⟩;rename_i hc;have hk:(fW O.length n i).toNat<8:=by unfold fW;rw [hc];simp only [cond_true];omega
  rw [O8 (by rw [O0 h,C0S hx];omega),O0 h]
 ·exact ⟨h,rfl⟩
theorem D2d {n:Int} (hn:n<=128):∀ {l:List (List Int)} {i:Nat} {O:Dev},okD O->(∀ x∈l,x.length=11)->okD (C0T n O i l)/\(C0T n O i l).length=O.length
 | [],_,O,h,_=>⟨h,rfl⟩
 | x::l,i,O,h,hx=>by
  have h1:=D4G (n:=n) (i:=i) h (hx x (E4c ..)) hn;have h2:=D2d (n:=n) hn (l:=l) (i:=i+1) h1.1 λy hy=>hx y (E4a _ hy)
  exact ⟨h2.1,h2.2.trans h1.2⟩
section
variable {D:Dev} {n m:Int} {f:Cell} {g:A6} {p id q pv pc:Nat} {xr xi xt xb xm:Cell} {lost:Int} {c:Cl}
theorem B8V {a b:Val} {h:A6}:A1U oW (.c (.f 52 [(p,0)])) [a,b] h=nA [a,b,pV p 0] h:=rfl
theorem E0Y (hpc:rd g pc=rT [xr,xi,xt,xb,xm,.i .i64 lost]) {bl:List Int} {md:List (List UInt8)} (hb:Has g (.c xb) 1 bl.length (encI bl)) (hm:Has g (.c xm) 256 md.length (D4 md)) (hl:bl.length=md.length) (hmd:∀ b∈md,b.length=256) (hB:bl.length<=1000000) :
  ∀ (e i M:Nat) (O:Dev) (h:A6),i+e=bl.length->e<M->okD O->OutD g p id O h ->
  ∃ h' M',dS q M (pV pv 0) (pV pc 0) (pV p 0) (.c (.f 52 [(p,0)])) (.c xb) (iV (bl.length:Nat)) (iV (i:Int)) h =
   dS q (M'+1) (pV pv 0) (pV pc 0) (pV p 0) (.c (.f 52 [(p,0)])) (.c xb) (iV (bl.length:Nat)) (iV (bl.length:Nat)) h'/\OutD g p id (C6d O (bl.drop i) (md.drop i)) h':=by
 intro e
 induction e with
 | zero =>
  intro i M O h hi hM hO k;obtain ⟨M,rfl⟩:∃ M',M=M'+1:=⟨M-1,by omega⟩;have ei:i=bl.length:=by omega
  subst ei;refine ⟨h,M,rfl,?_⟩;rw [List.drop_length,C9g];exact k
 | succ e ih =>
  intro i M O h hi hM hO k;obtain ⟨M,rfl⟩:∃ M',M=M'+1:=⟨M-1,by omega⟩;have R6:i<bl.length:=by omega
  have him:i<md.length:=by omega
  have c0:(i:Int)<(bl.length:Nat):=by omega
  have c1:(i:Int)<(md.length:Nat):=by omega
  have w1:=C6 (show i+1<9223372036854775808 by omega);have hb':=hb.since k.lo;have hm':=hm.since k.lo;obtain ⟨ib,ob,eb,_,hA,_⟩:=hb'.sl (by omega);cases eb;obtain ⟨im,om,em,_,_,hC⟩:=hm'.sl (by omega);cases em;have a1:D6 1 (sV ib ob bl.length 1) (iV (i:Int))=some (pV ib (ob+i)):=by rw [C5 R6];simp
  have a2:B4 h (pV ib (ob+i))=some (iV bl[i]):=hA i _ (by rw [F0,E3P R6];rfl);have a3:B4 h (pV pc 4)=some (sV im om md.length 256):=B5 (k.lo.rd hpc) rfl rfl;have a4:D6 256 (sV im om md.length 256) (iV (i:Int))=some (pV im (om+i*256)):=C5 him;have okm:okD md:=hmd;have a5:C8 h 256 (pV im (om+i*256))=some (.a (A5 md[i])):=by
   rw [hC (i*256) 256 (by rw [I5 okm];omega),dR okm him]
  obtain ⟨h1,b1,b2,_⟩:=put_eq (no:=bl[i]) (b:=md[i]) k hO (hmd _ (E4u him));obtain ⟨h',M',e1,e2⟩:=ih (i+1) M _ h1 (by omega) (by omega) (hO.put (hmd _ (E4u him))) b2;rw [E3V R6,E3V him];refine ⟨h',M',?_,e2⟩;rw [jR];simp only [esc,Nat.reduceAdd,c0,a1,a2,a3,C96,c1,a4,a5,B8V,b1,A0G,w1];exact e1
theorem E0Z (t0 tn:Int) (h0:0<=t0/\t0<=100) (hn:0<=tn/\tn<=100) :
  ∀ (e:Nat) (i:Int) (M:Nat) (O:Dev) (h:A6),i+e=t0+tn->t0<=i->e<M->okD O->OutD g p id O h ->
  ∃ h' M',dT q M (pV pv 0) (pV pc 0) (pV p 0) (.c (.f 52 [(p,0)])) (iV t0) (iV tn) (iV i) h =
   dT q (M'+1) (pV pv 0) (pV pc 0) (pV p 0) (.c (.f 52 [(p,0)])) (iV t0) (iV tn) (iV (t0+tn)) h'/\OutD g p id (B9l O i e) h':=by
 intro e
 induction e with
 | zero =>
  intro i M O h hi hi0 hM hO k;obtain ⟨M,rfl⟩:∃ M',M=M'+1:=⟨M-1,by omega⟩;have ei:i=t0+tn:=by omega
  subst ei;exact ⟨h,M,rfl,k⟩
 | succ e ih =>
  intro i M O h hi hi0 hM hO k;obtain ⟨M,rfl⟩:∃ M',M=M'+1:=⟨M-1,by omega⟩;have w0:IntKind.wrap .i64 (t0+tn)=t0+tn:=wrap_i64 (by omega) (by omega);have w1:IntKind.wrap .i64 (i+1)=i+1:=wrap_i64 (by omega) (by omega);have c0:i<t0+tn:=by omega
  have ef:D9 (A5 (zeros 256)) []=some (A5 (zeros 256)):=rfl;obtain ⟨h1,b1,b2,_⟩:=put_eq (no:=i) (b:=zeros 256) k hO zeros_length;obtain ⟨h',M',e1,e2⟩:=ih (i+1) M _ h1 (by omega) (by omega) (by omega) (hO.put zeros_length) b2;refine ⟨h',M',?_,e2⟩;rw [jS,I3];generalize A5 (zeros 256)=Z at *;simp only [esc,w0,c0,ef,B8V,b1,w1];exact e1
end
end
section
theorem D6u {b n i:Int} (h:S8 b n i=true):2<=dZ b n i/\dZ b n i<b/\0<=fW b n i/\fW b n i<8:=by
 obtain ⟨h1,h2,h3⟩:=A2a.1 h;obtain ⟨_,_,_,_,h4,h5⟩:=N8.1 h1;unfold dZ fW;rw [h];simp only [cond_true];omega
section
variable {D:Dev} {n m:Int} {f:Cell} {g:A6} {p id q pv pc:Nat} {xr xi xt xb xm:Cell} {lost:Int} {c:Cl}
theorem E00 (hpv:rd g pv=rT (vwC D.length n m f)) {R:List (List Int)} (hx:Has g (.c xi) 11 R.length (S6 R)) (hR:∀ x∈R,D5V x) (hn:n<=128) (hB:R.length<=1000000) :
  ∀ (e i M:Nat) (O:Dev) (h:A6),i+e=R.length->e<M->okD O->O.length=D.length->OutD g p id O h ->
  ∃ h' M',dU q M (pV pv 0) (pV pc 0) (pV p 0) (.c (.f 52 [(p,0)])) (.c xi) (iV (R.length:Nat)) (iV (i:Int)) h =
   dU q (M'+1) (pV pv 0) (pV pc 0) (pV p 0) (.c (.f 52 [(p,0)])) (.c xi) (iV (R.length:Nat)) (iV (R.length:Nat)) h'/\OutD g p id (C0T n O i (R.drop i)) h':=by
 intro e
 induction e with
 | zero =>
  intro i M O h hi hM hO hlen k;obtain ⟨M,rfl⟩:∃ M',M=M'+1:=⟨M-1,by omega⟩;have ei:i=R.length:=by omega
  subst ei;refine ⟨h,M,rfl,?_⟩;rw [List.drop_length];exact k
 | succ e ih =>
  intro i M O h hi hM hO hlen k;obtain ⟨M,rfl⟩:∃ M',M=M'+1:=⟨M-1,by omega⟩;have R6:i<R.length:=by omega
  have c0:(i:Int)<(R.length:Nat):=by omega
  have w1:=C6 (show i+1<9223372036854775808 by omega);obtain ⟨x,ex⟩:∃ x,x=R[i]:=⟨_,rfl⟩;obtain ⟨xl,xm⟩:=hR R[i] (E4u R6);have h11:∀ x∈R,x.length=11:=λx hx=>(hR x hx).1
  have hx':=hx.since k.lo;obtain ⟨ii,oi,ei,_,_,hC⟩:=hx'.sl (by omega);cases ei;have a1:D6 11 (sV ii oi R.length 11) (iV (i:Int))=some (pV ii (oi+i*11)):=C5 R6;have a2:C8 h 11 (pV ii (oi+i*11))=some (.a (encI R[i])):=by
   rw [hC (i*11) 11 (by rw [U2 h11];omega),C5D h11 R6]
  rw [<-ex] at a2 xl xm;obtain ⟨G,hG⟩:∃ G,G=h++[rT (encI x)]:=⟨_,rfl⟩;have st:E1 (h++[rT [o0,o0,o0,o0,o0,o0,o0,o0,o0,o0,o0]]) 11 (pV h.length 0) (.a (encI x))=some G:=by
   rw [storeAll (n:=11) (cs:=[o0,o0,o0,o0,o0,o0,o0,o0,o0,o0,o0]) (by rw [F8];rfl) rfl (by rw [A8,xl]),cH,hG];rfl
  have kG:OutD g p id O G:=by rw [hG];exact k.more _
  have lv3:C8 G 3 (pV pv 0)=some (.a (D3 D.length n m)):=by rw [cF (kG.lo.rd hpv) (by simp [vwC]) rfl];rfl
  have hW:=A3t (b:=D.length) (n:=n) (m:=m) (i:=(i:Int)) (h:=G);have lx:C8 G 11 (pV h.length 0)=some (.a (encI x)):=B8 (by rw [hG,F8];rfl) (by rw [A8,xl]);rw [E3V R6,<-ex];have es:C0T n O i (x::R.drop (i+1))=C0T n (C7L n O i x) (i+1) (R.drop (i+1)):=rfl;rw [es];obtain ⟨okS,lenS⟩:=D4G (n:=n) (i:=i) (x:=x) hO xl hn;have lV:B4 G (pV p 0)=some (sV id 0 O.length 256):=B5 kG.var rfl rfl;cases hc:S8 (D.length:Int) n (i:Int) with
  | false =>
   rw [hc] at hW;have e1:C7L n O i x=O:=by unfold C7L;rw [hlen,hc];simp
   rw [e1] at okS lenS ⊢;obtain ⟨h',M',b1,b2⟩:=ih (i+1) M O G (by omega) (by omega) hO hlen kG;refine ⟨h',M',?_,b2⟩;rw [aV];generalize encI x=X at *;generalize D3 D.length n m=L at *;simp only [esc,Nat.reduceAdd,c0,a1,a2,st,lv3,hW,jP,w1];exact b1
  | true =>
   rw [hc] at hW;obtain ⟨w2,wb,k0,k8⟩:=D6u hc;obtain ⟨wB,hwB⟩:=E4v (show 0<=dZ D.length n i by omega);obtain ⟨wK,hwK⟩:=E4v k0;rw [hwB,hwK] at hW;have hwl:wB<O.length:=by omega
   have cW:(wB:Int)<(O.length:Nat):=by omega
   have hk8:wK<8:=by omega
   have ad:D6 256 (sV id 0 O.length 256) (iV (wB:Int))=some (pV id (wB*256)):=by rw [C5 hwl];simp
   have lb:C8 G 256 (pV id (wB*256))=some (.a (A5 O[wB])):=by
    rw [cF kG.blk (by rw [I5 hO];omega) rfl,dR hO hwl]
   have hT:=B2E (j:=wK) (k:=x.getD 0 0) (l:=x.getD 1 0) (s:=x.getD 2 0) (p:=x.getD 3 0) (d:=x.drop 4) (b:=O[wB]) (h:=G) (hO.at hwl) (by rw [List.length_drop,xl]) hk8 xm;rw [<-D5v xl] at hT;have ei:fO (x.getD 0 0) (x.getD 1 0) (x.getD 2 0) (x.getD 3 0) (x.drop 4)=D2c x:=rfl;rw [ei] at hT;have hbl:(I6 O[wB] (32*wK) (D2c x)).length=256:=by
    rw [O8 (by rw [hO.at hwl,C0S xl];omega),hO.at hwl]
   have sd:E1 G 256 (pV id (wB*256)) (.a (A5 (I6 O[wB] (32*wK) (D2c x))))=some (G.set id (rT (D4 (O.set wB (I6 O[wB] (32*wK) (D2c x)))))):=B02 kG.blk hO hbl hwl;have e1:C7L n O i x=O.set wB (I6 O[wB] (32*wK) (D2c x)):=by
    unfold C7L;rw [hlen,hc,if_pos rfl,hwB,hwK,C4G hwl];unfold A4C;rw [if_pos ⟨by omega,cW⟩];simp
   have kS:=kG.set (O':=C7L n O i x) lenS;obtain ⟨h',M',b1,b2⟩:=ih (i+1) M _ _ (by omega) (by omega) okS (by rw [lenS,hlen]) kS;refine ⟨h',M',?_,b2⟩;rw [e1] at b1;rw [aV];generalize encI x=X at *;generalize D3 D.length n m=L at *;simp only [esc,Nat.reduceAdd,c0,a1,a2,st,lv3,hW,lV,cW,ad,lb,lx,hT,sd,jP,w1];exact b1
theorem D6h {l:List Bool} {i:Nat} (hi:i<l.length):C7X i (l.drop i)=if l[i]=true then i::C7X (i+1) (l.drop (i+1)) else C7X (i+1) (l.drop (i+1)):=by
 rw [E3V hi];rfl
theorem E01 {T:List Bool} {N:Nat} (hx:Has g (.c xt) 1 T.length (N6 T)) (hT:T.length<=2048) {O:Dev} (hO:okD O) :
  ∀ (e i M:Nat) (S:List Nat) (sid:Nat) (h:A6),i+e=T.length->e<M->S.length<=i->(∀ x∈S,x<2048)->rd h sid=rT (encI (S.map λx:Nat=>(x:Int)))->g.length<=sid->sid≠p->sid≠id->OutD g p id O h ->
  ∃ h',oF q M (pV p 0) (.c (.f 52 [(p,0)])) (sV sid 0 S.length 1) (.c xt) (iV (T.length:Nat)) (iV (i:Int)) h=some (sV id 0 O.length 256,h') /\
   OutD g p id (A4C O 1 (oM (S++C7X i (T.drop i)))) h':=by
 intro e
 induction e with
 | zero =>
  intro i M S sid h hi hM hS hS2 hr hg n1 n2 k;obtain ⟨M,rfl⟩:∃ M',M=M'+1:=⟨M-1,by omega⟩;have ei:i=T.length:=by omega
  subst ei;have c0:¬ ((T.length:Nat):Int)<(T.length:Nat):=by omega
  have hC:=B11 (v:=sV sid 0 S.length 1) (nv:=S.length) (l:=S) (h:=h) hS2 (by omega) (Has.tr hr (by simp [encI]) (cG _));have hml:(oM S).length=256:=by unfold oM;rw [lM,zeros_length]
  obtain ⟨h1,b1,b2,_⟩:=put_eq (no:=1) (b:=oM S) k hO hml;have lV:B4 h1 (pV p 0)=some (sV id 0 (A4C O 1 (oM S)).length 256):=B5 b2.var rfl rfl;rw [vW] at lV;refine ⟨h1,?_,?_⟩
  ·rw [aW];simp only [esc,c0,vP,hC,B8V,b1,lV]
  ·rw [List.drop_length];have:S++C7X T.length []=S:=by simp [C7X]
   rw [this];exact b2
 | succ e ih =>
  intro i M S sid h hi hM hS hS2 hr hg n1 n2 k;obtain ⟨M,rfl⟩:∃ M',M=M'+1:=⟨M-1,by omega⟩;have R6:i<T.length:=by omega
  have c0:(i:Int)<(T.length:Nat):=by omega
  have w1:=C6 (show i+1<9223372036854775808 by omega);have hx':=hx.since k.lo;obtain ⟨ii,oi,ei,_,hA,_⟩:=hx'.sl (by omega);cases ei;have a1:D6 1 (sV ii oi T.length 1) (iV (i:Int))=some (pV ii (oi+i)):=by rw [C5 R6];simp
  have a2:B4 h (pV ii (oi+i))=some (bV T[i]):=hA i _ (by simp [N6,R6]);rw [D6h R6];cases hb:T[i] with
  | false =>
   rw [hb] at a2;obtain ⟨h',b1,b2⟩:=ih (i+1) M S sid h (by omega) (by omega) (by omega) hS2 hr hg n1 n2 k;refine ⟨h',?_,by simpa using b2⟩;rw [aW];simp only [esc,Nat.reduceAdd,c0,a1,a2,jQ,w1];exact b1
  | true =>
   rw [hb] at a2;obtain ⟨h1,p1,p2,p3,p4⟩:=D3S (n:=S.length) (sz:=1) (ys:=[Cell.i .i64 (i:Int)]) hr (by simp [encI]) rfl (by omega) (by omega);have hpl:=C4 k.var;have B85:=C4 k.blk;have kk:OutD g p id O h1:=⟨k.lo.trans (p4 g.length hg (by have:=k.lo.2.1;omega)),k.gp,k.gid,k.ne,p3 _ _ (Ne.symm n1) k.var,p3 _ _ (Ne.symm n2) k.blk⟩;have er:encI (S.map λx:Nat=>(x:Int))++[Cell.i .i64 (i:Int)]=encI ((S++[i]).map λx:Nat=>(x:Int)):=by simp [encI]
   rw [er] at p2;have ls:(S++[i]).length=S.length+1:=by simp
   obtain ⟨h',b1,b2⟩:=ih (i+1) M (S++[i]) (h.length+1) h1 (by omega) (by omega) (by rw [ls];omega) (λx hx=>by
    rcases List.mem_append.1 hx with hx | hx
    ·exact hS2 x hx
    ·simp at hx;omega) p2 (by have:=k.lo.2.1;omega) (by omega) (by omega) kk
   rw [ls] at b1;refine ⟨h',?_,by simpa using b2⟩;have ef:D9 [o0] [(0,1,iV (i:Int))]=some [.i .i64 (i:Int)]:=rfl;rw [aW];simp only [esc,Nat.reduceAdd,c0,a1,a2,ef,p1,jQ,w1];exact b1
structure ImgOk (D:Dev) (n:Int) (c:Cl):Prop where
 row:0<c.row.length
 tak:c.taken.length=D.length
 ino:∀ x∈c.ino,D5V x
 il:c.ino.length<=1000
 bm:c.blocks.length=c.made.length
 bl:c.blocks.length<=1000000
 md:∀ b∈c.made,b.length=256
theorem C4Y {h:A6} {cs:List Cell} (hD:okD D) (hv:IsView h f D) (hm:R9 D.length n=true) (hc:IsCl h cs c) (ok:ImgOk D n c) :
  Z5 [.a (vwC D.length n m f),.a cs] h=some (sV h.length 0 D.length 256,h++[rT (D4 (D3w D n c))]):=by
 obtain ⟨b16,b512,n8,n128,_,_⟩:=N8.1 hm;obtain ⟨xr,xi,xt,xb,xm,rfl,hr,hi,ht,hb,hmd⟩:=hc.form;obtain ⟨g,hg⟩:∃ g,g=ro h++[rT (vwC D.length n m f),rT [xr,xi,xt,xb,xm,.i .i64 c.lost],rT []]:=⟨_,rfl⟩;have lg:g.length=(ro h).length+3:=by rw [hg];simp
 have rv:rd g (ro h).length=rT (vwC D.length n m f):=by rw [hg,F8];rfl
 have rc:rd g ((ro h).length+1)=rT [xr,xi,xt,xb,xm,.i .i64 c.lost]:=by rw [hg,M9];rfl
 have hvg:IsView g f D:=by rw [hg];exact hv.ro.more _
 have hr':Has g (.c xr) 1 c.row.length (encI c.row):=by rw [hg];exact hr.ro.more _
 have hi':Has g (.c xi) 11 c.ino.length (S6 c.ino):=by rw [hg];exact hi.ro.more _
 have ht':Has g (.c xt) 1 c.taken.length (N6 c.taken):=by rw [hg];exact ht.ro.more _
 have hb':Has g (.c xb) 1 c.blocks.length (encI c.blocks):=by rw [hg];exact hb.ro.more _
 have hm':Has g (.c xm) 256 c.made.length (D4 c.made):=by rw [hg];exact hmd.ro.more _
 have hI:=C7Z (m:=m) hD hvg hm;obtain ⟨H,hH⟩:∃ H,H=g++[rT (D4 D),rT [.sl g.length 0 D.length 256]]:=⟨_,rfl⟩;have k0:OutD g (g.length+1) g.length D H:=by
  refine ⟨by rw [hH];exact (Low.refl (E3T _)).new _,by omega,E3T _,by omega,?_,?_⟩
  ·rw [hH,M9];rfl
  ·rw [hH,F8];rfl
 obtain ⟨h1,M1,e1,k1⟩:=E0Y (q:=1000002) (pv:=(ro h).length) rc hb' hm' ok.bm ok.md ok.bl c.blocks.length 0 1000002 D H (by omega) (by have:=ok.bl;omega) hD k0;obtain ⟨ok1,len1⟩:=D2z (l:=c.blocks) (m:=c.made) hD ok.md;obtain ⟨t0,t2,tn0,tn16⟩:=D6n (b:=D.length) (n:=n);obtain ⟨tN,htN⟩:=E4v tn0;obtain ⟨h2,M2,e2,k2⟩:=E0Z (q:=1000002) (pv:=(ro h).length) (pc:=(ro h).length+1) (A02 D.length n) (A7A D.length n) ⟨by omega,by omega⟩ ⟨by omega,by omega⟩ tN (A02 D.length n) 1000002 _ h1 (by omega) (by omega) (by omega) ok1 (by simpa using k1);obtain ⟨ok2,len2⟩:=C9y (e:=tN) (no:=A02 D.length n) ok1;obtain ⟨h3,M3,e3,k3⟩:=E00 (q:=1000002) (pc:=(ro h).length+1) rv hi' ok.ino n128 (by have:=ok.il;omega) c.ino.length 0 1000002 _ h2 (by omega) (by have:=ok.il;omega) ok2 (by rw [len2,len1]) k2;obtain ⟨ok3,len3⟩:=D2d (n:=n) n128 (l:=c.ino) (i:=0) ok2 (λx hx=>(ok.ino x hx).1);have k3':=(k3.more [rT ([]:List Cell)]);obtain ⟨h4,e4,k4⟩:=E01 (q:=1000002) (N:=0) (p:=g.length+1) (id:=g.length) (g:=g) ht' (by rw [ok.tak];omega) ok3 c.taken.length 0 1000002 [] h3.length (h3++[rT ([]:List Cell)]) (by omega) (by rw [ok.tak];omega) (by simp) (by simp) (by rw [F8];rfl) (by have:=k3.lo.2.1;omega) (by have:=C4 k3.var;omega) (by have:=C4 k3.blk;omega) (by simpa using k3');have eimg:D3w D n c=A4C (C0T n (B9l (C6d D c.blocks c.made) (A02 D.length n) tN) 0 c.ino) 1 (oM ([]++C7X 0 (c.taken.drop 0))):=by
  unfold D3w;rw [htN];simp
 have lenF:(D3w D n c).length=D.length:=by rw [eimg,vW,len3,len2,len1]
 have key:fE 1000002 [.a (vwC D.length n m f),.a [xr,xi,xt,xb,xm,.i .i64 c.lost]] (ro h)=some (sV g.length 0 D.length 256,h4):=by
  have l0:B4 g (pV ((ro h).length+1) 0)=some (.c xr):=B5 rc rfl (by rfl);have l2:B4 g (pV ((ro h).length+1) 2)=some (.c xt):=B5 rc rfl (by rfl);have lv0:B4 g (pV (ro h).length 0)=some (iV (D.length:Nat)):=B5 rv rfl rfl;have lv4:C8 g 4 (pV (ro h).length 0)=some (.a (vwC D.length n m f)):=B8 rv rfl;have s1:F9 (g++[rT (D4 D),rT [Cell.ns]]) (pV (g.length+1) 0) (sV g.length 0 D.length 256)=some H:=by
   rw [E9 (cs:=[Cell.ns]) (by rw [M9];rfl) (by simp),qQ,hH];rfl
  have l3:B4 H (pV ((ro h).length+1) 3)=some (.c xb):=B5 (k0.lo.rd rc) rfl (by rfl);have mf:B3V 52 [pV (g.length+1) 0]=some (.c (.f 52 [(g.length+1,0)])):=rfl;have n1:B4 h2 (pV ((ro h).length+1) 1)=some (.c xi):=B5 (k2.lo.rd rc) rfl (by rfl);have n2:B4 (h3++[rT ([]:List Cell)]) (pV ((ro h).length+1) 2)=some (.c xt):=B5 ((k3.lo.new _).rd rc) rfl (by rfl);have v3:C8 h1 3 (pV (ro h).length 0)=some (.a (D3 D.length n m)):=by rw [cF (k1.lo.rd rv) (by simp [vwC]) rfl];rfl
  have hTb:=A3s (b:=D.length) (n:=n) (m:=m) (h:=h1);have c1:¬ ((c.row.length:Nat):Int)=0:=by have:=ok.row;omega
  have c2:((c.taken.length:Nat):Int)=(D.length:Nat):=by rw [ok.tak]
  have lr:=hr'.len;have lt:=ht'.len;have lb:=(hb'.since k0.lo).len;have lx:=(hi'.since k2.lo).len;have lt3:=(ht'.since (k3.lo.new [rT ([]:List Cell)])).len;have cl1:cells? (.a (vwC D.length n m f))=some (vwC D.length n m f):=rfl;rw [A06];simp only [E3S,E3Z,E4h,E4b,E3U,E4l,E37,cl1,C4O,Q4,<-hg];generalize vwC D.length n m f=V at *;have c00:((0:Nat):Int)=0:=rfl;rw [c00] at e1 e3 e4;rw [lenF.symm] at e4;simp only [esc,Nat.reduceAdd,l0,lr,c1,l2,lt,lv0,c2,lv4,hI,s1,mf,l3,lb];refine e1.trans ?_;have cB:¬ ((c.blocks.length:Nat):Int)<(c.blocks.length:Nat):=by omega
  rw [jR];simp only [esc,Nat.reduceAdd,cB,v3,hTb];refine e2.trans ?_;have wT:IntKind.wrap .i64 (A02 D.length n+A7A D.length n)=A02 D.length n+A7A D.length n:=wrap_i64 (by omega) (by omega);have cT:¬ A02 D.length n+A7A D.length n<A02 D.length n+A7A D.length n:=by omega
  rw [jS];simp only [esc,Nat.reduceAdd,wT,cT,n1,lx];refine e3.trans ?_;have cI:¬ ((c.ino.length:Nat):Int)<(c.ino.length:Nat):=by omega
  rw [aV];simp only [esc,Nat.reduceAdd,cI,n2,lt3];have eL:([]:List Nat).length=0:=rfl;rw [eL] at e4;rw [e4,lenF,len3,len2,len1]
 have ho:Out h.length h4 (sV g.length 0 D.length 256) 256 D.length (D4 (D3w D n c)):=by
  refine ⟨?_,g.length,rfl,by rw [lg,E7];omega,?_⟩
  ·rw [I5,lenF];rw [eimg];refine okD.put ok3 ?_;unfold oM;rw [lM,zeros_length]
  ·rw [eimg];exact k4.blk
 exact A0j key ho fN
end
end
section
structure MayC (c:Cl):Prop where
 ino:∀ x∈c.ino,D5V x
 par:∀ i,0<=(c.par i).getD 0/\(c.par i).getD 0<=65535
 bm:c.blocks.length=c.made.length
 md:∀ b∈c.made,b.length=256
theorem B36 {D:Dev} {n:Int} {c:Cl} {no:Int} (hm:R9 D.length n=true):L8 (T1 D n c no)=true:=by
 rw [B0u];obtain ⟨_,b512,_⟩:=N8.1 hm;unfold T1 B35;cases hd:hJ D.length n no with
 | false=>simp
 | true =>
  have:=C5E hd;cases c.taken.getD no.toNat true with
  | true=>simp
  | false=>simp;omega
theorem D4m {l:List Int} {i:Nat} {x:Int} (h:l.all L8=true) (hx:L8 x=true):(l.set i x).all L8=true:=by
 rw [E4H] at h ⊢;intro y hy;rcases E4z hy with h1 | h1
 ·exact h y h1
 ·rw [h1];exact hx
theorem C47 {D:Dev} {n:Int} {d:List Int} (hm:R9 D.length n=true):∀ {e k:Nat} {s:Cl × List Int},s.2.all L8=true->(A5Y D n d e k s).2.all L8=true
 | 0,_,s,h=>h
 | e+1,k,s,h=>by
  rw [A5Y];exact C47 hm (D4m h (B36 hm))
theorem D1Z {D:Dev} {n ino:Int} {c:Cl} (hm:R9 D.length n=true):(dF D n c ino).2.all L8=true:=by
 have h1:=C47 (d:=drV D n ino) (e:=(min (A3g (szV D n ino)) 6).toNat) (k:=0) (s:=(c,zI 7)) hm (by show (zI 7).all L8=true;decide);unfold dF B6s;split
 ·exact D4m h1 (B36 hm)
 ·exact h1
theorem D6m {D:Dev} {n i:Int}:0<=szV D n i/\szV D n i<=34304:=by
 unfold szV;cases hc:C7y D n i with
 | false=>simp
 | true =>
  simp only [cond_true];unfold C7y gZ A1a at hc;simp only [E3R] at hc;obtain ⟨_,h1,_⟩:=hc;split at h1
  ·unfold D21 at h1;have:=of_decide_eq_true h1;omega
  ·unfold A2f at h1;simp only [E3R,decide_eq_true_eq] at h1;exact h1.2.2.2.1
theorem D5W {s:Int} {d:List Int} {l:Int} (hs:0<=s/\s<=34304) (hd:d.length=7) (ha:d.all L8=true) (hl:L8 l=true):D5V (1::l::s::0::d):=by
 refine ⟨by simp [hd],?_⟩;show A1a 1 l s 0 d=true;unfold A1a A2f;have h0:L8 0=true:=by decide
 simp [hl,ha,h0,hs]
theorem D7J {p no:Int} (hp:L8 p=true) (hn:L8 no=true):D5V (2::1::0::p::no::zI 6):=by
 refine ⟨by simp [zI],?_⟩;show A1a 2 1 0 p (no::zI 6)=true;unfold A1a A2f;have h0:L8 0=true:=by decide
 have h1:L8 1=true:=by decide
 have hz:(zI 6).all L8=true:=by decide
 simp [E4x,hn,hz,hp,h1]
theorem D5X:D5V (zI 11):=⟨by simp [zI],by decide⟩
theorem C5Q {α:Type} {l:List α} {i:Nat} {x y:α} (h:y∈l.set i x):y∈l\/y=x:=E4z h
section
variable {D:Dev} {n:Int} {c:Cl} {ino:Int}
theorem D5B (hm:R9 D.length n=true) (h:MayC c):MayC (Y2 D n c ino):=by
 have hs:=(A0P (D:=D) (n:=n) (ino:=ino) (c:=c));refine ⟨λx hx=>?_,λi=>?_,?_,λb hb=>?_⟩
 ·rcases C5Q hx with h1 | h1
  ·rw [hs.1.ino] at h1;exact h.ino x h1
  ·rw [h1];exact D5W D6m hs.2 (D1Z hm) (by decide)
 ·have:(Y2 D n c ino).par=c.par:=hs.1.par;rw [this];exact h.par i
 ·have e1:(Y2 D n c ino).blocks=c.blocks:=hs.1.blocks;have e2:(Y2 D n c ino).made=c.made:=hs.1.made;rw [e1,e2];exact h.bm
 ·have e2:(Y2 D n c ino).made=c.made:=hs.1.made;rw [e2] at hb;exact h.md b hb
theorem MayC.same {c':Cl} (h:MayC c) (s:SameC c c'):MayC c':=⟨by rw [s.ino];exact h.ino,by rw [s.par];exact h.par,by rw [s.blocks,s.made];exact h.bm,by rw [s.made];exact h.md⟩
theorem MayC.md' (h:MayC c) {no:Int} {b:List UInt8} (hb:b.length=256):MayC (R3 c no b):=by
 refine ⟨h.ino,h.par,?_,λx hx=>?_⟩
 ·show (c.blocks++[no]).length=(c.made++[b]).length;simp [h.bm]
 ·rcases List.mem_append.1 (show x∈c.made++[b] from hx) with h1 | h1
  ·exact h.md x h1
  ·simp at h1;rw [h1];exact hb
theorem D5A (hD:okD D) (hm:R9 D.length n=true) (h:MayC c):MayC (gA D n c ino):=by
 have h1:=D5B (ino:=ino) hm h;unfold gA;split
 ·exact h1
 ·exact MayC.md' (h1.same (tD (D:=D) (n:=n) (many:=A3g (szV D n ino)) (e:=128) (k:=0) (s:=(Y2 D n c ino,blk D ((dF D n c ino).2.getD 6 0))))) (B0O (by omega) (O0 hD))
theorem D7a (hm:R9 D.length n=true) (h:MayC c):MayC (W6 D n c ino):=by
 have hs:=zL (D:=D) (n:=n) (ino:=ino) (c:=c);have hn:L8 (fM D n c ino).2=true:=by
  unfold fM;cases (decide (kdV D n ino=2)&&T6 (blk D ((drV D n ino).getD 0 0))) with
  | true=>exact B36 hm
  | false=>show L8 0=true;decide
 refine ⟨λx hx=>?_,λi=>?_,?_,λb hb=>?_⟩
 ·rcases C5Q hx with h1 | h1
  ·rw [hs.ino] at h1;exact h.ino x h1
  ·rw [h1];exact D7J (B0u.2 (h.par ino)) hn
 ·have:(W6 D n c ino).par=c.par:=hs.par;rw [this];exact h.par i
 ·have e1:(W6 D n c ino).blocks=c.blocks:=hs.blocks;have e2:(W6 D n c ino).made=c.made:=hs.made;rw [e1,e2];exact h.bm
 ·have e2:(W6 D n c ino).made=c.made:=hs.made;rw [e2] at hb;exact h.md b hb
theorem C9w (hi:0<=ino/\ino<=65535):∀ {L:List Ent} {s:Cl × (List UInt8->Option Int)},MayC s.1->MayC (Z4 D n ino s L).1
 | [],_,h=>h
 | x::L,s,h=>by
  have h1:MayC (Y3 D n ino s x).1:=by
   unfold Y3 cK;cases gG D n s.1 x.2 with
   | false=>exact h
   | true =>
    simp only [cond_true];cases (s.1.par x.2).isSome with
    | true=>exact ⟨h.ino,h.par,h.bm,h.md⟩
    | false =>
     refine ⟨h.ino,λi=>?_,h.bm,h.md⟩;show 0<=(tP s.1.par x.2 ino i).getD 0/\(tP s.1.par x.2 ino i).getD 0<=65535;unfold tP;split
     ·exact hi
     ·exact h.par i
  exact C9w hi (L:=L) (s:=Y3 D n ino s x) h1
theorem C0x {X:List Int} {K:List UInt8->Option Int}:∀ {L:List Int} {c:Cl},MayC c->MayC (L9 D X K c L)
 | [],_,h=>h
 | no::L,c,h=>by
  have hs:=oH (D:=D) (X:=X) (no:=no) (K:=K) (l:=M7 (blk D no)) (s:=(c,aQ []));have hl:=B34 (D:=D) (X:=X) (no:=no) (K:=K) (l:=M7 (blk D no)) (s:=(c,aQ [])) (oN (l:=[])) λx hx=>(C6r x hx).1
  have h1:MayC (T4 D X no K (c,aQ []) (M7 (blk D no))).1:=⟨by rw [hs.ino];exact h.ino,by rw [hs.par];exact h.par,by rw [hs.blocks,hs.made];exact h.bm,by rw [hs.made];exact h.md⟩;exact C0x (L:=L) (c:=tL D X K c no) (h1.md' hl)
theorem D69 (hi:0<=ino/\ino<=65535) (hm:R9 D.length n=true) (h:MayC c):MayC (oS D n c ino):=by
 have h1:=D7a (ino:=ino) hm h;unfold oS;split
 ·exact h1
 ·unfold vF;have hb:=h1.same (fG (D:=D) (n:=n) (L:=J4 (eG (getD (blk D ((drV D n ino).getD 0 0))) (M6 (blk D ((drV D n ino).getD 0 0)) 32)) (B9 (V3 (getD (blk D ((drV D n ino).getD 0 0))) (M6 (blk D ((drV D n ino).getD 0 0)) 32)))) (s:=(W6 D n c ino,eG (getD (blk D ((drV D n ino).getD 0 0))) (M6 (blk D ((drV D n ino).getD 0 0)) 32))));refine C0x (MayC.md' (C9w (s:=(_,_)) hi hb) ?_);have hl:=B0K (D:=D) (n:=n) (L:=J4 (eG (getD (blk D ((drV D n ino).getD 0 0))) (M6 (blk D ((drV D n ino).getD 0 0)) 32)) (B9 (V3 (getD (blk D ((drV D n ino).getD 0 0))) (M6 (blk D ((drV D n ino).getD 0 0)) 32)))) (s:=(W6 D n c ino,eG (getD (blk D ((drV D n ino).getD 0 0))) (M6 (blk D ((drV D n ino).getD 0 0)) 32)));cases okX (V3 (getD (blk D ((drV D n ino).getD 0 0))) (M6 (blk D ((drV D n ino).getD 0 0)) 32)) (T5 D n (W6 D n c ino) (getD (blk D ((drV D n ino).getD 0 0))) (M6 (blk D ((drV D n ino).getD 0 0)) 32)).2 with
  | true=>exact kB (hl.trans vO)
  | false=>exact zeros_length
theorem D7T (hi:0<=ino/\ino<=65535) (hD:okD D) (hm:R9 D.length n=true) (h:MayC c):MayC (gE D n c ino):=by
 unfold gE;split
 ·exact D5A hD hm h
 ·exact D69 hi hm h
theorem D4P (hD:okD D) (hm:R9 D.length n=true):∀ {e i:Nat} {c:Cl},RowW n c->MayC c->MayC (ofR D n e i c)
 | 0,_,_,_,h=>h
 | e+1,i,c,hr,h=>by
  obtain ⟨_,_,_,n128,_⟩:=N8.1 hm;unfold ofR;cases hc:c.row[i]? with
  | none=>exact h
  | some a =>
   have ha:=hr.rg a (E4e hc);exact D4P hD hm (C53 hr) (D7T ⟨by omega,by omega⟩ hD hm h)
end
theorem D6I (D:Dev):IsView [rT (D4 D),rT [.sl 0 0 D.length 256]] (.f 41 [(1,0)]) D :=
 ⟨1,0,true,true,rfl,rfl,rfl⟩
section
variable {D:Dev} {n:Int}
theorem yM (hD:okD D) (hm:R9 D.length n=true):RowW n (W5 D n)/\Small (W5 D n) 128 (224*129) (33*129) (224*129)/\(∀ x∈(P6 D n).ino,x.length=11)/\(P6 D n).ino.length=(n+1).toNat/\(P6 D n).taken.length=D.length:=by
 obtain ⟨_,_,_,P,_,_,_,_,_,h1,h2⟩:=C8J (n:=n) (m:=0) hD (D6I D) hm;exact ⟨h1,h2,P.il,P.ilen,P.tlen⟩
theorem claimI_may:MayC (G8 D n):=by
 refine ⟨λx hx=>?_,λi=>?_,rfl,λb hb=>by cases hb⟩
 ·rw [List.eq_of_mem_replicate hx];exact D5X
 ·have e:((G8 D n).par i).getD 0=if i=1 then 1 else 0:=by
   show ((tP (λ_=>none) 1 1) i).getD 0=_;unfold tP;split<;>rfl
  rw [e];split<;>omega
theorem D3g (hD:okD D) (hm:R9 D.length n=true):MayC (W5 D n):=by
 obtain ⟨_,_,_,n128,_⟩:=N8.1 hm;unfold W5;have hs:=ownR_same (c:=G8 D n) (k:=(jU D.length n).toNat);refine D4P hD hm ?_ (claimI_may.same hs);refine RowW.same (c:=G8 D n) ⟨by simp [G8],λi=>?_,λi hi=>?_⟩ hs.row hs.par
 ·by_cases c1:i=1
  ·subst c1;simp [G8,tP]
  ·simp [G8,tP,c1]
 ·obtain ⟨_,_,n8,_⟩:=N8.1 hm;simp [G8] at hi;omega
theorem D5P {c:Cl} {a:Int} (hl:∀ i,L8 ((c.lnk i).getD 0)=true) (h:MayC c):MayC (Z3 c a):=by
 unfold Z3;split
 ·rename_i h1;refine ⟨λx hx=>?_,h.par,h.bm,h.md⟩;rcases C5Q hx with h2 | h2
  ·exact h.ino x h2
  ·have hin:c.ino.getD a.toNat []∈c.ino:=by
    by_cases hl:a.toNat<c.ino.length
    ·rw [E30,E3P hl];exact E4u hl
    ·rw [E30 (l:=c.ino),E4q (by omega)] at h1;simp at h1
   obtain ⟨h3,h4⟩:=h.ino _ hin;generalize c.ino.getD a.toNat []=y at *;rw [h2]
   match y,h3 with
   | [y0,y1,y2,y3,y4,y5,y6,y7,y8,y9,y10],_ =>
    have e:y0=1:=h1;subst e;have h5:A2f 1 y1 y2 y3 [y4,y5,y6,y7,y8,y9,y10]=true:=h4;refine ⟨rfl,?_⟩;show A2f 1 ((c.lnk a).getD 0) y2 y3 [y4,y5,y6,y7,y8,y9,y10]=true;unfold A2f at h5 ⊢;simp only [E3R] at h5 ⊢;exact ⟨h5.1,hl a,h5.2.2⟩
 ·exact h
theorem A6b {c:Cl} {a:Int}:(Z3 c a).row=c.row/\(Z3 c a).taken=c.taken/\(Z3 c a).blocks=c.blocks/\(Z3 c a).made=c.made/\(Z3 c a).lost=c.lost/\(Z3 c a).lnk=c.lnk/\(Z3 c a).par=c.par:=by
 unfold Z3;split<;>exact ⟨rfl,rfl,rfl,rfl,rfl,rfl,rfl⟩
theorem oL:∀ {L:List Int} {c:Cl},(Q6 c L).row=c.row/\(Q6 c L).taken=c.taken/\(Q6 c L).blocks=c.blocks/\(Q6 c L).made=c.made/\(Q6 c L).lost=c.lost/\(Q6 c L).lnk=c.lnk/\(Q6 c L).par=c.par
 | [],c=>⟨rfl,rfl,rfl,rfl,rfl,rfl,rfl⟩
 | a::L,c=>by
  obtain ⟨a1,a2,a3,a4,a5,a6,a7⟩:=oL (L:=L) (c:=Z3 c a);obtain ⟨b1,b2,b3,b4,b5,b6,b7⟩:=A6b (c:=c) (a:=a);exact ⟨a1.trans b1,a2.trans b2,a3.trans b3,a4.trans b4,a5.trans b5,a6.trans b6,a7.trans b7⟩
theorem C5L:∀ {L:List Int} {c:Cl},(∀ i,L8 ((c.lnk i).getD 0)=true)->MayC c->MayC (Q6 c L)
 | [],_,_,h=>h
 | a::L,c,hl,h=>C5L (L:=L) (c:=Z3 c a) (by rw [(A6b (c:=c) (a:=a)).2.2.2.2.2.1];exact hl) (D5P hl h)
theorem C4X (hD:okD D) (hm:R9 D.length n=true):MayC (P6 D n):=by
 obtain ⟨h1,h2,_⟩:=yM hD hm;refine C5L (λi=>?_) (D3g hD hm);rw [B0u];have:=h2.lnk i;omega
theorem D7U {c:Cl} {k:Nat}:(oV c k).row=c.row:=ownR_same.row
theorem D5r (hD:okD D) (hm:R9 D.length n=true):ImgOk D n (P6 D n):=by
 obtain ⟨h1,h2,h3,h4,h5⟩:=yM hD hm;obtain ⟨_,_,_,n128,_⟩:=N8.1 hm;have hc:=C4X hD hm;obtain ⟨s1,s2,s3,s4,s5,s6,s7⟩:=oL (L:=(W5 D n).row) (c:=W5 D n);have hr:1<=(W5 D n).row.length:=by
  have:(oV (G8 D n) (jU D.length n).toNat).row.length<=(W5 D n).row.length:=D0E;rw [D7U] at this;simpa [G8] using this
 refine ⟨?_,h5,hc.ino,by rw [h4];omega,hc.bm,?_,hc.md⟩
 ·show 0<(Q6 _ _).row.length;rw [s1];omega
 ·show (Q6 _ _).blocks.length<=_;rw [s3];have:=h2.blocks;omega
theorem C7x {m:Int} {f:Cell} {h:A6} {cs:List Cell} (hD:okD D) (hv:IsView h f D) (hm:R9 D.length n=true) (hc:IsCl h cs (P6 D n)) :
  Z5 [.a (vwC D.length n m f),.a cs] h=some (sV h.length 0 D.length 256,h++[rT (D4 (D3w D n (P6 D n)))]) :=
 C4Y hD hv hm hc (D5r hD hm)
end
end
theorem C6o (s:List UInt8) (hs:s.length<9223372036854775807) (n:Nat) (h:A6):∀ d i m:Nat,i+d=s.length->d<m ->
  B16 n m (.c (.s s)) (iV i) h=some (bV ((s.drop i).all aZ),h)
 | d,i,0,_,hm=>by omega
 | 0,i,m+1,hi,hm=>by
  have c0:¬ ((i:Int)<s.length):=by omega
  rw [A4d,show s.drop i=[] from E32 (by omega)];simp only [esc,c0,List.all_nil]
 | d+1,i,m+1,hi,hm=>by
  have h1:(i:Int)<s.length:=by omega
  have h2:i<s.length:=by omega
  have ih:=C6o s hs n h d (i+1) m (by omega) (by omega);rw [A4d,E3V h2,E4x];by_cases c1:(s[i].toNat:Int)=0
  ·have f:aZ s[i]=false:=by unfold aZ;rw [decide_eq_true c1];rfl
   simp only [esc,h1,iW h2,c1,f,E3W]
  ·by_cases c2:(s[i].toNat:Int)=47
   ·have f:aZ s[i]=false:=by unfold aZ;rw [decide_eq_true c2];simp
    simp only [esc,h1,iW h2,c1,c2,f,E3W,E4V]
   ·have f:aZ s[i]=true:=by unfold aZ;rw [decide_eq_false c1,decide_eq_false c2];rfl
    simp only [esc,h1,iW h2,c1,c2,f,E31,C6 (show i+1<9223372036854775808 by omega)];exact ih
theorem right_eq {s:List UInt8} (hs:s.length<9223372036854775807) (h:A6):A5q [.c (.s s)] h=some (bV (U0 s),h):=by
 refine B5r (n:=s.length+1) (h2:=ro h) ?_ rfl;rw [C1h];have hl:=C6o s hs (s.length+1) (ro h) s.length 0 (s.length+1) (by omega) (by omega);rw [E39] at hl;unfold U0;by_cases c1:(s.length:Int)<1
 ·simp only [esc,c1,Bool.true_or,E3W]
 ·by_cases c2:(24:Int)<s.length
  ·simp only [esc,c1,c2,Bool.true_or,E3W,Bool.or_true]
  ·by_cases c3:s=[46]
   ·subst c3;simp only [esc];rfl
   ·by_cases c4:s=[46,46]
    ·subst c4;simp only [esc];rfl
    ·simp only [esc,c1,c2,c3,c4,Bool.or_self,E31];exact hl
theorem D3L {s:List UInt8} (hs:s.length<=24):gF s s.length=UInt8.ofNat s.length::(s++zeros 24).take 24:=by
 unfold gF;refine congrArg (UInt8.ofNat s.length :: ·) ?_;rw [List.take_append,E3Y (E3T _),E3Y hs];unfold zeros;rw [List.take_replicate,E4N (by omega)]
theorem B64 {g:A6} (s:List UInt8) (hs:s.length<=24) (k:Nat):∀ d i m h id,i+d=24->d<m->Low g.length g h->g.length<=id->rd h id=rT (A5 (UInt8.ofNat s.length::(s++zeros 24).take i)) ->
  ∃ v' h',B6h k m (.c (.s s)) (sV id 0 (i+1) 1) (iV i) h=some (v',h')/\Out g.length h' v' 1 25 (A5 (gF s s.length))
 | d,i,0,h,id,_,hm,_,_,_=>by omega
 | 0,i,m+1,h,id,hi,hm,hlow,hb,hr=>by
  have e:i=24:=by omega
  subst e;have h1':¬ ((24:Nat):Int)<24:=by omega
  rw [<-D3L hs] at hr;rw [A6U];exact ⟨_,_,by simp only [esc,h1']<;>rfl,by rw [A4,lU (E3T _) hs],id,rfl,hb,hr⟩
 | d+1,i,m+1,h,id,hi,hm,hlow,hb,hr=>by
  have hlen:(s++zeros 24).length=s.length+24:=by rw [E3S,zeros_length]
  have E2V:i<(s++zeros 24).length:=by omega
  have c1:(i:Int)<24:=by omega
  have step:∀ x:UInt8,(s++zeros 24)[i]=x->∃ v' h',bnd (iY (h++[rT [.i .u8 x.toNat]]) 1 (sV id 0 (i+1) 1) (sV h.length 0 1 1)) (λp=>B6g k m (.c (.s s)) p.1 (iV i) p.2)=some (v',h')/\Out g.length h' v' 1 25 (A5 (gF s s.length)):=by
   intro x hx;obtain ⟨h',a1,a2,a3,a4,a5⟩:=push (ys:=[.i .u8 x.toNat]) (sz:=1) (n:=i+1) hlow hr (by rw [A4,E3Z,E4k];omega) hb rfl (by omega) (by omega);have e4:A5 (UInt8.ofNat s.length::(s++zeros 24).take i)++[Cell.i .u8 x.toNat]=A5 (UInt8.ofNat s.length::(s++zeros 24).take (i+1)):=by
    rw [E36 E2V,hx,<-E4l,J7];rfl
   rw [e4] at a2;obtain ⟨v',h'',b1,b2⟩:=B64 s hs k d (i+1) m h' (h.length+1) (by omega) (by omega) a3 a4 a2;refine ⟨v',h'',?_,b2⟩;simp only [esc,a1];rw [C2c];simp only [esc,C6 (show i+1<9223372036854775808 by omega)];exact b1
  rw [A6U];by_cases c2:i<s.length
  ·have c2':(i:Int)<s.length:=by omega
   obtain ⟨v',h',b1,b2⟩:=step s[i] (by rw [List.getElem_append_left c2]);have e5:D9 [Cell.i .u8 0] [(0,1,.c (.i .u8 s[i].toNat))]=some [.i .u8 s[i].toNat]:=rfl;exact ⟨v',h',by simp only [esc,c1,c2',iW c2,e5];exact b1,b2⟩
  ·have c2':¬ (i:Int)<s.length:=by omega
   obtain ⟨v',h',b1,b2⟩:=step 0 (by rw [List.getElem_append_right (by omega)];exact List.getElem_replicate _);have e5:D9 [Cell.i .u8 0] [(0,1,.c (.i .u8 0))]=some [.i .u8 (0:UInt8).toNat]:=rfl;exact ⟨v',h',by simp only [esc,c1,c2',e5];exact b1,b2⟩
theorem C6n {s:List UInt8} (hs:s.length<=24) (h:A6):A8s [.c (.s s)] h=some (sV h.length 0 25 1,h++[rT (A5 (gF s s.length))]):=by
 obtain ⟨v',h',e,ho⟩:=B64 (g:=ro h) s hs 25 24 0 25 (ro h++[rT [],rT (A5 [UInt8.ofNat s.length])]) ((ro h).length+1) (by omega) (by omega) ((Low.refl (E3T _)).new _) (by omega) (by simp);refine C1I (n:=25) (v:=v') (h2:=h') ?_ (by simpa [E7] using ho) (by simp);have e1:IntKind.wrap .u8 (s.length:Int)=((UInt8.ofNat s.length).toNat:Int):=by rw [wrap_u8 (by omega) (by omega),UInt8.toNat_ofNat'];omega
 have e5:D9 [Cell.i .u8 0] [(0,1,.c (.i .u8 (UInt8.ofNat s.length).toNat))]=some (A5 [UInt8.ofNat s.length]):=rfl;rw [C26];simp only [esc,e1,e5];exact e
theorem D0W {v:Val} {nv:Nat} {l:List UInt8} {h:A6} (hv:Has h v 1 nv (A5 l)) (hl:l.length=25) :
  A2S [v] h=some (.t [.c (.s ((cM l).getD [])),.c (.b (cM l).isSome)],h):=by
 have key:∀ g,Has g v 1 nv (A5 l)->∃ g',A2s 0 [v] g=some (.t [.c (.s ((cM l).getD [])),.c (.b (cM l).isSome)],g'):=by
  intro g hv;have hnv:nv=25:=by
   have:l.length=nv:=by simpa [A4] using hv.length
   omega
  subst hnv;have hvl:=hv.len;have hv0:=hv;obtain ⟨id,off,rfl,hid,h1,h2⟩:=hv.sl (by omega);obtain ⟨x,r,rfl⟩:∃ x r,l=x::r:=by
   cases l with
   | nil=>simp at hl
   | cons x r=>exact ⟨x,r,rfl⟩
  have hx:=x.toNat_lt;have a0:D6 1 (sV id off 25 1) (iV 0)=some (pV id (off+0)):=rfl;have l0:=h1 0 (.i .u8 x.toNat) rfl;rw [E4U] at l0;have e1:IntKind.wrap .i64 (x.toNat:Int)=x.toNat:=wrap_i64 (by omega) (by omega);rw [B7m];unfold cM;simp only [List.headD_cons,List.drop_succ_cons,E39];by_cases c1:x.toNat<=24
  ·rw [if_pos c1];have c1':¬ (24:Int)<x.toNat:=by omega
   have e2:IntKind.wrap .i64 (1+(x.toNat:Int))=((1+x.toNat:Nat):Int):=by rw [wrap_i64 (by omega) (by omega)];omega
   have e3:=E1t (id:=id) (off:=off) (n:=25) (sz:=1) (a:=1) (b:=1+x.toNat) (by omega) (by omega);rw [show 1+x.toNat-1=x.toNat by omega,Nat.mul_one,show ((1:Nat):Int)=1 from rfl] at e3;have hh:Has g (sV id (off+1) x.toNat 1) 1 x.toNat (A5 (r.take x.toNat)):=by
    rcases hv0 with ⟨e,_⟩ | ⟨fX,off',row,e,hr,g1,g2,g3,g4⟩
    ·cases e
    ·cases e;refine Has.part hr (by omega) ?_ (F6 _);have:(row.cells.drop (off+1)).take (x.toNat*1)=((A5 (x::r)).drop 1).take x.toNat:=by
      rw [<-g3,List.drop_take,E4S,List.take_take]
      congr 1
      omega
     rw [this,C8O,C8P];rfl
   have hs:(r.take x.toNat).length<9223372036854775807:=by simp;omega
   have lO:(r.take x.toNat).length<=24:=by simp;omega
   cases hf:U0 (r.take x.toNat) with
   | false =>
    rw [if_neg (by simp)];exact ⟨_,by simp only [esc,hvl,a0,l0,e1,c1',e2,E4j,e3,hh.str,right_eq hs,hf,E4F,E4d]<;>rfl⟩
   | true =>
    have hp:=C6n lO g;have hS:=gP (h:=g++[rT (A5 (gF (r.take x.toNat) (r.take x.toNat).length))]) (v:=sV g.length 0 25 1) (nv:=25) (l:=gF (r.take x.toNat) (r.take x.toNat).length) (Has.tr (by simp) (by rw [A4,lU (E3T _) lO]) (F6 _))
     (hv0.more [rT (A5 (gF (r.take x.toNat) (r.take x.toNat).length))]) (by rw [lU (E3T _) lO];omega)
    have epk:V5 (r.take x.toNat)=gF (r.take x.toNat) (r.take x.toNat).length:=by unfold V5;rw [hf];rfl
    rw [epk];by_cases c2:gF (r.take x.toNat) (r.take x.toNat).length=x::r
    ·rw [if_pos ⟨rfl,c2⟩];rw [decide_eq_true c2] at hS;exact ⟨_,by simp only [esc,hvl,a0,l0,e1,c1',e2,E4j,e3,hh.str,right_eq hs,hf,hp,hS,E4w,E33]<;>rfl⟩
    ·rw [if_neg (λh=>c2 h.2)];rw [decide_eq_false c2] at hS;exact ⟨_,by simp only [esc,hvl,a0,l0,e1,c1',e2,E4j,e3,hh.str,right_eq hs,hf,hp,hS,E4F,E4d]<;>rfl⟩
  ·rw [if_neg c1];have c1':(24:Int)<x.toNat:=by omega
   exact ⟨_,by simp only [esc,hvl,a0,l0,e1,c1',E4j,E4F,E4d]<;>rfl⟩
 obtain ⟨g',e⟩:=key (ro h) hv.ro;exact B3e e (by simp)
end Go.Proofs.YtbnkgnfhgbhblaaGreat
namespace Go.Proofs.YtbnkgnfhgbhblaaGreat
open Go Go.Esc
set_option maxRecDepth 100000
noncomputable section
variable (n m m2:Nat) (a0 a1 x0 x1 x5:Val) (h:A6)
def A4P:FD Tryz.prog:=⟨px 0X17c21362a2a818896192f7f62f1f142f4f60362a2a85641d7f61d1f141d4f606101ac61c044c1e2123062ec2112,[.c (.b false)],[],[.tmp 2],[cal A6G]⟩
def B2S:=A4P.R
def C6V:=mR B2S A4P (tT []) n [a0] h
def C2L:=A4P.K Tryz.func224
def B3o:=A4P.S
theorem C7h:SOk Tryz.prog 224 B3o:=C2L.sok
theorem C1S:E5 B2S B3o:=C2L.flat
def xV:FD Tryz.prog:=⟨px 0X1782161a13cc31431331231131051a513fc4e1c142125c3162a13cc6111ac361c044c619201ac64c861c1444d601931313b862ec2112,[.c (.i .u8 0)],[],[.tmp 2],[cal fZ,cal A8t]⟩
def A43:=xV.R
def C1k:=mR A43 xV (tT []) n [a0] h
def B4L:=xV.K Tryz.func188
def A5u:=xV.S
theorem A6H:SOk Tryz.prog 188 A5u:=B4L.sok
theorem B71:qT A43 A5u:=B4L.out
def A1e:FD Tryz.prog:=⟨px 0X175122821de4825c39354220135122821de0293e83542224675a2a861882bf63a251881af28962a301881af628901887f628961887f41883018836141881af4821883b60672a2a866e2bf6136e1af4826e3b6062bc3c3912a5a18432184231c8221de29182d96113a102293e81962a321ac628907c628967c40006a2a1191874105218c01886114a6803e28697c1916111ac1cd62a301ac629907c628967c4001a11b7641052302942d9241032,[.c (.b false),.c (.b true)],[],[.cellN 4 2,.tmp 5],[cal B1P,cal B7U,cal pN,cal C7h,cal A6H,cal dO]⟩
def A7R:=A1e.R
def C3c:=mR A7R A1e (tT []) n [a0,a1] h
def B9w:=A1e.K Tryz.func182
def A8A:=A1e.S
theorem A8B:SOk Tryz.prog 182 A8A:=B9w.sok
theorem B73:E5 A7R A8A:=B9w.flat
def nU:FD Tryz.prog:=⟨px 0X174114125c515607c2e1a1318011cc412c0241224362e2a861a24f7f44f364f1f07a4f4f605e2a17385104218c0188221de2962d912e6802a28697c1c161a201ac4e001d11976510521551033070243d617c1e181219510425103351030605101510320314111022,[.c (.b false),.c (.i .i64 (-1))],[],[.tmp 4],[cal A8B]⟩
def B90:=nU.R
def B6k:AtH:=nU.lj 0 n [m] [x0,x1,x5]
def C0b:=tT [⟨2,3,B6k⟩]
def C3a:=mR B90 nU C0b n [a0,a1] h
def A6X:=mL nU C0b 0 n [m] [x0,x1,x5] h
def B9u:=nU.K Tryz.func226
def A8z:=nU.S
theorem C3R:SOk Tryz.prog 226 A8z:=B9u.sok
theorem B72:E5 B90 A8z:=B9u.flat
def A1d:FD Tryz.prog:=⟨px 0X12801614301ac64ac1f131b12711310419413fc28892889175bc5012103b9102,[.c (.i .u8 98),.c (.i .u8 107),.c (.i .u8 116),.c (.i .u8 33)],[],[.tmp 0],[cal mN]⟩
def A7Q:=A1d.R
def C3b:=mR A7Q A1d (tT []) n [] h
def B9v:=A1d.K Tryz.func186
def A1F:=A1d.S
theorem C3S:SOk Tryz.prog 186 A1F:=B9v.sok
theorem C1R:qT A7Q A1F:=B9v.out
end
end Go.Proofs.YtbnkgnfhgbhblaaGreat
namespace Go.Proofs.YtbnkgnfhgbhblaaGreat
open Go Go.Esc
theorem D0T {s:List UInt8} {n:Int} {h:A6} (hs:s.length<9223372036854775807):B3o [.a [.s s,.i .i64 n]] h=some (bV (A09 s n),h):=by
 have key:∀ g,∃ g',B2S 0 [.a [.s s,.i .i64 n]] g=some (bV (A09 s n),g'):=by
  intro g;have hC:=λh=>right_eq hs h
  rw [C6V];unfold A09;cases hf:U0 s with
  | false =>
   rw [hf] at hC;exact ⟨_,by simp only [esc,esh,Nat.reduceAdd,Nat.reduceMul,Nat.reduceLT,hC]<;>rfl⟩
  | true =>
   rw [hf] at hC;by_cases c1:1<=n
   ·by_cases c2:n<=128
    ·rw [decide_eq_true c1,decide_eq_true c2];exact ⟨_,by simp only [esc,esh,Nat.reduceAdd,Nat.reduceMul,Nat.reduceLT,hC,c1,c2]<;>rfl⟩
    ·rw [decide_eq_true c1,decide_eq_false c2];exact ⟨_,by simp only [esc,esh,Nat.reduceAdd,Nat.reduceMul,Nat.reduceLT,hC,c1,c2]<;>rfl⟩
   ·rw [decide_eq_false c1];exact ⟨_,by simp only [esc,esh,Nat.reduceAdd,Nat.reduceMul,Nat.reduceLT,hC,c1]<;>rfl⟩
 obtain ⟨g',e⟩:=key (ro h);exact C1S e rfl
theorem D5U {s:List UInt8} {n:Int} (hm:A09 s n=true):U0 s=true:=by
 unfold A09 at hm;simp only [E3R] at hm;exact hm.1
theorem B0q {s:List UInt8} {n:Int} {h:A6} (hm:A09 s n=true):A5u [.a [.s s,.i .i64 n]] h=some (sV h.length 0 32 1,h++[rT (A5 (W7 s n))]):=by
 have hf:=D5U hm;have hs:=(bP hf).2;have ep:gF s s.length=V5 s:=by unfold V5;rw [hf,cond_true]
 have key:∀ g,∃ v g',A43 0 [.a [.s s,.i .i64 n]] g=some (v,g')/\Out g.length g' v 1 32 (A5 (W7 s n)):=by
  intro g;have hB:=λh=>cU (w:=2) (v:=n) (h:=h) (by omega)
  simp only [E4j] at hB;have hP:=λh=>C6n hs h
  rw [ep] at hP;have ef5:D9 [Cell.i .u8 0,.i .u8 0,.i .u8 0,.i .u8 0,.i .u8 0] [(0,1,.c (.i .u8 0)),(1,1,.c (.i .u8 0)),(2,1,.c (.i .u8 0)),(3,1,.c (.i .u8 0)),(4,1,.c (.i .u8 0))]=some (A5 [0,0,0,0,0]):=rfl;have hpl:(A5 (V5 s)).length=25:=by rw [A4];exact fT
  have hA:=jL (h:=g++[rT [.s s,.i .i64 n],rT [],rT (A5 (A9 2 n)),rT (A5 (V5 s))]) (id:=g.length+2) (jd:=g.length+3) (n:=2) (m:=25) (sz:=1) (cs:=A5 (A9 2 n)) (ys:=A5 (V5 s)) (rw:=true) (by simp) (by simp [A4]) (by simp) (by rw [hpl]) rfl (by omega) (by omega);simp only [E3S,E3Z,E4h,E4b,E3U,E4l,E37,qQ,E4B,E4A,Nat.reduceAdd,<-J7] at hA;have E0O:(A5 (A9 2 n++V5 s)).length=27*1:=by rw [A4,E3S,O6,fT]
  have hA2:=jL (h:=g++[rT [.s s,.i .i64 n],rT [],none,rT (A5 (V5 s)),rT (A5 (A9 2 n++V5 s)),rT (A5 [0,0,0,0,0])]) (id:=g.length+4) (jd:=g.length+5) (n:=27) (m:=5) (sz:=1) (cs:=A5 (A9 2 n++V5 s)) (ys:=A5 [0,0,0,0,0]) (rw:=true) (by simp) E0O (by simp) rfl rfl (by omega) (by omega);simp only [E3S,E3Z,E4h,E4b,E3U,E4l,E37,qQ,E4B,E4A,Nat.reduceAdd,<-J7] at hA2;rw [<-E3U (A9 2 n),show A9 2 n++V5 s++[0,0,0,0,0]=W7 s n from rfl] at hA2;rw [C1k];refine ⟨sV (g.length+6) 0 32 1,g++[rT [.s s,.i .i64 n],rT [],none,rT (A5 (V5 s)),none,rT (A5 [0,0,0,0,0]),rT (A5 (W7 s n))],?_,by rw [A4,W8],g.length+6,rfl,by omega,?_⟩
  ·generalize W7 s n=E at *;generalize A9 2 n++V5 s=Q at *;generalize A5 [0,0,0,0,0]=F at *;generalize A5 (V5 s)=P at *;generalize A5 (A9 2 n)=B2 at *;simp only [esc,esh,Nat.reduceAdd,Nat.reduceMul,Nat.reduceLT,hB,E1l,hP,hpl,hA,ef5,hA2]
  ·simp
 obtain ⟨v,g',e,ho⟩:=key (ro h);exact B71 e (by simpa [E7] using ho) (by simp)
theorem D61 {b:List UInt8} {k:Nat}:bI b ((J1 k+2:Nat):Int) 25=nameB b k:=by
 unfold bI nameB;rw [if_pos (by omega),E38];rfl
theorem E3o {k:Nat} (hk:k<7):IntKind.wrap .i64 (32*(k:Int))=((32*k:Nat):Int):=by rw [wrap_i64 (by omega) (by omega)];omega
theorem E3m {k:Nat} (hk:k<7):IntKind.wrap .i64 (32+((32*k:Nat):Int))=((J1 k:Nat):Int):=by unfold J1;rw [wrap_i64 (by omega) (by omega)];omega
theorem E2i {k:Nat} (hk:k<7):IntKind.wrap .i64 (34+((32*k:Nat):Int))=((J1 k+2:Nat):Int):=by unfold J1;rw [wrap_i64 (by omega) (by omega)];omega
theorem uS {v:Val} {nv k:Nat} {b:List UInt8} {h:A6} (hv:Has h v 1 nv (A5 b)) (hb:b.length=256) (hk:k<7):A8A [v,iV (k:Int)] h=some (.t [.a (U9 (Q9 b k)),.c (.b (Q9 b k).isSome)],h):=by
 have key:∀ g,Has g v 1 nv (A5 b)->∃ g',A7R 0 [v,iV (k:Int)] g=some (.t [.a (U9 (Q9 b k)),.c (.b (Q9 b k).isSome)],g'):=by
  intro g hv;have hnl:=A6d hb hk;have lO:=B66 hb hk;have hC:=λl=>A6h (hv.more l) (a:=((J1 k+2:Nat):Int)) (n:=25) (by unfold J1;omega) (by omega)
  rw [D61,hnl] at hC;have hU:=λ(c0:Option Row)=>D0W (v:=sV (g.length+1) 0 25 1) (nv:=25) (l:=nameB b k) (h:=g++[c0,rT (A5 (nameB b k))]) (Has.row (rw:=true) (by simp) (by rw [A4,hnl]) (F6 _)) hnl
  have hA:=λl=>oR (hv.more l) hb (a:=(J1 k:Nat)) (w:=2)
  rw [D4s hk] at hA;have ef:∀ (s:List UInt8) (n:Int),D9 [Cell.s [],o0] [(0,1,.c (.s s)),(1,1,iV n)]=some [.s s,.i .i64 n]:=λ_ _=>rfl
  have ef0:D9 [Cell.s [],o0] []=some [.s [],o0]:=rfl;have w0:=E3o hk;have w1:=E3m hk;have w2:=E2i hk;rw [C3c];unfold Q9;cases hu:cM (nameB b k) with
  | none =>
   rw [hu] at hU;simp only [E4F,E4d] at hU;generalize bY b k=n at *;generalize A5 (nameB b k)=z at *;exact ⟨_,by simp only [esc,esh,Nat.reduceAdd,Nat.reduceMul,Nat.reduceLT,w0,w1,w2,hC,hU,hA,ef,ef0,Option.bind_none,U9,E4d]<;>rfl⟩
  | some s =>
   rw [hu] at hU;simp only [E4w,E33] at hU;have hfs:=(bP (A6q hu)).2;have hM:=λh=>D0T (s:=s) (n:=bY b k) (h:=h) (by omega)
   rw [E3X];unfold isE;cases hm:A09 s (bY b k) with
   | false =>
    rw [hm] at hM;rw [E3W,if_neg (by simp)];generalize bY b k=n at *;generalize A5 (nameB b k)=z at *;exact ⟨_,by simp only [esc,esh,Nat.reduceAdd,Nat.reduceMul,Nat.reduceLT,w0,w1,w2,hC,hU,hA,ef,ef0,hM,U9,E4d]<;>rfl⟩
   | true =>
    rw [hm] at hM;rw [E31];have hB:=λh=>B0q (s:=s) (n:=bY b k) (h:=h) hm
    have hC2:=λl=>A6h (hv.more l) (a:=(J1 k:Nat)) (n:=32) (by unfold J1;omega) (by omega)
    rw [D1O,lO] at hC2;have hS:=λ(c0 c1 c2:Option Row)=>gP (l:=W7 s (bY b k)) (r:=A00 b k) (h:=g++[c0,c1,c2,rT (A5 (W7 s (bY b k))),rT (A5 (A00 b k))]) (v:=sV (g.length+3) 0 32 1) (u:=sV (g.length+4) 0 32 1) (Has.row (rw:=true) (by simp) (by rw [A4,W8]) (F6 _)) (Has.row (rw:=true) (by simp) (by rw [A4,lO]) (F6 _)) (by rw [W8];omega)
    by_cases ce:W7 s (bY b k)=A00 b k
    ·rw [if_pos (decide_eq_true ce)];rw [decide_eq_true ce] at hS;generalize W7 s (bY b k)=E at *;generalize A00 b k=L at *;generalize bY b k=n at *;generalize A5 (nameB b k)=z at *;exact ⟨_,by simp only [esc,esh,Nat.reduceAdd,Nat.reduceMul,Nat.reduceLT,w0,w1,w2,hC,hU,hA,ef,ef0,hM,hB,hC2,hS,U9,E33]<;>rfl⟩
    ·rw [if_neg (by rw [decide_eq_true_eq];exact ce)];rw [decide_eq_false ce] at hS;generalize W7 s (bY b k)=E at *;generalize A00 b k=L at *;generalize bY b k=n at *;generalize A5 (nameB b k)=z at *;exact ⟨_,by simp only [esc,esh,Nat.reduceAdd,Nat.reduceMul,Nat.reduceLT,w0,w1,w2,hC,hU,hA,ef,ef0,hM,hB,hC2,hS,U9,E4d]<;>rfl⟩
 obtain ⟨g',e⟩:=key (ro h) hv.ro;exact B73 e (by simp [Val.flat,C8Q,Cell.flat])
def D3Q (o:Option Nat):Int:=match o with
 | some k=>k
 | none=>-1
theorem B4q {v:Val} {nv q:Nat} {b nm:List UInt8} (hb:b.length=256):∀ (e k m:Nat) (h:A6),k+e=7->e<m->Has h v 1 nv (A5 b) ->
  ∃ h',B6k q m v (.c (.s nm)) (iV (k:Int)) h=some (iV (D3Q ((Z2 b nm e k).map (·.1))),h')
 | e,k,0,h,_,hm,_=>by omega
 | 0,k,m+1,h,hk,hm,hv=>by
  have e0:k=7:=by omega
  subst e0;have c0:¬ ((7:Nat):Int)<7:=by omega
  rw [A6X];exact ⟨_,by simp only [esc,c0]<;>rfl⟩
 | e+1,k,m+1,h,hk,hm,hv=>by
  have c0:(k:Int)<7:=by omega
  have hR:=uS (k:=k) hv hb (by omega);have w1:=C6 (show k+1<9223372036854775808 by omega);rw [A6X];cases hx:Q9 b k with
  | none =>
   rw [hx] at hR;rw [A3r hx];obtain ⟨h',ih⟩:=B4q (q:=q) (nm:=nm) hb e (k+1) m (h++[rT ([.s [],o0])]) (by omega) (by omega) (hv.more _);exact ⟨h',by simp only [esc,esh,Nat.reduceAdd,Nat.reduceMul,Nat.reduceLT,c0,hR,U9,E4d,w1];exact ih⟩
  | some x =>
   obtain ⟨s,n⟩:=x;rw [hx] at hR;by_cases ce:s=nm
   ·subst ce;rw [A54 hx];exact ⟨_,by simp only [esc,esh,Nat.reduceAdd,Nat.reduceMul,Nat.reduceLT,c0,hR,U9,E33]<;>rfl⟩
   ·rw [A3q hx ce];obtain ⟨h',ih⟩:=B4q (q:=q) (nm:=nm) hb e (k+1) m (h++[rT [.s s,.i .i64 n]]) (by omega) (by omega) (hv.more _);exact ⟨h',by simp only [esc,esh,Nat.reduceAdd,Nat.reduceMul,Nat.reduceLT,c0,hR,U9,E33,ce,w1];exact ih⟩
theorem C7U {v:Val} {nv:Nat} {b nm:List UInt8} {h:A6} (hv:Has h v 1 nv (A5 b)) (hb:b.length=256):A8z [v,.c (.s nm)] h=some (iV (D3Q ((V4 b nm).map (·.1))),h):=by
 obtain ⟨h',e⟩:=B4q (q:=8) (nm:=nm) hb 7 0 8 (ro h) (by omega) (by omega) hv.ro;exact B72 (n:=8) (by rw [C3a];exact e) rfl
theorem C7V {h:A6}:A1F [] h=some (sV h.length 0 256 1,h++[rT (A5 hdB)]):=by
 have key:∀ g,∃ v g',A7Q 0 [] g=some (v,g')/\Out g.length g' v 1 256 (A5 hdB):=by
  intro g;have hn:A5P (iV 256) (iV 256)=some 256:=rfl;have rz:=tO 256;have ef:D9 [Cell.i .u8 0,.i .u8 0,.i .u8 0,.i .u8 0] [(0,1,.c (.i .u8 98)),(1,1,.c (.i .u8 107)),(2,1,.c (.i .u8 116)),(3,1,.c (.i .u8 33))]=some (A5 B1l):=rfl;have hM:xJ (g++[rT [],rT (A5 (zeros 256)),rT (A5 B1l)]) (sV (g.length+2) 0 4 1)=some (sV (g.length+2) 0 4 1):=by simp [xJ]
  have hL:=qO (v:=sV (g.length+1) 0 256 1) (u:=sV (g.length+2) 0 4 1) (nv:=256) (nu:=4) (l:=zeros 256) (data:=B1l) (a:=0) (h:=g++[rT [],rT (A5 (zeros 256)),rT (A5 B1l)]) (Has.row (rw:=true) (by simp) (by rw [A4,zeros_length]) (F6 _)) (Has.row (rw:=true) (by simp) rfl (F6 _)) (by omega) (by rw [zeros_length];omega);have el:A7x (zeros 256) 0 B1l=hdB:=by
   have h1:=A4s (l:=zeros 256) (a:=0) (xs:=B1l) (by rw [zeros_length];decide);have h2:=C52 (b:=B1l) (by decide);unfold A7w at h2;rw [if_pos ⟨by omega,by omega⟩,E3Y (by decide)] at h2;exact h1.trans h2
  rw [el,zeros_length] at hL;rw [C3b];refine ⟨sV (g.length+3) 0 256 1,g++[rT [],rT (A5 (zeros 256)),rT (A5 B1l),rT (A5 hdB)],?_,by rw [A4,A55],g.length+3,rfl,by omega,by simp⟩;generalize hdB=H at *;generalize A5 B1l=mg at *;generalize zeros 256=z at *;simp only [esc,esh,Nat.reduceAdd,Nat.reduceMul,Nat.reduceLT,hn,rz,ef,hM,hL]
 obtain ⟨v,g',e,ho⟩:=key (ro h);exact C1R e (by simpa [E7] using ho) (by simp)
theorem D5S {x:Nat} {b:Int} (h5:b<=5):C7N x b=x%B9 b:=by
 unfold C7N B9 U8;by_cases c:b<1
 ·rw [if_pos c];have:(max 0 (min b 5)).toNat=0:=by omega
  rw [this];simp [Nat.mod_one]
 ·rw [if_neg c,if_neg (by omega)];have:(max 0 (min b 5)).toNat=b.toNat:=by omega
  rw [this]
theorem A9T {b nm:List UInt8}:∀ {e k:Nat} {x:Slt},Z2 b nm e k=some x->k<=x.1/\x.1<k+e/\Q9 b x.1=some x.2/\x.2.1=nm
 | 0,k,x,h=>by simp [Z2] at h
 | e+1,k,x,h=>by
  cases hr:Q9 b k with
  | none =>
   rw [A3r hr] at h;have:=A9T h;exact ⟨by omega,by omega,this.2.2⟩
  | some y =>
   obtain ⟨s,n⟩:=y;by_cases c:s=nm
   ·subst c;rw [A54 hr] at h;cases h;exact ⟨E3T _,by simp,hr,rfl⟩
   ·rw [A3q hr c] at h;have:=A9T h;exact ⟨by omega,by omega,this.2.2⟩
theorem D3p {b nm:List UInt8} {x:Slt} (h:V4 b nm=some x):x.1<7/\Q9 b x.1=some x.2/\x.2.1=nm:=by
 have:=A9T h;exact ⟨by omega,this.2.2⟩
end Go.Proofs.YtbnkgnfhgbhblaaGreat
namespace Go.Proofs.YtbnkgnfhgbhblaaGreat
open Go Go.Esc
set_option maxRecDepth 100000
noncomputable section
variable (n m m2:Nat) (a0 a1 a2 a3 a4 a5 x0 x1 x3 x4 x5 x6 x7 x8 x9 x10 x11 x12 x13 x14 x15 x16 x17 x18 x19 x20 x22 x23 x33 x34 x35:Val) (h:A6)
def A1i:FD Tryz.prog:=⟨px 0X11fc71638181de1801c183847622621fa21c4c480363232321fa61a119818048391418632421c818161e13cc61c21c4c00012d3fd518632420117127a181de1c18383762224633a2a863a1f61a13a19b7a3a363a1f25e3a4f6062bc61a201ac4a02e319391b2b6324263233103d62d942ec032ed4643242,[.c (.b true)],[],[.cellN 6 8,.tmp 7],[cal C3U]⟩
def B92:=A1i.R
def A0b:=mR B92 A1i (tT []) n [a0,a1,a2] h
def B9B:=A1i.K Tryz.func109
def vB:=A1i.Q
theorem A8I:SOk Tryz.prog 109 vB:=B9B.ok
theorem A0o:OfT B92 vB:=B9B.of
def A1j:FD Tryz.prog:=⟨px 0X1238181de1c18382612621fa41c4c61e13cc61012113fc18061e13cc61c46e4c00013fc196322621fa35e4c61e13cc61011113fc4061e13cc61c32e4c00013fc19632323d62d9032ed2632142,[],[],[.cellN 6 8],[]⟩
def B93:=A1j.R
def C3i:=mR B93 A1j (tT []) n [a0,a1,a2] h
def B9C:=A1j.K Tryz.func112
def A1H:=A1j.Q
theorem A8J:SOk Tryz.prog 112 A1H:=B9C.ok
theorem C3Z:OfT B93 A1H:=B9C.of
def U4:FD Tryz.prog:=⟨px 0X1248181de61e2e361ac26151ac69a061c1a584c28181e939501918135e82b15607c4ca1bb1318621fa1a1e11985de05de05de1dd151806e82c15ba0218228181de5ba181db3922e2b2a1b1a18641826d80106cc2181de3d02d2df14e6804a1d9696c81c9162e3a321ac61c61a119859a059a03833828181ca391b11b2e2d2b2a1b1a18641932461a17c5c039607c4da1bd141c82c2b2a1b1a18641922c2b2a1b1a18641831a12c112c2b2a1b1a1864182352b2a1b1a186473270241889617c4ba1b9121ba2b2a1b1a18641822b2a1b1a1864732b2a1b1a1864726251012b2a1b1a1864722a1a184435c82a16141ac61e231ac61c1a584c4062a1b1a18646201248181de28183821812241627c61c1a584c31aa1b1a18641721b1a1864163621fa1284c3ee031b1a1864162621b1de1a1e1b198581b381c03ce19a15291b1a18641724cc29161e1b3cc61c1284c0001b3fc5291b1a1864311820621fa1a584c3aa0318228181de7c1818b392281b1a186431182498048c2181de3d1f2d913e6803a189694887b161e2a321ac61c1a4c4c3833828187c391b281f1b1a1864311922439657c5c79127a1b1a191864311921b1a186431711a2cc1c15607c685813181a21fa1e61628c4584c780680518228181de6c186c3921e1c1b1a191864311a239c0103982181de3d01d2df14e6804a6a6938c5a162e3a321ac61c1a61628c44c4c6803833828185b391b11b1e1d1c1b1a191864311b3151c1b1a1918643119307024362a2a861a118f7f5c18f36818f36039617c6849174f1c1b1a191864311a21c1b1a191864311931c1b1a191864311906051011c1b1a191864311921b1a191864311832881b16111ac61c24c3e4d41b1a191864311821ec21b1de3b1a2d961251151033b3e861c24c3b4d51a19186431721d821b1de3b192d961a1e301ac1c03833842f1619186431623d182d92a62ed042ed318643152,[.c (.b false)],[],[.cellN 8 8],[cal nB,cal B7Z,cal A8I,cal nC,cal B5v,cal C1Y,cal A8J]⟩
def A1E:=U4.R
def yP:AtH:=U4.lj 0 n [m] [x1,x3,x4,x6,x8,x9,x10,x11,x12]
def A52:AtH:=U4.lj 1 n [] [x1,x3,x4,x6,x8,x10,x11]
def A53:AtH:=U4.lj 2 n [m] [x4,x6,x8,x10,x11,x18,x19]
def D0g:AtH:=U4.lj 3 n [m] [x4,x6,x8,x10,x11,x18,x19,x20]
def vD:=tT [⟨2,9,yP⟩,⟨1,7,A52⟩,⟨2,7,A53⟩,⟨2,8,D0g⟩]
def C3h:=mR A1E U4 vD n [a0,a1,a2,a3] h
def A61:=mL U4 vD 0 n [m] [x1,x3,x4,x6,x8,x9,x10,x11,x12] h
def A6Z:=mJ U4 vD 1 n [] [x1,x3,x4,x6,x8,x10,x11] h
def wV:=mL U4 vD 2 n [m] [x4,x6,x8,x10,x11,x18,x19] h
def A60:=mJ U4 vD 3 n [m] [x4,x6,x8,x10,x11,x18,x19,x20] h
def B9A:=U4.K Tryz.func49
def A8H:=U4.Q
theorem C3X:SOk Tryz.prog 49 A8H:=B9A.ok
theorem C3W:OfT A1E A8H:=B9A.of
def B0C:FD Tryz.prog:=⟨px 0X11ec01dc01d8611647c5805804c3a171876321cc1a161a231ac18061a221ac6e002d161a19220130101613187632241627c5a2b122c19204219203319819161c1a614828c316a4c61e211ac61c04e4c6101ac4e1b160191920333010161442ed442032,[.c (.b false)],[],[.tmp 6,.tmp 7,.tmp 8],[cal B5q,cal C69,cal nC,cal C3R]⟩
def B7r:=B0C.R
def C9H:=mR B7r B0C (tT []) n [a0,a1,a2] h
def C79:=B0C.K Tryz.func183
def B8c:=B0C.S
theorem C9U:SOk Tryz.prog 183 B8c:=C79.sok
theorem C3V:E5 B7r B8c:=C79.flat
def A4Q:FD Tryz.prog:=⟨px 0X17c614a02612621fa1a1e11985e0402a1b15712587161a13cc000001183fd472132163b9121032,[],[],[.tmp 6],[]⟩
def B2X:=A4Q.R
def C60:=mR B2X A4Q (tT []) n [a0,a1,a2] h
def C2R:=A4Q.K Tryz.func228
def B3w:=A4Q.S
theorem C7m:SOk Tryz.prog 228 B3w:=C2R.sok
theorem C30:qT B2X B3w:=C2R.out
def nV:FD Tryz.prog:=⟨px 0X171b1258181de2c183831b1a220621fa02c4c61e13cc61011113fc28061e13cc61c02c4c00013fc1918621fa72c4c61a1e321ac1c028061c72c4c71a54322462bc6c026e1a543521a5201a621fa62c4c63e4a321ac35607c61c61a119828061c62c4c28061c62c5a4d190191d1a543530131b1258181de2c183831b1a2224673a2a8361a18c2ab6c19b3618c3196218c7f6818c3601627c6848119581d1a543621d1a543531fc1d161a211ac28061c02c3c4d51d1c1a543621dc1c10658c61a1e301ac2803c33842f161c1a543520131b126a181de2c183831b1a2224672e2a861e5487f6481f15e484f6e4836019617c5a1e1182d1a75431721a7543163303d1a2d92e72ed052ed41a7543162,[.c (.b false),.c (.b true)],[],[.cellN 10 8,.tmp 11],[cal nB,cal A5r,cal C7m]⟩
def A7U:=nV.R
def D0h:AtH:=nV.lj 0 n [] [x5,x10]
def C0c:=tT [⟨1,2,D0h⟩]
def dM:=mR A7U nV C0c n [a0,a1,a2,a3,a4] h
def wW:=mJ nV C0c 0 n [] [x5,x10] h
def B9D:=nV.K Tryz.func185
def A1I:=nV.Q
theorem C31:SOk Tryz.prog 185 A1I:=B9D.ok
theorem A0p:OfT A7U A1I:=B9D.of
def zB:FD Tryz.prog:=⟨px 0X134114125c515607c2e1a13180174114122461a27c4061c61a11984a001c16295104215510330702461e17c61c80060419510425103351030605101510320334111022,[.c (.b false),.c (.b true)],[],[.tmp 4],[]⟩
def C8m:=zB.R
def C5d:AtH:=zB.lj 0 n [m] [x0,x1,x5]
def C8s:=tT [⟨2,3,C5d⟩]
def C9I:=mR C8m zB C8s n [a0,a1] h
def B2c:=mL zB C8s 0 n [m] [x0,x1,x5] h
def C8a:=zB.K Tryz.func187
def B8d:=zB.S
theorem C9V:SOk Tryz.prog 187 B8d:=C8a.sok
theorem C3Y:E5 C8m B8d:=C8a.flat
def I7:FD Tryz.prog:=⟨px 0X1268181de38183bd3921c1219dc4915607c7ce2ba1318238181de61a3a371ac2298061c61a119828c06c038183ae3960191a884b15607c7ea2bf1318621fa5384c5607c61c5383aa4d5181d8c4a161e3a31b1ac611a1ac2a8238628907c628967c29c02980181824362e2a861e21969b1af669b1f02a869b4f1b869b360362a2a861a26897f29c68932bc689360363e2a862e25e97f65e91f61a15e919b28c5e936c5e932b85e93602c82ef12c39a4c4b4a492e1d1c1b611b21bb801bac01ba84e124a6813e6803a2ec691b9c2de161e2a331ac61c02a84c5c493842df11c584f4e4c4b4a492e1d1c1b611d201972462bc2ac2dc122dd4c4b4a492e1d1c1b611b24c4b4a492e1d1c1b611a31adc01ad8221de294c2d915a6804e2da691acc2c9161a221ac29c062e211ac61c61a119828c06c042ca11e4d4c4b4a492e1d1c1b611b21954b4a492e1d1c1b611971a1870243d617c7da2bd122be4b4a492e1d1c1b611a24b4a492e1d1c1b611934b4a492e1d1c1b6119661851014b4a492e1d1c1b611924a492e1d1c1b6118319e84a10182bc1ad24a492e1d1c1b6118275492e1d1c1b61736702461e17c61c86c07ae2ae142b9492e1d1c1b61182492e1d1c1b6173492e1d1c1b617566514911492e1d1c1b61721c623238181de61a1e371ac7ae028038182aa3952e1d1c1b6162198c019883f112a6801e2a86918fc29d16161ac5c4929e3973f2e1d1c1b6411826b82f15607c4fa1cd1318018e82e163a13cc61013113fc61c61a119878e078078a01818246be0128d2f2e1e1d1c1b1864311c2238181de6be1828c3923e2f2e1e1d1c1b1864311c2189c018982181de3d3d2d914e6804a28a69188c1fa161e2a2e3a551ac61c16aa4c1c0483384038181fb391d3e3d2f2e1e1d1c1b1864311d27cc07c8221de293b2d913e6803a1f8697bc1ea161a221ac5ee061a211ac5ea041eb11b3b2f2e1e1d1c1b1864311c278c0178806fc38125a6814e6804a1df696f81cf162e3a331ac61c61a11985aa07805c493841d811d01939382f2e1e1d1c1b1864311d3552f2e1e1d1c1b1864311b41a4702461e17c61c87804da1c9141cc2f2e1e1d1c1b1864311c22f2e1e1d1c1b1864311b32f2e1e1d1c1b1864311b26451012f2e1e1d1c1b1864311b22e1d1c1b6417312e3b912e1e1d1c1b1864311a26881e16141ac781bf131e1d1c1b1864311923881f15607c7c5f13183a82815607c29e6b131805f81e162a13cc61013113fc61c04da4c78061824362a2a861a22db7f4be2db349a2db360363e2a862e22bb7f62bb1f61a12bb19b7c2bb36c2bb33de2bb360361a2a83ba2ad3603be1991291b929281f1e1d1c1b1864311d24c804bc04b82b124a6813e6803a18e694ac188161e2a331ac61c039a4c5c4938418911c2d2c2b2a29281f1e1d1c1b1864312823fc03f8221de29292d915a6804e7e693ec6d161a221ac2ea062e211ac61c61a11987c06c046e11e2a29281f1e1d1c1b1864311d235281f1e1d1c1b1864311b31a270243d617c28e69126a281f1e1d1c1b1864311c2281f1e1d1c1b1864311b3281f1e1d1c1b1864311b162512811281f1e1d1c1b1864311b2151f1e1d1c1b1864311a30702461e17c61c86c07c5b145e1f1e1d1c1b1864311b21f1e1d1c1b1864311a31f1e1d1c1b1864311a06051011f1e1d1c1b1864311a21e1d1c1b18643119313b811e1d1c1b1864311922d81d16101ac5c49593931d1c1b1864311823d2d83a1b2ed3a182ed062ed41c1b18643172,[.c (.b false)],[],[.cellN 12 8],[cal A1G,cal nC,cal A8B,cal C9U,cal C3K,cal C31,cal B1R,cal A8J,cal C3S,cal C9V,cal A6H,cal mN]⟩
def B47:=I7.R
def uN:AtH:=I7.lj 0 n [m] [x1,x3,x4,x6,x8,x11,x12,x13,x14,x15]
def B2d:AtH:=I7.lj 1 n [m,m2] [x1,x3,x4,x6,x8,x11,x12,x13,x14,x15,x16]
def A3l:AtH:=I7.lj 2 n [m] [x1,x3,x4,x6,x8,x11,x12,x13,x14,x22,x23]
def C7D:AtH:=I7.lj 3 n [m,m2] [x1,x3,x4,x6,x8,x11,x12,x13,x14,x15,x16]
def C7E:AtH:=I7.lj 4 n [m] [x1,x3,x4,x6,x8,x11,x12,x13,x14,x22,x23]
def A3m:AtH:=I7.lj 5 n [m] [x1,x6,x11,x12,x13,x22,x33]
def A3n:AtH:=I7.lj 6 n [m,m2] [x1,x6,x11,x12,x13,x22,x33,x34,x35]
def C7F:AtH:=I7.lj 7 n [m,m2] [x1,x6,x11,x12,x13,x22,x33,x34,x35]
def Z6:=tT [⟨2,10,uN⟩,⟨3,11,B2d⟩,⟨2,11,A3l⟩,⟨3,11,C7D⟩,⟨2,11,C7E⟩,⟨2,7,A3m⟩,⟨3,9,A3n⟩,⟨3,9,C7F⟩]
def C1o:=mR B47 I7 Z6 n [a0,a1,a2,a3,a4,a5] h
def A4l:=mL I7 Z6 0 n [m] [x1,x3,x4,x6,x8,x11,x12,x13,x14,x15] h
def lD:=mL I7 Z6 1 n [m,m2] [x1,x3,x4,x6,x8,x11,x12,x13,x14,x15,x16] h
def tA:=mL I7 Z6 2 n [m] [x1,x3,x4,x6,x8,x11,x12,x13,x14,x22,x23] h
def dV:=mJ I7 Z6 3 n [m,m2] [x1,x3,x4,x6,x8,x11,x12,x13,x14,x15,x16] h
def A4k:=mJ I7 Z6 4 n [m] [x1,x3,x4,x6,x8,x11,x12,x13,x14,x22,x23] h
def A4m:=mL I7 Z6 5 n [m] [x1,x6,x11,x12,x13,x22,x33] h
def lJ:=mL I7 Z6 6 n [m,m2] [x1,x6,x11,x12,x13,x22,x33,x34,x35] h
def aP:=mJ I7 Z6 7 n [m,m2] [x1,x6,x11,x12,x13,x22,x33,x34,x35] h
def B4P:=I7.K Tryz.func117
def A5z:=I7.Q
theorem C10:SOk Tryz.prog 117 A5z:=B4P.ok
theorem C1Z:OfT B47 A5z:=B4P.of
def Y5:FD Tryz.prog:=⟨px 0X1248181de61a2e3a3e4a661ac5c493861c161628c44c4c1c0383384028181eb391a181259c2915607c48e1aa13186b82c15607c58e1cd13180121fa1a614828c15c4c5ea04182462e27c161c61a11985de05de061c1a614828c15c4c59e1cf1180191df2c2b29281b191864311c3352c2b29281b191864311b31a27024361e2a816238b7f4fe38b360289617c4de1bf161cc2c2b29281b191864311c22c2b29281b191864311b32c2b29281b191864311b262512c112c2b29281b191864311b2228181de4ea181be3922b29281b191864311a25ec0105e82181de3d02a2df14e6804a1bc695dc1ac162e3a331ac61c61a11984be04be03833828181ad391b11b2b2a29281b191864311b31529281b191864311930702461e17c61c83fe03ee19e141a929281b191864311a229281b1918643119329281b1918643119160510129281b191864311921b19186431734ec2816151ac5c49383281b1918643118225c491de6141ac5c493831b191864317201248181de28183821812241627c61c161628c44c4c41981b191864311821b1918643173621fa1284c7c031b1918643172621b1de1a1e1b1984c1b381c07c7f151f1b191864311823f81f161e1b3cc61c1284c0001b3fc51f1b1918643118201a21fa161628c44c4c780418228181de6c186f3921e1b191864311823b803ac2181de3d1d2d914a6803e6d693a85e162a2e331ac61c161628c4584c3833828185f391c1e1d1b1918643119224361a2a8681af36019627c61c058584d65d1b1a191864311921b19186431701a2bc02b82491de1f1b2d914a6803e4e692ac3f16121ac62a211ac61c161628c4584c44811c1c1b1a191864311921f821b1de3b1a2d961a1e301ac1c03833843b161a19186431721d821b1de3b192d9613511191033b3e861c61a11981c061c7282d4d1819186431623d182d92a62ed042ed318643152,[.c (.b false)],[],[.cellN 8 8],[cal nB,cal nC,cal C7j,cal A8I,cal C7i,cal A1G,cal C10]⟩
def B2W:=Y5.R
def A9N:AtH:=Y5.lj 0 n [] [x1,x3,x4,x6,x8,x9,x11]
def vK:AtH:=Y5.lj 1 n [m] [x1,x3,x4,x6,x8,x9,x11,x16,x17]
def A9R:AtH:=Y5.lj 2 n [m,m2] [x1,x3,x4,x6,x8,x9,x11,x16,x17,x19,x20]
def D1X:AtH:=Y5.lj 3 n [m,m2] [x1,x3,x4,x6,x8,x9,x11,x16,x17,x19,x20]
def A0y:=tT [⟨1,7,A9N⟩,⟨2,9,vK⟩,⟨3,11,A9R⟩,⟨3,11,D1X⟩]
def A2v:=mR B2W Y5 A0y n [a0,a1,a2,a3] h
def A9O:=mJ Y5 A0y 0 n [] [x1,x3,x4,x6,x8,x9,x11] h
def A9Q:=mL Y5 A0y 1 n [m] [x1,x3,x4,x6,x8,x9,x11,x16,x17] h
def qF:=mL Y5 A0y 2 n [m,m2] [x1,x3,x4,x6,x8,x9,x11,x16,x17,x19,x20] h
def A9P:=mJ Y5 A0y 3 n [m,m2] [x1,x3,x4,x6,x8,x9,x11,x16,x17,x19,x20] h
def C2Q:=Y5.K Tryz.func50
def B3v:=Y5.Q
theorem C7l:SOk Tryz.prog 50 B3v:=C2Q.ok
theorem C7k:OfT B2W B3v:=C2Q.of
def X6:FD Tryz.prog:=⟨px 0X1228181de2c18382412621fa12c4c4c1cc1354225a81a15607c581ab131801a21fa164c3a3e1b19861c61a119858061c62c4c5804c01a18245627c61c064c61a1b1985804c1ad161ba1a1954362551a19543541a4702461e197c61c11c4c5819f141aa1a19543621a19543531a195435364519011a19543521954334f819161e1b3cc61c12c4c0001b19b3fd5195434238c715607c3c68131822c181de61a1e2a431ac4801c338002c183861822c181de61a1e2a421ac4801c338002c183861824363e2a85621eb7f061eb58f61a1e311eb1af481eb31c31eb3b01eb3605637c486f11a1881875430723b818161c61a11983c061c02c6a4d61875430623575430521a2702462a17c61c861c02c4c3c5b155f75430627543053754305162510175430525433328c615607c38481318621fa22c4c63a13cc36101411048a29637c61a201ac3801c33861c22c4a4d71191565430530702461e17c61c01c4c383c143f65430626543053654305060516116543052543043521fa56119861c72c394d45430421c82181de13d452df6172e164e116e1043d3e8661135ca5607c61c11c4c661125ca5607c61c16e4c661b3b15ca5607c61c14e4c510111101b48b1f5195430433d2d8432ed243032,[.c (.b false)],[],[.cellN 4 8],[cal A8y,cal nB,cal C3X,cal C7l]⟩
def C8n:=X6.R
def C5e:AtH:=X6.lj 0 n [m] [x0,x3,x4,x5,x6]
def tB:AtH:=X6.lj 1 n [m] [x0,x3,x4,x5,x7]
def D3n:AtH:=X6.lj 2 n [m] [x0,x3,x4,x5,x7]
def B4a:AtH:=X6.lj 3 n [m] [x3,x4,x5,x9,x10]
def D3o:AtH:=X6.lj 4 n [m] [x3,x4,x5,x9,x10]
def zH:=tT [⟨2,5,C5e⟩,⟨2,5,tB⟩,⟨2,5,D3n⟩,⟨2,5,B4a⟩,⟨2,5,D3o⟩]
def C9J:=mR C8n X6 zH n [a0,a1] h
def B2f:=mL X6 zH 0 n [m] [x0,x3,x4,x5,x6] h
def B2g:=mL X6 zH 1 n [m] [x0,x3,x4,x5,x7] h
def A3o:=mJ X6 zH 2 n [m] [x0,x3,x4,x5,x7] h
def A3p:=mL X6 zH 3 n [m] [x3,x4,x5,x9,x10] h
def B2e:=mJ X6 zH 4 n [m] [x3,x4,x5,x9,x10] h
def C8b:=X6.K Tryz.func16
def B0G:=X6.Q
theorem C9X:SOk Tryz.prog 16 B0G:=C8b.ok
theorem C9W:OfT C8n B0G:=C8b.of
end
end Go.Proofs.YtbnkgnfhgbhblaaGreat
namespace Go.Proofs.YtbnkgnfhgbhblaaGreat
open Go Go.Esc
section
theorem R0 {g H t:A6} (G:Grows g H) (ht:t.all B2q=true):Grows g (H++t):=by
 refine G.trans' ⟨List.prefix_append _ _,λid x hid hx=>?_⟩;rw [rd_some,E35 hid] at hx;exact List.all_eq_true.1 ht _ (E4e hx)
theorem B6m {g H:A6} (G:Grows g H) {id:Nat} (hid:g.length<=id):Grows g (H.set id none):=by
 obtain ⟨⟨t,rfl⟩,h2⟩:=G;refine ⟨⟨t.set (id-g.length) none,by rw [E4p _ _ hid]⟩,λi x hi hx=>?_⟩;by_cases e:id=i
 ·subst e;have hl:=C4 hx;simp at hl;rw [B6 (by simpa using hl)] at hx;cases hx
 ·rw [A7 e] at hx;exact h2 i x hi hx
theorem B37 {H:A6} {v:Val} {ys:List Cell} {m sz:Nat} (hv:Has H v sz m ys) (hsz:0<sz) (hm:m<=1073741824) :
  iY (H++[rT []]) sz (sV H.length 0 0 sz) v=some (sV (H.length+1) 0 m sz,H++[none,rT ys]):=by
 have h1:=(hv.more [rT []]).add;have h2:rd (H++[rT []]) H.length=rT []:=by rw [F8];rfl
 have hl:=hv.length;have hd:ys.length/sz=m:=by rw [hl];exact Nat.mul_div_cancel m hsz
 simp only [iY,h1,h2,E3X,hd];rw [if_pos ⟨trivial,trivial,by simp,trivial,by omega⟩];simp
theorem one_app {K:A6} {id n sz:Nat} {cs ys:List Cell} (hr:rd K id=rT cs) (hl:cs.length=n*sz) (hy:ys.length=sz) (hsz:0<sz) (hn:n+1<=1073741824) :
  iY (K++[rT ys]) sz (sV id 0 n sz) (sV K.length 0 1 sz)=some (sV (K.length+1) 0 (n+1) sz,(K++[rT ys]).set id none++[rT (cs++ys)]):=by
 have h1:rd (K++[rT ys]) id=rT cs:=B7 hr;have h2:O4 (K++[rT ys]) sz (sV K.length 0 1 sz)=some ys:=by
  simp [O4,fV,hy,E3Y (Nat.le_of_eq hy)]
 simp only [iY,h2,h1,E3X,hy,Nat.div_self hsz];rw [if_pos ⟨trivial,trivial,hl.symm,trivial,hn⟩];simp
def InR (P:Nat->Prop) (x:Cell):Prop:=∀ id,nmC x=some id->P id
theorem has_set {h:A6} {x:Cell} {sz n j:Nat} {cs:List Cell} {y:Option Row} (hv:Has h (.c x) sz n cs) (ho:rd h j=none\/nmC x≠some j):Has (h.set j y) (.c x) sz n cs:=by
 rcases hv with hv | ⟨id,off,r,e,hr,h2⟩
 ·exact .inl hv
 ·cases e;refine .inr ⟨id,off,r,rfl,?_,h2⟩;rw [A7]
  ·exact hr
  ·intro e;subst e;rcases ho with ho | ho
   ·rw [ho] at hr;cases hr
   ·exact ho rfl
theorem A9W {h:A6} {x:Cell} {sz n id:Nat} {cs:List Cell} (hv:Has h (.c x) sz n cs) (hn:nmC x=some id):id<h.length:=by
 rcases hv with ⟨e,_⟩ | ⟨fX,off,r,e,hr,_⟩
 ·cases e;cases hn
 ·cases e;cases hn;exact C4 hr
def dW (n:Int) (F:Int->Option Int):List Int:=(E4m (n+1).toNat).map λi:Nat=>(F (i:Int)).getD 0
theorem Q8 {n:Int} {F:Int->Option Int}:(dW n F).length=(n+1).toNat:=by simp [dW]
theorem A4t {n:Int} {F:Int->Option Int} {i:Nat} (hi:i<(n+1).toNat):(dW n F)[i]?=some ((F (i:Int)).getD 0):=by simp [dW,hi]
theorem C5M {n:Int} {F:Int->Option Int} {i:Nat} {v:Int}:(dW n F).set i v=dW n (tP F (i:Int) v):=by
 refine E4I λk=>?_
 rw [List.getElem?_set];by_cases hk:k<(n+1).toNat
 ·by_cases e:i=k
  ·subst e;rw [if_pos rfl,if_pos (by rw [Q8];exact hk),A4t hk];simp [tP]
  ·rw [if_neg e,A4t hk,A4t hk];unfold tP;rw [if_neg (by omega)]
 ·have h1:¬ k<(dW n F).length:=by rw [Q8];exact hk
  have h2:(dW n (tP F (i:Int) v))[k]?=none:=E4q (by rw [Q8];omega);have h3:(dW n F)[k]?=none:=E4q (by omega);rw [h2,h3];split
  ·rename_i e;subst e;rw [if_neg h1]
  ·rfl
def E2A (P:Nat->Prop) (h:A6) (ys:List Cell) (made:List (List UInt8)):Prop :=
 ys.length=made.length/\noX ys=true/\∀ (i:Nat) (y:Cell),ys[i]?=some y->InR P y/\∃ b,made[i]?=some b/\b.length=256/\Has h (.c y) 1 256 (A5 b)
structure RCF (n:Int) (P:Nat->Prop) (h:A6) (c:Cl) (xr xi xt xb xm xl xy:Cell) (ys:List Cell):Prop where
 row:Has h (.c xr) 1 c.row.length (encI c.row)
 ino:Has h (.c xi) 11 c.ino.length (S6 c.ino)
 tak:Has h (.c xt) 1 c.taken.length (N6 c.taken)
 blk:Has h (.c xb) 1 c.blocks.length (encI c.blocks)
 mad:Has h (.c xm) 1 c.made.length ys
 mds:E2A P h ys c.made
 tol:Has h (.c xl) 1 (n+1).toNat (encI (dW n c.lnk))
 par:Has h (.c xy) 1 (n+1).toNat (encI (dW n c.par))
 pr:InR P xr
 pi:InR P xi
 pt:InR P xt
 pb:InR P xb
 pm:InR P xm
 pl:InR P xl
 py:InR P xy
def rcC (xr xi xt xb xm:Cell) (lost:Int) (xl xy:Cell):List Cell:=[xr,xi,xt,xb,xm,.i .i64 lost,xl,xy]
def IsRC (n:Int) (P:Nat->Prop) (h:A6) (cs:List Cell) (c:Cl):Prop :=
 ∃ xr xi xt xb xm xl xy ys,cs=rcC xr xi xt xb xm c.lost xl xy/\RCF n P h c xr xi xt xb xm xl xy ys
theorem IsRC.length {n:Int} {P:Nat->Prop} {h:A6} {cs:List Cell} {c:Cl} (k:IsRC n P h cs c):cs.length=8:=by
 obtain ⟨_,_,_,_,_,_,_,_,rfl,_⟩:=k;rfl
section
variable {n:Int} {P Q:Nat->Prop} {h h':A6} {c:Cl} {xr xi xt xb xm xl xy:Cell} {ys:List Cell}
theorem InR.mono (hpq:∀ id,P id->Q id) {x:Cell} (k:InR P x):InR Q x:=λid hi=>hpq id (k id hi)
theorem RCF.mono (hpq:∀ id,P id->Q id) (k:RCF n P h c xr xi xt xb xm xl xy ys):RCF n Q h c xr xi xt xb xm xl xy ys :=
 ⟨k.row,k.ino,k.tak,k.blk,k.mad,⟨k.mds.1,k.mds.2.1,λi y hy=>⟨(k.mds.2.2 i y hy).1.mono hpq,(k.mds.2.2 i y hy).2⟩⟩,k.tol,k.par,k.pr.mono hpq,k.pi.mono hpq,k.pt.mono hpq,k.pb.mono hpq,k.pm.mono hpq,k.pl.mono hpq,k.py.mono hpq⟩
theorem RCF.to (hk:∀ (x:Cell) (sz m:Nat) (cs:List Cell),InR P x->Has h (.c x) sz m cs->Has h' (.c x) sz m cs) (k:RCF n P h c xr xi xt xb xm xl xy ys):RCF n P h' c xr xi xt xb xm xl xy ys :=
 ⟨hk _ _ _ _ k.pr k.row,hk _ _ _ _ k.pi k.ino,hk _ _ _ _ k.pt k.tak,hk _ _ _ _ k.pb k.blk,hk _ _ _ _ k.pm k.mad,
  ⟨k.mds.1,k.mds.2.1,λi y hy=>⟨(k.mds.2.2 i y hy).1,by
   obtain ⟨h1,b,h2,h3,h4⟩:=k.mds.2.2 i y hy;exact ⟨b,h2,h3,hk _ _ _ _ h1 h4⟩⟩⟩,hk _ _ _ _ k.pl k.tol,hk _ _ _ _ k.py k.par,k.pr,k.pi,k.pt,k.pb,k.pm,k.pl,k.py⟩
theorem RCF.grows (G:Grows h h') (k:RCF n P h c xr xi xt xb xm xl xy ys):RCF n P h' c xr xi xt xb xm xl xy ys:=k.to λ_ _ _ _ _ hv=>hv.grows G
theorem RCF.set {j:Nat} {y:Option Row} (hj:rd h j=none\/¬ P j) (k:RCF n P h c xr xi xt xb xm xl xy ys):RCF n P (h.set j y) c xr xi xt xb xm xl xy ys :=
 k.to λx _ _ _ hp hv=>has_set hv (hj.imp id λhn e=>hn (hp j e))
theorem RCF.low (k:RCF n P h c xr xi xt xb xm xl xy ys):RCF n (λid=>P id/\id<h.length) h c xr xi xt xb xm xl xy ys :=
 ⟨k.row,k.ino,k.tak,k.blk,k.mad,⟨k.mds.1,k.mds.2.1,λi y hy=>by
  obtain ⟨h1,b,h2,h3,h4⟩:=k.mds.2.2 i y hy;exact ⟨λid hi=>⟨h1 id hi,A9W h4 hi⟩,b,h2,h3,h4⟩⟩,k.tol,k.par,λid hi=>⟨k.pr id hi,A9W k.row hi⟩,λid hi=>⟨k.pi id hi,A9W k.ino hi⟩,λid hi=>⟨k.pt id hi,A9W k.tak hi⟩,λid hi=>⟨k.pb id hi,A9W k.blk hi⟩,λid hi=>⟨k.pm id hi,A9W k.mad hi⟩,λid hi=>⟨k.pl id hi,A9W k.tol hi⟩,λid hi=>⟨k.py id hi,A9W k.par hi⟩⟩
theorem IsRC.mono (hpq:∀ id,P id->Q id) {cs:List Cell} (k:IsRC n P h cs c):IsRC n Q h cs c:=by
 obtain ⟨a1,a2,a3,a4,a5,a6,a7,a8,e,k⟩:=k;exact ⟨a1,a2,a3,a4,a5,a6,a7,a8,e,k.mono hpq⟩
theorem IsRC.grows (G:Grows h h') {cs:List Cell} (k:IsRC n P h cs c):IsRC n P h' cs c:=by
 obtain ⟨a1,a2,a3,a4,a5,a6,a7,a8,e,k⟩:=k;exact ⟨a1,a2,a3,a4,a5,a6,a7,a8,e,k.grows G⟩
theorem IsRC.set {j:Nat} {y:Option Row} (hj:rd h j=none\/¬ P j) {cs:List Cell} (k:IsRC n P h cs c):IsRC n P (h.set j y) cs c:=by
 obtain ⟨a1,a2,a3,a4,a5,a6,a7,a8,e,k⟩:=k;exact ⟨a1,a2,a3,a4,a5,a6,a7,a8,e,k.set hj⟩
theorem IsRC.low {cs:List Cell} (k:IsRC n P h cs c):IsRC n (λid=>P id/\id<h.length) h cs c:=by
 obtain ⟨a1,a2,a3,a4,a5,a6,a7,a8,e,k⟩:=k;exact ⟨a1,a2,a3,a4,a5,a6,a7,a8,e,k.low⟩
end
section
variable {D:Dev} {n m:Int} {P:Nat->Prop} {h:A6} {c:Cl} {cs:List Cell}
theorem D2H {no:Int} (k:IsRC n P h cs c) (ht:c.taken.length=D.length) (hl:D.length<=1000) :
  ∃ cs' H',vB [.a cs,.a (D3 D.length n m),iV no] h=some (.t [.a cs',.c (.i .i64 (T1 D n c no))],H')/\Grows h H'/\IsRC n (λid=>P id\/h.length<=id) H' cs' (dA D n c no):=by
 obtain ⟨xr,xi,xt,xb,xm,xl,xy,ys,rfl,k⟩:=k;have hD:=λh=>C7W (b:=D.length) (n:=n) (m:=m) (i:=no) (h:=h)
 have cl1:cells? (.a (rcC xr xi xt xb xm c.lost xl xy))=some (rcC xr xi xt xb xm c.lost xl xy):=rfl;have cl2:cells? (.a (D3 D.length n m))=some (D3 D.length n m):=rfl;have z8l:[Cell.ns,.ns,.ns,.ns,.ns,o0,.ns,.ns].length=8:=rfl;have cl8:(rcC xr xi xt xb xm c.lost xl xy).length=8:=rfl;have ll3:(D3 D.length n m).length=3:=rfl;have l2:ld1 (rT (rcC xr xi xt xb xm c.lost xl xy)) 2=some (.c xt):=rfl;have stay:∀ t:A6,t.all B2q=true->Grows h (h++t)/\IsRC n (λid=>P id\/h.length<=id) (h++t) (rcC xr xi xt xb xm c.lost xl xy) c:=λt ht =>
  ⟨R0 Grows.rfl' ht,_,_,_,_,_,_,_,_,rfl,(k.mono λ_=>.inl).grows (R0 Grows.rfl' ht)⟩
 cases hd:hJ (D.length:Int) n no with
 | false =>
  have e1:T1 D n c no=0:=by unfold T1 B35;rw [hd];rfl
  have e2:dA D n c no=c:=by unfold dA B35;rw [hd];rfl
  rw [e1,e2];rw [hd] at hD;obtain ⟨g1,g2⟩:=stay [rT (rcC xr xi xt xb xm c.lost xl xy),rT (D3 D.length n m),rT (rcC xr xi xt xb xm c.lost xl xy)] rfl;refine ⟨_,_,A0o (n:=0) (p:=(_,_)) ?_,g1,g2⟩;rw [A0b];generalize rcC xr xi xt xb xm c.lost xl xy=C at *;generalize D3 D.length n m=L at *;simp only [esc,esh,Nat.reduceAdd,Nat.reduceMul,Nat.reduceLT,Bool.not_false,cl1,cl2,ll3,cl8,z8l,hD]
 | true =>
  rw [hd] at hD;obtain ⟨i0,i1⟩:=C5E hd;obtain ⟨j,rfl⟩:=E4v i0;have hj:j<c.taken.length:=by omega
  obtain ⟨it,ot,et,_,hA,_⟩:=k.tak.sl (by omega);cases et;have a1:D6 1 (sV it ot c.taken.length 1) (iV (j:Int))=some (pV it (ot+j)):=by rw [C5 hj];simp
  have hA2:∀ t,B4 (h++t) (pV it (ot+j))=some (bV c.taken[j]):=λt=>by
   obtain ⟨it',ot',et',_,hA',_⟩:=(k.tak.more t).sl (by omega);cases et';exact hA' j _ (by simp [N6,hj])
  have eg:c.taken.getD (j:Int).toNat true=c.taken[j]:=by rw [E38,E30,E3P hj];rfl
  cases hb:c.taken[j] with
  | true =>
   have e1:T1 D n c j=0:=by unfold T1 B35;rw [hd,eg,hb];rfl
   have e2:dA D n c j=c:=by unfold dA B35;rw [hd,eg,hb];rfl
   rw [e1,e2];rw [hb] at hA2;obtain ⟨g1,g2⟩:=stay [rT (rcC xr xi (.sl it ot c.taken.length 1) xb xm c.lost xl xy),rT (D3 D.length n m),rT (rcC xr xi (.sl it ot c.taken.length 1) xb xm c.lost xl xy)] rfl;refine ⟨_,_,A0o (n:=0) (p:=(_,_)) ?_,g1,g2⟩;rw [A0b];generalize rcC xr xi (.sl it ot c.taken.length 1) xb xm c.lost xl xy=C at *;generalize D3 D.length n m=L at *;simp only [esc,esh,Nat.reduceAdd,Nat.reduceMul,Nat.reduceLT,Bool.not_true,cl1,cl2,ll3,cl8,z8l,hD,l2,a1,hA2]
  | false =>
   have e1:T1 D n c j=j:=by unfold T1 B35;rw [hd,eg,hb];rfl
   have e2:dA D n c j={ c with taken:=c.taken.set j true }:=by unfold dA B35;rw [hd,eg,hb];rfl
   rw [e1,e2];rw [hb] at hA2;obtain ⟨T3,hT3⟩:∃ T3:A6,T3=[rT (rcC xr xi (.sl it ot c.taken.length 1) xb xm c.lost xl xy),rT (D3 D.length n m),rT [Cell.ns,.ns,.ns,.ns,.ns,o0,.ns,.ns]]:=⟨_,rfl⟩;have hcp:=B37 (H:=h++T3) (k.tak.more T3) (by omega) (by omega);have lT:(h++T3).length=h.length+3:=by rw [hT3];simp
   rw [lT,hT3] at hcp;have ad:D6 1 (sV (h.length+3+1) 0 c.taken.length 1) (iV (j:Int))=some (pV (h.length+4) j):=by rw [C5 hj];simp
   have hbl:(N6 c.taken).length=c.taken.length:=by simp [N6]
   have es:(N6 c.taken).set j (.b true)=N6 (c.taken.set j true):=by simp [N6,List.map_set]
   have sb:st1 (rT (N6 c.taken)) j (.b true)=rT (N6 (c.taken.set j true)):=by
    simp only [st1,E3X];rw [if_pos ⟨trivial,by rw [hbl];exact hj⟩,es]
   have sc:st1 (rT (rcC xr xi (.sl it ot c.taken.length 1) xb xm c.lost xl xy)) 2 (.sl (h.length+3+1) 0 c.taken.length 1)=rT (rcC xr xi (.sl (h.length+4) 0 c.taken.length 1) xb xm c.lost xl xy):=rfl;have cl8':(rcC xr xi (.sl (h.length+4) 0 c.taken.length 1) xb xm c.lost xl xy).length=8:=rfl;obtain ⟨H',hH'⟩:∃ H',H'=h++[rT (rcC xr xi (.sl (h.length+4) 0 c.taken.length 1) xb xm c.lost xl xy),rT (D3 D.length n m),rT (rcC xr xi (.sl (h.length+4) 0 c.taken.length 1) xb xm c.lost xl xy),none,rT (N6 (c.taken.set j true))]:=⟨_,rfl⟩;have G:Grows h H':=by rw [hH'];exact R0 Grows.rfl' rfl
   have k2:=(k.mono (Q:=λid=>P id\/h.length<=id) λ_=>.inl).grows G;refine ⟨rcC xr xi (.sl (h.length+4) 0 c.taken.length 1) xb xm c.lost xl xy,H',A0o (n:=0) ?_,G,xr,xi,.sl (h.length+4) 0 c.taken.length 1,xb,xm,xl,xy,ys,rfl,
    ⟨k2.row,k2.ino,?_,k2.blk,k2.mad,k2.mds,k2.tol,k2.par,k2.pr,k2.pi,λid hi=>?_,k2.pb,k2.pm,k2.pl,k2.py⟩⟩
   ·rw [A0b,hH'];have ef:D9 [] []=some []:=rfl;generalize hC1:rcC xr xi (.sl it ot c.taken.length 1) xb xm c.lost xl xy=C at *;generalize rcC xr xi (.sl (h.length+4) 0 c.taken.length 1) xb xm c.lost xl xy=C' at *;generalize D3 D.length n m=L at *;generalize N6 c.taken=B at *;generalize N6 (c.taken.set j true)=B' at *;simp only [E3U,E4l,E37] at hcp;simp only [esc,esh,Nat.reduceAdd,Nat.reduceMul,Nat.reduceLT,Bool.not_true,cl1,cl2,ll3,cl8,z8l,hD,l2,a1,hA2,ef,hcp,ad,sb,sc,cl8']
   ·have e3:(c.taken.set j true).length=c.taken.length:=by simp
    show Has H' (sV (h.length+4) 0 c.taken.length 1) 1 (c.taken.set j true).length (N6 (c.taken.set j true));rw [e3];exact Has.row (rw:=true) (by rw [hH',M9];rfl) (by simp [N6]) (C89 _)
   ·cases hi;exact .inr (by omega)
end
end
section
theorem D2o {l:List Cell} {x:Cell} (h:noX l=true) (hx:x.isX=false):noX (l++[x])=true:=by
 unfold noX at *;rw [List.all_append,h];simp [hx]
section
variable {D:Dev} {n m:Int} {P:Nat->Prop} {h:A6} {c:Cl} {cs:List Cell}
theorem D2I {no:Int} {y:Cell} {b:List UInt8} (k:IsRC n P h cs c) (hy:Has h (.c y) 1 256 (A5 b)) (py:InR P y) (h1:c.blocks.length<=100000) (h2:c.made.length<=100000) (hyx:y.isX=false) :
  ∃ cs' H',A1H [.a cs,iV no,.c y] h=some (.a cs',H')/\Grows h H'/\IsRC n (λid=>P id\/h.length<=id) H' cs' (R3 c no b):=by
 obtain ⟨xr,xi,xt,xb,xm,xl,xy,ys,rfl,k⟩:=k;have hbl:b.length=256:=by have:=hy.length;rw [A4] at this;omega
 obtain ⟨T,hT⟩:∃ T:A6,T=[rT (rcC xr xi xt xb xm c.lost xl xy),rT [Cell.ns,.ns,.ns,.ns,.ns,o0,.ns,.ns]]:=⟨_,rfl⟩;have lT:(h++T).length=h.length+2:=by rw [hT];simp
 have c1:=B37 (H:=h++T) (k.blk.more T) (by omega) (by omega);obtain ⟨K,hK⟩:∃ K,K=h++T++[none,rT (encI c.blocks)]:=⟨_,rfl⟩;have lK:K.length=h.length+4:=by rw [hK,E3S,lT];rfl
 have rK:rd K (h.length+3)=rT (encI c.blocks):=by rw [hK,hT,E3U,M9];rfl
 have o1:=one_app (ys:=[Cell.i .i64 no]) rK (n:=c.blocks.length) (sz:=1) (by rw [A8];omega) rfl (by omega) (by omega);obtain ⟨K2,hK2⟩:∃ K2,K2=(K++[rT [Cell.i .i64 no]]).set (h.length+3) none++[rT (encI c.blocks++[Cell.i .i64 no])]:=⟨_,rfl⟩;have lK2:K2.length=h.length+6:=by rw [hK2];simp [lK]
 have G0:Grows h K:=by rw [hK,E3U];exact R0 Grows.rfl' (by rw [hT];rfl)
 have G2:Grows h K2:=by rw [hK2];exact (B6m (G0.new _) (by omega)).new _
 have rc2:rd K2 h.length=rT (rcC xr xi xt xb xm c.lost xl xy):=by
  rw [hK2,D1 (by simp;omega),A7 (by omega),D1 (by omega),hK,hT,E3U,F8];rfl
 have rr2:rd K2 (h.length+1)=rT [Cell.ns,.ns,.ns,.ns,.ns,o0,.ns,.ns]:=by
  rw [hK2,D1 (by simp;omega),A7 (by omega),D1 (by omega),hK,hT,E3U,M9];rfl
 have rb2:rd K2 (h.length+5)=rT (encI (c.blocks++[no])):=by
  have:rd K2 ((K++[rT [Cell.i .i64 no]]).set (h.length+3) none).length=rT (encI c.blocks++[Cell.i .i64 no]):=by rw [hK2];exact S9
  rw [E4o,E3S,lK] at this;rw [A10];exact this
 obtain ⟨K3,hK3⟩:∃ K3,K3=K2.set h.length (rT (rcC xr xi xt (.sl (h.length+5) 0 (c.blocks.length+1) 1) xm c.lost xl xy)):=⟨_,rfl⟩;have lK3:K3.length=h.length+6:=by rw [hK3];simp [lK2]
 have s3:F9 K2 (pV h.length 3) (sV (h.length+5) 0 (c.blocks.length+1) 1)=some K3:=by rw [E9 rc2 (by simp [rcC]),hK3];rfl
 have G3:Grows h K3:=by rw [hK3];exact G2.set (E3T _) _
 have rc3:rd K3 h.length=rT (rcC xr xi xt (.sl (h.length+5) 0 (c.blocks.length+1) 1) xm c.lost xl xy):=by rw [hK3];exact B6 (by omega)
 have rr3:rd K3 (h.length+1)=rT [Cell.ns,.ns,.ns,.ns,.ns,o0,.ns,.ns]:=by rw [hK3,A7 (by omega)];exact rr2
 have rb3:rd K3 (h.length+5)=rT (encI (c.blocks++[no])):=by rw [hK3,A7 (by omega)];exact rb2
 have c2:=B37 (H:=K3) (k.mad.grows G3) (by omega) (by omega);obtain ⟨K4,hK4⟩:∃ K4,K4=K3++[none,rT ys]:=⟨_,rfl⟩;have lK4:K4.length=h.length+8:=by rw [hK4];simp [lK3]
 have rK4:rd K4 (h.length+7)=rT ys:=by
  rw [hK4,show h.length+7=K3.length+1 by omega,M9];rfl
 have o2:=one_app (ys:=[y]) rK4 (n:=c.made.length) (sz:=1) (by rw [k.mds.1];omega) rfl (by omega) (by omega);obtain ⟨K5,hK5⟩:∃ K5,K5=(K4++[rT [y]]).set (h.length+7) none++[rT (ys++[y])]:=⟨_,rfl⟩;have G4:Grows h K4:=by rw [hK4];exact R0 G3 rfl
 have G5:Grows h K5:=by rw [hK5];exact (B6m (G4.new _) (by omega)).new _
 have old5:∀ id,id<K3.length->rd K5 id=rd K3 id:=λid hid=>by
  rw [hK5,D1 (by simp [lK4];omega),A7 (by omega),D1 (by omega),hK4,D1 hid]
 have rm5:rd K5 (h.length+9)=rT (ys++[y]):=by
  have:rd K5 ((K4++[rT [y]]).set (h.length+7) none).length=rT (ys++[y]):=by rw [hK5];exact S9
  rw [E4o,E3S,lK4] at this;exact this
 have lK5:K5.length=h.length+10:=by rw [hK5];simp [lK4]
 obtain ⟨C',hC'⟩:∃ C',C'=rcC xr xi xt (.sl (h.length+5) 0 (c.blocks.length+1) 1) (.sl (h.length+9) 0 (c.made.length+1) 1) c.lost xl xy:=⟨_,rfl⟩;obtain ⟨K6,hK6⟩:∃ K6,K6=K5.set h.length (rT C'):=⟨_,rfl⟩;have rc5:rd K5 h.length=rT (rcC xr xi xt (.sl (h.length+5) 0 (c.blocks.length+1) 1) xm c.lost xl xy):=by rw [old5 _ (by omega)];exact rc3
 have s4:F9 K5 (pV h.length 4) (sV (h.length+9) 0 (c.made.length+1) 1)=some K6:=by rw [E9 rc5 (by simp [rcC]),hK6,hC'];rfl
 have rc6:rd K6 h.length=rT C':=by rw [hK6];exact B6 (by omega)
 have rr6:rd K6 (h.length+1)=rT [Cell.ns,.ns,.ns,.ns,.ns,o0,.ns,.ns]:=by rw [hK6,A7 (by omega),old5 _ (by omega)];exact rr3
 have l8:C8 K6 8 (pV h.length 0)=some (.a C'):=B8 rc6 (by rw [hC'];rfl);have s8:E1 K6 8 (pV (h.length+1) 0) (.a C')=some (K6.set (h.length+1) (rT C')):=storeAll rr6 rfl (by rw [hC'];rfl);obtain ⟨K7,hK7⟩:∃ K7,K7=K6.set (h.length+1) (rT C'):=⟨_,rfl⟩;rw [<-hK7] at s8;have l8':C8 K7 8 (pV (h.length+1) 0)=some (.a C'):=B8 (by rw [hK7];exact B6 (C4 rr6)) (by rw [hC'];rfl);have G7:Grows h K7:=by rw [hK7,hK6];exact (G5.set (E3T _) _).set (by omega) _
 have old7:∀ id,id≠h.length->id≠h.length+1->rd K7 id=rd K5 id:=λid e1 e2=>by rw [hK7,A7 (Ne.symm e2),hK6,A7 (Ne.symm e1)]
 have k7:=(k.mono (Q:=λid=>P id\/h.length<=id) λ_=>.inl).grows G7;refine ⟨C',K7,C3Z (n:=0) ?_,G7,xr,xi,xt,.sl (h.length+5) 0 (c.blocks.length+1) 1,.sl (h.length+9) 0 (c.made.length+1) 1,xl,xy,ys++[y],by rw [hC'];rfl,
  ⟨k7.row,k7.ino,k7.tak,?_,?_,⟨by simp [R3,k.mds.1],D2o k.mds.2.1 hyx,λi z hz=>?_⟩,k7.tol,k7.par,k7.pr,k7.pi,k7.pt,λid hi=>by cases hi;exact .inr (by omega),λid hi=>by cases hi;exact .inr (by omega),k7.pl,k7.py⟩⟩
 ·have cl1:cells? (.a (rcC xr xi xt xb xm c.lost xl xy))=some (rcC xr xi xt xb xm c.lost xl xy):=rfl;have ef:D9 [] []=some []:=rfl;have ef1:D9 [o0] [(0,1,iV no)]=some [.i .i64 no]:=rfl;have ef2:D9 [Cell.ns] [(0,1,.c y)]=some [y]:=rfl;have lb:B4 (h++T++[rT []]) (pV h.length 3)=some (.c xb):=B5 (cs:=rcC xr xi xt xb xm c.lost xl xy) (rw:=true) (by rw [hT,E3U,F8];rfl) rfl rfl;have lm:B4 (K3++[rT []]) (pV h.length 4)=some (.c xm):=B5 (B7 rc3) rfl rfl;rw [lT] at c1;rw [<-hK] at c1;rw [<-hK2] at o1;rw [lK] at o1;rw [lK3] at c2;rw [<-hK4] at c2;rw [<-hK5] at o2;rw [lK4] at o2;simp only [hT,E3U,E4l,E37] at c1 lb;rw [C3i];generalize C'=Z at *;simp only [esc,Nat.reduceAdd,cl1,ef,lb,c1,lK,ef1,o1,s3,lK3,lm,c2,lK4,ef2,o2,s4,l8,s8,l8']
 ·show Has K7 (sV (h.length+5) 0 (c.blocks.length+1) 1) 1 (c.blocks++[no]).length (encI (c.blocks++[no]));rw [E3S];exact Has.row (rw:=true) (by rw [old7 _ (by omega) (by omega),old5 _ (by omega)];exact rb3) (by simp [A8]) (cG _)
 ·show Has K7 (sV (h.length+9) 0 (c.made.length+1) 1) 1 (c.made++[b]).length (ys++[y]);rw [E3S];exact Has.row (rw:=true) (by rw [old7 _ (by omega) (by omega)];exact rm5) (by simp [k.mds.1]) (D2o k.mds.2.1 hyx)
 ·by_cases hi:i<ys.length
  ·rw [E4r hi] at hz;obtain ⟨q1,b',q2,q3,q4⟩:=k7.mds.2.2 i z hz;refine ⟨q1,b',?_,q3,q4⟩;show (c.made++[b])[i]?=some b';rw [E4r (by rw [<-k.mds.1];exact hi)];exact q2
  ·rw [E35 (by omega)] at hz;have e:i-ys.length=0:=by
    have:=(List.getElem?_eq_some_iff.1 hz).1;simp at this;omega
   rw [e] at hz;simp at hz;subst hz;refine ⟨λid hid=>.inl (py id hid),b,?_,hbl,hy.grows G7⟩;show (c.made++[b])[i]?=some b;have e2:=k.mds.1;rw [E35 (by omega),show i-c.made.length=0 by omega];rfl
theorem D41 {x:Cell} {l:List Int} {at_:Nat} {v:Int} {nv:Nat} (hx:Has h (.c x) 1 nv (encI l)) (ha:at_<l.length) (hl:l.length<=100000) :
  B3w [.c x,iV (at_:Int),iV v] h=some (sV h.length 0 nv 1,h++[rT (encI (l.set at_ v))]):=by
 have hn:nv=l.length:=by have:=hx.length;rw [A8] at this;omega
 subst hn;obtain ⟨T,hT⟩:∃ T:A6,T=[rT []]:=⟨_,rfl⟩;have c1:=B37 (H:=ro h++T) (hx.ro.more T) (by omega) (by omega);have lT:(ro h++T).length=(ro h).length+1:=by rw [hT];simp
 rw [lT,hT] at c1;have ad:D6 1 (sV ((ro h).length+1+1) 0 l.length 1) (iV (at_:Int))=some (pV ((ro h).length+2) at_):=by rw [C5 ha];simp
 have st:st1 (rT (encI l)) at_ (.i .i64 v)=rT (encI (l.set at_ v)):=by
  simp only [st1,E3X];rw [if_pos ⟨trivial,by rw [A8];exact ha⟩,aX]
 have key:B2X 0 [.c x,iV (at_:Int),iV v] (ro h)=some (sV ((ro h).length+2) 0 l.length 1,ro h++[rT [],none,rT (encI (l.set at_ v))]):=by
  have ef:D9 [] []=some []:=rfl;simp only [E3U,E4l,E37] at c1;rw [C60];generalize encI l=E at *;generalize encI (l.set at_ v)=E' at *;simp only [esc,esh,Nat.reduceAdd,Nat.reduceMul,Nat.reduceLT,ef,c1,ad,st]
 exact C30 key ⟨by simp [A8],(ro h).length+2,rfl,by rw [E7];omega,by rw [M9];rfl⟩ C5j
end
end
section
section
variable {D:Dev} {n m:Int} {P:Nat->Prop} {h:A6} {c:Cl} {cs:List Cell} {v:Val}
theorem D8c {dir ino:Int} (hv:Has h v 256 D.length (D4 D)) (hD:okD D) (k:IsRC n P h cs c) (hR:RowW n c) (hr:c.row.length<=100000) (hk:∀ i,0<=(c.lnk i).getD 0/\(c.lnk i).getD 0<1000000) (hn:n<=128) :
  ∃ cs' H',A1I [.a cs,v,.a (D3 D.length n m),iV dir,iV ino] h=some (.t [.a cs',.c (.b (gG D n c ino))],H')/\Grows h H'/\IsRC n (λid=>P id\/h.length<=id) H' cs' (cK D n c dir ino):=by
 obtain ⟨xr,xi,xt,xb,xm,xl,xy,ys,rfl,k⟩:=k;have cl1:cells? (.a (rcC xr xi xt xb xm c.lost xl xy))=some (rcC xr xi xt xb xm c.lost xl xy):=rfl;have cl2:cells? (.a (D3 D.length n m))=some (D3 D.length n m):=rfl;have z8l:[Cell.ns,.ns,.ns,.ns,.ns,o0,.ns,.ns].length=8:=rfl;have cl8:(rcC xr xi xt xb xm c.lost xl xy).length=8:=rfl;have ll3:(D3 D.length n m).length=3:=rfl;have ll1:ld1 (rT (D3 D.length n m)) 1=some (iV n):=rfl;have l0:ld1 (rT (rcC xr xi xt xb xm c.lost xl xy)) 0=some (.c xr):=by simp only [ld1,rcC];rfl
 have l6:ld1 (rT (rcC xr xi xt xb xm c.lost xl xy)) 6=some (.c xl):=by simp only [ld1,rcC];rfl
 have no:gG D n c ino=false->∀ t:A6,t=[rT (rcC xr xi xt xb xm c.lost xl xy),rT (D3 D.length n m),rT (rcC xr xi xt xb xm c.lost xl xy)] ->
   A7U 0 [.a (rcC xr xi xt xb xm c.lost xl xy),v,.a (D3 D.length n m),iV dir,iV ino] h=some (.t [.a (rcC xr xi xt xb xm c.lost xl xy),.c (.b false)],h++t) ->
   ∃ cs' H',A1I [.a (rcC xr xi xt xb xm c.lost xl xy),v,.a (D3 D.length n m),iV dir,iV ino] h=some (.t [.a cs',.c (.b (gG D n c ino))],H')/\Grows h H'/\IsRC n (λid=>P id\/h.length<=id) H' cs' (cK D n c dir ino):=by
  intro hb t ht he;have e2:cK D n c dir ino=c:=by unfold cK;rw [hb];rfl
  rw [hb,e2];have G:Grows h (h++t):=R0 Grows.rfl' (by rw [ht];rfl);exact ⟨_,_,A0p he,G,_,_,_,_,_,_,_,_,rfl,(k.mono λ_=>.inl).grows G⟩
 by_cases c0:ino<2
 ·refine no ?_ _ rfl ?_
  ·unfold gG;by_cases e:ino=1
   ·simp [e]
   ·have:kdV D n ino=0:=by
     by_cases hz:kdV D n ino=0
     ·exact hz
     ·have:=(D3y hz).2;omega
    simp [this]
  ·rw [dM];generalize rcC xr xi xt xb xm c.lost xl xy=C at *;generalize D3 D.length n m=L at *;simp only [esc,esh,Nat.reduceAdd,Nat.reduceMul,Nat.reduceLT,cl1,cl2,c0,cl8,z8l,ll1]
 by_cases c1:ino > n
 ·refine no ?_ _ rfl ?_
  ·unfold gG;have:kdV D n ino=0:=by
    by_cases hz:kdV D n ino=0
    ·exact hz
    ·have:=(D3y hz).2;omega
   simp [this]
  ·rw [dM];generalize rcC xr xi xt xb xm c.lost xl xy=C at *;generalize D3 D.length n m=L at *;simp only [esc,esh,Nat.reduceAdd,Nat.reduceMul,Nat.reduceLT,cl1,cl2,c0,cl8,z8l,ll1,c1]
 obtain ⟨j,rfl⟩:=E4v (show 0<=ino by omega);have hI:=λt=>qP (n:=n) (m:=m) (i:=(j:Int)) (hv.more t) hD
 have hIn:=λt=>B0m (x:=(j:Int)) (k.row.more t) (by omega)
 have f0:B5Y (.a (A08 D n (j:Int))) 0=some (iV (kdV D n (j:Int))):=by rw [A57];rfl
 have E16:decide ((j:Int)∈c.row)=(c.par (j:Int)).isSome:=by
  rw [Bool.eq_iff_iff,decide_eq_true_eq];exact (hR.par _).symm
 rw [E16] at hIn;have n1:¬ (j:Int)=1:=by omega
 have eb:gG D n c (j:Int) = !(decide (kdV D n (j:Int)=0)||decide (kdV D n (j:Int)=2)&&(c.par (j:Int)).isSome):=by unfold gG;simp [n1]
 by_cases c2:kdV D n (j:Int)=0
 ·refine no (by rw [eb];simp [c2]) _ rfl ?_;rw [dM];generalize A08 D n (j:Int)=I at *;generalize (c.par (j:Int)).isSome=sn at *;generalize rcC xr xi xt xb xm c.lost xl xy=C at *;generalize D3 D.length n m=L at *;rw [c2] at f0;simp only [esc,esh,Nat.reduceAdd,Nat.reduceMul,Nat.reduceLT,cl1,cl2,c0,cl8,z8l,ll1,c1,ll3,hI,f0,l0,hIn]
 by_cases c3:kdV D n (j:Int)=2/\(c.par (j:Int)).isSome=true
 ·refine no (by rw [eb];simp [c3.1,c3.2]) _ rfl ?_;rw [c3.2] at hIn;rw [c3.1] at f0;have n20:¬ (2:Int)=0:=by decide
  rw [dM];generalize A08 D n (j:Int)=I at *;generalize rcC xr xi xt xb xm c.lost xl xy=C at *;generalize D3 D.length n m=L at *;simp only [esc,esh,Nat.reduceAdd,Nat.reduceMul,Nat.reduceLT,cl1,cl2,c0,cl8,z8l,ll1,c1,ll3,hI,f0,l0,hIn,n20]
 have hb:gG D n c (j:Int)=true:=by
  rw [eb];by_cases e:kdV D n (j:Int)=2
  ·have:(c.par (j:Int)).isSome=false:=by
    cases hs:(c.par (j:Int)).isSome with
    | false=>rfl
    | true=>exact absurd ⟨e,hs⟩ c3
   rw [this];simp [c2]
  ·simp [c2,e]
 have hj:j<(n+1).toNat:=by omega
 have hlj:j<(dW n c.lnk).length:=by rw [Q8];exact hj
 have hyj:j<(dW n c.par).length:=by rw [Q8];exact hj
 obtain ⟨it,ot,et,_,hA,_⟩:=k.tol.sl (by omega);cases et;have a1:D6 1 (sV it ot (n+1).toNat 1) (iV (j:Int))=some (pV it (ot+j)):=by rw [C5 hj];simp
 have a2:∀ t,B4 (h++t) (pV it (ot+j))=some (iV ((c.lnk (j:Int)).getD 0)):=λt=>by
  obtain ⟨it',ot',et',_,hA',_⟩:=(k.tol.more t).sl (by omega);cases et';exact hA' j _ (by rw [F0,A4t hj];rfl)
 have hkj:=hk (j:Int);have wk:IntKind.wrap .i64 ((c.lnk (j:Int)).getD 0+1)=(c.lnk (j:Int)).getD 0+1:=wrap_i64 (by omega) (by omega);obtain ⟨lk',elk⟩:∃ lk',lk'=tP c.lnk (j:Int) ((c.lnk (j:Int)).getD 0+1):=⟨_,rfl⟩;have eset:=C5M (n:=n) (F:=c.lnk) (i:=j) (v:=(c.lnk (j:Int)).getD 0+1);rw [<-elk] at eset;have S1:=λt=>D41 (at_:=j) (v:=(c.lnk (j:Int)).getD 0+1) (k.tol.more t) hlj (by rw [Q8];omega)
 rw [eset] at S1;obtain ⟨C1,hC1⟩:∃ C1,C1=rcC xr xi xt xb xm c.lost (.sl (h.length+3) 0 (n+1).toNat 1) xy:=⟨_,rfl⟩;have sC1:st1 (rT (rcC xr xi xt xb xm c.lost (.sl it ot (n+1).toNat 1) xy)) 6 (.sl (h.length+3) 0 (n+1).toNat 1)=rT C1:=by rw [hC1];rfl
 have C18:C1.length=8:=by rw [hC1];rfl
 cases hsn:(c.par (j:Int)).isSome with
 | true =>
  rw [hsn] at hIn;have e2:cK D n c dir (j:Int)=A98 c (j:Int):=by unfold cK;rw [hb,hsn];rfl
  rw [hb,e2];have nk2:¬ kdV D n (j:Int)=2:=λe=>c3 ⟨e,hsn⟩
  obtain ⟨H',hH'⟩:∃ H',H'=h++[rT C1,rT (D3 D.length n m),rT C1,rT (encI (dW n lk'))]:=⟨_,rfl⟩;have G:Grows h H':=by rw [hH'];exact R0 Grows.rfl' rfl
  have k2:=(k.mono (Q:=λid=>P id\/h.length<=id) λ_=>.inl).grows G;refine ⟨C1,H',A0p (n:=0) ?_,G,xr,xi,xt,xb,xm,.sl (h.length+3) 0 (n+1).toNat 1,xy,ys,hC1,
   ⟨k2.row,k2.ino,k2.tak,k2.blk,k2.mad,k2.mds,?_,k2.par,k2.pr,k2.pi,k2.pt,k2.pb,k2.pm,λid hi=>by cases hi;exact .inr (by omega),k2.py⟩⟩
  ·rw [dM,hH'];generalize A08 D n (j:Int)=I at *;generalize kdV D n (j:Int)=kd at *;generalize rcC xr xi xt xb xm c.lost (.sl it ot (n+1).toNat 1) xy=C at *;generalize D3 D.length n m=L at *;generalize encI (dW n lk')=E at *;simp only [esc,esh,Nat.reduceAdd,Nat.reduceMul,Nat.reduceLT,cl1,cl2,c0,cl8,z8l,ll1,c1,ll3,hI,f0,l0,hIn,c2,nk2,l6,a1,a2,wk,S1,sC1,C18,wW]
  ·show Has H' (sV (h.length+3) 0 (n+1).toNat 1) 1 (n+1).toNat (encI (dW n (A98 c (j:Int)).lnk));have:(A98 c (j:Int)).lnk=lk':=by rw [elk];rfl
   rw [this];exact Has.row (rw:=true) (by rw [hH',M9];rfl) (by rw [A8,Q8];omega) (cG _)
 | false =>
  rw [hsn] at hIn;have e2:cK D n c dir (j:Int)=D3N (A98 c (j:Int)) dir (j:Int):=by unfold cK;rw [hb,hsn];rfl
  rw [hb,e2];obtain ⟨pa',epa⟩:∃ pa',pa'=tP c.par (j:Int) dir:=⟨_,rfl⟩;have eset2:=C5M (n:=n) (F:=c.par) (i:=j) (v:=dir);rw [<-epa] at eset2;have S2:=λt=>D41 (at_:=j) (v:=dir) (k.par.more t) hyj (by rw [Q8];omega)
  rw [eset2] at S2;obtain ⟨C2,hC2⟩:∃ C2,C2=rcC xr xi xt xb xm c.lost (.sl (h.length+3) 0 (n+1).toNat 1) (.sl (h.length+4) 0 (n+1).toNat 1):=⟨_,rfl⟩;have l7:ld1 (rT C1) 7=some (.c xy):=by rw [hC1];simp only [ld1,rcC];rfl
  have sC2:st1 (rT C1) 7 (.sl (h.length+4) 0 (n+1).toNat 1)=rT C2:=by rw [hC1,hC2];rfl
  have l0':ld1 (rT C2) 0=some (.c xr):=by rw [hC2];simp only [ld1,rcC];rfl
  obtain ⟨T,hT⟩:∃ T:A6,T=[rT C2,rT (D3 D.length n m),rT [Cell.ns,.ns,.ns,.ns,.ns,o0,.ns,.ns],rT (encI (dW n lk')),rT (encI (dW n pa'))]:=⟨_,rfl⟩;have cp:=B37 (H:=h++T) (k.row.more T) (by omega) (by omega);have lT:(h++T).length=h.length+5:=by rw [hT];simp
  obtain ⟨K,hK⟩:∃ K,K=h++T++[none,rT (encI c.row)]:=⟨_,rfl⟩;have lK:K.length=h.length+7:=by rw [hK,E3S,lT];rfl
  have rK:rd K (h.length+6)=rT (encI c.row):=by rw [hK,hT,E3U,M9];rfl
  have op:=one_app (ys:=[Cell.i .i64 (j:Int)]) rK (n:=c.row.length) (sz:=1) (by rw [A8];omega) rfl (by omega) (by omega);have er:encI c.row++[Cell.i .i64 (j:Int)]=encI (c.row++[(j:Int)]):=by simp [encI]
  rw [lK,er] at op;rw [lT] at cp;obtain ⟨C3,hC3⟩:∃ C3,C3=rcC (.sl (h.length+8) 0 (c.row.length+1) 1) xi xt xb xm c.lost (.sl (h.length+3) 0 (n+1).toNat 1) (.sl (h.length+4) 0 (n+1).toNat 1):=⟨_,rfl⟩;have sC3:st1 (rT C2) 0 (.sl (h.length+8) 0 (c.row.length+1) 1)=rT C3:=by rw [hC2,hC3];rfl
  have C38:C3.length=8:=by rw [hC3];rfl
  have ef:D9 [] []=some []:=rfl;have ef1:D9 [o0] [(0,1,iV (j:Int))]=some [.i .i64 (j:Int)]:=rfl;obtain ⟨H',hH'⟩:∃ H',H'=h++[rT C3,rT (D3 D.length n m),rT C3,rT (encI (dW n lk')),rT (encI (dW n pa')),none,none,rT [Cell.i .i64 (j:Int)],rT (encI (c.row++[(j:Int)]))]:=⟨_,rfl⟩;have G:Grows h H':=by rw [hH'];exact R0 Grows.rfl' rfl
  have k2:=(k.mono (Q:=λid=>P id\/h.length<=id) λ_=>.inl).grows G;refine ⟨C3,H',A0p (n:=0) ?_,G,.sl (h.length+8) 0 (c.row.length+1) 1,xi,xt,xb,xm,.sl (h.length+3) 0 (n+1).toNat 1,.sl (h.length+4) 0 (n+1).toNat 1,ys,hC3,
   ⟨?_,k2.ino,k2.tak,k2.blk,k2.mad,k2.mds,?_,?_,λid hi=>by cases hi;exact .inr (by omega),k2.pi,k2.pt,k2.pb,k2.pm,λid hi=>by cases hi;exact .inr (by omega),λid hi=>by cases hi;exact .inr (by omega)⟩⟩
  ·rw [hK,hT] at op;rw [hT] at cp;rw [dM,hH'];generalize A08 D n (j:Int)=I at *;generalize kdV D n (j:Int)=kd at *;generalize rcC xr xi xt xb xm c.lost (.sl it ot (n+1).toNat 1) xy=C at *;generalize D3 D.length n m=L at *;generalize encI (dW n lk')=E at *;generalize encI (dW n pa')=E2 at *;generalize encI (c.row++[(j:Int)])=R2 at *;generalize encI c.row=R1 at *;simp only [E3U,E4l,E37] at cp;simp only [esc,Nat.reduceAdd] at op;by_cases nk2:kd=2
   ·rw [nk2] at f0;have n20:¬ (2:Int)=0:=by decide
    simp only [esc,esh,Nat.reduceAdd,Nat.reduceMul,Nat.reduceLT,Bool.not_false,cl1,cl2,c0,cl8,z8l,ll1,c1,ll3,hI,f0,l0,hIn,n20,l6,a1,a2,wk,S1,sC1,l7,S2,sC2,l0',ef,cp,ef1,op,sC3,C38,wW]
   ·simp only [esc,esh,Nat.reduceAdd,Nat.reduceMul,Nat.reduceLT,Bool.not_false,cl1,cl2,c0,cl8,z8l,ll1,c1,ll3,hI,f0,l0,hIn,c2,nk2,l6,a1,a2,wk,S1,sC1,l7,S2,sC2,l0',ef,cp,ef1,op,sC3,C38,wW]
  ·show Has H' (sV (h.length+8) 0 (c.row.length+1) 1) 1 (c.row++[(j:Int)]).length (encI (c.row++[(j:Int)]));rw [E3S];exact Has.row (rw:=true) (by rw [hH',M9];rfl) (by simp [A8]) (cG _)
  ·show Has H' (sV (h.length+3) 0 (n+1).toNat 1) 1 (n+1).toNat (encI (dW n (A98 c (j:Int)).lnk));have:(A98 c (j:Int)).lnk=lk':=by rw [elk];rfl
   rw [this];exact Has.row (rw:=true) (by rw [hH',M9];rfl) (by rw [A8,Q8];omega) (cG _)
  ·show Has H' (sV (h.length+4) 0 (n+1).toNat 1) 1 (n+1).toNat (encI (dW n (D3N (A98 c (j:Int)) dir (j:Int)).par));have:(D3N (A98 c (j:Int)) dir (j:Int)).par=pa':=by rw [epa];rfl
   rw [this];exact Has.row (rw:=true) (by rw [hH',M9];rfl) (by rw [A8,Q8];omega) (cG _)
end
end
section
section
variable {D:Dev} {h:A6} {v:Val}
theorem zQ {no:Int} (hv:Has h v 256 D.length (D4 D)) (hD:okD D) :
  ∃ u t,pO [v,iV no] h=some (.c u,h++t)/\t.all B2q=true/\Has (h++t) (.c u) 1 256 (A5 (blk D no))/\u.isX=false:=by
 by_cases hin:0<=no/\no<(D.length:Nat)
 ·obtain ⟨i,rfl⟩:=E4v hin.1;have hi:i<D.length:=by omega
  obtain ⟨u,e1,e2⟩:=C6m hv hD hi;obtain ⟨id,off,eu,_⟩:=e2.sl (by omega);subst eu;refine ⟨.sl id off 256 1,[],by rw [E4f];exact e1,rfl,?_,rfl⟩;rw [E4f,C4G hi];exact e2
 ·have eb:blk D no=zeros 256:=D1B (by omega);rw [eb];have hlen:=hv.ro.len;have mk:A5P (iV 256) (iV 256)=some 256:=rfl;have rz:rows [Cell.i .u8 0] 256=A5 (zeros 256):=by
   unfold rows;rw [List.flatten_replicate_singleton,I3]
  have key:yE 0 [v,iV no] (ro h)=some (sV ((ro h).length+1) 0 256 1,ro h++[rT [],rT (A5 (zeros 256))]):=by
   rw [A6C];by_cases c0:no<0
   ·simp only [esc,c0,mk,rz]
   ·have c1:no>=(D.length:Nat):=by omega
    simp only [esc,c0,hlen,c1,mk,rz]
  have hS:=B8b key (sz:=1) (k:=256) (cs:=A5 (zeros 256)) ⟨by rw [A4,zeros_length],(ro h).length+1,rfl,by rw [E7];omega,by rw [M9];rfl⟩ (by simp);refine ⟨.sl h.length 0 256 1,[rT (A5 (zeros 256))],hS,rfl,?_,rfl⟩;exact Has.row (rw:=true) (by rw [F8];rfl) (by rw [A4,zeros_length]) (F6 _)
def B3Y (D:Dev) (X:List Int) (nm:List UInt8):Int:=if P8 X nm=0 then 0 else D3Q ((V4 (blk D (P8 X nm)) nm).map (·.1))
theorem D3V {d:Int} {t:List Int} {nm:List UInt8} (hv:Has h v 256 D.length (D4 D)) (hD:okD D) (ht:t.length=32) (h5:d<=5) (hs:nm.length<9223372036854775807) :
  B8c [v,.a (encI (d::t)),.c (.s nm)] h=some (.t [.c (.i .i64 (P8 (d::t) nm)),.c (.i .i64 (B3Y D (d::t) nm)),.c (.b (hmS D (d::t) nm).isSome)],h):=by
 have key:∀ g,Has g v 256 D.length (D4 D)->∃ g',B7r 0 [v,.a (encI (d::t)),.c (.s nm)] g=some (.t [.c (.i .i64 (P8 (d::t) nm)),.c (.i .i64 (B3Y D (d::t) nm)),.c (.b (hmS D (d::t) nm).isSome)],g'):=λg hv=>by
  obtain ⟨G,hG⟩:∃ G,G=g++[rT (encI (d::t))]:=⟨_,rfl⟩;have rG:rd G g.length=rT (encI (d::t)):=by rw [hG,F8];rfl
  have hvG:Has G v 256 D.length (D4 D):=by rw [hG];exact hv.more _
  have hM:=λh=>C02 (s:=nm) hs (h:=h)
  have hP:=λh=>D0L (x:=wZ nm) (b:=d) (h:=h) C2u
  rw [D5S h5] at hP;have V7:=D18 (d::t) nm;have eP:wZ nm%B9 d=A0S (d::t) nm:=rfl;rw [eP] at hP;have ad:J2 32 1 (pV g.length 1) (iV (A0S (d::t) nm:Nat))=some (pV g.length (1+A0S (d::t) nm)):=by rw [D6E (by omega) (by omega)];simp
  have l0:B4 G (pV g.length 0)=some (iV d):=B5 rG rfl rfl;have l1:B4 G (pV g.length (1+A0S (d::t) nm))=some (iV (P8 (d::t) nm)):=by
   refine B5 rG ?_ rfl;rw [F0,Nat.add_comm,E4C,E3P (by omega)];unfold P8;rw [List.tail_cons,E30,E3P (by omega)];rfl
  have cl:cells? (.a (encI (d::t)))=some (encI (d::t)):=rfl;rw [C9H];by_cases c0:P8 (d::t) nm=0
  ·have e1:B3Y D (d::t) nm=0:=by unfold B3Y;rw [if_pos c0]
   have e2:hmS D (d::t) nm=none:=by unfold hmS;rw [if_pos c0]
   rw [e1,e2,c0];rw [c0] at l1;generalize encI (d::t)=X at *;generalize A0S (d::t) nm=P at *;exact ⟨G,by simp only [esc,Nat.reduceAdd,cl,<-hG,hM,l0,hP,ad,l1];rfl⟩
  ·obtain ⟨u,tt,b1,b2,b3,b4⟩:=zQ (no:=P8 (d::t) nm) hvG hD;have hF:=C7U (nm:=nm) b3 (O0 hD);have e1:B3Y D (d::t) nm=D3Q ((V4 (blk D (P8 (d::t) nm)) nm).map (·.1)):=by unfold B3Y;rw [if_neg c0]
   have e2:hmS D (d::t) nm=V4 (blk D (P8 (d::t) nm)) nm:=by unfold hmS;rw [if_neg c0]
   have e3:decide (D3Q ((V4 (blk D (P8 (d::t) nm)) nm).map (·.1))>=0)=(V4 (blk D (P8 (d::t) nm)) nm).isSome:=by
    cases V4 (blk D (P8 (d::t) nm)) nm with
    | none=>rfl
    | some x =>
     show decide (((x.1:Nat):Int)>=0)=true;exact decide_eq_true (by omega)
   rw [e1,e2];have e3':N9 .geq (iV (D3Q ((V4 (blk D (P8 (d::t) nm)) nm).map (·.1)))) (iV 0)=some (bV (V4 (blk D (P8 (d::t) nm)) nm).isSome):=by rw [C4u,e3]
   generalize D3Q ((V4 (blk D (P8 (d::t) nm)) nm).map (·.1))=S at *;generalize (V4 (blk D (P8 (d::t) nm)) nm).isSome=I at *;generalize P8 (d::t) nm=B at *;generalize A0S (d::t) nm=P at *;generalize encI (d::t)=X at *;refine ⟨G++tt,?_⟩;simp only [Q4,cl,E4f,<-hG,hM,C6g,D1h,E4b,l0,hP,ad,l1,vE,c0,decide_false,C0z,b1,hF,e3'];rfl
 obtain ⟨g',e⟩:=key (ro h) hv.ro;exact C3V e rfl
theorem D6P {X:List Int} {no:Int} {kk:Nat} {s:List UInt8} {i:Int} (bH:no≠0) (hr:Q9 (blk D no) kk=some (s,i)) :
  ((hmS D X s).isSome&&decide (P8 X s=no)&&decide (B3Y D X s=(kk:Int)))=atH D X (no,(kk,(s,i))):=by
 show _=(decide (P8 X s=no)&&decide (hmS D X s=some (kk,(s,i))));by_cases c:P8 X s=no
 ·have c0:¬ P8 X s=0:=by rw [c];exact bH
  unfold hmS B3Y;rw [if_neg c0,if_neg c0,c];cases hf:V4 (blk D no) s with
  | none=>simp
  | some x =>
   obtain ⟨h1,h2,h3⟩:=D3p hf;simp only [E33,decide_true,E31,E4T,Option.some.injEq];show decide (((x.1:Nat):Int)=(kk:Int))=decide (x=(kk,(s,i)));by_cases e:x.1=kk
   ·rw [e] at h2;rw [hr] at h2;have:x=(kk,(s,i)):=by
     obtain ⟨a,b⟩:=x;simp only at e h2;simp only [Option.some.injEq] at h2;rw [e,<-h2]
    rw [decide_eq_true this,decide_eq_true (by omega)]
   ·rw [decide_eq_false (by omega),decide_eq_false (λh=>e (by rw [h]))]
 ·simp [c]
theorem D2E {x:Val} {l:U7} {s:List UInt8} {nv q:Nat} (hx:Has h x 1 nv (encS l)) (hl:l.length<=100000):∀ (e i M:Nat),i+e=l.length->e<M ->
  C5d q M x (.c (.s s)) (iV (i:Int)) h=some (bV (decide (s∈l.drop i)),h)
 | e,i,0,_,hM=>by omega
 | 0,i,M+1,hi,_=>by
  have hn:nv=l.length:=by have:=hx.length;rw [L6] at this;omega
  subst hn;have hlen:=hx.len;have c0:¬ (i:Int)<(l.length:Nat):=by omega
  rw [B2c,E32 (by omega)];simp only [esc,hlen,c0];simp
 | e+1,i,M+1,hi,hM=>by
  have hn:nv=l.length:=by have:=hx.length;rw [L6] at this;omega
  subst hn;have R6:i<l.length:=by omega
  have hlen:=hx.len;have c0:(i:Int)<(l.length:Nat):=by omega
  have w1:=C6 (show i+1<9223372036854775808 by omega);obtain ⟨id,off,ex,_,hA,_⟩:=id hx |>.sl (by omega)
  have a1:D6 1 x (iV (i:Int))=some (pV id (off+i)):=by rw [ex,C5 R6];simp
  have a2:B4 h (pV id (off+i))=some (.c (.s l[i])):=hA i _ (by simp [encS,R6]);have ih:=D2E (q:=q) (s:=s) hx hl e (i+1) M (by omega) (by omega);rw [B2c,E3V R6];by_cases c1:l[i]=s
  ·simp only [esc,hlen,c0,a1,a2,B8M,c1];simp
  ·have:decide (s∈l[i]::l.drop (i+1))=decide (s∈l.drop (i+1)):=by
    have:s∈l[i]::l.drop (i+1)↔s∈l.drop (i+1):=by
     rw [List.mem_cons];exact ⟨λh=>h.resolve_left (λe=>c1 e.symm),.inr⟩
    simp only [this]
   rw [this];simp only [esc,hlen,c0,a1,a2,B8M,c1,w1];exact ih
theorem E1m {x:Val} {l:U7} {s:List UInt8} {nv:Nat} (hx:Has h x 1 nv (encS l)) (hl:l.length<=100000):B8d [x,.c (.s s)] h=some (bV (decide (s∈l)),h):=by
 have e:=D2E (q:=l.length+1) (s:=s) hx.ro hl l.length 0 (l.length+1) (by omega) (by omega);rw [E39] at e;exact C3Y (n:=l.length+1) (by rw [C9I];exact e) rfl
end
end
section
theorem D1M {D:Dev} {n:Int} {c:Cl}:B35 D n c 0=false:=by
 unfold B35;have:hJ D.length n 0=false:=by
  cases h:hJ (D.length:Int) n 0 with
  | false=>rfl
  | true =>
   obtain ⟨h1,h2,_⟩:=D2f.1 h;unfold jU A02 A7A at h2;rw [h1] at h2;simp only [cond_true] at h2;obtain ⟨_,_,h8,_⟩:=N8.1 h1;omega
 rw [this];rfl
theorem D5s {D:Dev} {n:Int} {c:Cl}:dA D n c 0=c:=by unfold dA;rw [D1M];rfl
theorem D5t {D:Dev} {n:Int} {c:Cl}:T1 D n c 0=0:=by unfold T1;rw [D1M];rfl
theorem fL {D:Dev} {n:Int} {c:Cl} {no:Int}:(dA D n c no).taken.length=c.taken.length:=by
 unfold dA;cases B35 D n c no<;>simp
section
variable {D:Dev} {n m:Int} {P Q:Nat->Prop} {g H:A6} {c:Cl} {cs:List Cell} {v:Val}
abbrev Z8:List Cell:=[.ns,.ns,.ns,.ns,.ns,o0,.ns,.ns]
theorem D7v {x4:Nat} {no:Int} {c0:List Cell} (G:Grows g H) (hg:g.length<=x4) (k:IsRC n Q H cs c) (rx:rd H x4=rT c0) (hc0:c0.length=8) (hQ:∀ id,H.length<id->Q id) (hx:¬ Q x4) (ht:c.taken.length=D.length) (hl:D.length<=1000) :
  ∃ cs' K H1 H2,quiet (H++[none]) (vB [.a cs,.a (D3 D.length n m),iV no] (H++[none]))=some (.t [.a cs',.c (.i .i64 (T1 D n c no))],K) /\
   E1 (K.set H.length (rT Z8)) 8 (pV H.length 0) (.a cs')=some H1/\C8 H1 8 (pV H.length 0)=some (.a cs')/\E1 H1 8 (pV x4 0) (.a cs')=some H2 /\
   Grows g H2/\IsRC n Q H2 cs' (dA D n c no)/\rd H2 x4=rT cs'/\H.length<=H2.length/\(∀ j,j<H.length->j≠x4->rd H2 j=rd H j):=by
 have hxl:=C4 rx;obtain ⟨cs',K,e1,e2,e3⟩:=D2H (m:=m) (no:=no) (k.grows (h':=H++[none]) (R0 Grows.rfl' rfl)) ht hl;have e3:IsRC n Q K cs' (dA D n c no):=e3.mono λid h=>by
  rcases h with h | h
  ·exact h
  ·exact hQ id (by simp at h;omega)
 have hc8:=e3.length;have hKl:H.length+1<=K.length:=by have:=e2.len;simpa using this
 have rn:rd K H.length=none:=by
  obtain ⟨t,rfl⟩:=e2.1;rw [E3U];unfold rd;rw [E35 (E3T _),E4y];rfl
 have low:∀ j,j<H.length->rd K j=rd H j:=λj hj=>by
  obtain ⟨t,rfl⟩:=e2.1;rw [E3U,D1 hj]
 have GK:Grows g K:=G.trans' ((R0 (t:=[none]) Grows.rfl' rfl).trans' e2);obtain ⟨K1,hK1⟩:∃ K1,K1=K.set H.length (rT Z8):=⟨_,rfl⟩;obtain ⟨H1,hH1⟩:∃ H1,H1=K1.set H.length (rT cs'):=⟨_,rfl⟩;obtain ⟨H2,hH2⟩:∃ H2,H2=H1.set x4 (rT cs'):=⟨_,rfl⟩;have hgH:=G.len;have rz:rd K1 H.length=rT Z8:=by rw [hK1];exact B6 (by omega)
 have r1:rd H1 H.length=rT cs':=by rw [hH1];exact B6 (by rw [hK1];simp;omega)
 have rx1:rd H1 x4=rT c0:=by rw [hH1,A7 (by omega),hK1,A7 (by omega),low x4 hxl];exact rx
 have eq1:H1=K.set H.length (rT cs'):=by rw [hH1,hK1];simp
 refine ⟨cs',K,H1,H2,by rw [e1];exact U6 e2,?_,B8 r1 hc8,?_,?_,?_,?_,?_,?_⟩
 ·rw [<-hK1,storeAll (n:=8) rz rfl hc8,hH1]
 ·rw [storeAll rx1 hc0 hc8,hH2]
 ·rw [hH2,eq1];exact (GK.set (by omega) _).set hg _
 ·rw [hH2,eq1];exact (e3.set (.inl rn)).set (.inr hx)
 ·rw [hH2];exact B6 (by rw [eq1];simp;omega)
 ·rw [hH2,eq1];simp;omega
 ·intro j hj U1;rw [hH2,A7 (Ne.symm U1),eq1,A7 (by omega)];exact low j hj
theorem D7w {x4:Nat} {no:Int} {c0:List Cell} (G:Grows g H) (hg:g.length<=x4) (k:IsRC n Q H cs c) (rx:rd H x4=rT c0) (hc0:c0.length=8) (hQ:∀ id,H.length<=id->Q id) (hx:¬ Q x4) (ht:c.taken.length=D.length) (hl:D.length<=1000) :
  ∃ cs' K H1 H2,vB [.a cs,.a (D3 D.length n m),iV no] H=some (.t [.a cs',.c (.i .i64 (T1 D n c no))],K) /\
   E1 (K++[rT Z8]) 8 (pV K.length 0) (.a cs')=some H1/\C8 H1 8 (pV K.length 0)=some (.a cs')/\E1 H1 8 (pV x4 0) (.a cs')=some H2 /\
   Grows g H2/\IsRC n Q H2 cs' (dA D n c no)/\rd H2 x4=rT cs'/\H.length<=H2.length/\(∀ j,j<H.length->j≠x4->rd H2 j=rd H j):=by
 have hxl:=C4 rx;obtain ⟨cs',K,e1,e2,e3⟩:=D2H (m:=m) (no:=no) k ht hl;have e3:IsRC n Q K cs' (dA D n c no):=e3.mono λid h=>by
  rcases h with h | h
  ·exact h
  ·exact hQ id h
 have hc8:=e3.length;have hKl:=e2.len;have low:∀ j,j<H.length->rd K j=rd H j:=λj hj=>by
  obtain ⟨t,rfl⟩:=e2.1;rw [D1 hj]
 have GK:Grows g K:=G.trans' e2;obtain ⟨H1,hH1⟩:∃ H1,H1=K++[rT cs']:=⟨_,rfl⟩;obtain ⟨H2,hH2⟩:∃ H2,H2=H1.set x4 (rT cs'):=⟨_,rfl⟩;have rx1:rd H1 x4=rT c0:=by rw [hH1,D1 (by omega),low x4 hxl];exact rx
 refine ⟨cs',K,H1,H2,e1,?_,B8 (by rw [hH1,F8];rfl) hc8,?_,?_,?_,?_,?_,?_⟩
 ·rw [storeAll (n:=8) (cs:=Z8) (by rw [F8];rfl) rfl hc8,cH,hH1];rfl
 ·rw [storeAll rx1 hc0 hc8,hH2]
 ·rw [hH2,hH1];exact (GK.new _).set hg _
 ·rw [hH2,hH1];exact (e3.grows ((Grows.rfl').new _)).set (.inr hx)
 ·rw [hH2];exact B6 (by rw [hH1];simp;omega)
 ·rw [hH2,hH1];simp;omega
 ·intro j hj U1;rw [hH2,A7 (Ne.symm U1),hH1,D1 (by omega)];exact low j hj
theorem dY {h:A6} {x:List Int} {id:Nat} (hr:rd h id=rT (encI x)) {k:Nat} (hk:k<x.length):B4 h (pV id k)=some (iV (x.getD k 0)) :=
 B5 hr (by rw [F0,E30,E3P hk];rfl) rfl
theorem A1Q:[Cell.ns,.ns,.ns,.ns,.ns,o0,.ns,.ns]=Z8:=rfl
theorem D77 {was:List Int} {x3:Val} {x4 x6 x8 x9 x10 q:Nat} {many:Int} {pre:List Int} (hw:was.length=11) (hpre:pre.length=4) (hg:g.length<=x4/\g.length<=x10) (hx4:¬ Q x4) (E3f:¬ Q x10) (hl:D.length<=1000)
  (n1:x4≠x10) (n2:x4≠x6) (n3:x4≠x9) (n4:x10≠x6) (n5:x10≠x9) (n6:x4≠x8) (n7:x10≠x8) {r8:List Cell} (hm:many<=134) :
  ∀ (e k M:Nat) (c:Cl) (cs:List Cell) (dd:List Int) (H:A6),(k:Int)+e=min many 6->e<M->dd.length=7->Grows g H->(∀ id,H.length<=id->Q id)->IsRC n Q H cs c->c.taken.length=D.length->rd H x4=rT cs->rd H x6=rT (D3 D.length n m)->rd H x8=rT r8->rd H x9=rT (encI was)->rd H x10=rT (encI (pre++dd)) ->
  ∃ cs' H' M',yP q M v x3 (pV x4 0) (pV x6 0) (pV x8 0) (pV x9 0) (pV x10 0) (iV many) (iV (k:Int)) H =
    yP q (M'+1) v x3 (pV x4 0) (pV x6 0) (pV x8 0) (pV x9 0) (pV x10 0) (iV many) (iV (min many 6)) H' /\
   Grows g H'/\(∀ id,H'.length<=id->Q id)/\IsRC n Q H' cs' (A5Y D n (was.drop 4) e k (c,dd)).1/\rd H' x4=rT cs'/\rd H' x6=rT (D3 D.length n m)/\rd H' x8=rT r8/\rd H' x9=rT (encI was)/\rd H' x10=rT (encI (pre++(A5Y D n (was.drop 4) e k (c,dd)).2))/\(A5Y D n (was.drop 4) e k (c,dd)).1.taken.length=D.length/\H.length<=H'.length:=by
 intro e
 induction e with
 | zero =>
  intro k M c cs dd H hi hM hd G hQ K ht r4 r6 rr8 r9 r10;obtain ⟨M,rfl⟩:∃ M',M=M'+1:=⟨M-1,by omega⟩;have ei:(k:Int)=min many 6:=by omega
  rw [<-ei];exact ⟨cs,H,M,rfl,G,hQ,K,r4,r6,rr8,r9,r10,ht,E3T _⟩
 | succ e ih =>
  intro k M c cs dd H hi hM hd G hQ K ht r4 r6 rr8 r9 r10;obtain ⟨M,rfl⟩:∃ M',M=M'+1:=⟨M-1,by omega⟩;have k6:(k:Int)<6:=by omega
  have km:(k:Int)<many:=by omega
  have w1:=C6 (show k+1<9223372036854775808 by omega);have l4:C8 H 8 (pV x4 0)=some (.a cs):=B8 r4 K.length;have l6:C8 H 3 (pV x6 0)=some (.a (D3 D.length n m)):=B8 r6 rfl;have ad:∀ x,J2 6 1 (pV x 4) (iV (k:Int))=some (pV x (4+k)):=λx=>by rw [J3 (by omega)];simp
  have lw:B4 H (pV x9 (4+k))=some (iV ((was.drop 4).getD k 0)):=by
   rw [dY r9 (by omega)];rw [E30,E30,E4G]
  obtain ⟨cs',K1,H1,H2,a1,a2,a3,a4,a5,a6,a7,a8,a9⟩:=D7v (m:=m) (no:=(was.drop 4).getD k 0) G hg.1 K r4 K.length (λid h=>hQ id (by omega)) hx4 ht hl;have E2Z:=C4 r10;have l10:(encI (pre++dd)).length=11:=by rw [A8,E3S,hpre,hd]
  have q10:rd H2 x10=rT (encI (pre++dd)):=by rw [a9 _ E2Z (Ne.symm n1)];exact r10
  have es:(encI (pre++dd)).set (4+k) (.i .i64 (T1 D n c ((was.drop 4).getD k 0)))=encI (pre++dd.set k (T1 D n c ((was.drop 4).getD k 0))):=by
   rw [aX,E4p _ _ (by omega),hpre,Nat.add_sub_cancel_left]
  obtain ⟨H3,wX⟩:∃ H3,H3=H2.set x10 (rT (encI (pre++dd.set k (T1 D n c ((was.drop 4).getD k 0))))):=⟨_,rfl⟩;have s10:F9 H2 (pV x10 (4+k)) (iV (T1 D n c ((was.drop 4).getD k 0)))=some H3:=by rw [E9 q10 (by omega),es,wX]
  have o3:∀ j,j≠x10->rd H3 j=rd H2 j:=λj hj=>by rw [wX,A7 (Ne.symm hj)]
  have lH3:H3.length=H2.length:=by rw [wX];simp
  have ed:A5Y D n (was.drop 4) (e+1) k (c,dd)=A5Y D n (was.drop 4) e (k+1) (dA D n c ((was.drop 4).getD k 0),dd.set k (T1 D n c ((was.drop 4).getD k 0))):=rfl;rw [ed];obtain ⟨cs2,H',M',f1,f2,f3,f4,f5,f6,f7,f8,f9,f10,f11⟩:=ih (k+1) M _ cs' (dd.set k (T1 D n c ((was.drop 4).getD k 0))) H3 (by omega) (by omega) (by simpa using hd) (by rw [wX];exact a5.set hg.2 _) (λid h=>hQ id (by omega)) (by rw [wX];exact a6.set (.inr E3f)) (by rw [fL];exact ht) (by rw [o3 _ n1];exact a7) (by rw [o3 _ (Ne.symm n4),a9 _ (C4 r6) (Ne.symm n2)];exact r6) (by rw [o3 _ (Ne.symm n7),a9 _ (C4 rr8) (Ne.symm n6)];exact rr8) (by rw [o3 _ (Ne.symm n5),a9 _ (C4 r9) (Ne.symm n3)];exact r9) (by rw [wX];exact B6 (C4 q10));refine ⟨cs2,H',M',?_,f2,f3,f4,f5,f6,f7,f8,f9,f10,by omega⟩;rw [A61,A1Q];simp only [esc,Nat.reduceAdd,k6,km,l4,l6,ad,lw,a1,a2,a3,a4,s10,w1];exact f1
end
end
section
theorem B6l {b b':List UInt8} {k:Nat} {x:Int} (hk:k<128) (h1:ptP b' k=x) (h2:∀ i,i<128->i≠k->ptP b' i=ptP b i):(aH b 128).set k x=aH b' 128:=by
 rw [B0P,B0P];refine E4I λi=>?_
 rw [List.getElem?_set];by_cases hi:i<128
 ·by_cases e:k=i
  ·subst e;rw [if_pos rfl,if_pos (by simp;exact hi)];simp [hi,h1]
  ·rw [if_neg e];simp [hi,h2 i hi (Ne.symm e)]
 ·rw [E4q (by simp;omega),E4q (by simp;omega)];split
  ·rename_i e;subst e;exact absurd hk hi
  ·rfl
theorem D5F {b:List UInt8} {k:Nat} (hk:k<128):(aH b 128)[k]?=some (ptP b k):=by rw [B0P];simp [hk]
section
variable {D:Dev} {n m:Int} {P Q:Nat->Prop} {g H h:A6} {c:Cl} {cs:List Cell} {v:Val}
theorem A9S {many:Int}:∀ {e k:Nat} {s:Cl × List UInt8},(bF D n many e k s).1.taken.length=s.1.taken.length
 | 0,_,_=>rfl
 | e+1,k,s=>by
  rw [bF,A9S];unfold gB;split
  ·rfl
  ·dsimp only;split
   ·exact fL
   ·rfl
theorem D78 {x4 x6 x8 x10 nid q:Nat} {many:Int} {ii:List Int} (hii:ii.length=11) (hg:g.length<=x4/\g.length<=nid) (hx4:¬ Q x4) (E14:¬ Q nid) (hl:D.length<=1000) (hm:many<=134)
  (n1:x4≠nid) (n2:x4≠x6) (n3:x4≠x8) (n4:x4≠x10) (n5:nid≠x6) (n6:nid≠x8) (n7:nid≠x10) {r8:List Cell} :
  ∀ (e k M:Nat) (s:Cl × List UInt8) (cs:List Cell) (H:A6),k+e=128->e<M->s.2.length=256->Grows g H->(∀ id,H.length<=id->Q id)->IsRC n Q H cs s.1->s.1.taken.length=D.length->rd H x4=rT cs->rd H x6=rT (D3 D.length n m)->rd H x8=rT r8->rd H x10=rT (encI ii)->rd H nid=rT (encI (aH s.2 128)) ->
  ∃ cs' H' M',A53 q M (pV x4 0) (pV x6 0) (pV x8 0) (pV x10 0) (iV many) (sV nid 0 128 1) (iV (k:Int)) H =
    A53 q (M'+1) (pV x4 0) (pV x6 0) (pV x8 0) (pV x10 0) (iV many) (sV nid 0 128 1) (iV 128) H' /\
   Grows g H'/\(∀ id,H'.length<=id->Q id)/\IsRC n Q H' cs' (bF D n many e k s).1/\rd H' x4=rT cs'/\rd H' x8=rT r8/\rd H' x10=rT (encI ii)/\rd H' nid=rT (encI (aH (bF D n many e k s).2 128)):=by
 intro e
 induction e with
 | zero =>
  intro k M s cs H hi hM hs G hQ K ht r4 r6 rr8 r10 rn;obtain ⟨M,rfl⟩:∃ M',M=M'+1:=⟨M-1,by omega⟩;have ei:k=128:=by omega
  subst ei;exact ⟨cs,H,M,rfl,G,hQ,K,r4,rr8,r10,rn⟩
 | succ e ih =>
  intro k M s cs H hi hM hs G hQ K ht r4 r6 rr8 r10 rn;obtain ⟨M,rfl⟩:∃ M',M=M'+1:=⟨M-1,by omega⟩;have hk:k<128:=by omega
  have c0:(k:Int)<128:=by omega
  have w1:=C6 (show k+1<9223372036854775808 by omega);have w6:IntKind.wrap .i64 ((k:Int)+6)=(k:Int)+6:=wrap_i64 (by omega) (by omega);have l4:C8 H 8 (pV x4 0)=some (.a cs):=B8 r4 K.length;have l6:C8 H 3 (pV x6 0)=some (.a (D3 D.length n m)):=B8 r6 rfl;have ad:D6 1 (sV nid 0 128 1) (iV (k:Int))=some (pV nid k):=by rw [C5 hk];simp
  have ln:B4 H (pV nid k)=some (iV (ptP s.2 k)):=B5 rn (by rw [F0,D5F hk];rfl) rfl;have nl:(encI (aH s.2 128)).length=128:=by rw [A8,qG]
  have er:bF D n many (e+1) k s=bF D n many e (k+1) (gB D n many s k):=rfl;rw [er];have lO:=B81 (D:=D) (n:=n) (many:=many) hs hk;have uP:=C5l (D:=D) (n:=n) (many:=many) (s:=s) (k:=k);have hft:(gB D n many s k).1.taken.length=D.length:=by
   have:=A9S (D:=D) (n:=n) (many:=many) (e:=1) (k:=k) (s:=s);rw [<-ht];exact this
  have setE:∀ x,x=(if (k:Int)+6<many then T1 D n s.1 (ptP s.2 k) else 0)->(aH s.2 128).set k x=aH (gB D n many s k).2 128:=by
   intro x hx;subst hx;unfold gB;by_cases hz:ptP s.2 k=0
   ·rw [if_pos hz];refine B6l hk ?_ λ_ _ _=>rfl
    rw [hz,D5t];split<;>rfl
   ·rw [if_neg hz];dsimp only;by_cases h6:(k:Int)+6<many
    ·simp only [h6,if_true,decide_true,E31];by_cases hc:T1 D n s.1 (ptP s.2 k)=0
     ·rw [hc];simp only [decide_true,Bool.not_true,cond_false];refine B6l hk ?_ λi hi U1=>?_
      ·rw [C2v hs hk hk];simp
      ·rw [C2v hs hk hi,if_neg U1]
     ·simp only [hc,decide_false,Bool.not_false,cond_true];have:T1 D n s.1 (ptP s.2 k)=ptP s.2 k:=by
       unfold T1 at hc ⊢;cases hB:B35 D n s.1 (ptP s.2 k) with
       | true=>rfl
       | false=>rw [hB] at hc;exact absurd rfl hc
      rw [this];exact B6l hk rfl λ_ _ _=>rfl
    ·simp only [h6,if_false,decide_false,E3W,cond_false];refine B6l hk ?_ λi hi U1=>?_
     ·rw [C2v hs hk hk];simp
     ·rw [C2v hs hk hi,if_neg U1]
  have clmE:(if (k:Int)+6<many then dA D n s.1 (ptP s.2 k) else s.1)=(gB D n many s k).1:=by
   unfold gB;by_cases hz:ptP s.2 k=0
   ·rw [if_pos hz,hz,D5s];split<;>rfl
   ·rw [if_neg hz]
  by_cases h6:(k:Int)+6<many
  ·rw [if_pos h6] at clmE setE;obtain ⟨cs',K1,H1,H2,a1,a2,a3,a4,a5,a6,a7,a8,a9⟩:=D7v (m:=m) (no:=ptP s.2 k) G hg.1 K r4 K.length (λid h=>hQ id (by omega)) hx4 ht hl;rw [clmE] at a6;have q1:rd H2 nid=rT (encI (aH s.2 128)):=by rw [a9 _ (C4 rn) (Ne.symm n1)];exact rn
   have sn:F9 H2 (pV nid k) (iV (T1 D n s.1 (ptP s.2 k)))=some (H2.set nid (rT (encI (aH (gB D n many s k).2 128)))):=by
    rw [E9 q1 (by omega),aX,setE _ rfl]
   obtain ⟨H3,wX⟩:∃ H3,H3=H2.set nid (rT (encI (aH (gB D n many s k).2 128))):=⟨_,rfl⟩;rw [<-wX] at sn;have o3:∀ j,j≠nid->rd H3 j=rd H2 j:=λj hj=>by rw [wX,A7 (Ne.symm hj)]
   have lH3:H3.length=H2.length:=by rw [wX];simp
   obtain ⟨cs2,H',M',f1,f2⟩:=ih (k+1) M (gB D n many s k) cs' H3 (by omega) (by omega) lO (by rw [wX];exact a5.set hg.2 _) (λid h=>hQ id (by omega)) (by rw [wX];exact a6.set (.inr E14)) hft (by rw [o3 _ n1];exact a7) (by rw [o3 _ (Ne.symm n5),a9 _ (C4 r6) (Ne.symm n2)];exact r6) (by rw [o3 _ (Ne.symm n6),a9 _ (C4 rr8) (Ne.symm n3)];exact rr8) (by rw [o3 _ (Ne.symm n7),a9 _ (C4 r10) (Ne.symm n4)];exact r10) (by rw [wX];exact B6 (C4 q1));refine ⟨cs2,H',M',?_,f2⟩;rw [wV,A1Q];simp only [esc,Nat.reduceAdd,c0,w6,h6,l4,l6,ad,ln,a1,a2,a3,a4,A60,sn,w1];exact f1
  ·rw [if_neg h6] at clmE setE;have sn:F9 H (pV nid k) (iV 0)=some (H.set nid (rT (encI (aH (gB D n many s k).2 128)))):=by
    rw [E9 rn (by omega),aX,setE _ rfl]
   obtain ⟨H3,wX⟩:∃ H3,H3=H.set nid (rT (encI (aH (gB D n many s k).2 128))):=⟨_,rfl⟩;rw [<-wX] at sn;have o3:∀ j,j≠nid->rd H3 j=rd H j:=λj hj=>by rw [wX,A7 (Ne.symm hj)]
   have lH3:H3.length=H.length:=by rw [wX];simp
   obtain ⟨cs2,H',M',f1,f2⟩:=ih (k+1) M (gB D n many s k) cs H3 (by omega) (by omega) lO (by rw [wX];exact G.set hg.2 _) (λid h=>hQ id (by omega)) (by rw [wX,<-clmE];exact K.set (.inr E14)) hft (by rw [o3 _ n1];exact r4) (by rw [o3 _ (Ne.symm n5)];exact r6) (by rw [o3 _ (Ne.symm n6)];exact rr8) (by rw [o3 _ (Ne.symm n7)];exact r10) (by rw [wX];exact B6 (C4 rn));refine ⟨cs2,H',M',?_,f2⟩;rw [wV,A1Q];simp only [esc,Nat.reduceAdd,c0,w6,h6,ad,A60,sn,w1];exact f1
theorem C9m {x4 x10 ino:Nat} {ii:List Int} (G:Grows g H) (hg:g.length<=x4) (K:IsRC n Q H cs c) (r4:rd H x4=rT cs) (hQ:∀ id,H.length<=id->Q id) (hx4:¬ Q x4) (r10:rd H x10=rT (encI ii)) (hii:ii.length=11) (hin:ino<c.ino.length) (R6:∀ x∈c.ino,x.length=11) (hc:c.ino.length<=1000) (nx:x10≠x4) :
  ∃ v49 p50 H1 cs' H2,B4 (H++[rT []]) (pV x4 1)=some v49/\iY (H++[rT []]) 11 (sV H.length 0 0 11) v49=some (sV (H.length+1) 0 c.ino.length 11,p50)/\C8 p50 11 (pV x10 0)=some (.a (encI ii)) /\
   D6 11 (sV (H.length+1) 0 c.ino.length 11) (iV (ino:Int))=some (pV (H.length+1) (ino*11))/\E1 p50 11 (pV (H.length+1) (ino*11)) (.a (encI ii))=some H1/\F9 H1 (pV x4 1) (sV (H.length+1) 0 c.ino.length 11)=some H2 /\
   Grows g H2/\IsRC n Q H2 cs' { c with ino:=c.ino.set ino ii }/\rd H2 x4=rT cs'/\H2.length=H.length+2/\(∀ j,j<H.length->j≠x4->rd H2 j=rd H j):=by
 obtain ⟨xr,xi,xt,xb,xm,xl,xy,ys,rfl,k⟩:=K;have hxl:=C4 r4;have h10:=C4 r10;have cp:=B37 (H:=H) k.ino (by omega) (by omega);obtain ⟨p50,hp⟩:∃ p50,p50=H++[none,rT (S6 c.ino)]:=⟨_,rfl⟩;rw [<-hp] at cp;have lp:p50.length=H.length+2:=by rw [hp];simp
 have rn:rd p50 (H.length+1)=rT (S6 c.ino):=by rw [hp,M9];rfl
 have Gp:Grows g p50:=by rw [hp];exact R0 G rfl
 have old:∀ j,j<H.length->rd p50 j=rd H j:=λj hj=>by rw [hp,D1 hj]
 obtain ⟨H1,hH1⟩:∃ H1,H1=p50.set (H.length+1) (rT (S6 (c.ino.set ino ii))):=⟨_,rfl⟩;have st:E1 p50 11 (pV (H.length+1) (ino*11)) (.a (encI ii))=some H1:=by
  rw [B01 rn (by rw [A8,hii]) (by rw [U2 R6];omega),C5J R6 hii hin,hH1]
 obtain ⟨C',hC'⟩:∃ C',C'=rcC xr (.sl (H.length+1) 0 c.ino.length 11) xt xb xm c.lost xl xy:=⟨_,rfl⟩;obtain ⟨H2,hH2⟩:∃ H2,H2=H1.set x4 (rT C'):=⟨_,rfl⟩;have q4:rd H1 x4=rT (rcC xr xi xt xb xm c.lost xl xy):=by rw [hH1,A7 (by omega),old _ hxl];exact r4
 have s4:F9 H1 (pV x4 1) (sV (H.length+1) 0 c.ino.length 11)=some H2:=by rw [E9 q4 (by simp [rcC]),hH2,hC'];rfl
 have hgl:=G.len;have G2:Grows g H2:=by rw [hH2,hH1];exact (Gp.set (by omega) _).set hg _
 have kp:=k.grows (h':=p50) (by rw [hp];exact R0 Grows.rfl' rfl);have low:=k.low;have k2:RCF n (λid=>Q id/\id<H.length) H2 c xr xi xt xb xm xl xy ys:=by
  rw [hH2,hH1];refine RCF.set (.inr λh=>hx4 h.1) (RCF.set (.inr λh=>by omega) (RCF.grows ?_ k.low));rw [hp];exact R0 Grows.rfl' rfl
 have k3:=k2.mono (Q:=Q) λid h=>h.1
 refine ⟨.c xi,p50,H1,C',H2,B5 (B7 r4) rfl rfl,cp,B8 (by rw [old _ h10];exact r10) (by rw [A8,hii]),by rw [C5 hin];simp,st,s4,G2,?_,by rw [hH2];exact B6 (by rw [hH1];simp;omega),by rw [hH2,hH1];simp [lp],λj hj U1=>by rw [hH2,A7 (Ne.symm U1),hH1,A7 (by omega),old _ hj]⟩;refine ⟨xr,.sl (H.length+1) 0 c.ino.length 11,xt,xb,xm,xl,xy,ys,hC',⟨k3.row,?_,k3.tak,k3.blk,k3.mad,k3.mds,k3.tol,k3.par,k3.pr,λid hi=>by cases hi;exact hQ _ (by omega),k3.pt,k3.pb,k3.pm,k3.pl,k3.py⟩⟩;have E2Y:∀ x∈c.ino.set ino ii,x.length=11:=λx hx=>by
  rcases E4z hx with h1 | h1
  ·exact R6 x h1
  ·rw [h1];exact hii
 show Has H2 (sV (H.length+1) 0 c.ino.length 11) 11 (c.ino.set ino ii).length (S6 (c.ino.set ino ii));rw [E4o];refine Has.row (rw:=true) ?_ (by rw [U2 E2Y,E4o]) (B0V _);rw [hH2,A7 (by omega),hH1];exact B6 (by omega)
end
end
theorem D63 {D:Dev} (h:A9y D=true):R9 D.length (D0b D)=true:=by
 unfold A9y at h;rw [E3R] at h;have h1:=h.1;unfold okS at h1;rw [E3R,of_decide_eq_true h.2] at h1;exact h1.1
section
def D8a (D:Dev) (n i:Int):List Int:=kdV D n i::lnV D n i::szV D n i::paV D n i::drV D n i
theorem D2J (D:Dev) (n i:Int):encI (D8a D n i)=A08 D n i:=by rw [A57];rfl
theorem C04 {D:Dev} {n i:Int}:(D8a D n i).length=11:=by simp [D8a,sX]
section
variable {h:A6} {r:Nat} {s:List Int} {B:Int}
end
end
section
section
variable {D:Dev} {n m:Int} {P:Nat->Prop} {h:A6} {c:Cl} {cs:List Cell} {v:Val}
theorem D3U {h t:A6} {v:Val} (hn:t.all B2q=true):quiet h (some (v,h++t))=some (v,h++t):=U6 (R0 Grows.rfl' hn)
theorem D76 {x4 x6 x8 x10 ino:Nat} {many:Int} {ii:List Int} {Q:Nat->Prop} {H:A6} (hv:Has h v 256 D.length (D4 D)) (hD:okD D) (e4:x4=h.length) (e6:x6=h.length+1) (e8:x8=h.length+2) (e10:x10=h.length+4)
  (hQ0:Q=λid=>(P id/\id<h.length)\/h.length+5<=id) (hHl:h.length+5<=H.length) (G:Grows h H) (K:IsRC n Q H cs c) (ht:c.taken.length=D.length) (hl:D.length<=1000) (hm:many<=134)
  (r4:rd H x4=rT cs) (r6:rd H x6=rT (D3 D.length n m)) (r8:rd H x8=rT Z8) (r10:rd H x10=rT (encI ii)) (hii:ii.length=11) (hin:ino<c.ino.length) (R6:∀ x∈c.ino,x.length=11) (hc:c.ino.length<=1000) (hb:c.blocks.length<=100000) (hmd:c.made.length<=100000) :
  ∃ cs' H',A52 200 v (iV (ino:Int)) (pV x4 0) (pV x6 0) (pV x8 0) (pV x10 0) (iV many) H=some (.a cs',H')/\Grows h H'/\IsRC n (λid=>P id\/h.length<=id) H' cs'
   (if ii.getD 10 0=0 then { c with ino:=c.ino.set ino ii } else
    R3 (bF D n many 128 0 ({ c with ino:=c.ino.set ino ii },blk D (ii.getD 10 0))).1 (ii.getD 10 0) (bF D n many 128 0 ({ c with ino:=c.ino.set ino ii },blk D (ii.getD 10 0))).2):=by
 have hQ:∀ id,H.length<=id->Q id:=λid hid=>by rw [hQ0];exact .inr (by omega)
 have nQ4:¬ Q x4:=by rw [hQ0];intro hh;rcases hh with hh | hh<;>omega
 have nQ8:¬ Q x8:=by rw [hQ0];intro hh;rcases hh with hh | hh<;>omega
 obtain ⟨v49,p50,H1,cs1,H2,b1,b2,b3,b4,b5,b6,b7,b8,b9,b10,b11⟩:=C9m (g:=h) G (by omega) K r4 hQ nQ4 r10 hii hin R6 hc (by omega);have ef:D9 [] []=some []:=rfl;have q10:rd H2 x10=rT (encI ii):=by rw [b11 _ (C4 r10) (by omega)];exact r10
 have q8:rd H2 x8=rT Z8:=by rw [b11 _ (C4 r8) (by omega)];exact r8
 have q6:rd H2 x6=rT (D3 D.length n m):=by rw [b11 _ (C4 r6) (by omega)];exact r6
 have l10:B4 H2 (pV x10 10)=some (iV (ii.getD 10 0)):=dY q10 (by omega);have l8c:C8 H2 8 (pV x4 0)=some (.a cs1):=B8 b9 b8.length;have toP:∀ id,Q id->P id\/h.length<=id:=λid hid=>by
  rw [hQ0] at hid;rcases hid with hid | hid
  ·exact .inl hid.1
  ·exact .inr (by omega)
 by_cases hz:ii.getD 10 0=0
 ·rw [if_pos hz];rw [hz] at l10;obtain ⟨H3,wX⟩:∃ H3,H3=H2.set x8 (rT cs1):=⟨_,rfl⟩;have s8:E1 H2 8 (pV x8 0) (.a cs1)=some H3:=by rw [storeAll (n:=8) q8 rfl b8.length,wX]
  have l8:C8 H3 8 (pV x8 0)=some (.a cs1):=B8 (by rw [wX];exact B6 (C4 q8)) b8.length;refine ⟨cs1,H3,?_,by rw [wX];exact b7.set (by omega) _,by rw [wX];exact (b8.set (.inr nQ8)).mono toP⟩;rw [A6Z];simp only [esc,Nat.reduceAdd,ef,b1,b2,b3,b4,b5,b6,l10,l8c,s8,l8]
 ·rw [if_neg hz];have hvr:Has H2 v 256 D.length (D4 D):=hv.grows b7;obtain ⟨u,t,d1,d2,d3,_⟩:=zQ (no:=ii.getD 10 0) hvr hD;have hN:=B9d d3 (O0 hD);obtain ⟨K1,hK1⟩:∃ K1,K1=H2++t:=⟨_,rfl⟩;rw [<-hK1] at d1 hN d3;obtain ⟨K2,hK2⟩:∃ K2,K2=K1++[rT (encI (aH (blk D (ii.getD 10 0)) 128))]:=⟨_,rfl⟩;rw [<-hK2] at hN;have lK1:H2.length<=K1.length:=by rw [hK1];simp
  have lK2:K2.length=K1.length+1:=by rw [hK2];simp
  have G12:Grows H2 K2:=by rw [hK2,hK1];exact (R0 Grows.rfl' d2).new _
  have GK:Grows h K2:=b7.trans' G12;obtain ⟨Q2,hQ2⟩:∃ Q2:Nat->Prop,Q2=λid=>(Q id/\id<K1.length)\/K1.length+1<=id:=⟨_,rfl⟩
  have kQ2:IsRC n Q2 K2 cs1 { c with ino:=c.ino.set ino ii }:=(b8.low.grows G12).mono λid hid=>by
   rw [hQ2];exact .inl ⟨hid.1,by omega⟩
  have E2O:∀ id,K2.length<=id->Q2 id:=λid hid=>by rw [hQ2];exact .inr (by omega)
  have nQ2:¬ Q2 K1.length:=by rw [hQ2];intro hh;rcases hh with hh | hh<;>omega
  have E08:¬ Q2 x4:=by rw [hQ2];intro hh;rcases hh with hh | hh;exact nQ4 hh.1;have:=C4 b9;omega
  have E09:¬ Q2 x8:=by rw [hQ2];intro hh;rcases hh with hh | hh;exact nQ8 hh.1;have:=C4 q8;omega
  have toK:∀ {id r},rd H2 id=some r->rd K2 id=some r:=λhr=>G12.rd hr
  have hg:=G.len;have lt4:=C4 b9;have lt6:=C4 q6;have lt8:=C4 q8;have lt10:=C4 q10;obtain ⟨cs2,H5,M5,f1,f2,f3,f4,f5,f6,f7,f8⟩:=D78 (Q:=Q2) (g:=h) (x4:=x4) (x6:=x6) (x8:=x8) (x10:=x10) (nid:=K1.length) (q:=200) (many:=many) hii ⟨by omega,by omega⟩ E08 nQ2 hl hm (by omega) (by omega) (by omega) (by omega) (by omega) (by omega) (by omega) 128 0 200 ({ c with ino:=c.ino.set ino ii },blk D (ii.getD 10 0)) cs1 K2 (by omega) (by omega) (O0 hD) GK E2O kQ2 ht (toK b9) (toK q6) (toK q8) (toK q10) (by rw [hK2,F8];rfl);obtain ⟨S,hS⟩:∃ S,S=bF D n many 128 0 ({ c with ino:=c.ino.set ino ii },blk D (ii.getD 10 0)):=⟨_,rfl⟩;rw [<-hS] at f4 f8 ⊢;have sl:S.2.length=256:=by rw [hS];exact B0O (by omega) (O0 hD)
  have ss:=tD (D:=D) (n:=n) (many:=many) (e:=128) (k:=0) (s:=({ c with ino:=c.ino.set ino ii },blk D (ii.getD 10 0)));rw [<-hS] at ss;have hB:=C6l (v:=sV K1.length 0 128 1) (nv:=128) (l:=aH S.2 128) (h:=H5) (Has.row f8 (by rw [A8,qG]) (cG _)) (by omega);rw [D5E sl] at hB;obtain ⟨H6,hH6⟩:∃ H6,H6=H5++[rT (A5 S.2)]:=⟨_,rfl⟩;rw [<-hH6] at hB;have hq:=U6 (h:=H5) (h':=H6) (v:=sV H5.length 0 256 1) (by rw [hH6];exact (Grows.rfl').new _);have k6:IsRC n Q2 H6 cs2 S.1:=f4.grows (by rw [hH6];exact (Grows.rfl').new _);obtain ⟨cs3,H7,m1,m2,m3⟩:=D2I (no:=ii.getD 10 0) (y:=.sl H5.length 0 256 1) (b:=S.2) k6 (by rw [hH6];exact Has.row (rw:=true) (by rw [F8];rfl) (by rw [A4,sl]) (F6 _)) (λid hid=>by cases hid;exact f3 _ (E3T _)) (by rw [ss.blocks];exact hb) (by rw [ss.made];exact hmd) rfl;have lH6:H6.length=H5.length+1:=by rw [hH6];simp
  have q87:rd H7 x8=rT Z8:=m2.rd (by rw [hH6];exact B7 f6);have lt87:=C4 f6;obtain ⟨H8,hH8⟩:∃ H8,H8=H7.set x8 (rT cs3):=⟨_,rfl⟩;have s8:E1 H7 8 (pV x8 0) (.a cs3)=some H8:=by rw [storeAll (n:=8) q87 rfl m3.length,hH8]
  have l8:C8 H8 8 (pV x8 0)=some (.a cs3):=B8 (by rw [hH8];exact B6 (C4 q87)) m3.length;have G7:Grows h H7:=f2.trans' ((by rw [hH6];exact (Grows.rfl').new _:Grows H5 H6).trans' m2);refine ⟨cs3,H8,?_,by rw [hH8];exact G7.set (by omega) _,?_⟩
  ·have l8c2:C8 H5 8 (pV x4 0)=some (.a cs2):=B8 f5 f4.length;have l105:B4 H5 (pV x10 10)=some (iV (ii.getD 10 0)):=dY f7 (by omega);have E2F:¬ (128:Int)<128:=by decide
   have c00:((0:Nat):Int)=0:=rfl;rw [c00] at f1;rw [A6Z];simp only [esc,Nat.reduceAdd,ef,b1,b2,b3,b4,b5,b6,l10,hz,d1,hN];refine f1.trans ?_;rw [wV];simp only [esc,Nat.reduceAdd,E2F,l8c2,l105,hB,hq,m1,s8,l8]
  ·rw [hH8];refine (m3.set (.inr ?_)).mono ?_
   ·intro hh;rcases hh with hh | hh
    ·exact E09 hh
    ·omega
   ·intro id hid;rcases hid with hid | hid
    ·rw [hQ2] at hid;rcases hid with hid | hid
     ·exact toP _ hid.1
     ·exact .inr (by omega)
    ·exact .inr (by have:=G7.len;have:=m2.len;have:=f2.len;omega)
theorem D75 {ino:Int} (hv:Has h v 256 D.length (D4 D)) (hD:okD D) (K:IsRC n P h cs c) (ht:c.taken.length=D.length) (hl:D.length<=1000) (i0:0<=ino) (i1:ino.toNat<c.ino.length) (R6:∀ x∈c.ino,x.length=11) (hc:c.ino.length<=1000) (hb:c.blocks.length<=100000) (hmd:c.made.length<=100000) :
  ∃ cs' H',A8H [.a cs,v,.a (D3 D.length n m),iV ino] h=some (.a cs',H')/\Grows h H'/\IsRC n (λid=>P id\/h.length<=id) H' cs' (gA D n c ino):=by
 have c8:=K.length;obtain ⟨many,em⟩:∃ many,many=A3g (szV D n ino):=⟨_,rfl⟩;have C8Y:0<=many/\many<=134:=by rw [em];unfold A3g;split;omega;split<;>omega
 obtain ⟨was,ew⟩:∃ was,was=D8a D n ino:=⟨_,rfl⟩;have hwl:was.length=11:=by rw [ew];exact C04
 have hwd:was.drop 4=drV D n ino:=by rw [ew];rfl
 obtain ⟨G3,hG3⟩:∃ G3,G3=h++[rT cs,rT (D3 D.length n m),rT Z8]:=⟨_,rfl⟩;have hI:=qP (v:=v) (n:=n) (m:=m) (i:=ino) (h:=G3) (by rw [hG3];exact hv.more _) hD;rw [<-D2J,<-ew] at hI;obtain ⟨G5,hG5⟩:∃ G5,G5=h++[rT cs,rT (D3 D.length n m),rT Z8,rT (encI was),rT (encI ([1,1,szV D n ino,0]++zI 7))]:=⟨_,rfl⟩;have lG5:G5.length=h.length+5:=by rw [hG5];simp
 obtain ⟨Q,hQ0⟩:∃ Q:Nat->Prop,Q=λid=>(P id/\id<h.length)\/h.length+5<=id:=⟨_,rfl⟩
 have G:Grows h G5:=by rw [hG5];exact R0 Grows.rfl' rfl
 have K5:IsRC n Q G5 cs c:=(K.low.grows G).mono λid hid=>by rw [hQ0];exact .inl hid
 have hQn:∀ id,G5.length<=id->Q id:=λid hid=>by rw [hQ0];exact .inr (by omega)
 have nQ:∀ k,k<5->¬ Q (h.length+k):=λk hk=>by rw [hQ0];intro hh;rcases hh with hh | hh<;>omega
 have n0:¬ Q h.length:=nQ 0 (by omega);have n4:=nQ 4 (by omega);obtain ⟨cs1,H1,M1,f1,f2,f3,f4,f5,f6,f7,f8,f9,f10,f11⟩:=D77 (v:=v) (x3:=iV ino) (g:=h) (Q:=Q) (m:=m) (x4:=h.length) (x6:=h.length+1) (x8:=h.length+2) (x9:=h.length+3) (x10:=h.length+4) (q:=200) (many:=many) (pre:=[1,1,szV D n ino,0]) (r8:=Z8) hwl rfl ⟨by omega,by omega⟩ n0 n4 hl (by omega) (by omega) (by omega) (by omega) (by omega) (by omega) (by omega) C8Y.2
  (min many 6).toNat 0 200 c cs (zI 7) G5 (by omega) (by omega) rfl G hQn K5 ht (by rw [hG5,F8];rfl) (by rw [hG5,M9];rfl) (by rw [hG5,M9];rfl) (by rw [hG5,M9];rfl) (by rw [hG5,M9];rfl)
 obtain ⟨s,es⟩:∃ s,s=A5Y D n (drV D n ino) (min many 6).toNat 0 (c,zI 7):=⟨_,rfl⟩;rw [hwd,<-es] at f4 f9 f10;have hs:=B0M (D:=D) (n:=n) (d:=drV D n ino) (e:=(min many 6).toNat) (k:=0) (s:=(c,zI 7));rw [<-es] at hs;have hs2:s.2.length=7:=hs.2;have eD:dF D n c ino=B6s D n (drV D n ino) many s:=by unfold dF;rw [es,em]
 have fin:∀ (H2:A6) (cs2:List Cell) (s2:Cl × List Int),B6s D n (drV D n ino) many s=s2->SameC c s2.1->s2.2.length=7->s2.1.taken.length=D.length->Grows h H2->h.length+5<=H2.length->IsRC n Q H2 cs2 s2.1->rd H2 h.length=rT cs2->rd H2 (h.length+1)=rT (D3 D.length n m)->rd H2 (h.length+2)=rT Z8->rd H2 (h.length+4)=rT (encI ([1,1,szV D n ino,0]++s2.2)) ->
   ∃ cs' H',A52 200 v (iV ino) (pV h.length 0) (pV (h.length+1) 0) (pV (h.length+2) 0) (pV (h.length+4) 0) (iV many) H2=some (.a cs',H')/\Grows h H'/\IsRC n (λid=>P id\/h.length<=id) H' cs' (gA D n c ino):=by
  intro H2 cs2 s2 e2 sm l2 t2 G2 hH2 K2 q4 q6 q8 q10;have ei:ino=((ino.toNat:Nat):Int):=by omega
  obtain ⟨cs',H',j1,j2,j3⟩:=D76 (ino:=ino.toNat) (many:=many) (ii:=[1,1,szV D n ino,0]++s2.2) (Q:=Q) hv hD rfl rfl rfl rfl hQ0 hH2 G2 K2 t2 hl C8Y.2 q4 q6 q8 q10 (by simp [l2]) (by rw [sm.ino];exact i1) (by rw [sm.ino];exact R6) (by rw [sm.ino];exact hc) (by rw [sm.blocks];exact hb) (by rw [sm.made];exact hmd);rw [<-ei] at j1;refine ⟨cs',H',j1,j2,?_⟩;have e10:([1,1,szV D n ino,0]++s2.2).getD 10 0=s2.2.getD 6 0:=rfl;rw [e10] at j3;have eC:gA D n c ino=if s2.2.getD 6 0=0 then { s2.1 with ino:=s2.1.ino.set ino.toNat ([1,1,szV D n ino,0]++s2.2) } else
    R3 (bF D n many 128 0 ({ s2.1 with ino:=s2.1.ino.set ino.toNat ([1,1,szV D n ino,0]++s2.2) },blk D (s2.2.getD 6 0))).1 (s2.2.getD 6 0) (bF D n many 128 0 ({ s2.1 with ino:=s2.1.ino.set ino.toNat ([1,1,szV D n ino,0]++s2.2) },blk D (s2.2.getD 6 0))).2:=by
   unfold gA Y2;rw [eD,e2,em];rfl
  rw [eC];exact j3
 have key:∃ cs' H',A1E 200 [.a cs,v,.a (D3 D.length n m),iV ino] h=some (.a cs',H')/\Grows h H'/\IsRC n (λid=>P id\/h.length<=id) H' cs' (gA D n c ino):=by
  have z11:[o0,o0,o0,o0,o0,o0,o0,o0,o0,o0,o0]=encI (zI 11):=rfl;have cl1:cells? (.a cs)=some cs:=rfl;have cl2:cells? (.a (D3 D.length n m))=some (D3 D.length n m):=rfl;have l3:C8 G3 3 (pV (h.length+1) 0)=some (.a (D3 D.length n m)):=B8 (by rw [hG3,M9];rfl) rfl;have wl:(encI was).length=11:=by rw [A8,hwl]
  have il:(encI ([1,1,szV D n ino,0]++zI 7)).length=11:=rfl;obtain ⟨G4,hG4⟩:∃ G4,G4=h++[rT cs,rT (D3 D.length n m),rT Z8,rT (encI was)]:=⟨_,rfl⟩;have lG3:G3.length=h.length+3:=by rw [hG3];simp
  have lG4:G4.length=h.length+4:=by rw [hG4];simp
  have s4:E1 (G3++[rT (encI (zI 11))]) 11 (pV (h.length+3) 0) (.a (encI was))=some G4:=by
   rw [<-lG3,storeAll (by rw [F8];rfl) (by rfl) wl,cH,hG3,hG4];simp
  have s5:E1 (G4++[rT (encI (zI 11))]) 11 (pV (h.length+4) 0) (.a (encI ([1,1,szV D n ino,0]++zI 7)))=some G5:=by
   rw [<-lG4,storeAll (by rw [F8];rfl) (by rfl) il,cH,hG4,hG5];simp
  have eS:was.getD 2 0=szV D n ino:=by rw [ew];rfl
  have w4:B4 G4 (pV (h.length+3) 2)=some (iV (szV D n ino)):=by
   have:=dY (h:=G4) (id:=h.length+3) (x:=was) (by rw [hG4,M9];rfl) (k:=2) (by omega);rw [eS] at this;exact this
  have w5:B4 G5 (pV (h.length+3) 2)=some (iV (szV D n ino)):=by
   have:=dY (h:=G5) (id:=h.length+3) (x:=was) (by rw [hG5,M9];rfl) (k:=2) (by omega);rw [eS] at this;exact this
  have ef:D9 (encI (zI 11)) [(0,1,iV 1),(1,1,iV 1),(2,1,iV (szV D n ino))]=some (encI ([1,1,szV D n ino,0]++zI 7)):=rfl;have hBk:=C2j (x:=szV D n ino) (h:=G5);have eBk:(if szV D n ino<1 then (0:Int) else if 34304<szV D n ino then 134 else (szV D n ino+255)/256)=many:=by rw [em];rfl
  rw [eBk] at hBk;have c00:((0:Nat):Int)=0:=rfl;rw [c00] at f1;have start:A1E 200 [.a cs,v,.a (D3 D.length n m),iV ino] h=yP 200 (M1+1) v (iV ino) (pV h.length 0) (pV (h.length+1) 0) (pV (h.length+2) 0) (pV (h.length+3) 0) (pV (h.length+4) 0) (iV many) (iV (min many 6)) H1:=by
   rw [C3h,z11,A1Q];generalize encI (zI 11)=Z at *;generalize encI ([1,1,szV D n ino,0]++zI 7)=I0 at *;generalize encI was=W at *;generalize hLL:D3 D.length n m=L at *;generalize Z8=E8 at *;simp only [cl1,cl2,Q4,E3U,E4l,E37,E3S,E3Z,E4h,E4b,Nat.reduceAdd,<-hG3];simp only [esc,Nat.reduceAdd,l3,hI,lG3,s4,w4,ef,lG4,s5,w5,hBk];exact f1
  rw [start,A61];have cA:¬ ((min many 6<6)/\min many 6<many):=by omega
  by_cases c6:6<many
  ·have em6:min many 6=6:=by omega
   have c66:¬ (6:Int)<6:=by decide
   have cgt:many > 6:=c6;obtain ⟨cs2,K2,H2,H3,a1,a2,a3,a4,a5,a6,a7,a8,a9⟩:=D7w (m:=m) (no:=(drV D n ino).getD 6 0) f2 (by omega) f4 f5 f4.length f3 n0 f10 hl;have l4:C8 H1 8 (pV h.length 0)=some (.a cs1):=B8 f5 f4.length;have l6:C8 H1 3 (pV (h.length+1) 0)=some (.a (D3 D.length n m)):=B8 f6 rfl;have e10:was.getD 10 0=(drV D n ino).getD 6 0:=by rw [ew];rfl
   have lw:B4 H1 (pV (h.length+3) 10)=some (iV ((drV D n ino).getD 6 0)):=by rw [dY f8 (by omega),e10]
   have q10:rd H3 (h.length+4)=rT (encI ([1,1,szV D n ino,0]++s.2)):=by rw [a9 _ (C4 f9) (by omega)];exact f9
   have es':(encI ([1,1,szV D n ino,0]++s.2)).set 10 (.i .i64 (T1 D n s.1 ((drV D n ino).getD 6 0)))=encI ([1,1,szV D n ino,0]++s.2.set 6 (T1 D n s.1 ((drV D n ino).getD 6 0))):=by
    rw [aX];rfl
   obtain ⟨H4,hH4⟩:∃ H4,H4=H3.set (h.length+4) (rT (encI ([1,1,szV D n ino,0]++s.2.set 6 (T1 D n s.1 ((drV D n ino).getD 6 0))))):=⟨_,rfl⟩;have s10:F9 H3 (pV (h.length+4) 10) (iV (T1 D n s.1 ((drV D n ino).getD 6 0)))=some H4:=by
    rw [E9 q10 (by rw [A8];simp [hs2]),es',hH4]
   have o4:∀ j,j≠h.length+4->rd H4 j=rd H3 j:=λj hj=>by rw [hH4,A7 (Ne.symm hj)]
   obtain ⟨cs',H',j1,j2,j3⟩:=fin H4 cs2 (dA D n s.1 ((drV D n ino).getD 6 0),s.2.set 6 (T1 D n s.1 ((drV D n ino).getD 6 0))) (by unfold B6s;rw [if_pos c6]) (hs.1.trans (oI ..)) (by simpa using hs2) (by rw [fL];exact f10) (by rw [hH4];exact a5.set (by omega) _) (by rw [hH4];simp;omega) (by rw [hH4];exact a6.set (.inr n4)) (by rw [o4 _ (by omega)];exact a7) (by rw [o4 _ (by omega),a9 _ (C4 f6) (by omega)];exact f6) (by rw [o4 _ (by omega),a9 _ (C4 f7) (by omega)];exact f7) (by rw [hH4];exact B6 (C4 q10));refine ⟨cs',H',?_,j2,j3⟩;rw [em6,A1Q];simp only [esc,Nat.reduceAdd,c66,cgt,l4,l6,lw,a1,a2,a3,a4,s10];exact j1
  ·have em6:min many 6=many:=by omega
   have cgt:¬ many > 6:=c6;obtain ⟨cs',H',j1,j2,j3⟩:=fin H1 cs1 s (by unfold B6s;rw [if_neg c6]) hs.1 hs2 f10 f2 (by omega) f4 f5 f6 f7 f9;refine ⟨cs',H',?_,j2,j3⟩;rw [em6];by_cases c66:many<6
   ·simp only [esc,Nat.reduceAdd,c66,Int.lt_irrefl,cgt];exact j1
   ·simp only [esc,Nat.reduceAdd,c66,cgt];exact j1
 obtain ⟨cs',H',e1,e2,e3⟩:=key;exact ⟨cs',H',C3W e1,e2,e3⟩
end
end
section
theorem B2p {D:Dev} {X:List Int} {s u:List Spt}:F7 D X (s++u)=F7 D X s++F7 D X u:=by
 unfold F7;rw [List.filter_append,E4J]
theorem D2l {D:Dev} {X:List Int} {e:Spt} {u:List Spt}:F7 D X (e::u)=(if atH D X e=true then [e.2.2.1] else [])++F7 D X u:=by
 rw [show e::u=[e]++u from rfl,B2p]
 congr 1
 unfold F7;by_cases c:atH D X e=true<;>simp [c]
theorem D4u {t:List Int}:∀ {k:Nat},∀ no∈J4 t k,no≠0
 | 0,no,h=>by simp [J4] at h
 | k+1,no,h=>by
  rw [zJ] at h;rcases List.mem_append.1 h with h | h
  ·exact D4u no h
  ·by_cases c:vG t k=true
   ·rw [if_pos c] at h;simp at h;subst h;unfold vG at c;simp at c;exact c.1
   ·rw [if_neg c] at h;simp at h
section
variable {D:Dev} {n m:Int} {g:A6} {v:Val}
theorem E2l {d:Int} {t L:List Int} {x3 x4 x6 x8 x12:Val} {x11 bid q M0:Nat} {i:Nat} (hv:Has g v 256 D.length (D4 D)) (hD:okD D) (hX:rd g x11=rT (encI (d::t))) (ht:t.length=32) (h5:d<=5) (hL:rd g bid=rT (encI L)) (hi:i<L.length) (hLl:L.length<=32) (bH:L[i]≠0) :
  ∀ (e k M:Nat) (S:U7) (nid:Nat) (H:A6),k+e=7->e<M->Grows g H->g.length<=nid->rd H nid=rT (encS S)->S.length+e<=10000 ->
  ∃ nid' H',B2d q M0 M v x3 x4 x6 x8 (pV x11 0) x12 (sV bid 0 L.length 1) (sV nid 0 S.length 1) (iV (i:Int)) (iV (k:Int)) H =
    uN q M0 v x3 x4 x6 x8 (pV x11 0) x12 (sV bid 0 L.length 1) (sV nid' 0 (S++F7 D (d::t) ((L7 (blk D L[i]) e k).map λs=>(L[i],s))).length 1) (iV ((i+1:Nat):Int)) H' /\
   Grows g H'/\g.length<=nid'/\rd H' nid'=rT (encS (S++F7 D (d::t) ((L7 (blk D L[i]) e k).map λs=>(L[i],s)))):=by
 intro e
 induction e with
 | zero =>
  intro k M S nid H hk hM G hn hr hS;obtain ⟨M,rfl⟩:∃ M',M=M'+1:=⟨M-1,by omega⟩;have c0:¬ (k:Int)<7:=by omega
  have w1:=C6 (show i+1<9223372036854775808 by omega);have e1:S++F7 D (d::t) ((L7 (blk D L[i]) 0 k).map λs=>(L[i],s))=S:=by simp [L7,F7]
  rw [e1];refine ⟨nid,H,?_,G,hn,hr⟩;rw [lD];simp only [esc,c0,w1]
 | succ e ih =>
  intro k M S nid H hk hM G hn hr hS;obtain ⟨M,rfl⟩:∃ M',M=M'+1:=⟨M-1,by omega⟩;have k7:k<7:=by omega
  have c0:(k:Int)<7:=by omega
  have w1:=C6 (show k+1<9223372036854775808 by omega);have rL:=G.rd hL;have aL:D6 1 (sV bid 0 L.length 1) (iV (i:Int))=some (pV bid i):=by rw [C5 hi];simp
  have lL:∀ K:A6,rd K bid=rT (encI L)->B4 K (pV bid i)=some (iV L[i]):=λK hK=>B5 hK (by rw [F0,E3P hi];rfl) rfl
  obtain ⟨u,t1,b1,b2,b3,_⟩:=zQ (no:=L[i]) (hv.grows G) hD;obtain ⟨K,hK⟩:∃ K,K=H++t1:=⟨_,rfl⟩;rw [<-hK] at b1 b3;have GK:Grows H K:=by rw [hK];exact R0 Grows.rfl' b2
  have hRd:=uS (k:=k) b3 (O0 hD) k7;have el2:(U9 (Q9 (blk D L[i]) k)).length=2:=by cases Q9 (blk D L[i]) k<;>rfl
  obtain ⟨K2,hK2⟩:∃ K2,K2=K++[rT (U9 (Q9 (blk D L[i]) k))]:=⟨_,rfl⟩;have s2:E1 (K++[rT [Cell.s [],o0]]) 2 (pV K.length 0) (.a (U9 (Q9 (blk D L[i]) k)))=some K2:=by
   rw [storeAll (n:=2) (cs:=[Cell.s [],o0]) (by rw [F8];rfl) rfl el2,cH,hK2];rfl
  have G2:Grows H K2:=by rw [hK2];exact GK.new _
  have lX:C8 K2 33 (pV x11 0)=some (.a (encI (d::t))):=B8 (G2.rd (G.rd hX)) (by rw [A8];simp [ht]);obtain ⟨nm,enm⟩:∃ nm,nm=((Q9 (blk D L[i]) k).map (·.1)).getD []:=⟨_,rfl⟩;have lnm:B4 K2 (pV K.length 0)=some (.c (.s nm)):=by
   refine B5 (cs:=U9 (Q9 (blk D L[i]) k)) (rw:=true) (by rw [hK2,F8];rfl) ?_ rfl;rw [enm];cases Q9 (blk D L[i]) k<;>rfl
  have hnl:nm.length<=24:=by
   rw [enm];cases yV:Q9 (blk D L[i]) k with
   | none=>simp
   | some x=>exact zR yV
  have hAt:=D3V (h:=K2) (d:=d) (t:=t) (nm:=nm) (hv.grows (G.trans' G2)) hD ht h5 (by omega);have lL2:=lL K2 (G2.rd rL);cases yV:Q9 (blk D L[i]) k with
  | none =>
   rw [uQ yV];rw [yV] at hRd s2;obtain ⟨nid',H',f1,f2⟩:=ih (k+1) M S nid K2 (by omega) (by omega) (G.trans' G2) hn (G2.rd hr) (by omega);generalize S++F7 D (d::t) ((L7 (blk D L[i]) e (k+1)).map λs=>(L[i],s))=TT at f1 f2 ⊢;refine ⟨nid',H',?_,f2⟩;rw [lD];generalize encI (d::t)=X at *;generalize P8 (d::t) nm=hb at *;generalize B3Y D (d::t) nm=sl at *;generalize (hmS D (d::t) nm).isSome=hm at *;simp only [esc,Nat.reduceAdd,c0,aL,lL H rL,b1,hRd,E4d,s2,lX,lnm,hAt,dV,w1];exact f1
  | some x =>
   obtain ⟨s,ii⟩:=x;rw [uR yV,E4R,D2l];have es:nm=s:=by rw [enm,yV];rfl
   have B84:=D6P (X:=d::t) bH yV;rw [es] at lnm hAt;rw [yV] at hRd s2;by_cases ha:atH D (d::t) (L[i],(k,(s,ii)))=true
   ·rw [if_pos ha];rw [ha] at B84;simp only [E3R,decide_eq_true_eq] at B84;obtain ⟨⟨g1,g2⟩,g3⟩:=B84;have E2X:rd K2 nid=rT (encS S):=G2.rd hr;have op:=one_app (ys:=[Cell.s s]) E2X (n:=S.length) (sz:=1) (by rw [L6];omega) rfl (by omega) (by omega);obtain ⟨K3,hK3⟩:∃ K3,K3=(K2++[rT [Cell.s s]]).set nid none++[rT (encS S++[Cell.s s])]:=⟨_,rfl⟩;rw [<-hK3] at op;have G3:Grows g K3:=by rw [hK3];exact (B6m ((G.trans' G2).new _) hn).new _
    have r3:rd K3 (K2.length+1)=rT (encS (S++[s])):=by
     have:rd K3 ((K2++[rT [Cell.s s]]).set nid none).length=rT (encS S++[Cell.s s]):=by rw [hK3];exact S9
     rw [E4o,E3S] at this;rw [show encS (S++[s])=encS S++[Cell.s s] by simp [encS]];exact this
    have ls:(S++[s]).length=S.length+1:=by simp
    have eT:S++([s]++F7 D (d::t) ((L7 (blk D L[i]) e (k+1)).map λs=>(L[i],s)))=(S++[s])++F7 D (d::t) ((L7 (blk D L[i]) e (k+1)).map λs=>(L[i],s)):=by simp
    have es1:(L[i],((k,(s,ii)):Slt)).2.2.1=s:=rfl;rw [es1,eT]
    ·obtain ⟨nid',H',f1,f2⟩:=ih (k+1) M (S++[s]) (K2.length+1) K3 (by omega) (by omega) G3 (by have:=(G.trans' G2).len;omega) r3 (by rw [ls];omega);generalize (S++[s])++F7 D (d::t) ((L7 (blk D L[i]) e (k+1)).map λs=>(L[i],s))=TT at f1 f2 ⊢;rw [ls] at f1;refine ⟨nid',H',?_,f2⟩;have ef:D9 [Cell.s []] [(0,1,.c (.s s))]=some [.s s]:=rfl;rw [lD];generalize encI (d::t)=X at *;generalize P8 (d::t) s=hb at *;generalize B3Y D (d::t) s=sl at *;generalize (hmS D (d::t) s).isSome=hm at *;subst g1;simp only [esc,Nat.reduceAdd,c0,aL,lL H rL,b1,hRd,E33,s2,lX,lnm,hAt,lL2,g2,g3,ef,op,dV,w1,eq_self];exact f1
   ·rw [if_neg ha,E37];have ha:atH D (d::t) (L[i],(k,(s,ii)))=false:=by simpa using ha
    rw [ha] at B84;obtain ⟨nid',H',f1,f2⟩:=ih (k+1) M S nid K2 (by omega) (by omega) (G.trans' G2) hn (G2.rd hr) (by omega);generalize S++F7 D (d::t) ((L7 (blk D L[i]) e (k+1)).map λs=>(L[i],s))=TT at f1 f2 ⊢;refine ⟨nid',H',?_,f2⟩;rw [lD];generalize encI (d::t)=X at *;generalize P8 (d::t) s=hb at *;generalize B3Y D (d::t) s=sl at *;generalize (hmS D (d::t) s).isSome=hm at *;cases hm with
    | false =>
     simp only [esc,Nat.reduceAdd,c0,aL,lL H rL,b1,hRd,E33,s2,lX,lnm,hAt,dV,w1];exact f1
    | true =>
     by_cases c1:hb=L[i]
     ·by_cases c2:sl=(k:Int)
      ·simp [c1,c2] at B84
      ·simp only [esc,Nat.reduceAdd,c0,aL,lL H rL,b1,hRd,E33,s2,lX,lnm,hAt,lL2,c1,c2,dV,w1,eq_self];exact f1
     ·simp only [esc,Nat.reduceAdd,c0,aL,lL H rL,b1,hRd,E33,s2,lX,lnm,hAt,lL2,c1,dV,w1];exact f1
end
end
section
section
variable {D:Dev} {n m:Int} {g:A6} {v:Val}
theorem E2k {d:Int} {t L:List Int} {x3 x4 x6 x8 x12:Val} {x11 bid q:Nat} (hv:Has g v 256 D.length (D4 D)) (hD:okD D) (hX:rd g x11=rT (encI (d::t))) (ht:t.length=32) (h5:d<=5) (hL:rd g bid=rT (encI L)) (hLl:L.length<=32) (bH:∀ no∈L,no≠0) (hq:8<=q) :
  ∀ (e i M:Nat) (S:U7) (nid:Nat) (H:A6),i+e=L.length->e<M->Grows g H->g.length<=nid->rd H nid=rT (encS S)->S.length+7*e<=1000 ->
  ∃ nid' H' M',uN q M v x3 x4 x6 x8 (pV x11 0) x12 (sV bid 0 L.length 1) (sV nid 0 S.length 1) (iV (i:Int)) H =
    uN q (M'+1) v x3 x4 x6 x8 (pV x11 0) x12 (sV bid 0 L.length 1) (sV nid' 0 (S++F7 D (d::t) (sU D (L.drop i))).length 1) (iV (L.length:Nat)) H' /\
   Grows g H'/\g.length<=nid'/\rd H' nid'=rT (encS (S++F7 D (d::t) (sU D (L.drop i)))):=by
 intro e
 induction e with
 | zero =>
  intro i M S nid H hi hM G hn hr hS;obtain ⟨M,rfl⟩:∃ M',M=M'+1:=⟨M-1,by omega⟩;have ei:i=L.length:=by omega
  subst ei;have e1:S++F7 D (d::t) (sU D (L.drop L.length))=S:=by rw [List.drop_length];simp [sU,F7]
  rw [e1];exact ⟨nid,H,M,rfl,G,hn,hr⟩
 | succ e ih =>
  intro i M S nid H hi hM G hn hr hS;obtain ⟨M,rfl⟩:∃ M',M=M'+1:=⟨M-1,by omega⟩;have R6:i<L.length:=by omega
  have c0:(i:Int)<(L.length:Nat):=by omega
  obtain ⟨nid1,H1,f1,f2,f3,f4⟩:=E2l (x3:=x3) (x4:=x4) (x6:=x6) (x8:=x8) (x12:=x12) (q:=q) (M0:=M) hv hD hX ht h5 hL R6 hLl (bH _ (E4u R6)) 7 0 q S nid H (by omega) (by omega) G hn hr (by omega);have eX:L7 (blk D L[i]) 7 0=M7 (blk D L[i]):=rfl;rw [eX] at f1 f4;have h7:=dC (blk D L[i]);have bJ:(S++F7 D (d::t) ((M7 (blk D L[i])).map λs=>(L[i],s))).length<=S.length+7:=by
   have:=A4x (D:=D) (X:=d::t) (s:=(M7 (blk D L[i])).map λs=>(L[i],s));rw [List.length_map] at this;rw [E3S];omega
  obtain ⟨nid',H',M',k1,k2⟩:=ih (i+1) M _ nid1 H1 (by omega) (by omega) f2 f3 f4 (by omega);have eA:S++F7 D (d::t) (sU D (L.drop i))=(S++F7 D (d::t) ((M7 (blk D L[i])).map λs=>(L[i],s)))++F7 D (d::t) (sU D (L.drop (i+1))):=by
   rw [E3V R6,B8N,B2p,E3U]
  rw [eA];refine ⟨nid',H',M',?_,k2⟩;have c00:((0:Nat):Int)=0:=rfl;rw [c00] at f1;generalize (S++F7 D (d::t) ((M7 (blk D L[i])).map λs=>(L[i],s)))++F7 D (d::t) (sU D (L.drop (i+1)))=TT at k1 ⊢;generalize S++F7 D (d::t) ((M7 (blk D L[i])).map λs=>(L[i],s))=TU at k1 f1;rw [A4l];simp only [esc,c0];exact f1.trans k1
structure KeptR (D:Dev) (X:List Int) (K:List UInt8->Option Int) (l:U7):Prop where
 mem:∀ s,s∈l↔(K s).isSome=true
 val:∀ s a,K s=some a->a=A9X D X s
theorem D7s {X:List Int} {L:List Int} {s:List UInt8} (hs:s∈fC (F7 D X (sU D L))):∃ no x,no∈L/\x∈M7 (blk D no)/\P8 X s=no/\hmS D X s=some x/\x.2.1=s:=by
 rw [B00] at hs;unfold F7 at hs;obtain ⟨e,he,rfl⟩:=List.mem_map.1 hs;obtain ⟨he1,he2⟩:=List.mem_filter.1 he;unfold sU at he1;obtain ⟨no,bH,he3⟩:=List.mem_flatMap.1 he1;obtain ⟨x,hx,rfl⟩:=List.mem_map.1 he3;unfold atH at he2;simp only [E3R,decide_eq_true_eq] at he2;exact ⟨no,x,bH,hx,he2.1,he2.2,rfl⟩
theorem E2m {lo:Nat} {P:Nat->Prop} {h:A6} {d ino:Int} {t L:List Int} {x4:Val} {x6 x8 x11 x12 bid sid q:Nat} {r8:List Cell} (hv:Has h v 256 D.length (D4 D)) (hD:okD D) (ht:t.length=32) (h5:d<=5) (bH:∀ no∈L,no≠0) (hn:n<=128)
  (e6:h.length<=x6) (n1:x6≠x8) (n2:x6≠x11) (n3:x6≠x12) (n4:x6≠bid) (n5:x6≠sid) {S:U7} (hS:S=fC (F7 D (d::t) (sU D L))) (hSl:S.length<=300) :
  ∀ (e i M B:Nat) (s:Cl × (List UInt8->Option Int)) (cs:List Cell) (kl:U7) (kid:Nat) (Q:Nat->Prop) (H:A6),i+e=S.length->e<M->Grows h H->IsRC n Q H cs s.1->¬ Q x6->¬ Q kid->(∀ id,Q id->P id\/lo<=id)->lo<=H.length->(∀ id,Q id->id<H.length)->RowW n s.1->s.1.row.length+e<=1000->BndL s.1 B->B+e<=900000 ->
   rd H x6=rT cs->rd H x8=rT (D3 D.length n m)->rd H x11=rT (encI (d::t))->rd H x12=rT r8->rd H bid=rT (encI L)->rd H sid=rT (encS S)->rd H kid=rT (encS kl)->h.length<=kid->kid≠x6->kid≠x8->kid≠x11->kid≠x12->kid≠bid->kid≠sid->kl.length<=i->KeptR D (d::t) s.2 kl ->
  ∃ cs' kl' kid' Q' H' M',A3l q M v (iV ino) x4 (pV x6 0) (pV x8 0) (pV x11 0) (pV x12 0) (sV bid 0 L.length 1) (sV sid 0 S.length 1) (sV kid 0 kl.length 1) (iV (i:Int)) H =
    A3l q (M'+1) v (iV ino) x4 (pV x6 0) (pV x8 0) (pV x11 0) (pV x12 0) (sV bid 0 L.length 1) (sV sid 0 S.length 1) (sV kid' 0 kl'.length 1) (iV (S.length:Nat)) H' /\
   Grows h H'/\IsRC n Q' H' cs' (Z4 D n ino s ((S.drop i).map λx=>(x,A9X D (d::t) x))).1/\¬ Q' x6/\¬ Q' kid'/\(∀ id,Q' id->P id\/lo<=id)/\lo<=H'.length/\(∀ id,Q' id->id<H'.length) /\
   rd H' x6=rT cs'/\rd H' x11=rT (encI (d::t))/\rd H' x12=rT r8/\rd H' bid=rT (encI L)/\rd H' kid'=rT (encS kl')/\kid'≠x6/\kid'≠x11/\kid'≠x12/\kid'≠bid/\kl'.length<=300/\KeptR D (d::t) (Z4 D n ino s ((S.drop i).map λx=>(x,A9X D (d::t) x))).2 kl':=by
 intro e
 induction e with
 | zero =>
  intro i M B s cs kl kid Q H hi hM G K nq6 nqk toP hlo low hR hr hB hB2 r6 r8' r11 r12 rb rs rk hk0 k1 k2 k3 k4 k5 k6 hkl KR;obtain ⟨M,rfl⟩:∃ M',M=M'+1:=⟨M-1,by omega⟩;have ei:i=S.length:=by omega
  subst ei;rw [List.drop_length];exact ⟨cs,kl,kid,Q,H,M,rfl,G,K,nq6,nqk,toP,hlo,low,r6,r11,r12,rb,rk,k1,k3,k4,k5,by omega,KR⟩
 | succ e ih =>
  intro i M B s cs kl kid Q H hi hM G K nq6 nqk toP hlo low hR hr hB hB2 r6 r8' r11 r12 rb rs rk hk0 k1 k2 k3 k4 k5 k6 hkl KR;obtain ⟨M,rfl⟩:∃ M',M=M'+1:=⟨M-1,by omega⟩;have R6:i<S.length:=by omega
  have c0:(i:Int)<(S.length:Nat):=by omega
  have w1:=C6 (show i+1<9223372036854775808 by omega);obtain ⟨no,x,E25,hx,hh1,hh2,hh3⟩:=D7s (D:=D) (X:=d::t) (L:=L) (s:=S[i]) (by rw [<-hS];exact E4u R6);obtain ⟨hx1,hx2⟩:=B0S hx;have hnl:(S[i]).length<=24:=by rw [<-hh3];exact zR hx1
  have no0:no≠0:=bH no E25;have hvH:=hv.grows G;have hAt:=D3V (h:=H) (d:=d) (t:=t) (nm:=S[i]) hvH hD ht h5 (by omega);have eSl:B3Y D (d::t) S[i]=(x.1:Int):=by
   have D88:=hh2;unfold hmS at D88;unfold B3Y;rw [hh1] at D88 ⊢;rw [if_neg no0] at D88 ⊢;rw [D88];rfl
  have eHn:A9X D (d::t) S[i]=x.2.2:=by unfold A9X;rw [hh2];rfl
  rw [hh1,eSl,hh2] at hAt;have lX:C8 H 33 (pV x11 0)=some (.a (encI (d::t))):=B8 r11 (by rw [A8];simp [ht]);have aS:∀ (K:A6),rd K sid=rT (encS S)->B4 K (pV sid i)=some (.c (.s S[i])):=λK hK=>B5 hK (by simp [encS,R6]) rfl
  have adS:D6 1 (sV sid 0 S.length 1) (iV (i:Int))=some (pV sid i):=by rw [C5 R6];simp
  obtain ⟨u,t1,b1,b2,b3,_⟩:=zQ (no:=no) hvH hD;obtain ⟨K1,hK1⟩:∃ K1,K1=H++t1:=⟨_,rfl⟩;rw [<-hK1] at b1 b3;have GK1:Grows H K1:=by rw [hK1];exact R0 Grows.rfl' b2
  have hRd:=uS (k:=x.1) b3 (O0 hD) hx2;rw [hx1] at hRd;obtain ⟨K2,hK2⟩:∃ K2,K2=K1++[rT (U9 (some x.2))]:=⟨_,rfl⟩;have s2:E1 (K1++[rT [Cell.s [],o0]]) 2 (pV K1.length 0) (.a (U9 (some x.2)))=some K2:=by
   rw [storeAll (n:=2) (cs:=[Cell.s [],o0]) (by rw [F8];rfl) rfl rfl,cH,hK2];rfl
  have G2:Grows H K2:=by rw [hK2];exact GK1.new _
  have E3E:=GK1.len;have lK2:K2.length=K1.length+1:=by rw [hK2];simp
  have l6:C8 K2 8 (pV x6 0)=some (.a cs):=B8 (G2.rd r6) K.length;have l8:C8 K2 3 (pV x8 0)=some (.a (D3 D.length n m)):=B8 (G2.rd r8') rfl;have le:B4 K2 (pV K1.length 1)=some (iV x.2.2):=B5 (cs:=U9 (some x.2)) (rw:=true) (by rw [hK2,F8];rfl) rfl rfl;obtain ⟨cs1,K3,t1',t2',t3'⟩:=D8c (m:=m) (dir:=ino) (ino:=x.2.2) (hvH.grows G2) hD (K.grows G2) hR (by omega) (λa=>⟨(hB a).1,by have:=(hB a).2;omega⟩) hn;have E2L:=G2.len;have E3F:=t2'.len;obtain ⟨K4,hK4⟩:∃ K4,K4=K3++[rT cs1]:=⟨_,rfl⟩;have s4:E1 (K3++[rT Z8]) 8 (pV K3.length 0) (.a cs1)=some K4:=by
   rw [storeAll (n:=8) (cs:=Z8) (by rw [F8];rfl) rfl t3'.length,cH,hK4];rfl
  have l4:C8 K4 8 (pV K3.length 0)=some (.a cs1):=B8 (by rw [hK4,F8];rfl) t3'.length;have E2p:∀ {id r},rd H id=some r->rd K4 id=some r:=λhr=>by rw [hK4];exact B7 (t2'.rd (G2.rd hr))
  obtain ⟨K5,hK5⟩:∃ K5,K5=K4.set x6 (rT cs1):=⟨_,rfl⟩;have s5:E1 K4 8 (pV x6 0) (.a cs1)=some K5:=by rw [storeAll (n:=8) (E2p r6) K.length t3'.length,hK5]
  have lK4:K4.length=K3.length+1:=by rw [hK4];simp
  have lK5:K5.length=K3.length+1:=by rw [hK5];simp [lK4]
  have B9i:∀ {id r},rd H id=some r->id≠x6->rd K5 id=some r:=λhr U1=>by rw [hK5,A7 (Ne.symm U1)];exact E2p hr
  have G5:Grows h K5:=by rw [hK5,hK4];exact (((G.trans' G2).trans' t2').new _).set e6 _
  obtain ⟨Q1,hQ1⟩:∃ Q1:Nat->Prop,Q1=λid=>(Q id\/K2.length<=id)/\id<K3.length:=⟨_,rfl⟩
  have kr:=C4 rk;have x6l:=C4 r6;have nq16:¬ Q1 x6:=by rw [hQ1];intro hh;rcases hh.1 with hh | hh;exact nq6 hh;omega
  have nq1k:¬ Q1 kid:=by rw [hQ1];intro hh;rcases hh.1 with hh | hh;exact nqk hh;omega
  have Kr1:IsRC n Q1 K5 cs1 (cK D n s.1 ino x.2.2):=by
   rw [hK5,hK4];refine IsRC.set (.inr nq16) (IsRC.grows ((Grows.rfl').new _) ?_);rw [hQ1];exact t3'.low
  have E2q:∀ id,Q1 id->P id\/lo<=id:=λid hh=>by
   rw [hQ1] at hh;rcases hh.1 with hh | hh
   ·exact toP id hh
   ·exact .inr (by omega)
  have low1:∀ id,Q1 id->id<K5.length:=λid hh=>by rw [hQ1] at hh;have:=hh.2;omega
  have q6:rd K5 x6=rT cs1:=by rw [hK5];exact B6 (by omega)
  have ed:Z4 D n ino s ((S.drop i).map λx=>(x,A9X D (d::t) x))=Z4 D n ino (Y3 D n ino s (S[i],x.2.2)) ((S.drop (i+1)).map λx=>(x,A9X D (d::t) x)):=by
   rw [E3V R6,E4R,eHn];rfl
  rw [ed];obtain ⟨_,fB,fr⟩:=A2j (D:=D) (n:=n) (ino:=ino) (e:=(S[i],x.2.2)) hB;have fR:RowW n (Y3 D n ino s (S[i],x.2.2)).1:=B9h (L:=[(S[i],x.2.2)]) hR;cases hb:gG D n s.1 x.2.2 with
  | false =>
   rw [hb] at t1';have e1:Y3 D n ino s (S[i],x.2.2)=s:=by unfold Y3;rw [hb];rfl
   have e2:cK D n s.1 ino x.2.2=s.1:=by unfold cK;rw [hb];rfl
   rw [e2] at Kr1;rw [e1];obtain ⟨cs',kl',kid',Q',H',M',f1,f2⟩:=ih (i+1) M B s cs1 kl kid Q1 K5 (by omega) (by omega) G5 Kr1 nq16 nq1k E2q (by omega) low1 hR (by omega) hB (by omega) q6 (B9i r8' (Ne.symm n1)) (B9i r11 (Ne.symm n2)) (B9i r12 (Ne.symm n3)) (B9i rb (Ne.symm n4)) (B9i rs (Ne.symm n5)) (B9i rk k1) hk0 k1 k2 k3 k4 k5 k6 (by omega) KR;refine ⟨cs',kl',kid',Q',H',M',?_,f2⟩;rw [tA,A1Q];simp only [esc,Nat.reduceAdd,c0,lX,adS,aS H rs,hAt,b1,hRd,s2,l6,l8,le,t1',s4,l4,s5,A4k,w1];exact f1
  | true =>
   rw [hb] at t1';have e1:Y3 D n ino s (S[i],x.2.2)=(cK D n s.1 ino x.2.2,C7Y s.2 S[i] x.2.2):=by unfold Y3;rw [hb];rfl
   rw [e1] at fB fr fR ⊢;have q5k:=B9i rk k1;have op:=one_app (ys:=[Cell.s S[i]]) q5k (n:=kl.length) (sz:=1) (by rw [L6];omega) rfl (by omega) (by omega);obtain ⟨K6,hK6⟩:∃ K6,K6=(K5++[rT [Cell.s S[i]]]).set kid none++[rT (encS kl++[Cell.s S[i]])]:=⟨_,rfl⟩;rw [<-hK6] at op;have G6:Grows h K6:=by rw [hK6];exact (B6m (G5.new _) hk0).new _
   have lK6:K6.length=K5.length+2:=by rw [hK6];simp
   have D6s:∀ {id r},rd K5 id=some r->id≠kid->rd K6 id=some r:=λhr U1=>by
    rw [hK6];refine B7 ?_;rw [A7 (Ne.symm U1)];exact B7 hr
   have q6k:rd K6 (K5.length+1)=rT (encS (kl++[S[i]])):=by
    have:rd K6 ((K5++[rT [Cell.s S[i]]]).set kid none).length=rT (encS kl++[Cell.s S[i]]):=by rw [hK6];exact S9
    rw [E4o,E3S] at this;rw [show encS (kl++[S[i]])=encS kl++[Cell.s S[i]] by simp [encS]];exact this
   have Kr2:IsRC n Q1 K6 cs1 (cK D n s.1 ino x.2.2):=by
    rw [hK6];exact IsRC.grows ((Grows.rfl').new _) (IsRC.set (.inr nq1k) (IsRC.grows ((Grows.rfl').new _) Kr1))
   have KR2:KeptR D (d::t) (C7Y s.2 S[i] x.2.2) (kl++[S[i]]):=by
    refine ⟨λa=>?_,λa b hab=>?_⟩
    ·rw [List.mem_append];unfold C7Y;by_cases ea:a=S[i]
     ·rw [if_pos ea];simp [ea]
     ·rw [if_neg ea];simp [ea,KR.mem a]
    ·unfold C7Y at hab;by_cases ea:a=S[i]
     ·rw [if_pos ea] at hab;cases hab;rw [ea,eHn]
     ·rw [if_neg ea] at hab;exact KR.val a b hab
   have b11:=C4 r11;have b12:=C4 r12;have bb:=C4 rb;have bs:=C4 rs;have b8:=C4 r8';have lkl:(kl++[S[i]]).length=kl.length+1:=by simp
   obtain ⟨cs',kl',kid',Q',H',M',f1,f2⟩:=ih (i+1) M (B+1) (cK D n s.1 ino x.2.2,C7Y s.2 S[i] x.2.2) cs1 (kl++[S[i]]) (K5.length+1) Q1 K6 (by omega) (by omega) G6 Kr2 nq16 (λhh=>by have:=low1 _ hh;omega) E2q (by omega) (λid hh=>by have:=low1 id hh;omega) fR (by omega) fB (by omega) (D6s q6 (Ne.symm k1)) (D6s (B9i r8' (Ne.symm n1)) (Ne.symm k2)) (D6s (B9i r11 (Ne.symm n2)) (Ne.symm k3)) (D6s (B9i r12 (Ne.symm n3)) (Ne.symm k4)) (D6s (B9i rb (Ne.symm n4)) (Ne.symm k5)) (D6s (B9i rs (Ne.symm n5)) (Ne.symm k6)) q6k (by have:=G5.len;omega) (by omega) (by omega) (by omega) (by omega) (by omega) (by omega) (by omega) KR2;rw [lkl] at f1;refine ⟨cs',kl',kid',Q',H',M',?_,f2⟩;have ef:D9 [Cell.s []] [(0,1,.c (.s S[i]))]=some [.s S[i]]:=rfl;rw [tA,A1Q];simp only [esc,Nat.reduceAdd,c0,lX,adS,aS H rs,aS K5 (B9i rs (Ne.symm n5)),hAt,b1,hRd,s2,l6,l8,le,t1',s4,l4,s5,ef,op,A4k,w1];exact f1
end
end
section
section
variable {D:Dev} {n m:Int} {g:A6} {v:Val} {Q:Nat->Prop} {H:A6} {c:Cl} {cs:List Cell}
theorem IsRC.lost (k:IsRC n Q H cs c) (a:Int):IsRC n Q H (cs.set 5 (.i .i64 a)) { c with lost:=a }:=by
 obtain ⟨xr,xi,xt,xb,xm,xl,xy,ys,rfl,k⟩:=k;exact ⟨xr,xi,xt,xb,xm,xl,xy,ys,rfl,⟨k.row,k.ino,k.tak,k.blk,k.mad,k.mds,k.tol,k.par,k.pr,k.pi,k.pt,k.pb,k.pm,k.pl,k.py⟩⟩
theorem IsRC.atLost (k:IsRC n Q H cs c):cs[5]?=some (.i .i64 c.lost):=by
 obtain ⟨xr,xi,xt,xb,xm,xl,xy,ys,rfl,k⟩:=k;rfl
theorem D5L {X:List Int} {K:List UInt8->Option Int} {kl:U7} (KR:KeptR D X K kl) {no:Int} {k:Nat} {s:List UInt8} {i:Int} (hi:1<=i):A2b D X no K (k,(s,i))=(atH D X (no,(k,(s,i)))&&decide (s∈kl)):=by
 unfold A2b;cases ha:atH D X (no,(k,(s,i))) with
 | false=>rfl
 | true =>
  rw [E31,E31];have h1:hmS D X s=some (k,(s,i)):=by
   unfold atH at ha;simp only [E3R,decide_eq_true_eq] at ha;exact ha.2
  have h2:A9X D X s=i:=by unfold A9X;rw [h1];rfl
  show decide ((K s).getD 0=i)=decide (s∈kl);cases hK:K s with
  | none =>
   have:s ∉ kl:=λhm=>by have:=(KR.mem s).1 hm;rw [hK] at this;cases this
   rw [decide_eq_false this];simp;omega
  | some a =>
   have hm:s∈kl:=(KR.mem s).2 (by rw [hK];rfl);have ea:=KR.val s a hK;rw [h2] at ea;rw [decide_eq_true hm];simp [ea]
theorem D7I {s:List UInt8} {i:Int} (h:A09 s i=true):1<=i:=by
 unfold A09 at h;simp only [E3R,decide_eq_true_eq] at h;omega
theorem E2o {lo:Nat} {P:Nat->Prop} {h:A6} {d:Int} {t L:List Int} {x6 x11 bid kid q M0 i:Nat} {x12:Val} {kl:U7} {KK:List UInt8->Option Int} (hv:Has h v 256 D.length (D4 D)) (hD:okD D) (ht:t.length=32) (h5:d<=5) (hi:i<L.length) (bH:L[i]≠0)
  (e6:h.length<=x6) (n2:x6≠x11) (n4:x6≠bid) (n5:x6≠kid) (KR:KeptR D (d::t) KK kl) (hkl:kl.length<=300) :
  ∀ (e k M:Nat) (s:Cl × List UInt8) (cs:List Cell) (y:Cell) (H:A6),k+e=7->e<M->Grows h H->IsRC n Q H cs s.1->¬ Q x6->lo<=H.length->(∀ id,nmC y=some id->lo<=id/\id≠x6/\id≠x11/\id≠bid/\id≠kid)->y.isX=false->Has H (.c y) 1 256 (A5 s.2)->s.2.length=256->0<=s.1.lost/\s.1.lost+e<=900000 ->
   rd H x6=rT cs->rd H x11=rT (encI (d::t))->rd H bid=rT (encI L)->rd H kid=rT (encS kl) ->
  ∃ cs' y' H' M',A3n q M0 M v (pV x6 0) (pV x11 0) x12 (sV bid 0 L.length 1) (sV kid 0 kl.length 1) (iV (i:Int)) (.c y) (iV (k:Int)) H =
    A3n q M0 (M'+1) v (pV x6 0) (pV x11 0) x12 (sV bid 0 L.length 1) (sV kid 0 kl.length 1) (iV (i:Int)) (.c y') (iV 7) H' /\
   Grows h H'/\H.length<=H'.length/\IsRC n Q H' cs' (T4 D (d::t) L[i] KK s (L7 (blk D L[i]) e k)).1/\(∀ id,nmC y'=some id->lo<=id/\id≠x6/\id≠x11/\id≠bid/\id≠kid)/\y'.isX=false/\Has H' (.c y') 1 256 (A5 (T4 D (d::t) L[i] KK s (L7 (blk D L[i]) e k)).2) /\
   rd H' x6=rT cs'/\(∀ j,j<H.length->j≠x6->rd H' j=rd H j):=by
 intro e
 induction e with
 | zero =>
  intro k M s cs y H hk hM G K nq hlow hy hyx hY lO hlo r6 r11 rb rk;obtain ⟨M,rfl⟩:∃ M',M=M'+1:=⟨M-1,by omega⟩;have ek:k=7:=by omega
  subst ek;exact ⟨cs,y,H,M,rfl,G,E3T _,K,hy,hyx,hY,r6,λ_ _ _=>rfl⟩
 | succ e ih =>
  intro k M s cs y H hk hM G K nq hlow hy hyx hY lO hlo r6 r11 rb rk;obtain ⟨M,rfl⟩:∃ M',M=M'+1:=⟨M-1,by omega⟩;have k7:k<7:=by omega
  have c0:(k:Int)<7:=by omega
  have w1:=C6 (show k+1<9223372036854775808 by omega);have hvH:=hv.grows G;have aL:D6 1 (sV bid 0 L.length 1) (iV (i:Int))=some (pV bid i):=by rw [C5 hi];simp
  have lL:∀ K:A6,rd K bid=rT (encI L)->B4 K (pV bid i)=some (iV L[i]):=λK hK=>B5 hK (by rw [F0,E3P hi];rfl) rfl
  obtain ⟨u,t1,b1,b2,b3,_⟩:=zQ (no:=L[i]) hvH hD;obtain ⟨K1,hK1⟩:∃ K1,K1=H++t1:=⟨_,rfl⟩;rw [<-hK1] at b1 b3;have GK1:Grows H K1:=by rw [hK1];exact R0 Grows.rfl' b2
  have hRd:=uS (k:=k) b3 (O0 hD) k7;have el2:(U9 (Q9 (blk D L[i]) k)).length=2:=by cases Q9 (blk D L[i]) k<;>rfl
  obtain ⟨K2,hK2⟩:∃ K2,K2=K1++[rT (U9 (Q9 (blk D L[i]) k))]:=⟨_,rfl⟩;have s2:E1 (K1++[rT [Cell.s [],o0]]) 2 (pV K1.length 0) (.a (U9 (Q9 (blk D L[i]) k)))=some K2:=by
   rw [storeAll (n:=2) (cs:=[Cell.s [],o0]) (by rw [F8];rfl) rfl el2,cH,hK2];rfl
  have G2:Grows H K2:=by rw [hK2];exact GK1.new _
  have E2L:=G2.len;have same2:∀ j,j<H.length->rd K2 j=rd H j:=λj hj=>by
   obtain ⟨tt,hh⟩:=G2.1;rw [<-hh,D1 hj]
  cases yV:Q9 (blk D L[i]) k with
  | none =>
   rw [yV] at hRd s2;rw [uQ yV];obtain ⟨cs',y',H',M',f1,f2,f3,f4,f5,f6,f7,f8,f9⟩:=ih (k+1) M s cs y K2 (by omega) (by omega) (G.trans' G2) (K.grows G2) nq (by omega) hy hyx (hY.grows G2) lO ⟨hlo.1,by omega⟩ (G2.rd r6) (G2.rd r11) (G2.rd rb) (G2.rd rk);refine ⟨cs',y',H',M',?_,f2,by omega,f4,f5,f6,f7,f8,λj hj U1=>by rw [f9 j (by omega) U1,same2 j hj]⟩;rw [lJ];simp only [esc,Nat.reduceAdd,Bool.not_false,c0,aL,lL H rb,b1,hRd,E4d,s2,aP,w1];exact f1
  | some x =>
   obtain ⟨nm,ii⟩:=x;rw [yV] at hRd s2;have hnl:nm.length<=24:=zR (x:=(nm,ii)) yV;have E12:A09 nm ii=true:=C9k (x:=(nm,ii)) yV;have B4d:=D7I E12;rw [uR yV];have ec:∀ T,T4 D (d::t) L[i] KK s ((k,(nm,ii))::T)=T4 D (d::t) L[i] KK (eY D (d::t) L[i] KK s (k,(nm,ii))) T:=λT=>rfl
   rw [ec];have hkE:=D5L KR (no:=L[i]) (k:=k) (s:=nm) B4d;have B84:=D6P (X:=d::t) bH yV;have lX:C8 K2 33 (pV x11 0)=some (.a (encI (d::t))):=B8 (G2.rd r11) (by rw [A8];simp [ht]);have rE:rd K2 K1.length=rT [.s nm,.i .i64 ii]:=by rw [hK2,F8,yV];rfl
   have lnm:B4 K2 (pV K1.length 0)=some (.c (.s nm)):=B5 rE rfl rfl;have lE:C8 K2 2 (pV K1.length 0)=some (.a [.s nm,.i .i64 ii]):=B8 rE rfl;have hAt:=D3V (h:=K2) (d:=d) (t:=t) (nm:=nm) (hvH.grows G2) hD ht h5 (by omega);have lL2:=lL K2 (G2.rd rb);have hIn:=E1m (s:=nm) (h:=K2) (x:=sV kid 0 kl.length 1) (nv:=kl.length) (l:=kl) (Has.row (G2.rd rk) (by rw [L6];omega) (B6K _)) (by omega);cases hke:A2b D (d::t) L[i] KK (k,(nm,ii)) with
   | true =>
    rw [hke] at hkE;have hkE:=hkE.symm;rw [E3R,decide_eq_true_eq] at hkE;obtain ⟨ha,hm⟩:=hkE;rw [ha] at B84;simp only [E3R,decide_eq_true_eq] at B84;obtain ⟨⟨g1,g2⟩,g3⟩:=B84;rw [decide_eq_true hm] at hIn;have es:eY D (d::t) L[i] KK s (k,(nm,ii))=(s.1,I6 s.2 (J1 k) (W7 nm ii)):=by unfold eY;rw [hke];rfl
    rw [es];have hB:=B0q (h:=K2) E12;obtain ⟨K3,hK3⟩:∃ K3,K3=K2++[rT (A5 (W7 nm ii))]:=⟨_,rfl⟩;rw [<-hK3] at hB;have lK3:K3.length=K2.length+1:=by rw [hK3];simp
    have G3:Grows H K3:=by rw [hK3];exact G2.new _
    have hEl:=W8 (s:=nm) (n:=ii);have hL:=qO (v:=.c y) (u:=sV K2.length 0 32 1) (nv:=256) (nu:=32) (l:=s.2) (data:=W7 nm ii) (h:=K3) (hY.grows G3) (by rw [hK3];exact Has.row (rw:=true) (by rw [F8];rfl) (by rw [A4,hEl]) (F6 _)) (a:=((32+32*k:Nat):Int)) (by omega) (by omega);have eL:A7x s.2 ((32+32*k:Nat):Int) (W7 nm ii)=I6 s.2 (J1 k) (W7 nm ii):=by rw [A4s (by rw [hEl];omega)];rfl
    rw [eL,lO] at hL;obtain ⟨K4,hK4⟩:∃ K4,K4=K3++[rT (A5 (I6 s.2 (J1 k) (W7 nm ii)))]:=⟨_,rfl⟩;rw [<-hK4] at hL;have G4:Grows H K4:=by rw [hK4];exact G3.new _
    have lK4:K4.length=K3.length+1:=by rw [hK4];simp
    have same4:∀ j,j<H.length->rd K4 j=rd H j:=λj hj=>by
     obtain ⟨tt,hh⟩:=G4.1;rw [<-hh,D1 hj]
    have nl:(I6 s.2 (J1 k) (W7 nm ii)).length=256:=by rw [O8 (by rw [hEl,lO];unfold J1;omega)];exact lO
    have b6:=C4 r6;have b11:=C4 r11;have bb:=C4 rb;have bk:=C4 rk;obtain ⟨cs',y',H',M',f1,f2,f3,f4,f5,f6,f7,f8,f9⟩:=ih (k+1) M (s.1,I6 s.2 (J1 k) (W7 nm ii)) cs (.sl K3.length 0 256 1) K4 (by omega) (by omega) (G.trans' G4) (K.grows G4) nq (by omega) (λid hid=>by cases hid;exact ⟨by omega,by omega,by omega,by omega,by omega⟩) rfl (by rw [hK4];exact Has.row (rw:=true) (by rw [F8];rfl) (by rw [A4,nl]) (F6 _)) nl ⟨hlo.1,by have:=hlo.2;dsimp only;omega⟩ (G4.rd r6) (G4.rd r11) (G4.rd rb) (G4.rd rk);refine ⟨cs',y',H',M',?_,f2,by omega,f4,f5,f6,f7,f8,λj hj U1=>by rw [f9 j (by omega) U1,same4 j hj]⟩;have wm:IntKind.wrap .i64 (32*(k:Int))=32*(k:Int):=wrap_i64 (by omega) (by omega);have wa:IntKind.wrap .i64 (32+32*(k:Int))=((32+32*k:Nat):Int):=by rw [wrap_i64 (by omega) (by omega)];omega
    rw [lJ];generalize encI (d::t)=X at *;generalize P8 (d::t) nm=hb at *;generalize B3Y D (d::t) nm=sl at *;generalize (hmS D (d::t) nm).isSome=hm2 at *;subst g1;simp only [esc,Nat.reduceAdd,Bool.not_true,c0,aL,lL H rb,b1,hRd,E33,s2,lX,lnm,hAt,lL2,g2,g3,hIn,wm,wa,lE,hB,hL,aP,w1,eq_self];exact f1
   | false =>
    have es:eY D (d::t) L[i] KK s (k,(nm,ii))=({ s.1 with lost:=s.1.lost+1 },s.2):=by unfold eY;rw [hke];rfl
    rw [es];rw [hke] at hkE;have wl:IntKind.wrap .i64 (s.1.lost+1)=s.1.lost+1:=wrap_i64 (by omega) (by omega);have q6:=G2.rd r6;have c8:=K.length;have l5:B4 K2 (pV x6 5)=some (iV s.1.lost):=B5 q6 K.atLost rfl;obtain ⟨K3,hK3⟩:∃ K3,K3=K2.set x6 (rT (cs.set 5 (.i .i64 (s.1.lost+1)))):=⟨_,rfl⟩;have s5:F9 K2 (pV x6 5) (iV (s.1.lost+1))=some K3:=by rw [E9 q6 (by omega),hK3]
    have lK3:K3.length=K2.length:=by rw [hK3];simp
    have o3:∀ j,j≠x6->rd K3 j=rd K2 j:=λj hj=>by rw [hK3,A7 (Ne.symm hj)]
    have b6:=C4 r6;have hY3:Has K3 (.c y) 1 256 (A5 s.2):=by rw [hK3];exact has_set (hY.grows G2) (.inr λhh=>(hy _ hh).2.1 rfl)
    obtain ⟨cs',y',H',M',f1,f2,f3,f4,f5,f6,f7,f8,f9⟩:=ih (k+1) M ({ s.1 with lost:=s.1.lost+1 },s.2) (cs.set 5 (.i .i64 (s.1.lost+1))) y K3 (by omega) (by omega) (by rw [hK3];exact (G.trans' G2).set e6 _) (by rw [hK3];exact ((K.grows G2).set (.inr nq)).lost _) nq (by omega) hy hyx hY3 lO ⟨by have:=hlo.1;dsimp only;omega,by have:=hlo.2;dsimp only;omega⟩ (by rw [hK3];exact B6 (by omega)) (by rw [o3 _ (Ne.symm n2)];exact G2.rd r11) (by rw [o3 _ (Ne.symm n4)];exact G2.rd rb) (by rw [o3 _ (Ne.symm n5)];exact G2.rd rk);refine ⟨cs',y',H',M',?_,f2,by omega,f4,f5,f6,f7,f8,λj hj U1=>by rw [f9 j (by omega) U1,o3 j U1,same2 j hj]⟩;rw [lJ];generalize encI (d::t)=X at *;generalize P8 (d::t) nm=hb at *;generalize B3Y D (d::t) nm=sl at *;generalize (hmS D (d::t) nm).isSome=hm2 at *;cases hm2 with
    | false =>
     simp only [esc,Nat.reduceAdd,Bool.not_true,c0,aL,lL H rb,b1,hRd,E33,s2,lX,lnm,hAt,l5,wl,s5,aP,w1];exact f1
    | true =>
     by_cases c1:hb=L[i]
     ·by_cases c2:sl=(k:Int)
      ·have hm3:decide (nm∈kl)=false:=by
        have hat:atH D (d::t) (L[i],(k,(nm,ii)))=true:=by rw [<-B84];simp [c1,c2]
        rw [hat,E31] at hkE;exact hkE.symm
       rw [hm3] at hIn;simp only [esc,Nat.reduceAdd,Bool.not_true,c0,aL,lL H rb,b1,hRd,E33,s2,lX,lnm,hAt,lL2,c1,c2,hIn,l5,wl,s5,aP,w1,eq_self];exact f1
      ·simp only [esc,Nat.reduceAdd,Bool.not_true,c0,aL,lL H rb,b1,hRd,E33,s2,lX,lnm,hAt,lL2,c1,c2,l5,wl,s5,aP,w1,eq_self];exact f1
     ·simp only [esc,Nat.reduceAdd,Bool.not_true,c0,aL,lL H rb,b1,hRd,E33,s2,lX,lnm,hAt,lL2,c1,l5,wl,s5,aP,w1];exact f1
end
end
def iR (o:U7) (x:List UInt8):Bool:=match o.getLast? with | none=>true | some y=>J8 y x
def gD (o:U7) (a:Option (List UInt8)) (x:List UInt8):Option (List UInt8) :=
 bif iR o x then (match a with | none=>some x | some y=>bif J8 x y then some x else some y) else a
def A3v (o:U7) (l:U7) (a:Option (List UInt8)):Option (List UInt8):=l.foldl (gD o) a
theorem B2C {v:Val} {nv q m id:Nat} {l o:U7} {h:A6} (hv:Has h v 1 nv (encS l)) (hn:l.length=nv) (h62:nv<1073741824) (hb:∀ x∈l,x.length<9223372036854775807) (hr:rd h id=rT (encS o)) (hol:o.length<9223372036854775808) (hob:∀ x∈o,x.length<9223372036854775807) :
  ∀ (e i m2:Nat) (a:Option (List UInt8)),i+e=nv->e<m2 ->
  B6i q m m2 v (sV id 0 o.length 1) (bV a.isSome) (.c (.s (a.getD []))) (iV i) h =
   match A3v o (l.drop i) a with
   | none=>some (sV id 0 o.length 1,h)
   | some y=>bnd (iY (h++[rT [.s y]]) 1 (sV id 0 o.length 1) (sV h.length 0 1 1)) λp=>A51 q m v p.1 p.2
 | e,i,0,a,_,hm=>by omega
 | 0,i,m2+1,a,hi,hm=>by
  have e0:i=nv:=by omega
  subst e0;have c0:¬ (i:Int)<i:=by omega
  rw [A6V,E32 (by omega)];unfold A3v;rw [List.foldl_nil];cases a with
  | none=>simp only [esc,hv.len,c0,E4d]
  | some y =>
   have ef:D9 [Cell.s []] [(0,1,.c (.s y))]=some [.s y]:=rfl;simp only [esc,hv.len,c0,E33,E4w,ef]
 | e+1,i,m2+1,a,hi,hm=>by
  have ih:=λa=>B2C (q:=q) (m:=m) hv hn h62 hb hr hol hob e (i+1) m2 a (by omega) (by omega)
  have c0:(i:Int)<nv:=by omega
  have hlen:=hv.len;obtain ⟨jd,off,ev,hjd,k1,k2⟩:=hv.sl (by omega);have hx:=k1 i (.s l[i]) (by rw [A4b,E3P (by omega)];rfl);have eb:D6 1 v (iV (i:Int))=some (pV jd (off+i)):=by rw [ev,C5 (by omega)];simp
  have w1:=C6 (show i+1<9223372036854775808 by omega);have hxb:=hb l[i] (E4u (by omega));have ed:A3v o (l.drop i) a=A3v o (l.drop (i+1)) (gD o a l[i]):=by
   unfold A3v;rw [E3V (by omega:i<l.length),List.foldl_cons]
  rw [ed,A6V];generalize l[i]=s at *;rcases Nat.eq_zero_or_pos o.length with h0 | h0
  ·have eo:o=[]:=List.eq_nil_of_length_eq_zero h0;subst eo;have ea:iR [] s=true:=rfl;have c1:¬ (0:Int)<((0:Nat):Int):=by omega
   cases a with
   | none =>
    have es:gD [] none s=some s:=rfl;have ih:=ih (some s);rw [es];simp only [E33,E4w,E4d,E4F] at ih ⊢;simp only [esc,hlen,c0,c1,eb,hx,Y7,w1] at ih ⊢;exact ih
   | some y =>
    have hL:=λh=>B4p (s:=s) (t:=y) hxb h
    cases cb:J8 s y with
    | true =>
     have es:gD [] (some y) s=some s:=by unfold gD;rw [ea,cond_true];simp only;rw [cb,cond_true]
     have ih:=ih (some s);rw [cb] at hL;rw [es];simp only [E33,E4w] at ih ⊢;simp only [esc,hlen,c0,c1,eb,hx,hL,Y7,w1] at ih ⊢;exact ih
    | false =>
     have es:gD [] (some y) s=some y:=by unfold gD;rw [ea,cond_true];simp only;rw [cb,cond_false]
     have ih:=ih (some y);rw [cb] at hL;rw [es];simp only [E33,E4w] at ih ⊢;simp only [esc,hlen,c0,c1,eb,hx,hL,Y7,w1] at ih ⊢;exact ih
  ·have c1:(0:Int)<(o.length:Nat):=by omega
   have w2:IntKind.wrap .i64 ((o.length:Int)-1)=((o.length-1:Nat):Int):=by rw [wrap_i64 (by omega) (by omega)];omega
   have eg:o.getLast?=some o[o.length-1]:=by rw [List.getLast?_eq_getElem?,E3P (by omega)]
   have ea2:D6 1 (sV id 0 o.length 1) (iV ((o.length-1:Nat):Int))=some (pV id (o.length-1)):=by rw [C5 (by omega)];simp
   have hy:B4 h (pV id (o.length-1))=some (.c (.s o[o.length-1])):=B5 hr (by rw [A4b,E3P (by omega)];rfl) rfl;have hL:=λh=>B4p (s:=o[o.length-1]) (t:=s) (hob _ (E4u (by omega))) h
   have eab:iR o s=J8 o[o.length-1] s:=by unfold iR;rw [eg]
   generalize o[o.length-1]=z at *;generalize o.length-1=k at *;cases ca:J8 z s with
   | false =>
    rw [ca] at hL eab;have es:gD o a s=a:=by unfold gD;rw [eab,cond_false]
    rw [es];have ih:=ih a;simp only [esc,hlen,c0,c1,w2,ea2,hy,eb,hx,hL,Y7,w1] at ih ⊢;exact ih
   | true =>
    rw [ca] at hL eab;cases a with
    | none =>
     have es:gD o none s=some s:=by unfold gD;rw [eab,cond_true]
     have ih:=ih (some s);rw [es];simp only [E33,E4w,E4d,E4F] at ih ⊢;simp only [esc,hlen,c0,c1,w2,ea2,hy,eb,hx,hL,Y7,w1] at ih ⊢;exact ih
    | some y =>
     have hL2:=λh=>B4p (s:=s) (t:=y) hxb h
     cases cb:J8 s y with
     | true =>
      have es:gD o (some y) s=some s:=by unfold gD;rw [eab,cond_true];simp only;rw [cb,cond_true]
      have ih:=ih (some s);rw [cb] at hL2;rw [es];simp only [E33,E4w] at ih ⊢;simp only [esc,hlen,c0,c1,w2,ea2,hy,eb,hx,hL,hL2,Y7,w1] at ih ⊢;exact ih
     | false =>
      have es:gD o (some y) s=some y:=by unfold gD;rw [eab,cond_true];simp only;rw [cb,cond_false]
      have ih:=ih (some y);rw [cb] at hL2;rw [es];simp only [E33,E4w] at ih ⊢;simp only [esc,hlen,c0,c1,w2,ea2,hy,eb,hx,hL,hL2,Y7,w1] at ih ⊢;exact ih
theorem A2d (o:U7):∀ (l:U7) (y:List UInt8),∃ z,A3v o l (some y)=some z/\(z=y\/(z∈l/\iR o z=true/\J8 z y=true))/\∀ x∈l,iR o x=true->J8 x z=false
 | [],y=>⟨y,rfl,.inl rfl,by simp⟩
 | x::l,y=>by
  unfold A3v;rw [List.foldl_cons];cases ca:iR o x with
  | false =>
   have es:gD o (some y) x=some y:=by unfold gD;rw [ca,cond_false]
   obtain ⟨z,h1,h2,h3⟩:=A2d o l y;rw [es];refine ⟨z,h1,?_,λw hw haw=>?_⟩
   ·rcases h2 with h2 | ⟨h2,h4⟩
    ·exact .inl h2
    ·exact .inr ⟨E4a _ h2,h4⟩
   ·rcases List.mem_cons.1 hw with e | hw
    ·subst e;rw [ca] at haw;cases haw
    ·exact h3 w hw haw
  | true =>
   cases cb:J8 x y with
   | true =>
    have es:gD o (some y) x=some x:=by unfold gD;rw [ca,cond_true];simp only;rw [cb,cond_true]
    obtain ⟨z,h1,h2,h3⟩:=A2d o l x;rw [es];refine ⟨z,h1,.inr ?_,λw hw haw=>?_⟩
    ·rcases h2 with h2 | ⟨h2,h4,h5⟩
     ·subst h2;exact ⟨E4c ..,ca,cb⟩
     ·exact ⟨E4a _ h2,h4,jN h5 cb⟩
    ·rcases List.mem_cons.1 hw with e | hw
     ·subst e;rcases h2 with h2 | ⟨_,_,h5⟩
      ·subst h2;exact oE _
      ·cases c:J8 w z with
       | false=>rfl
       | true=>have:=jN c h5;rw [oE] at this;cases this
     ·exact h3 w hw haw
   | false =>
    have es:gD o (some y) x=some y:=by unfold gD;rw [ca,cond_true];simp only;rw [cb,cond_false]
    obtain ⟨z,h1,h2,h3⟩:=A2d o l y;rw [es];refine ⟨z,h1,?_,λw hw haw=>?_⟩
    ·rcases h2 with h2 | ⟨h2,h4⟩
     ·exact .inl h2
     ·exact .inr ⟨E4a _ h2,h4⟩
    ·rcases List.mem_cons.1 hw with e | hw
     ·subst e;rcases h2 with h2 | ⟨_,_,h5⟩
      ·subst h2;exact cb
      ·cases c:J8 w z with
       | false=>rfl
       | true=>have:=jN c h5;rw [cb] at this;cases this
     ·exact h3 w hw haw
theorem C0W (o:U7):∀ l:U7,(A3v o l none=none/\∀ x∈l,iR o x=false)\/∃ z,A3v o l none=some z/\z∈l/\iR o z=true/\∀ x∈l,iR o x=true->J8 x z=false
 | []=>.inl ⟨rfl,by simp⟩
 | x::l=>by
  unfold A3v;rw [List.foldl_cons];cases ca:iR o x with
  | false =>
   have es:gD o none x=none:=by unfold gD;rw [ca,cond_false]
   rw [es];rcases C0W o l with ⟨h1,h2⟩ | ⟨z,h1,h2,h3,h4⟩
   ·exact .inl ⟨h1,λw hw=>by rcases List.mem_cons.1 hw with e | hw;subst e;exact ca;exact h2 w hw⟩
   ·exact .inr ⟨z,h1,E4a _ h2,h3,λw hw haw=>by
     rcases List.mem_cons.1 hw with e | hw
     ·subst e;rw [ca] at haw;cases haw
     ·exact h4 w hw haw⟩
  | true =>
   have es:gD o none x=some x:=by unfold gD;rw [ca,cond_true]
   rw [es];obtain ⟨z,h1,h2,h3⟩:=A2d o l x;refine .inr ⟨z,h1,?_⟩;rcases h2 with h2 | ⟨h2,h4,h5⟩
   ·subst h2;exact ⟨E4c ..,ca,λw hw haw=>by
     rcases List.mem_cons.1 hw with e | hw
     ·subst e;exact oE _
     ·exact h3 w hw haw⟩
   ·exact ⟨E4a _ h2,h4,λw hw haw=>by
     rcases List.mem_cons.1 hw with e | hw
     ·subst e;cases c:J8 w z with
      | false=>rfl
      | true=>have:=jN c h5;rw [oE] at this;cases this
     ·exact h3 w hw haw⟩
def Part (l o:U7):Prop:=Up o/\(∀ x∈o,x∈l)/\∀ x∈l,iR o x=false->x∈o
theorem B3R {o:U7} {z x:List UInt8}:iR (o++[z]) x=J8 z x:=by unfold iR;simp
theorem D9Q {o:U7} {z x:List UInt8} (ho:Up o) (ha:iR o z=true) (hx:x∈o):J8 x z=true:=by
 unfold iR at ha;cases hg:o.getLast? with
 | none=>rw [List.getLast?_eq_none_iff] at hg;subst hg;cases hx
 | some y =>
  rw [hg] at ha;obtain ⟨ini,rfl⟩:=List.getLast?_eq_some_iff.1 hg;rcases List.mem_append.1 hx with h | h
  ·have:=(List.pairwise_append.1 ho).2.2 x h y (by simp);exact jN this ha
  ·simp at h;subst h;exact ha
theorem D53 {l o:U7} {z:List UInt8} (hp:Part l o) (hz:z∈l) (ha:iR o z=true) (hm:∀ x∈l,iR o x=true->J8 x z=false):Part l (o++[z]):=by
 obtain ⟨h1,h2,h3⟩:=hp;refine ⟨?_,?_,?_⟩
 ·show List.Pairwise _ _;rw [List.pairwise_append];exact ⟨h1,by simp,λx hx y hy=>by simp at hy;subst hy;exact D9Q h1 ha hx⟩
 ·intro x hx;rcases List.mem_append.1 hx with h | h
  ·exact h2 x h
  ·simp at h;subst h;exact hz
 ·intro x hx hab;rw [B3R] at hab;cases c:iR o x with
  | false=>exact List.mem_append_left _ (h3 x hx c)
  | true =>
   have k:=hm x hx c;rcases B8R x z with h | h | h
   ·rw [h] at k;cases k
   ·subst h;simp
   ·rw [h] at hab;cases hab
def C84 (l o:U7):Nat:=(l.filter (iR o)).length
theorem filter_lt {α:Type} {p r:α -> Bool}:∀ {l:List α} {z:α},(∀ x∈l,p x=true->r x=true)->z∈l->p z=false->r z=true->(l.filter p).length<(l.filter r).length
 | [],z,_,hz,_,_=>by cases hz
 | x::l,z,h,hz,hp,hr=>by
  have bJ:∀ {l:List α},(∀ x∈l,p x=true->r x=true)->(l.filter p).length<=(l.filter r).length:=by
   intro l
   induction l with
   | nil=>intro _;simp
   | cons y l ih =>
    intro h;have h1:=ih λx hx=>h x (E4a _ hx)
    have h2:=h y (E4c ..);simp only [List.filter_cons];cases hy:p y with
    | true=>rw [h2 hy];simpa using h1
    | false=>cases r y<;>simp<;>omega
  have h1:=h x (E4c ..);have h':∀ y∈l,p y=true->r y=true:=λy hy=>h y (E4a _ hy)
  rcases List.mem_cons.1 hz with e | hz
  ·subst e;have:=bJ h';simp only [List.filter_cons,hp,hr,if_true,E3Z];simp;omega
  ·have ih:=filter_lt h' hz hp hr;simp only [List.filter_cons];cases hx:p x with
   | true=>rw [h1 hx];simpa using ih
   | false=>cases r x<;>simp<;>omega
theorem D3z {l o:U7} {z:List UInt8} (hz:z∈l) (ha:iR o z=true):C84 l (o++[z])<C84 l o:=by
 refine filter_lt (z:=z) (λx hx h=>?_) hz (by rw [B3R,oE]) ha;rw [B3R] at h;unfold iR at ha ⊢;cases hg:o.getLast? with
 | none=>rfl
 | some y=>rw [hg] at ha;exact jN ha h
theorem B2D {v:Val} {nv q:Nat} {l:U7} {g:A6} (hq:nv<q) (hv:Has g v 1 nv (encS l)) (hn:l.length=nv) (h62:nv<1073741824) (hb:∀ x∈l,x.length<9223372036854775807) :
  ∀ (f m:Nat) (o:U7) (h:A6) (id:Nat),C84 l o<=f->f<m->o.length+C84 l o<=nv->Part l o->Low g.length g h->g.length<=id->rd h id=rT (encS o) ->
  ∃ v2 h2,A51 q m v (.c (.sl id 0 o.length 1)) h=some (v2,h2)/\Out g.length h2 v2 1 (fC l).length (encS (fC l))
 | f,0,o,h,id,_,hm,_,_,_,_,_=>by omega
 | f,m+1,o,h,id,hf,hm,hol,hp,hlow,hid,hr=>by
  have e1:=B2C (q:=q) (m:=m) (hv.since hlow) hn h62 hb hr (by omega) (λx hx=>hb x (hp.2.1 x hx)) nv 0 q none (by omega) hq;rw [E39] at e1;rw [C2d];simp only [E4d,E4F] at e1;rw [show (((0:Nat):Int))=0 from rfl] at e1;rcases C0W o l with ⟨k1,k2⟩ | ⟨z,k1,k2,k3,k4⟩
  ·rw [k1] at e1;have eo:o=fC l:=E1z hp.1 (D8v l) λx=>by
    rw [B00];exact ⟨hp.2.1 x,λhx=>hp.2.2 x hx (k2 x hx)⟩
   rw [<-eo];exact ⟨_,_,e1,by rw [L6];omega,_,rfl,hid,hr⟩
  ·rw [k1] at e1;have V7:=D3z k2 k3 (o:=o);obtain ⟨h1,a1,a2,a3,a4,a5⟩:=push (ys:=[.s z]) (sz:=1) (n:=o.length) hlow hr (by rw [L6];omega) hid rfl (by omega) (by omega);have he:encS o++[.s z]=encS (o++[z]):=by simp [encS]
   rw [he] at a2;have el:(o++[z]).length=o.length+1:=by simp
   obtain ⟨v2,h2,f1,f2⟩:=B2D hq hv hn h62 hb (f-1) m (o++[z]) h1 (h.length+1) (by omega) (by omega) (by omega) (D53 hp k2 k3 k4) a3 a4 a2;rw [el] at f1;refine ⟨v2,h2,?_,f2⟩;rw [e1];simp only [a1,Q4];exact f1
theorem C7T {v:Val} {nv:Nat} {l:U7} {h:A6} (hv:Has h v 1 nv (encS l)) (h62:nv<1073741824) (hb:∀ x∈l,x.length<9223372036854775807) :
  A8u [v] h=some (sV h.length 0 (fC l).length 1,h++[rT (encS (fC l))]):=by
 have hn:l.length=nv:=by simpa [L6] using hv.length
 have key:∀ N,nv<N->∀ g,Has g v 1 nv (encS l)->∃ v2 g',A7O N [v] g=some (v2,g')/\Out g.length g' v2 1 (fC l).length (encS (fC l)):=by
  intro N hN g hv;have hf:C84 l []=nv:=by
   unfold C84;have e:l.filter (iR [])=l:=List.filter_eq_self.2 λx _=>rfl
   rw [e,hn]
  obtain ⟨v2,g',f1,f2⟩:=B2D (q:=N) hN hv hn h62 hb nv N [] ((g++[rT []])++[rT []]) (g.length+1) (by omega) hN (by simp;omega)
   ⟨List.Pairwise.nil,by simp,λx _ h=>by cases h⟩ (((Low.refl (E3T _)).new _).new _) (by omega) (by simp [encS])
  rw [C27];refine ⟨v2,g',?_,f2⟩;simpa using f1
 obtain ⟨v2,g',e,ho⟩:=key (nv+1) (by omega) (ro h) hv.ro;exact C1J e (by simpa [E7] using ho) (by simp)
section
theorem D7L:aQ []=hdB:=by decide +kernel
theorem D7p {h:A6}:A1F [] h=some (sV h.length 0 256 1,h++[rT (A5 (aQ []))]):=by rw [D7L];exact C7V
section
variable {D:Dev} {n m:Int} {v:Val}
theorem D4O {lo:Nat} {P:Nat->Prop} {h H:A6} {Q:Nat->Prop} {c:Cl} {cs:List Cell} {y:Cell} {b:List UInt8} {no:Int} {x6:Nat} (G:Grows h H) (e6:h.length<=x6) (K:IsRC n Q H cs c) (nq:¬ Q x6) (toP:∀ id,Q id->P id\/lo<=id) (hlo:lo<=H.length) (r6:rd H x6=rT cs) (hY:Has H (.c y) 1 256 (A5 b)) (hy:∀ id,nmC y=some id->lo<=id/\id≠x6) (hyx:y.isX=false) (h1:c.blocks.length<=100000) (h2:c.made.length<=100000) :
  ∃ cs' H1 H2 Q',A1H [.a cs,iV no,.c y] H=some (.a cs',H1)/\E1 H1 8 (pV x6 0) (.a cs')=some H2/\Grows h H2/\H.length<=H2.length/\IsRC n Q' H2 cs' (R3 c no b)/\¬ Q' x6/\(∀ id,Q' id->P id\/lo<=id)/\rd H2 x6=rT cs'/\(∀ j,j<H.length->j≠x6->rd H2 j=rd H j):=by
 have K1:IsRC n (λid=>Q id\/nmC y=some id) H cs c:=K.mono λ_=>.inl
 obtain ⟨cs',H1,m1,m2,m3⟩:=D2I (no:=no) K1 hY (λid hid=>.inr hid) h1 h2 hyx;have q6:=m2.rd r6;have b6:=C4 r6;obtain ⟨H2,hH2⟩:∃ H2,H2=H1.set x6 (rT cs'):=⟨_,rfl⟩;have hgl:=G.len;have hHl:=m2.len;have nq':¬ ((Q x6\/nmC y=some x6)\/H.length<=x6):=by
  intro hh;rcases hh with (hh | hh) | hh
  ·exact nq hh
  ·exact (hy _ hh).2 rfl
  ·omega
 refine ⟨cs',H1,H2,_,m1,by rw [storeAll (n:=8) q6 K.length m3.length,hH2],by rw [hH2];exact (G.trans' m2).set e6 _,by rw [hH2];simp;omega,by rw [hH2];exact m3.set (.inr nq'),nq',λid hid=>?_,by rw [hH2];exact B6 (by omega),λj hj U1=>?_⟩
 ·rcases hid with (hh | hh) | hh
  ·exact toP id hh
  ·exact .inr (hy _ hh).1
  ·exact .inr (by omega)
 ·rw [hH2,A7 (Ne.symm U1)];obtain ⟨tt,hh⟩:=m2.1;rw [<-hh,D1 hj]
theorem E2n {lo:Nat} {P:Nat->Prop} {h:A6} {d:Int} {t L:List Int} {x6 x11 x12 bid kid q:Nat} {kl:U7} {KK:List UInt8->Option Int} {r8:List Cell} (hv:Has h v 256 D.length (D4 D)) (hD:okD D) (ht:t.length=32) (h5:d<=5) (hLl:L.length<=32) (bH:∀ no∈L,no≠0) (hq:8<=q)
  (e6:h.length<=x6) (n2:x6≠x11) (n3:x6≠x12) (n4:x6≠bid) (n5:x6≠kid) (KR:KeptR D (d::t) KK kl) (hkl:kl.length<=300) :
  ∀ (e i M:Nat) (c:Cl) (cs:List Cell) (Q:Nat->Prop) (H:A6),i+e=L.length->e<M->Grows h H->IsRC n Q H cs c->¬ Q x6->(∀ id,Q id->P id\/lo<=id)->lo<=H.length->0<=c.lost/\c.lost+7*e<=900000->c.blocks.length+e<=100000->c.made.length+e<=100000 ->
   rd H x6=rT cs->rd H x11=rT (encI (d::t))->rd H x12=rT r8->rd H bid=rT (encI L)->rd H kid=rT (encS kl) ->
  ∃ cs' Q' H' M',A3m q M v (pV x6 0) (pV x11 0) (pV x12 0) (sV bid 0 L.length 1) (sV kid 0 kl.length 1) (iV (i:Int)) H =
    A3m q (M'+1) v (pV x6 0) (pV x11 0) (pV x12 0) (sV bid 0 L.length 1) (sV kid 0 kl.length 1) (iV (L.length:Nat)) H' /\
   Grows h H'/\IsRC n Q' H' cs' (L9 D (d::t) KK c (L.drop i))/\¬ Q' x6/\(∀ id,Q' id->P id\/lo<=id)/\rd H' x6=rT cs'/\(∀ j,j<H.length->j≠x6->rd H' j=rd H j):=by
 intro e
 induction e with
 | zero =>
  intro i M c cs Q H hi hM G K nq toP hlow hlo hb hmd r6 r11 r12 rb rk;obtain ⟨M,rfl⟩:∃ M',M=M'+1:=⟨M-1,by omega⟩;have ei:i=L.length:=by omega
  subst ei;rw [List.drop_length];exact ⟨cs,Q,H,M,rfl,G,K,nq,toP,r6,λ_ _ _=>rfl⟩
 | succ e ih =>
  intro i M c cs Q H hi hM G K nq toP hlow hlo hb hmd r6 r11 r12 rb rk;obtain ⟨M,rfl⟩:∃ M',M=M'+1:=⟨M-1,by omega⟩;have R6:i<L.length:=by omega
  have c0:(i:Int)<(L.length:Nat):=by omega
  have w1:=C6 (show i+1<9223372036854775808 by omega);have hHd:=D7p (h:=H);obtain ⟨K1,hK1⟩:∃ K1,K1=H++[rT (A5 (aQ []))]:=⟨_,rfl⟩;rw [<-hK1] at hHd;have G1:Grows H K1:=by rw [hK1];exact (Grows.rfl').new _
  have b6:=C4 r6;have b11:=C4 r11;have bb:=C4 rb;have bk:=C4 rk;have hgl:=G.len;have lK1:K1.length=H.length+1:=by rw [hK1];simp
  obtain ⟨cs1,y,H2,M2,f1,f2,f3,f4,f5,f6,f7,f8,f9⟩:=E2o (lo:=lo) (P:=P) (n:=n) (Q:=Q) (M0:=M) (q:=q) (i:=i) (x12:=pV x12 0) (KK:=KK) hv hD ht h5 R6 (bH _ (E4u R6)) e6 n2 n4 n5 KR hkl 7 0 q (c,aQ []) cs (.sl H.length 0 256 1) K1 (by omega) (by omega) (G.trans' G1) (K.grows G1) nq (by omega) (λid hid=>by cases hid;exact ⟨by omega,by omega,by omega,by omega,by omega⟩) rfl (by rw [hK1];exact Has.row (rw:=true) (by rw [F8];rfl) (by rw [A4,oN]) (F6 _)) (oN (l:=[])) ⟨hlo.1,by have:=hlo.2;dsimp only;omega⟩ (G1.rd r6) (G1.rd r11) (G1.rd rb) (G1.rd rk);have eX:L7 (blk D L[i]) 7 0=M7 (blk D L[i]):=rfl;rw [eX] at f4 f7;have hs:=oH (D:=D) (X:=d::t) (no:=L[i]) (K:=KK) (l:=M7 (blk D L[i])) (s:=(c,aQ []));have E10:=A1Z (D:=D) (X:=d::t) (no:=L[i]) (K:=KK) (l:=M7 (blk D L[i])) (s:=(c,aQ []));have h7:=dC (blk D L[i]);obtain ⟨S,hS⟩:∃ S,S=T4 D (d::t) L[i] KK (c,aQ []) (M7 (blk D L[i])):=⟨_,rfl⟩;rw [<-hS] at f4 f7 hs E10;dsimp only at E10;have same2:∀ j,j<H.length->j≠x6->rd H2 j=rd H j:=λj hj U1=>by rw [f9 j (by omega) U1,hK1,D1 hj]
  have q11:rd H2 x11=rT (encI (d::t)):=by rw [same2 _ b11 (Ne.symm n2)];exact r11
  have q12:rd H2 x12=rT r8:=by rw [same2 _ (C4 r12) (Ne.symm n3)];exact r12
  have qb:rd H2 bid=rT (encI L):=by rw [same2 _ bb (Ne.symm n4)];exact rb
  have qk:rd H2 kid=rT (encS kl):=by rw [same2 _ bk (Ne.symm n5)];exact rk
  obtain ⟨cs2,H3,H4,Q2,m1,m2,m3,m4,m5,m6,m7,m8,m9⟩:=D4O (lo:=lo) (no:=L[i]) (P:=P) f2 e6 f4 nq toP (by omega) f8 f7 (λid hid=>⟨(f5 id hid).1,(f5 id hid).2.1⟩) f6 (by rw [hs.blocks];dsimp only;omega) (by rw [hs.made];dsimp only;omega);have ec:L9 D (d::t) KK c (L.drop i)=L9 D (d::t) KK (R3 S.1 L[i] S.2) (L.drop (i+1)):=by
   rw [E3V R6,hS];rfl
  rw [ec];have lb:(R3 S.1 L[i] S.2).blocks.length=c.blocks.length+1:=by show (S.1.blocks++[L[i]]).length=_;rw [E3S,hs.blocks];rfl
  have lm:(R3 S.1 L[i] S.2).made.length=c.made.length+1:=by show (S.1.made++[S.2]).length=_;rw [E3S,hs.made];rfl
  have ll:(R3 S.1 L[i] S.2).lost=S.1.lost:=rfl;obtain ⟨cs',Q',H',M',g1,g2,g3,g4,g5,g6,g7⟩:=ih (i+1) M (R3 S.1 L[i] S.2) cs2 Q2 H4 (by omega) (by omega) m3 m5 m6 m7 (by omega) (by rw [ll];omega) (by rw [lb];omega) (by rw [lm];omega) m8 (by rw [m9 _ (C4 q11) (Ne.symm n2)];exact q11) (by rw [m9 _ (C4 q12) (Ne.symm n3)];exact q12) (by rw [m9 _ (C4 qb) (Ne.symm n4)];exact qb) (by rw [m9 _ (C4 qk) (Ne.symm n5)];exact qk);refine ⟨cs',Q',H',M',?_,g2,g3,g4,g5,g6,λj hj U1=>by rw [g7 j (by omega) U1,m9 j (by omega) U1,same2 j hj U1]⟩;have l6:C8 H2 8 (pV x6 0)=some (.a cs1):=B8 f8 f4.length;have aL:D6 1 (sV bid 0 L.length 1) (iV (i:Int))=some (pV bid i):=by rw [C5 R6];simp
  have lL:B4 H2 (pV bid i)=some (iV L[i]):=B5 qb (by rw [F0,E3P R6];rfl) rfl;have c77:¬ (7:Int)<7:=by decide
  have c00:((0:Nat):Int)=0:=rfl;rw [c00] at f1;rw [A4m];simp only [esc,c0,hHd];refine f1.trans ?_;rw [lJ];simp only [esc,c77,l6,aL,lL,m1,m2,w1];exact g1
theorem D58 {P:Nat->Prop} {h:A6} {c:Cl} {cs:List Cell} {d ino at_:Int} {t:List Int} (hv:Has h v 256 D.length (D4 D)) (hD:okD D) (K:IsRC n P h cs c) (ht:t.length=32) (h5:d<=5) (hok:okX d t=true) (hn:n<=128) (hR:RowW n c) {Rr B S Lo:Nat} (sm:Small c Rr B S Lo) (hRr:Rr<=700) (hB:B<=500000) (hSs:S<=50000) (hLo:Lo<=500000) :
  ∃ cs' H',A5z [.a cs,v,.a (D3 D.length n m),.c (.i .i64 ino),.c (.i .i64 at_),.a (encI (d::t))] h=some (.a cs',H')/\Grows h H' /\
   IsRC n (λid=>P id\/h.length<=id) H' cs' (L9 D (d::t) (Z4 D n ino (c,λ_=>none) (mC D (d::t) (J4 t (B9 d)))).2 (R3 (Z4 D n ino (c,λ_=>none) (mC D (d::t) (J4 t (B9 d)))).1 at_ (bif okX d t then eH d t else zeros 256)) (J4 t (B9 d))):=by
 have c8:=K.length;have h33:(encI (d::t)).length=33:=by rw [A8];simp [ht]
 obtain ⟨L,hL⟩:∃ L,L=J4 t (B9 d):=⟨_,rfl⟩;have hLl:L.length<=32:=by rw [hL];exact E4t (eW ..) (N4 d)
 have bH:∀ no∈L,no≠0:=by rw [hL];exact D4u
 rw [<-hL];obtain ⟨g1,hg1⟩:∃ g1,g1=h++[rT cs,rT (D3 D.length n m),rT (encI (d::t)),rT Z8]:=⟨_,rfl⟩;have lg1:g1.length=h.length+4:=by rw [hg1];simp
 have hB1:=A4G (d:=d) (t:=t) (h:=g1) ht;rw [<-hL] at hB1;obtain ⟨g2,hg2⟩:∃ g2,g2=g1++[rT (encI L)]:=⟨_,rfl⟩;rw [<-hg2] at hB1;have lg2:g2.length=h.length+5:=by rw [hg2];simp [lg1]
 have G2:Grows h g2:=by rw [hg2,hg1];exact (R0 Grows.rfl' rfl).new _
 have r6:rd g2 h.length=rT cs:=by rw [hg2];refine B7 ?_;rw [hg1,F8];rfl
 have r8:rd g2 (h.length+1)=rT (D3 D.length n m):=by rw [hg2];refine B7 ?_;rw [hg1,M9];rfl
 have r11:rd g2 (h.length+2)=rT (encI (d::t)):=by rw [hg2];refine B7 ?_;rw [hg1,M9];rfl
 have r12:rd g2 (h.length+3)=rT Z8:=by rw [hg2];refine B7 ?_;rw [hg1,M9];rfl
 have rb:rd g2 (h.length+4)=rT (encI L):=by rw [hg2,<-lg1,F8];rfl
 obtain ⟨nid,H1,M1,f1,f2,f3,f4⟩:=E2k (x3:=.c (.i .i64 ino)) (x4:=.c (.i .i64 at_)) (x6:=.c (.p h.length 0)) (x8:=.c (.p (h.length+1) 0)) (x12:=.c (.p (h.length+3) 0)) (x11:=h.length+2) (bid:=h.length+4) (q:=400) (hv.grows G2) hD r11 ht h5 rb hLl bH (by omega) L.length 0 400 [] g2.length (g2++[rT []]) (by omega) (by omega) (R0 Grows.rfl' rfl) (E3T _) (by rw [F8];rfl) (by simp;omega);rw [E39,E37] at f1 f4;have hNl:(F7 D (d::t) (sU D L)).length<=224:=by
  have h1:=A9e (D:=D) (L:=L);have h2:=A4x (D:=D) (X:=d::t) (s:=sU D L);omega
 obtain ⟨N,hN⟩:∃ N,N=F7 D (d::t) (sU D L):=⟨_,rfl⟩;rw [<-hN] at f1 f4 hNl;have hNs:∀ x∈N,x.length<9223372036854775807:=λx hx=>by
  rw [hN] at hx;obtain ⟨no,y,_,hy,_,_,e⟩:=D7s (D:=D) (X:=d::t) (L:=L) (s:=x) (by rw [B00];exact hx);have:=zR (B0S hy).1;rw [e] at this;omega
 have hSt:=C7T (v:=.c (.sl nid 0 N.length 1)) (nv:=N.length) (l:=N) (h:=H1) (Has.row f4 (by rw [L6];omega) (B6K _)) (by omega) hNs;obtain ⟨S0,hS0⟩:∃ S0,S0=fC N:=⟨_,rfl⟩;rw [<-hS0] at hSt;have hSl:S0.length<=300:=by rw [hS0];have:=A6n N;omega
 obtain ⟨H2,hH2⟩:∃ H2,H2=H1++[rT (encS S0)]:=⟨_,rfl⟩;rw [<-hH2] at hSt;obtain ⟨H3,wX⟩:∃ H3,H3=H2++[rT []]:=⟨_,rfl⟩;have lH2:H2.length=H1.length+1:=by rw [hH2];simp
 have lH3:H3.length=H2.length+1:=by rw [wX];simp
 have G13:Grows g2 H3:=by rw [wX,hH2];exact (f2.new _).new _
 have E3I:=f2.len;have to3:∀ {id r},rd g2 id=some r->rd H3 id=some r:=λhr=>G13.rd hr
 have GH3:Grows h H3:=G2.trans' G13;obtain ⟨Q0,hQ0⟩:∃ Q0:Nat->Prop,Q0=λid=>P id/\id<h.length:=⟨_,rfl⟩
 have K3:IsRC n Q0 H3 cs c:=by rw [hQ0];exact K.low.grows GH3
 have nq0:∀ id,h.length<=id->¬ Q0 id:=λid hid=>by rw [hQ0];intro hh;omega
 have rs3:rd H3 H1.length=rT (encS S0):=by rw [wX,hH2];refine B7 ?_;rw [F8];rfl
 have rk3:rd H3 H2.length=rT (encS []):=by rw [wX,F8];rfl
 have E3H:=GH3.len;obtain ⟨cs1,kl,kid,Q1,H4,M4,k1,k2,k3,k4,k5,k6,k6b,k7,k8,k9,k10,k11,k12,k13,k14,k15,k16,k17,k18⟩:=E2m (lo:=h.length+5) (P:=λid=>P id/\id<h.length) (m:=m) (n:=n) (ino:=ino) (x4:=.c (.i .i64 at_)) (x6:=h.length) (x8:=h.length+1) (x11:=h.length+2) (x12:=h.length+3) (bid:=h.length+4) (sid:=H1.length) (q:=400) (r8:=Z8) (L:=L) hv hD ht h5 bH hn (E3T _) (by omega) (by omega) (by omega) (by omega) (by omega) (S:=S0) (by rw [hS0,hN]) hSl
  S0.length 0 400 B (c,λ_=>none) cs [] H2.length Q0 H3 (by omega) (by omega) GH3 K3 (nq0 _ (E3T _)) (nq0 _ (by omega)) (λid hid=>by rw [hQ0] at hid;exact .inl hid) (by omega) (λid hid=>by rw [hQ0] at hid;omega) hR (by have:=sm.row;dsimp only;omega) sm.lnk (by omega) (to3 r6) (to3 r8) (to3 r11) (to3 r12) (to3 rb) rs3 rk3 (by omega) (by omega) (by omega) (by omega) (by omega) (by omega) (by omega) (by simp) ⟨λs=>by simp,λs a ha=>by cases ha⟩
 rw [E39] at k3 k18;have eLH:S0.map (λx=>(x,A9X D (d::t) x))=mC D (d::t) L:=by unfold mC;rw [hS0,hN]
 rw [eLH] at k3 k18;obtain ⟨T,hT⟩:∃ T,T=Z4 D n ino (c,λ_=>none) (mC D (d::t) L):=⟨_,rfl⟩;rw [<-hT] at k3 k18 ⊢;have hTs:SameT c T.1:=by
  rw [hT];have:∀ (l:List Ent) (s:Cl × (List UInt8->Option Int)) (Bx:Int),BndL s.1 Bx->SameT s.1 (Z4 D n ino s l).1:=by
   intro l
   induction l with
   | nil=>intro s Bx _;exact ⟨rfl,rfl,rfl,rfl,rfl⟩
   | cons x l ih =>
    intro s Bx hb;obtain ⟨a1,a2,_⟩:=A2j (D:=D) (n:=n) (ino:=ino) (e:=x) hb;have a3:=ih (Y3 D n ino s x) _ a2;exact ⟨a3.ino.trans a1.ino,a3.blocks.trans a1.blocks,a3.made.trans a1.made,a3.taken.trans a1.taken,a3.lost.trans a1.lost⟩
  exact this _ (c,λ_=>none) _ sm.lnk
 have hP:=B63 (d:=d) (t:=t) (h:=H4) ht;rw [hok] at hP;simp only [cond_true] at hP;obtain ⟨H5,hH5⟩:∃ H5,H5=H4++[rT (A5 (eH d t))]:=⟨_,rfl⟩;rw [<-hH5] at hP;have il:=kB (d:=d) ht;have G45:Grows H4 H5:=by rw [hH5];exact (Grows.rfl').new _
 have E3K:=k2.len;obtain ⟨cs2,H6,H7,Q2,m1,m2,m3,m4,m5,m6,m7,m8,m9⟩:=D4O (lo:=h.length+5) (n:=n) (P:=λid=>P id/\id<h.length) (no:=at_) (b:=eH d t) (y:=.sl H4.length 0 256 1) (k2.trans' G45) (E3T _) (k3.grows G45) k4 k6 (by have:=G45.len;omega) (G45.rd k8) (by rw [hH5];exact Has.row (rw:=true) (by rw [F8];rfl) (by rw [A4,il]) (F6 _)) (λid hid=>by cases hid;exact ⟨by omega,by have:=C4 k8;omega⟩) rfl (by rw [hTs.blocks];have:=sm.blocks;omega) (by rw [hTs.made];have:=sm.made;omega);have lH5:H5.length=H4.length+1:=by rw [hH5];simp
 have keep7:∀ {id r},rd H4 id=some r->id≠h.length->rd H7 id=some r:=λhr U1=>by
  rw [m9 _ (by have:=C4 hr;omega) U1];exact G45.rd hr
 have lbm:(R3 T.1 at_ (eH d t)).blocks.length=c.blocks.length+1:=by show (T.1.blocks++[at_]).length=_;rw [E3S,hTs.blocks];rfl
 have lmm:(R3 T.1 at_ (eH d t)).made.length=c.made.length+1:=by show (T.1.made++[_]).length=_;rw [E3S,hTs.made];rfl
 have llm:(R3 T.1 at_ (eH d t)).lost=c.lost:=hTs.lost;obtain ⟨cs3,Q3,H8,M8,o1,o2,o3,o4,o5,o6,o7⟩:=E2n (lo:=h.length+5) (n:=n) (P:=λid=>P id/\id<h.length) (x6:=h.length) (x11:=h.length+2) (x12:=h.length+3) (bid:=h.length+4) (kid:=kid) (q:=400) (r8:=Z8) (L:=L) hv hD ht h5 hLl bH (by omega) (E3T _) (by omega) (by omega) (by omega) (Ne.symm k13) k18 k17 L.length 0 400 (R3 T.1 at_ (eH d t)) cs2 Q2 H7 (by omega) (by omega) m3 m5 m6 m7 (by omega) (by rw [llm];have:=sm.lost0;have:=sm.lost;omega) (by rw [lbm];have:=sm.blocks;omega) (by rw [lmm];have:=sm.made;omega) m8 (keep7 k9 (by omega)) (keep7 k10 (by omega)) (keep7 k11 (by omega)) (keep7 k12 k13);rw [E39] at o3;have q12:rd H8 (h.length+3)=rT Z8:=by rw [o7 _ (C4 (keep7 k10 (by omega))) (by omega)];exact keep7 k10 (by omega)
 obtain ⟨H9,hH9⟩:∃ H9,H9=H8.set (h.length+3) (rT cs3):=⟨_,rfl⟩;have s9:E1 H8 8 (.c (.p (h.length+3) 0)) (.a cs3)=some H9:=by rw [storeAll (n:=8) q12 rfl o3.length,hH9]
 have l9:C8 H9 8 (.c (.p (h.length+3) 0))=some (.a cs3):=B8 (by rw [hH9];exact B6 (C4 q12)) o3.length;have l8:C8 H8 8 (.c (.p h.length 0))=some (.a cs3):=B8 o6 o3.length;have o3':IsRC n (λid=>P id\/h.length<=id) H9 cs3 (L9 D (d::t) T.2 (R3 T.1 at_ (eH d t)) L):=by
  rw [hH9];refine (o3.set (.inr λhh=>?_)).mono λid hid=>?_
  ·rcases o5 _ hh with hh | hh<;>omega
  ·rcases o5 id hid with hh | hh
   ·exact .inl hh.1
   ·exact .inr (by omega)
 refine ⟨cs3,H9,C1Z (n:=400) ?_,by rw [hH9];exact o2.set (by omega) _,by rw [hok];exact o3'⟩;have cl1:cells? (.a cs)=some cs:=rfl;have cl2:cells? (.a (D3 D.length n m))=some (D3 D.length n m):=rfl;have cl3:cells? (.a (encI (d::t)))=some (encI (d::t)):=rfl;have l33:C8 g1 33 (.c (.p (h.length+2) 0))=some (.a (encI (d::t))):=B8 (by rw [hg1,M9];rfl) h33;have l33':C8 H4 33 (.c (.p (h.length+2) 0))=some (.a (encI (d::t))):=B8 k9 h33;have l84:C8 H5 8 (.c (.p h.length 0))=some (.a cs1):=B8 (G45.rd k8) k3.length;have cL:¬ ((L.length:Nat):Int)<(L.length:Nat):=by omega
 have cS:¬ ((S0.length:Nat):Int)<(S0.length:Nat):=by omega
 have c00:((0:Nat):Int)=0:=rfl;have l0:([]:U7).length=0:=rfl;rw [c00,l0] at f1 k1;rw [c00] at o1;rw [lg1] at hB1;rw [C1o,A1Q];generalize hXX:encI (d::t)=X at *;generalize Z8=E8 at *;simp only [cl1,cl2,cl3,Q4,E3U,E4l,E37,E3S,E3Z,E4h,E4b,Nat.reduceAdd,<-hg1];simp only [esc,Nat.reduceAdd,l33,hB1];refine f1.trans ?_;rw [A4l];simp only [esc,cL,hSt,<-wX];refine k1.trans ?_;rw [tA];simp only [esc,cS,l33',hP,l84,m1,m2];refine o1.trans ?_;rw [A4m];simp only [esc,cL,l8,s9,l9]
end
end
section
theorem set_self {h:A6} {id:Nat} {r:Row} (hr:rd h id=some r):h.set id (some r)=h:=by
 refine E4I λi=>?_
 rw [List.getElem?_set];by_cases e:id=i
 ·subst e;rw [if_pos rfl,if_pos (C4 hr)];unfold rd at hr;cases hh:h[id]? with
  | none=>rw [hh] at hr;cases hr
  | some x=>rw [hh] at hr;exact congrArg some hr.symm
 ·rw [if_neg e]
theorem D5D {d:Int} {t:List Int}:(eG d t).all tE=true:=by
 have z:∀ k,(zI k).all tE=true:=λk=>List.all_eq_true.2 λx hx=>by rw [List.eq_of_mem_replicate hx];rfl
 unfold eG;split
 ·unfold oT;rw [List.all_append,z,Bool.and_true,E4H];intro x hx;obtain ⟨i,_,rfl⟩:=List.mem_map.1 hx;unfold qU;cases hk:A2c d t i with
  | true=>exact (D5M.1 hk).2.1
  | false=>rfl
 ·exact z 32
theorem C6H {no:Int}:∀ {e i:Nat} {t:List Int},t.all tE=true->(wD no e i t).all tE=true
 | 0,_,_,h=>h
 | e+1,i,t,h=>by
  rw [wD];refine C6H ?_;split
  ·rw [E4H] at h ⊢;intro x hx;rcases E4z hx with h1 | h1
   ·exact h x h1
   ·rw [h1];rfl
  ·exact h
theorem C4J {D:Dev} {n:Int}:∀ {L:List Int} {s:Cl × List Int},s.2.all tE=true->(lZ D n s L).2.all tE=true
 | [],_,h=>h
 | no::L,s,h=>by
  show (lZ D n (jO D n s no) L).2.all tE=true;refine C4J ?_;unfold jO;dsimp only;split
  ·exact C6H h
  ·exact h
theorem C5g {d:Int} {t:List Int}:0<=V3 d t/\V3 d t<=5:=by unfold V3;split<;>omega
theorem D8T {D:Dev} {n:Int} {c:Cl} {d:Int} {t:List Int}:okX (V3 d t) (T5 D n c d t).2=true:=by
 have h1:=C5g (d:=d) (t:=t);have h2:(T5 D n c d t).2.all tE=true:=C4J D5D;unfold okX;rw [decide_eq_true h1.1,decide_eq_true h1.2,h2];rfl
theorem A9i {D:Dev} {n:Int}:∀ {L:List Int} {s:Cl × List Int},(lZ D n s L).1.taken.length=s.1.taken.length
 | [],_=>rfl
 | no::L,s=>by
  show (lZ D n (jO D n s no) L).1.taken.length=_;rw [A9i];exact fL
section
variable {D:Dev} {n m:Int} {P Q:Nat->Prop} {g h:A6} {v:Val}
theorem B4r {L:List Int} {no d:Int} {k q M x11 bid:Nat} {x1 x3 x4 x6 x8 x9:Val} (hk:k<L.length) (bH:L[k]=no) (hL:L.length<=32) (nb:bid≠x11) :
  ∀ (e i M2:Nat) (t:List Int) (H:A6),i+e=32->e<M2->t.length=32->rd H x11=rT (encI (d::t))->rd H bid=rT (encI L) ->
   A9R q M M2 x1 x3 x4 x6 x8 x9 (pV x11 0) (sV bid 0 L.length 1) (iV (k:Int)) (iV 0) (iV (i:Int)) H =
    vK q M x1 x3 x4 x6 x8 x9 (pV x11 0) (sV bid 0 L.length 1) (iV ((k+1:Nat):Int)) (H.set x11 (rT (encI (d::wD no e i t))))
 | e,i,0,t,H,_,hM,_,_,_=>by omega
 | 0,i,M2+1,t,H,hi,hM,ht,hx,hb=>by
  have c0:¬ ((i:Int)<32):=by omega
  have wk:=C6 (show k+1<9223372036854775808 by omega);rw [wD,set_self hx,qF];simp only [esc,c0,wk]
 | e+1,i,M2+1,t,H,hi,hM,ht,hx,hb=>by
  have c0:((i:Int)<32):=by omega
  have E0N:i<32:=by omega
  have ad:J2 32 1 (pV x11 1) (iV (i:Int))=some (pV x11 (1+i)):=by rw [J3 E0N];simp
  have l1:B4 H (pV x11 (1+i))=some (iV (t.getD i 0)):=by
   refine B5 hx ?_ rfl;rw [Nat.add_comm,F0,E4C,E30,E3P (by omega)];rfl
  have w1:=C6 (show i+1<9223372036854775808 by omega);have aL:D6 1 (sV bid 0 L.length 1) (iV (k:Int))=some (pV bid k):=by rw [C5 hk];simp
  have lL:B4 H (pV bid k)=some (iV no):=B5 hb (by rw [F0,E3P hk,bH];rfl) rfl;have c00:((0:Int)=0):=rfl;by_cases cz:t.getD i 0=no
  ·have s1:=E9 (x:=o0) (off:=1+i) hx (by simp [A8,ht];omega);have es:(encI (d::t)).set (1+i) o0=encI (d::t.set i 0):=by rw [aX,Nat.add_comm,E4B]
   rw [es] at s1;have ih:=B4r (x1:=x1) (x3:=x3) (x4:=x4) (x6:=x6) (x8:=x8) (x9:=x9) (q:=q) (M:=M) (d:=d) hk bH hL nb e (i+1) M2 (t.set i 0) (H.set x11 (rT (encI (d::t.set i 0)))) (by omega) (by omega) (by simp [ht]) (B6 (C4 hx)) (by rw [A7 (Ne.symm nb)];exact hb);rw [List.set_set] at ih;rw [wD,if_pos cz,<-ih,qF];simp only [esc,Nat.reduceAdd,c0,ad,l1,aL,lL,cz,E4f,s1,A9P,w1]
  ·have ih:=B4r (x1:=x1) (x3:=x3) (x4:=x4) (x6:=x6) (x8:=x8) (x9:=x9) (q:=q) (M:=M) (d:=d) hk bH hL nb e (i+1) M2 t H (by omega) (by omega) ht hx hb;rw [wD,if_neg cz,<-ih,qF];simp only [esc,Nat.reduceAdd,c0,ad,l1,aL,lL,cz,E4f,A9P,w1]
theorem D9s {L:List Int} {d:Int} {x4 x6 x8 x9 x11 bid q:Nat} {x1 x3:Val} (hL:L.length<=32) (hq:33<=q) (hg:g.length<=x4/\g.length<=x11) (hx4:¬ Q x4) (C5w:¬ Q x11) (hl:D.length<=1000) (n1:x4≠x11) (n2:x4≠x6) (n3:x4≠bid) (n4:x11≠x6) (n5:x11≠bid) :
  ∀ (e i M:Nat) (s:Cl × List Int) (cs:List Cell) (H:A6),i+e=L.length->e<M->s.2.length=32->Grows g H->(∀ id,H.length<=id->Q id)->IsRC n Q H cs s.1->s.1.taken.length=D.length->rd H x4=rT cs->rd H x6=rT (D3 D.length n m)->rd H x11=rT (encI (d::s.2))->rd H bid=rT (encI L) ->
  ∃ cs' H' M',vK q M x1 x3 (pV x4 0) (pV x6 0) (pV x8 0) (pV x9 0) (pV x11 0) (sV bid 0 L.length 1) (iV (i:Int)) H =
    vK q (M'+1) x1 x3 (pV x4 0) (pV x6 0) (pV x8 0) (pV x9 0) (pV x11 0) (sV bid 0 L.length 1) (iV (L.length:Nat)) H' /\
   Grows g H'/\(∀ id,H'.length<=id->Q id)/\IsRC n Q H' cs' (lZ D n s (L.drop i)).1/\rd H' x4=rT cs'/\rd H' x11=rT (encI (d::(lZ D n s (L.drop i)).2))/\H.length<=H'.length/\(∀ j,j<H.length->j≠x4->j≠x11->rd H' j=rd H j):=by
 intro e
 induction e with
 | zero =>
  intro i M s cs H hi hM hs G hQ K ht r4 r6 r11 rb;obtain ⟨M,rfl⟩:∃ M',M=M'+1:=⟨M-1,by omega⟩;have ei:i=L.length:=by omega
  subst ei;rw [List.drop_length];exact ⟨cs,H,M,rfl,G,hQ,K,r4,r11,E3T _,λ_ _ _ _=>rfl⟩
 | succ e ih =>
  intro i M s cs H hi hM hs G hQ K ht r4 r6 r11 rb;obtain ⟨M,rfl⟩:∃ M',M=M'+1:=⟨M-1,by omega⟩;have R6:i<L.length:=by omega
  have c0:(i:Int)<(L.length:Nat):=by omega
  have w1:=C6 (show i+1<9223372036854775808 by omega);have l4:C8 H 8 (pV x4 0)=some (.a cs):=B8 r4 K.length;have l6:C8 H 3 (pV x6 0)=some (.a (D3 D.length n m)):=B8 r6 rfl;have aL:D6 1 (sV bid 0 L.length 1) (iV (i:Int))=some (pV bid i):=by rw [C5 R6];simp
  have lL:B4 H (pV bid i)=some (iV L[i]):=B5 rb (by rw [F0,E3P R6];rfl) rfl;obtain ⟨cs',K1,H1,H2,a1,a2,a3,a4,a5,a6,a7,a8,a9⟩:=D7v (m:=m) (no:=L[i]) G hg.1 K r4 K.length (λid h=>hQ id (by omega)) hx4 ht hl;have q11:rd H2 x11=rT (encI (d::s.2)):=by rw [a9 _ (C4 r11) (Ne.symm n1)];exact r11
  have qb:rd H2 bid=rT (encI L):=by rw [a9 _ (C4 rb) (Ne.symm n3)];exact rb
  have q6:rd H2 x6=rT (D3 D.length n m):=by rw [a9 _ (C4 r6) (Ne.symm n2)];exact r6
  have eB:lZ D n s (L.drop i)=lZ D n (jO D n s L[i]) (L.drop (i+1)):=by rw [E3V R6];rfl
  rw [eB];have b1:(jO D n s L[i]).1=dA D n s.1 L[i]:=rfl;obtain ⟨H3,wX⟩:∃ H3,H3=H2.set x11 (rT (encI (d::(jO D n s L[i]).2))):=⟨_,rfl⟩;have lH3:H3.length=H2.length:=by rw [wX];simp
  have o3:∀ j,j≠x11->rd H3 j=rd H2 j:=λj hj=>by rw [wX,A7 (Ne.symm hj)]
  obtain ⟨cs2,H',M',f1,f2,f3,f4,f5,f6,f7,f8⟩:=ih (i+1) M (jO D n s L[i]) cs' H3 (by omega) (by omega) (by rw [B8S];exact hs) (by rw [wX];exact a5.set hg.2 _) (λid h=>hQ id (by omega)) (by rw [wX];exact a6.set (.inr C5w)) (by rw [b1,fL];exact ht) (by rw [o3 _ n1];exact a7) (by rw [o3 _ (Ne.symm n4)];exact q6) (by rw [wX];exact B6 (C4 q11)) (by rw [o3 _ (Ne.symm n5)];exact qb);refine ⟨cs2,H',M',?_,f2,f3,f4,f5,f6,by omega,λj hj h1 h2=>by rw [f8 j (by omega) h1 h2,o3 j h2,a9 j hj h1]⟩;have step:A9R q M q x1 x3 (pV x4 0) (pV x6 0) (pV x8 0) (pV x9 0) (pV x11 0) (sV bid 0 L.length 1) (iV (i:Int)) (iV (T1 D n s.1 L[i])) (iV 0) H2 =
    vK q M x1 x3 (pV x4 0) (pV x6 0) (pV x8 0) (pV x9 0) (pV x11 0) (sV bid 0 L.length 1) (iV ((i+1:Nat):Int)) H3:=by
   by_cases cz:T1 D n s.1 L[i]=0
   ·have eb2:(jO D n s L[i]).2=wD L[i] 32 0 s.2:=by unfold jO;dsimp only;rw [if_pos cz]
    have:=B4r (x1:=x1) (x3:=x3) (x4:=pV x4 0) (x6:=pV x6 0) (x8:=pV x8 0) (x9:=pV x9 0) (q:=q) (M:=M) (d:=d) R6 rfl hL (Ne.symm n5) 32 0 q s.2 H2 (by omega) (by omega) hs q11 qb;rw [cz,wX,eb2];exact this
   ·have eb2:(jO D n s L[i]).2=s.2:=by unfold jO;dsimp only;rw [if_neg cz]
    obtain ⟨q',rfl⟩:∃ q',q=q'+1:=⟨q-1,by omega⟩;have E2E:(0:Int)<32:=by decide
    rw [wX,eb2,set_self q11,qF];simp only [esc,E2E,cz,w1]
  rw [A9Q,A1Q];simp only [esc,Nat.reduceAdd,c0,l4,l6,aL,lL,a1,a2,a3,a4];exact step.trans f1
end
end
theorem D1y {d:Int} {t:List Int} {i c:Nat} (h:C19 (B9 d) t i c=true):bE d t i<=c:=by
 false_or_by_contra
 have:=D1z (d:=d) (t:=t) (p:=i) (c:=c) (by omega);rw [h] at this;cases this
theorem D8z {d:Int} {t:List Int} {i c:Nat} (hi:i<B9 d) (hc:C19 (B9 d) t i c=true\/U8 d<=c) (h:∀ k,k<B9 d->toX t k=toX t i->k%2 ^ c=i%2 ^ c):A2k d t i=true:=by
 have hb:bE d t i<=c:=by
  rcases hc with hc | hc
  ·exact D1y hc
  ·exact E4t C4F hc
 rw [C9x hi];exact λk hk hs=>D3D hb (h k hk hs)
end Go.Proofs.YtbnkgnfhgbhblaaGreat
