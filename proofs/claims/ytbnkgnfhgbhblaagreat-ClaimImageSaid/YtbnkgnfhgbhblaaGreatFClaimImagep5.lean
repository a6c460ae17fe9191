/- What the proof of this claim leans on, part 5. -/
import Derived.Test.YtbnkgnfhgbhblaaGreatFClaimImagep4
set_option linter.all false
open Bool renaming and_eq_true→E42,false_and→E48,true_and→E5d
open Int renaming cast_ofNat_Int→E5y,eq_ofNat_of_zero_le→E5I,toNat_natCast→E5j
open List renaming all_cons→E5J,all_eq_true→E5S,append_assoc→E45,append_nil→E5t,cons_append→E5x,drop_drop→E5W,drop_eq_getElem_cons→E46,drop_of_length_le→E5c,drop_zero→E5k,getD_eq_getElem?_getD→E47,getElem?_append_left→E5z,getElem?_append_right→E5e,getElem?_cons_succ→E5N,getElem?_drop→E5R,getElem?_eq_getElem→E40,getElem?_eq_none→E5C,getElem_mem→E5F,length_append→E43,length_cons→E5a,length_nil→E5u,length_replicate→E5r,length_set→E5w,length_take→E5q,map_append→E5T,map_cons→E50,mem_cons_of_mem→E5m,mem_cons_self→E5n,mem_of_getElem?→E5s,mem_or_eq_of_mem_set→E5H,nil_append→E5g,range→E5v,replicate→E41,replicate_succ→E5p,set_append_right→E5A,set_cons_succ→E5M,set_cons_zero→E5L,take_of_length_le→E5b,take_succ_eq_append_getElem→E5f,take_zero→E5X
open Nat renaming le_refl→E44,le_trans→E5E,min_eq_left→E5U,sub_self→E5K,zero_add→E5l
open Option renaming bind_some→E49,getD_none→E5Q,getD_some→E5G,isSome_none→E5o,isSome_some→E5h
namespace Go.Proofs.YtbnkgnfhgbhblaaGreat
open Go Go.Esc
structure RowW (n:Int) (c:Cl):Prop where
 nd:c.row.Nodup
 par:∀ i,(c.par i).isSome=true↔i∈c.row
 rg:∀ i∈c.row,1<=i/\i<=n
theorem RowW.same {n:Int} {c c':Cl} (h:RowW n c) (h1:c'.row=c.row) (h2:c'.par=c.par):RowW n c' :=
 ⟨by rw [h1];exact h.nd,λi=>by rw [h1,h2];exact h.par i,by rw [h1];exact h.rg⟩
theorem D7q {D:Dev} {n dir ino:Int} {c:Cl} (h:RowW n c):RowW n (cX D n c dir ino):=by
 unfold cX;cases ht:gR D n c ino with
 | false=>exact h
 | true =>
  rw [cond_true];cases hs:(c.par ino).isSome with
  | true=>exact h.same rfl rfl
  | false =>
   rw [cond_false];have bM:ino ∉ c.row:=λhm=>by
    rw [(h.par ino).2 hm] at hs;cases hs
   have hk:kdV D n ino≠0:=by
    intro e;unfold gR at ht;rw [e] at ht;simp at ht
   have hr:=(D4E hk).2;refine ⟨?_,λi=>?_,λi hi=>?_⟩
   ·show (c.row++[ino]).Nodup;rw [List.nodup_append];exact ⟨h.nd,by simp,λa ha b hb e=>by simp at hb;subst hb;subst e;exact bM ha⟩
   ·show (uI c.par ino dir i).isSome=true↔i∈c.row++[ino];unfold uI;by_cases e:i=ino
    ·subst e;simp
    ·rw [if_neg e,h.par i];simp [e]
   ·have hi:i∈c.row++[ino]:=hi;rcases List.mem_append.1 hi with h1 | h1
    ·exact h.rg i h1
    ·simp at h1;subst h1;exact hr
theorem B90 {D:Dev} {n ino:Int}:∀ {L:List Ent} {s:Cl × (List UInt8->Option Int)},RowW n s.1->RowW n (Z9 D n ino s L).1
 | [],_,h=>h
 | x::L,s,h=>by
  have h1:RowW n (Y7 D n ino s x).1:=by
   unfold Y7;cases gR D n s.1 x.2 with
   | false=>exact h
   | true=>exact D7q h
  exact B90 (L:=L) (s:=Y7 D n ino s x) h1
theorem A6m {D:Dev} {X:List Int} {K:List UInt8->Option Int}:∀ {L:List Int} {c:Cl},(M9 D X K c L).row=c.row/\(M9 D X K c L).par=c.par
 | [],_=>⟨rfl,rfl⟩
 | no::L,c=>by
  have h1:=A6m (D:=D) (X:=X) (K:=K) (L:=L) (c:=uG D X K c no);have h2:=oU (D:=D) (X:=X) (no:=no) (K:=K) (l:=N1 (blk D no)) (s:=(c,aU []));exact ⟨h1.1.trans h2.row,h1.2.trans h2.par⟩
theorem A0d {D:Dev} {n ino:Int} {c:Cl}:SameC c (fY D n c ino).1:=by
 unfold fY;cases (decide (kdV D n ino=2)&&T8 (blk D ((drV D n ino).getD 0 0))) with
 | true=>exact oV ..
 | false=>exact .rfl' _
theorem D78 {D:Dev} {n ino:Int} {c:Cl} (h:RowW n c):RowW n (pF D n c ino):=by
 have hs:=A0d (D:=D) (n:=n) (ino:=ino) (c:=c);have hI:RowW n (W9 D n c ino):=h.same hs.row hs.par;unfold pF;split
 ·exact hI
 ·unfold vX;have hb:=fS (D:=D) (n:=n) (L:=J6 (eY (getD (blk D ((drV D n ino).getD 0 0))) (N0 (blk D ((drV D n ino).getD 0 0)) 32)) (B9 (V7 (getD (blk D ((drV D n ino).getD 0 0))) (N0 (blk D ((drV D n ino).getD 0 0)) 32)))) (s:=(W9 D n c ino,eY (getD (blk D ((drV D n ino).getD 0 0))) (N0 (blk D ((drV D n ino).getD 0 0)) 32)));have h1:RowW n (T7 D n (W9 D n c ino) (getD (blk D ((drV D n ino).getD 0 0))) (N0 (blk D ((drV D n ino).getD 0 0)) 32)).1:=hI.same hb.row hb.par;have h2:RowW n (bodyT D n (W9 D n c ino) ino (getD (blk D ((drV D n ino).getD 0 0))) (N0 (blk D ((drV D n ino).getD 0 0)) 32)).1:=B90 (by exact h1);generalize bodyT D n (W9 D n c ino) ino (getD (blk D ((drV D n ino).getD 0 0))) (N0 (blk D ((drV D n ino).getD 0 0)) 32)=s2 at *;refine h2.same (A6m.1.trans rfl) (A6m.2.trans rfl)
theorem tY {D:Dev} {n ino:Int} {c:Cl}:(gK D n c ino).row=c.row/\(gK D n c ino).par=c.par/\(gK D n c ino).lnk=c.lnk/\(gK D n c ino).lost=c.lost/\(gK D n c ino).ino.length=c.ino.length/\(gK D n c ino).blocks.length<=c.blocks.length+1/\(gK D n c ino).made.length<=c.made.length+1:=by
 have hf:=A04 (D:=D) (n:=n) (ino:=ino) (c:=c);have e1:(Y6 D n c ino).row=c.row:=hf.1.row;have e2:(Y6 D n c ino).par=c.par:=hf.1.par;have e3:(Y6 D n c ino).lnk=c.lnk:=hf.1.lnk;have e4:(Y6 D n c ino).lost=c.lost:=hf.1.lost;have e5:(Y6 D n c ino).ino.length=c.ino.length:=by unfold Y6;simp [hf.1.ino]
 have e6:(Y6 D n c ino).blocks=c.blocks:=hf.1.blocks;have e7:(Y6 D n c ino).made=c.made:=hf.1.made;unfold gK;split
 ·exact ⟨e1,e2,e3,e4,e5,by rw [e6];omega,by rw [e7];omega⟩
 ·have hs:=tZ (D:=D) (n:=n) (many:=A3w (szV D n ino)) (e:=128) (k:=0) (s:=(Y6 D n c ino,blk D ((dM D n c ino).2.getD 6 0)));dsimp only at hs;generalize bK D n (A3w (szV D n ino)) 128 0 (Y6 D n c ino,blk D ((dM D n c ino).2.getD 6 0))=s at *;refine ⟨hs.row.trans e1,hs.par.trans e2,hs.lnk.trans e3,hs.lost.trans e4,?_,?_,?_⟩
  ·show s.1.ino.length=_;rw [hs.ino];exact e5
  ·show (s.1.blocks++[_]).length<=_;rw [E43,hs.blocks,e6];simp
  ·show (s.1.made++[_]).length<=_;rw [E43,hs.made,e7];simp
section
def gP (D:Dev) (n:Int) (c:Cl) (ino:Int):Cl:=if ino≠1/\kdV D n ino=1 then gK D n c ino else pF D n c ino
def ofR (D:Dev) (n:Int):Nat->Nat->Cl->Cl
 | 0,_,c=>c
 | e+1,i,c=>match c.row[i]? with
  | none=>c
  | some a=>ofR D n e (i+1) (gP D n c a)
theorem D0A {D:Dev} {n ino:Int}:∀ {L:List Ent} {s:Cl × (List UInt8->Option Int)},s.1.row.length<=(Z9 D n ino s L).1.row.length
 | [],_=>E44 _
 | x::L,s=>by
  have h1:s.1.row.length<=(Y7 D n ino s x).1.row.length:=by
   unfold Y7 cX;cases gR D n s.1 x.2 with
   | false=>exact E44 _
   | true =>
    simp only [cond_true];cases (s.1.par x.2).isSome with
    | true=>exact E44 _
    | false=>simp [D4T,B0B]
  exact E5E h1 (D0A (L:=L) (s:=Y7 D n ino s x))
theorem D0b {c:Cl} {no:Int} {b:List UInt8}:(R5 c no b).row=c.row:=rfl
theorem D79 {D:Dev} {n ino:Int} {c:Cl}:c.row.length<=(pF D n c ino).row.length:=by
 have hs:=A0d (D:=D) (n:=n) (ino:=ino) (c:=c);have e1:(W9 D n c ino).row=c.row:=hs.row;unfold pF;split
 ·rw [e1];exact E44 _
 ·unfold vX;rw [A6m.1,D0b,<-e1];unfold bodyT;refine E5E (Nat.le_of_eq ?_) D0A;unfold T7;exact congrArg List.length (fS (D:=D) (n:=n) (s:=(W9 D n c ino,_)) (L:=_)).row.symm
theorem C61 {D:Dev} {n ino:Int} {c:Cl}:c.row.length<=(gP D n c ino).row.length:=by
 unfold gP;split
 ·rw [tY.1];exact E44 _
 ·exact D79
section
variable {D:Dev} {n m:Int} {f:Cell} {g:A6} {r:Nat} {h:A6}
theorem C60 {D:Dev} {n ino:Int} {c:Cl} (h:RowW n c):RowW n (gP D n c ino):=by
 unfold gP;split
 ·exact h.same tY.1 tY.2.1
 ·exact D78 h
theorem E0r {pv pr q:Nat} {zr:List Cell} {h0:A6} (hD:okD D) (hv:IsView g f D) (hn:n<=128) :
  ∀ (e i M:Nat) (c:Cl) (h:A6),i+e=129->e<M->i<=c.row.length->RowW n c->Small c 128 (224*i) (33*i) (224*i)->WP D n m f g r c h->Fr r h0 h->LocV h r pv (vwC D.length n m f)->LocV h r pr zr ->
  ∃ M' h',oT q M (pV pv 0) (pV pr 0) (pV r 0) (iV (i:Int)) h=oT q (M'+1) (pV pv 0) (pV pr 0) (pV r 0) (iV ((ofR D n e i c).row.length:Nat)) h' /\
   WP D n m f g r (ofR D n e i c) h'/\Fr r h0 h'/\LocV h' r pv (vwC D.length n m f)/\LocV h' r pr zr/\RowW n (ofR D n e i c)/\Small (ofR D n e i c) 128 (224*129) (33*129) (224*129):=by
 intro e
 induction e with
 | zero =>
  intro i M c h hi hM bO hR sm;have:=B7L hR.nd λa ha=>⟨(hR.rg a ha).1,by have:=(hR.rg a ha).2;omega⟩
  omega
 | succ e ih =>
  intro i M c h hi hM bO hR sm P F hpv hpr;obtain ⟨M,rfl⟩:∃ M',M=M'+1:=⟨M-1,by omega⟩;have hv2:=hv.get;unfold ofR;cases hc:c.row[i]? with
  | none =>
   have hlen:=List.getElem?_eq_none_iff.1 hc;have ei:i=c.row.length:=by omega
   dsimp only;rw [<-ei];exact ⟨M,h,rfl,P,F,hpv,hpr,hR,⟨sm.row,sm.lnk.mono (by omega),E5E sm.blocks (by omega),E5E sm.made (by omega),sm.lost0,by have:=sm.lost;omega⟩⟩
  | some a =>
   dsimp only;have P6:i<c.row.length:=(List.getElem?_eq_some_iff.1 hc).1;have ha:a∈c.row:=E5s hc;obtain ⟨ra1,ra2⟩:=hR.rg a ha;obtain ⟨xr,xi,xt,xb,xm,ml,mp,es1,es2,g1,g2,g3,g4,g5,g6,g7,g8,g9,g10,g11⟩:=id P.row;have w1:=C6 (show i+1<9223372036854775808 by omega);have c0:((i:Int)<(c.row.length:Nat)):=by omega
   rcases g3 with ⟨e0,_,_⟩ | ⟨rid,rfl,r1,r2,r3⟩
   ·omega
   ·have l4:B4 h (pV r 4)=some (sV rid 0 c.row.length 1):=B5 g1 rfl rfl;have ad:D5 1 (sV rid 0 c.row.length 1) (iV (i:Int))=some (pV rid i):=by rw [C4 P6];simp
    have la:B4 h (pV rid i)=some (iV a):=B5 r1 (by rw [F6,hc];rfl) rfl;have lV:C8 h 4 (pV pv 0)=some (.a (vwC D.length n m f)):=B8 hpv.2 rfl;have hI:=vL (n:=n) (m:=m) (i:=a) hD (hv.since P.lo);rw [A6B] at hI;have f0:∀ k l s p d,C06 (.a (E6 k l s p d)) 0=some (iV k):=λ_ _ _ _ _=>rfl
    have hin:a.toNat<c.ino.length:=by rw [P.ilen];omega
    have hR':=C60 (D:=D) (ino:=a) hR;have r128:=B7L hR'.nd λa ha=>⟨(hR'.rg a ha).1,by have:=(hR'.rg a ha).2;omega⟩
    have step:∃ h1,WP D n m f g r (gP D n c a) h1/\Fr r h h1/\Small (gP D n c a) 128 (224*(i+1)) (33*(i+1)) (224*(i+1)) /\
      oT q (M+1) (pV pv 0) (pV pr 0) (pV r 0) (iV (i:Int)) h=oT q M (pV pv 0) (pV pr 0) (pV r 0) (iV ((i+1:Nat):Int)) h1:=by
     rw [A9W];have hs:=tY (D:=D) (n:=n) (ino:=a) (c:=c);have sb:=sm.blocks;have smd:=sm.made;have sl:=sm.lost;by_cases c1:a=1
     ·obtain ⟨h1,f1,f2,f3,f4⟩:=D8c hD hv P (by omega) hin (by omega) (by omega) (by omega) (by omega) sm;have eo:gP D n c a=pF D n c a:=by unfold gP;rw [if_neg (by simp [c1])]
      rw [eo] at r128 ⊢;refine ⟨h1,f2,f3,⟨r128,f4.lnk.mono (by omega),by have:=f4.blocks;omega,by have:=f4.made;omega,f4.lost0,by have:=f4.lost;omega⟩,?_⟩;rw [c1] at la f1;generalize vwC D.length n m f=V at *;simp only [esc,Nat.reduceAdd,l4,c0,ad,la,eq_self,f1,A0Y,w1]
     ·by_cases c2:kdV D n a=1
      ·obtain ⟨h1,f1,f2,f3⟩:=D99 hD hv P (by omega) (by omega) (by omega) hin;have eo:gP D n c a=gK D n c a:=by unfold gP;rw [if_pos ⟨c1,c2⟩]
       rw [eo] at r128 ⊢;refine ⟨h1,f2,f3,⟨r128,λj=>by rw [hs.2.2.1];have:=sm.lnk j;omega,by have:=hs.2.2.2.2.2.1;omega,by have:=hs.2.2.2.2.2.2;omega,by rw [hs.2.2.2.1];exact sm.lost0,by rw [hs.2.2.2.1];omega⟩,?_⟩;generalize vwC D.length n m f=V at *;simp only [esc,Nat.reduceAdd,l4,c0,ad,la,c1,lV,hI,f0,c2,f1,A0Y,w1]
      ·obtain ⟨h1,f1,f2,f3,f4⟩:=D8c hD hv P (by omega) hin (by omega) (by omega) (by omega) (by omega) sm;have eo:gP D n c a=pF D n c a:=by unfold gP;rw [if_neg (by simp [c2])]
       rw [eo] at r128 ⊢;refine ⟨h1,f2,f3,⟨r128,f4.lnk.mono (by omega),by have:=f4.blocks;omega,by have:=f4.made;omega,f4.lost0,by have:=f4.lost;omega⟩,?_⟩;generalize vwC D.length n m f=V at *;simp only [esc,Nat.reduceAdd,l4,c0,ad,la,c1,lV,hI,f0,c2,f1,A0Y,w1]
    obtain ⟨h1,s1,s2,s3,s4⟩:=step;have hlen:i+1<=(gP D n c a).row.length:=by
     have:c.row.length<=(gP D n c a).row.length:=C61;omega
    obtain ⟨M',h',e1,e2⟩:=ih (i+1) M (gP D n c a) h1 (by omega) (by omega) hlen hR' s3 s1 (F.trans s2) (hpv.fr s2) (hpr.fr s2);exact ⟨M',h',s4.trans e1,e2⟩
end
end
section
theorem C7o:∀ {l:List (List Int)} {i k:Nat} {v:Int} (h:∀ x∈l,x.length=11) (hi:i<l.length) (hk:k<11),(T1 l).set (i*11+k) (.i .i64 v)=T1 (l.set i ((l.getD i []).set k v))
 | x::l,0,k,v,h,_,hk=>by
  have hx:=h x (E5n ..);rw [Z2,Nat.zero_mul,E5l,List.set_append_left _ _ (by rw [A8];omega),bC];rfl
 | x::l,i+1,k,v,h,hi,hk=>by
  have hx:=h x (E5n ..);have ih:=C7o (l:=l) (i:=i) (k:=k) (v:=v) (λy hy=>h y (E5m _ hy)) (by simpa using hi) hk;rw [Z2,E5A _ _ (by rw [A8,hx];omega),A8,hx,show (i+1)*11+k-11=i*11+k by omega,ih];rfl
theorem C6n:∀ {l:List (List Int)} {i k:Nat} (h:∀ x∈l,x.length=11) (hi:i<l.length) (hk:k<11),(T1 l)[i*11+k]?=some (.i .i64 ((l.getD i []).getD k 0))
 | x::l,0,k,h,_,hk=>by
  have hx:=h x (E5n ..);rw [Z2,Nat.zero_mul,E5l,E5z (by rw [A8];omega),F6,E40 (by omega)];simp [List.getD,show k<x.length by omega]
 | x::l,i+1,k,h,hi,hk=>by
  have hx:=h x (E5n ..);have ih:=C6n (l:=l) (i:=i) (k:=k) (λy hy=>h y (E5m _ hy)) (by simpa using hi) hk;rw [Z2,E5e (by rw [A8,hx];omega),A8,hx,show (i+1)*11+k-11=i*11+k by omega,ih];rfl
def Z7 (c:Cl) (a:Int):Cl:=if (c.ino.getD a.toNat []).getD 0 0=1 then { c with ino:=c.ino.set a.toNat ((c.ino.getD a.toNat []).set 1 ((c.lnk a).getD 0)) } else c
def S3 (c:Cl) (L:List Int):Cl:=L.foldl Z7 c
section
variable {D:Dev} {n m:Int} {f:Cell} {g:A6} {r:Nat} {c:Cl} {h:A6}
theorem WP.setLink (hv:∃ id cs,f=.f id cs) (P:WP D n m f g r c h) {k:Nat} (hk:k<c.ino.length) (v:Int) :
  ∃ id h',B4 h (pV r 5)=some (sV id 0 c.ino.length 11)/\rd h id=rT (T1 c.ino)/\F9 h (pV id (k*11+1)) (iV v)=some h'/\WP D n m f g r { c with ino:=c.ino.set k ((c.ino.getD k []).set 1 v) } h'/\Fr r h h' /\
   ∀ rid nn,rd h r≠none->(∃ cs,rd h r=rT cs/\cs[4]?=some (.sl rid 0 nn 1))->rd h' r=rd h r/\rd h' rid=rd h rid:=by
 obtain ⟨xr,xi,xt,xb,xm,ml,mp,es1,es2,g1,g2,g3,g4,g5,g6,g7,g8,g9,g10,g11⟩:=id P.row;rcases g4 with ⟨e,_,_⟩ | ⟨t,rfl,t1,t2,t3⟩
 ·omega
 ·have l1:B4 h (pV r 5)=some (sV t 0 c.ino.length 11):=B5 g1 rfl rfl;have st:=F5 (x:=.i .i64 v) (off:=k*11+1) t1 (by rw [t2];omega);rw [C7o P.il hk (by omega)] at st;obtain ⟨q1,q2,q3,q4,q5⟩:=P.mod (off:=5) (x:=.sl t 0 c.ino.length 11) hv g1 rfl rfl (rT (T1 (c.ino.set k ((c.ino.getD k []).set 1 v))));have hkl:(c.ino.getD k []).length=11:=by
   rw [E47,E40 hk];exact P.il _ (E5F hk)
  have P6:∀ x∈c.ino.set k ((c.ino.getD k []).set 1 v),x.length=11:=λx hx=>by
   rcases E5H hx with h1 | h1
   ·exact P.il x h1
   ·rw [h1,E5w];exact hkl
  refine ⟨t,_,l1,t1,st,⟨q2,P.ge,λid hn=>P.low id ((Nam.same q3).1 hn),P6,by simpa using P.ilen,P.tlen,xr,_,xt,xb,xm,ml,mp,es1,es2,by rw [q3];exact g1,g2,g3.kept λid e=>q4 4 _ _ (by decide) rfl e,.inr ⟨t,by simp,q5,by rw [U4 P6],t3⟩,g5.kept λid e=>q4 6 _ _ (by decide) rfl e,g6.kept λid e=>q4 7 _ _ (by decide) rfl e,g7.kept λid e=>q4 8 _ _ (by decide) rfl e,?_,g9,?_,g11⟩,q1,λrid nn _ hc=>⟨q3,?_⟩⟩
  ·rw [q4 10 (.m ml) ml (by decide) rfl rfl];exact g8
  ·rw [q4 11 (.m mp) mp (by decide) rfl rfl];exact g10
  ·obtain ⟨cs,hc1,hc2⟩:=hc;rw [g1] at hc1;cases hc1;exact q4 4 _ rid (by decide) hc2 rfl
theorem D6R {pr q rid:Nat} {R:List Int} {h0:A6} (hv:IsView g f D) (hR:R.length<=1000) (hrg:∀ a∈R,1<=a/\a<=n) :
  ∀ (e i M:Nat) (c:Cl) (h:A6),i+e=R.length->e<M->WP D n m f g r c h->Fr r h0 h->(∃ z,z.length=6/\LocV h r pr z)->(∃ cs,rd h r=rT cs/\cs[4]?=some (.sl rid 0 R.length 1))->rd h rid=rT (encI R) ->
  ∃ M' h',A9X q M (pV pr 0) (pV r 0) (sV rid 0 R.length 1) (iV (R.length:Nat)) (iV (i:Int)) h=A9X q (M'+1) (pV pr 0) (pV r 0) (sV rid 0 R.length 1) (iV (R.length:Nat)) (iV (R.length:Nat)) h' /\
   WP D n m f g r (S3 c (R.drop i)) h'/\Fr r h0 h'/\(∃ z,z.length=6/\LocV h' r pr z):=by
 intro e
 induction e with
 | zero =>
  intro i M c h hi hM P F hz hc hr;obtain ⟨M,rfl⟩:∃ M',M=M'+1:=⟨M-1,by omega⟩;have ei:i=R.length:=by omega
  subst ei;rw [List.drop_length];exact ⟨M,h,rfl,P,F,hz⟩
 | succ e ih =>
  intro i M c h hi hM P F hz hc hr;obtain ⟨M,rfl⟩:∃ M',M=M'+1:=⟨M-1,by omega⟩;have P6:i<R.length:=by omega
  have hv2:=hv.get;have c0:((i:Int)<(R.length:Nat)):=by omega
  have w1:=C6 (show i+1<9223372036854775808 by omega);have ad:D5 1 (sV rid 0 R.length 1) (iV (i:Int))=some (pV rid i):=by rw [C4 P6];simp
  have la:B4 h (pV rid i)=some (iV R[i]):=B5 hr (by rw [F6,E40 P6];rfl) rfl;obtain ⟨ra1,ra2⟩:=hrg _ (E5F P6);rw [E46 P6];have er:∀ T,S3 c (R[i]::T)=S3 (Z7 c R[i]) T:=λT=>rfl
  rw [er];obtain ⟨k,hk⟩:=E5I (show 0<=R[i] by omega);rw [hk] at la ra1 ra2 ⊢;have hin:k<c.ino.length:=by rw [P.ilen];omega
  obtain ⟨id,h1,a1,a2,a3,a4,a5,a6⟩:=P.setLink hv2 hin ((c.lnk k).getD 0);obtain ⟨ml,hx,b1,b2,_⟩:=P.setLnk hv2 0 0;have b2':=b2 false k;have adI:D5 11 (sV id 0 c.ino.length 11) (iV (k:Int))=some (pV id (k*11)):=by rw [C4 hin];simp
  have lk:B4 h (pV id (k*11))=some (iV ((c.ino.getD k []).getD 0 0)):=B5 a2 (by have:=C6n (l:=c.ino) (i:=k) (k:=0) P.il hin (by omega);simpa using this) rfl;rw [A9Y];by_cases c1:(c.ino.getD k []).getD 0 0=1
  ·have ec:Z7 c (k:Int)={ c with ino:=c.ino.set k ((c.ino.getD k []).set 1 ((c.lnk k).getD 0)) }:=by unfold Z7;rw [E5j,if_pos c1]
   rw [ec];have T5:rd h r≠none:=by obtain ⟨cs,h1,_⟩:=hc;rw [h1];simp
   obtain ⟨k1,k2⟩:=a6 rid R.length T5 hc;obtain ⟨z,wY,hz⟩:=hz;obtain ⟨M',h',e1,e2⟩:=ih (i+1) M _ h1 (by omega) (by omega) a4 (F.trans a5) ⟨z,wY,hz.fr a5⟩ (by rw [k1];exact hc) (by rw [k2];exact hr);refine ⟨M',h',?_,e2⟩;simp only [esc,Nat.reduceAdd,c0,ad,la,a1,adI,lk,c1,b1,b2',A4Y,a3,A9U,w1];exact e1
  ·have ec:Z7 c (k:Int)=c:=by unfold Z7;rw [E5j,if_neg c1]
   rw [ec];obtain ⟨M',h',e1,e2⟩:=ih (i+1) M c h (by omega) (by omega) P F hz hc hr;refine ⟨M',h',?_,e2⟩;simp only [esc,Nat.reduceAdd,c0,ad,la,a1,adI,lk,c1,A9U,w1];exact e1
def pI (c:Cl):Nat->Cl
 | 0=>c
 | k+1=>{ pI c k with taken:=(pI c k).taken.set k true }
theorem D8Z {pv pr q sid K:Nat} {cv cr:List Cell} {h0:A6} (hv:IsView g f D) (hK:K<=D.length) (hK2:K<=1000) :
  ∀ (e i M:Nat) (h:A6),i+e=K->e<M->WP D n m f g r (pI c i) h->Fr r h0 h->LocV h r pv cv->LocV h r pr cr->LocV h r sid (encI (upto K)) ->
  ∃ h',C1h q M (pV pv 0) (pV pr 0) (pV r 0) (sV sid 0 K 1) (iV (K:Nat)) (iV (i:Int)) h=oT q q (pV pv 0) (pV pr 0) (pV r 0) (iV 0) h' /\
   WP D n m f g r (pI c K) h'/\Fr r h0 h'/\LocV h' r pv cv/\LocV h' r pr cr:=by
 intro e
 induction e with
 | zero =>
  intro i M h hi hM P F hp hr hs;obtain ⟨M,rfl⟩:∃ M',M=M'+1:=⟨M-1,by omega⟩;have ei:i=K:=by omega
  subst ei;refine ⟨h,?_,P,F,hp,hr⟩;have c0:¬ ((i:Int)<(i:Nat)):=by omega
  rw [A9V];simp only [esc,c0]
 | succ e ih =>
  intro i M h hi hM P F hp hr hs;obtain ⟨M,rfl⟩:∃ M',M=M'+1:=⟨M-1,by omega⟩;have hiK:i<K:=by omega
  have c0:((i:Int)<(K:Nat)):=by omega
  have w1:=C6 (show i+1<9223372036854775808 by omega);have ad:D5 1 (sV sid 0 K 1) (iV (i:Int))=some (pV sid i):=by rw [C4 hiK];simp
  have la:B4 h (pV sid i)=some (iV (i:Int)):=B5 hs.2 (by rw [F6];simp [upto,hiK]) rfl;obtain ⟨xr,xi,xt,xb,xm,ml,mp,es1,es2,g1,_⟩:=id P.row;obtain ⟨t,rfl,t1,t2,t3⟩:=P.take (k:=i) (v:=true) g1 (by omega);have lT:B4 h (pV r 6)=some (sV t 0 D.length 1):=B5 g1 rfl rfl;have hit:i<(pI c i).taken.length:=by rw [P.tlen];omega
  have adT:D5 1 (sV t 0 D.length 1) (iV (i:Int))=some (pV t i):=by rw [C4 (show i<D.length by omega)];simp
  have s1:F9 h (pV t i) (bV true)=some (h.set t (rT (I7 ((pI c i).taken.set i true)))):=by
   rw [F5 t1 (by simp [I7,hit])];simp [I7,List.map_set]
  obtain ⟨h',e1,e2⟩:=ih (i+1) M _ (by omega) (by omega) t2 (F.trans t3) (hp.fr t3) (hr.fr t3) (hs.fr t3);refine ⟨h',?_,e2⟩;rw [A9V];simp only [esc,Nat.reduceAdd,c0,ad,la,lT,adT,s1,w1];exact e1
end
end
theorem B4y {h2:A6} {b:Nat}:∀ (l:List Cell) (seen:List Nat),(∀ x∈l,x.flat=true\/∃ id off n sz cs,x=.sl id off n sz/\b<=id/\rd h2 id=rT cs/\N7 cs=true) ->
  (∀ (i j a:Nat) (x y:Cell),l[i]?=some x->l[j]?=some y->nmC x=some a->nmC y=some a->i=j)->(∀ x∈l,∀ a,nmC x=some a->a ∉ seen) ->
  ∃ l2 fin,Q6 h2 b seen l=some (l2,fin)/\seen <+: fin/\l2.length=l.length/\∀ (i:Nat) (x:Cell),l[i]?=some x->(x.flat=true/\l2[i]?=some x)\/∃ id off n sz j,x=.sl id off n sz/\l2[i]?=some (.sl (b+j) off n sz)/\fin[j]?=some id
 | [],seen,_,_,_=>⟨[],seen,rfl,List.prefix_refl _,rfl,λi x h=>by simp at h⟩
 | c::l,seen,hf,hd,hs=>by
  have hd':∀ (i j a:Nat) (x y:Cell),l[i]?=some x->l[j]?=some y->nmC x=some a->nmC y=some a->i=j:=λi j a x y h1 h2 h3 h4=>by
   have:=hd (i+1) (j+1) a x y (by simpa using h1) (by simpa using h2) h3 h4;omega
  rcases hf c (E5n ..) with hc | ⟨id,off,n,sz,cs,rfl,hb,hr,hfl⟩
  ·obtain ⟨l2,fin,e1,e2,e3,e4⟩:=B4y l seen (λx hx=>hf x (E5m _ hx)) hd' λx hx=>hs x (E5m _ hx)
   refine ⟨c::l2,fin,?_,e2,by simp [e3],λi x hi=>?_⟩
   ·unfold Q6;rw [if_pos (Cell.low_of_flat hc),e1];rfl
   ·cases i with
    | zero=>simp at hi;subst hi;exact .inl ⟨hc,rfl⟩
    | succ i=>simpa using e4 i x (by simpa using hi)
  ·have hns:id ∉ seen:=hs _ (E5n ..) id rfl;obtain ⟨l2,fin,e1,e2,e3,e4⟩:=B4y l (seen++[id]) (λx hx=>hf x (E5m _ hx)) hd' λx hx a ha=>by
    rw [List.mem_append];rintro (h1 | h1)
    ·exact hs x (E5m _ hx) a ha h1
    ·simp at h1;subst h1;obtain ⟨j,hj⟩:=List.mem_iff_getElem?.1 hx;have:=hd 0 (j+1) a _ x rfl (by simpa using hj) rfl ha;omega
   have hlow:¬ (Cell.sl id off n sz).low b=true:=by simp [Cell.low,Cell.flat];omega
   refine ⟨.sl (b+seen.length) off n sz::l2,fin,?_,(List.prefix_append _ _).trans e2,by simp [e3],λi x hi=>?_⟩
   ·unfold Q6;rw [if_neg hlow];dsimp only;rw [if_pos ⟨hb,hns,A0i hr hfl⟩,e1];rfl
   ·cases i with
    | zero =>
     simp at hi;subst hi;refine .inr ⟨id,off,n,sz,seen.length,rfl,rfl,?_⟩;obtain ⟨t,rfl⟩:=e2;simp
    | succ i=>simpa using e4 i x (by simpa using hi)
structure IsCl (h:A6) (cs:List Cell) (c:Cl):Prop where
 form:∃ xr xi xt xb xm,cs=[xr,xi,xt,xb,xm,.i .i64 c.lost]/\Has h (.c xr) 1 c.row.length (encI c.row)/\Has h (.c xi) 11 c.ino.length (T1 c.ino)/\Has h (.c xt) 1 c.taken.length (I7 c.taken)/\Has h (.c xb) 1 c.blocks.length (encI c.blocks)/\Has h (.c xm) 256 c.made.length (D1 c.made)
section
def G8 (D:Dev) (n:Int):Cl:=⟨[1],E41 (n+1).toNat (zI 11),E41 D.length false,[],[],0,λ_=>none,uI (λ_=>none) 1 1⟩
def iL (D:Dev) (n:Int):Cl:=ofR D n 129 0 (pI (G8 D n) (kI D.length n).toNat)
def U1 (D:Dev) (n:Int):Cl:=S3 (iL D n) (iL D n).row
theorem HeldX.canon {g h:A6} {x:Cell} {l:List Cell} {n sz r:Nat} (hx:HeldX h x l n sz r) (hf:N7 l=true) (hlow:∀ id,nmC x=some id->g.length<=id):x.flat=true\/∃ id off n sz cs,x=.sl id off n sz/\g.length<=id/\rd h id=rT cs/\N7 cs=true:=by
 rcases hx with ⟨_,_,rfl⟩ | ⟨id,rfl,h1,h2,h3⟩
 ·exact .inl rfl
 ·exact .inr ⟨id,0,n,sz,l,rfl,hlow id rfl,h1,hf⟩
theorem HeldX.moved {h h2:A6} {x y:Cell} {l:List Cell} {n sz r:Nat} {fin:List Nat} (hx:HeldX h2 x l n sz r) (hn:noX l=true) (hy:(x.flat=true/\y=x)\/∃ id off n sz j,x=.sl id off n sz/\y=.sl (h.length+j) off n sz/\fin[j]?=some id):Has (h++fin.map (rd h2)) (.c y) sz n l:=by
 rcases hx with ⟨h1,h3,h4⟩ | ⟨id,rfl,h1,h3,h4⟩
 ·subst h4;rcases hy with ⟨_,rfl⟩ | ⟨_,_,_,_,_,e,_⟩
  ·exact .inl ⟨rfl,h1,h3⟩
  ·cases e
 ·rcases hy with ⟨e,_⟩ | ⟨gG,off,n',sz',j,e,rfl,hj⟩
  ·cases e
  ·cases e;refine Has.row (rw:=true) ?_ h3 hn;unfold rd;rw [E5e (by omega),show h.length+j-h.length=j by omega,List.getElem?_map,hj];exact h1
theorem D1L {D:Dev} {n:Int}:∀ {e i:Nat} {c:Cl},c.row.length<=(ofR D n e i c).row.length
 | 0,_,_=>E44 _
 | e+1,i,c=>by
  unfold ofR;cases c.row[i]? with
  | none=>exact E44 _
  | some a=>exact E5E C61 D1L
theorem D95 {b n:Int} (h:R4 b n=true):kI b n<=b:=by
 obtain ⟨_,_,_,_,_,h6⟩:=J5.1 h;have:=J5.1 h;unfold kI rQ A1i;rw [h];simp only [cond_true];omega
theorem ownR_same {c:Cl}:∀ {k:Nat},SameC c (pI c k)
 | 0=>.rfl' _
 | k+1=>by
  have h:=ownR_same (c:=c) (k:=k);exact ⟨h.row,h.ino,h.blocks,h.made,h.lost,h.lnk,h.par⟩
section
variable {D:Dev} {n m:Int} {f:Cell} {h:A6}
theorem C9L {g:A6} (hD:okD D) (hv:IsView g f D) (hm:R4 D.length n=true) :
  ∃ six g',A0p 1200 [.a (vwC D.length n m f)] g=some (.a six,g')/\WP D n m f g (g.length+4) (U1 D n) g'/\∃ V t,rd g' (g.length+4)=rT (V++six++t)/\V.length=4/\six.length=6/\RowW n (iL D n)/\Small (iL D n) 128 (224*129) (33*129) (224*129):=by
 have hv2:=hv.get;obtain ⟨b16,b512,n8,n128,_,_⟩:=J5.1 hm;obtain ⟨N,hN⟩:∃ N:Nat,n+1=(N:Int):=E5I (by omega);have hCk:=λh=>bG (b:=D.length) (n:=n) (m:=m) (h:=h)
 rw [hm,cond_true] at hCk;obtain ⟨W,hW⟩:∃ W,W=wkC D n m f (.sl (g.length+5) 0 1 1) (.sl (g.length+6) 0 N 11) (.sl (g.length+7) 0 D.length 1) .ns .ns 0 (g.length+2) (g.length+3):=⟨_,rfl⟩;obtain ⟨T,hT⟩:∃ T:A6,T=[rT (vwC D.length n m f),rT [.ns,.ns,.ns,.ns,.ns,o0],some (S4 []),some (S4 [(.i .i64 1,.c (.i .i64 1))]),rT W,rT [.i .i64 1],rT (T1 (E41 N (zI 11))),rT (I7 (E41 D.length false))]:=⟨_,rfl⟩;have at_:∀ (k:Nat) (x:Option Row),T[k]?=some x->rd (g++T) (g.length+k)=x:=λk x hk=>by
  unfold rd;rw [E5e (by omega),show g.length+k-g.length=k by omega,hk];rfl
 have P6:∀ x∈E41 N (zI 11),x.length=11:=λx hx=>by rw [List.eq_of_mem_replicate hx];simp [zI]
 have P0:WP D n m f g (g.length+4) (G8 D n) (g++T):=by
  have r4:=at_ 4 (rT W) (by rw [hT];rfl);rw [hW] at r4;refine ⟨(Low.refl (E44 _)).new _,by omega,λid hn=>?_,?_,?_,?_,?_⟩
  ·obtain ⟨R,x,hR,hx,hnm⟩:=hn;rw [r4] at hR;cases hR;obtain ⟨fi,fc,rfl⟩:=hv2;simp only [wkC,List.mem_cons,List.not_mem_nil,or_false] at hx;rcases hx with rfl | rfl | rfl | rfl | rfl | rfl | rfl | rfl | rfl | rfl | rfl | rfl<;>cases hnm<;>omega
  ·intro x hx;exact P6 x (by unfold G8 at hx;dsimp only at hx;rw [hN] at hx;simpa using hx)
  ·simp [G8]
  ·simp [G8]
  ·refine ⟨_,_,_,_,_,_,_,[],[(.i .i64 1,.c (.i .i64 1))],r4,⟨λi j a x y hi hj hx hy=>?_,λx hx=>?_⟩,.inr ⟨_,rfl,at_ 5 _ (by rw [hT];rfl),rfl,by omega⟩,?_,?_,.inl ⟨rfl,rfl,rfl⟩,.inl ⟨rfl,rfl,rfl⟩,at_ 2 _ (by rw [hT];rfl),MapI.nil,at_ 3 _ (by rw [hT];rfl),MapI.nil.put 1 1⟩
   ·obtain ⟨fi,fc,rfl⟩:=hv2;have hi2:=(List.getElem?_eq_some_iff.1 hi).1;have hj2:=(List.getElem?_eq_some_iff.1 hj).1;simp only [wkC,E5a,E5u] at hi2 hj2;have cases12:∀ k:Nat,k<12->k=0\/k=1\/k=2\/k=3\/k=4\/k=5\/k=6\/k=7\/k=8\/k=9\/k=10\/k=11:=λk hk=>by omega
    rcases cases12 i (by omega) with rfl | rfl | rfl | rfl | rfl | rfl | rfl | rfl | rfl | rfl | rfl | rfl<;>(cases hi;try cases hx) <;>
     (rcases cases12 j (by omega) with rfl | rfl | rfl | rfl | rfl | rfl | rfl | rfl | rfl | rfl | rfl | rfl<;>(cases hj;try simp [nmC] at hy)<;>first | rfl | omega)
   ·obtain ⟨fi,fc,rfl⟩:=hv2;simp only [wkC,List.mem_cons,List.not_mem_nil,or_false] at hx;rcases hx with rfl | rfl | rfl | rfl | rfl | rfl | rfl | rfl | rfl | rfl | rfl | rfl<;>simp [nmC]
   ·have e:(G8 D n).ino=E41 N (zI 11):=by unfold G8;rw [hN];simp
    rw [e,E5r];exact .inr ⟨_,rfl,at_ 6 _ (by rw [hT];rfl),by rw [U4 P6,E5r],by omega⟩
   ·have e:(G8 D n).taken=E41 D.length false:=rfl;rw [e,E5r];exact .inr ⟨_,rfl,at_ 7 _ (by rw [hT];rfl),by simp [I7],by omega⟩
 have r4:=at_ 4 (rT W) (by rw [hT];rfl);have noN:∀ k:Nat,k<2->¬ Nam (g++T) (g.length+4) (g.length+k):=by
  rintro k hk ⟨R,x,hR,hx,hnm⟩;rw [r4,hW] at hR;cases hR;obtain ⟨fi,fc,rfl⟩:=hv2;simp only [wkC,List.mem_cons,List.not_mem_nil,or_false] at hx;rcases hx with rfl | rfl | rfl | rfl | rfl | rfl | rfl | rfl | rfl | rfl | rfl | rfl<;>simp [nmC] at hnm<;>omega
 have hTl:T.length=8:=by rw [hT];rfl
 have hGl:(g++T).length=g.length+8:=by rw [E43,hTl]
 have LV:LocV (g++T) (g.length+4) g.length (vwC D.length n m f):=⟨⟨by omega,by omega,by simpa using noN 0 (by omega)⟩,by simpa using at_ 0 _ (by rw [hT];rfl)⟩;have LR:LocV (g++T) (g.length+4) (g.length+1) [.ns,.ns,.ns,.ns,.ns,o0]:=⟨⟨by omega,by omega,noN 1 (by omega)⟩,at_ 1 _ (by rw [hT];rfl)⟩;obtain ⟨K,hK⟩:∃ K,K=(kI D.length n).toNat:=⟨_,rfl⟩;have hKr:=A0Z (b:=(D.length:Int)) (n:=n);have hKD:K<=D.length/\K<=1000:=by
  rw [hK];have:kI (D.length:Int) n<=D.length:=D95 hm;omega
 have E0a:=C1A (b:=D.length) (n:=n) (m:=m) (h:=g++T);rw [<-hK] at E0a;have eu:(upto K).length=K:=by simp [upto]
 have P1:=P0.more hv2 [rT (encI (upto K))];have F1:Fr (g.length+4) (g++T) (g++T++[rT (encI (upto K))]):=Fr.low ((Low.refl (E44 _)).new _) P0.rlt;have LO:LocV (g++T++[rT (encI (upto K))]) (g.length+4) ((g++T).length+0) (encI (upto K)):=LocV.new (k:=0) hv2 P0 rfl;rw [Nat.add_zero] at LO;obtain ⟨h1,e1,P2,F2,LV2,LR2⟩:=D8Z (c:=G8 D n) (q:=1200) (pv:=g.length) (pr:=g.length+1) (sid:=(g++T).length) (h0:=g++T) hv hKD.1 hKD.2 K 0 1200 _ (by omega) (by omega) P1 F1 (LV.fr F1) (LR.fr F1) LO;have hsO:=ownR_same (c:=G8 D n) (k:=K);have rI:RowW n (pI (G8 D n) K):=by
  refine RowW.same (c:=G8 D n) ⟨by simp [G8],λi=>?_,λi hi=>?_⟩ hsO.row hsO.par
  ·by_cases c1:i=1
   ·subst c1;simp [G8,uI]
   ·simp [G8,uI,c1]
  ·simp [G8] at hi;omega
 have smI:Small (pI (G8 D n) K) 128 (224*0) (33*0) (224*0):=⟨by rw [hsO.row];simp [G8],λi=>by rw [hsO.lnk];simp [G8],by rw [hsO.blocks];simp [G8],by rw [hsO.made];simp [G8],by rw [hsO.lost];simp [G8],by rw [hsO.lost];simp [G8]⟩;obtain ⟨M',h2,e2,P3,F3,LV3,LR3,rO,smO⟩:=E0r (q:=1200) (pv:=g.length) (pr:=g.length+1) (h0:=g++T) hD hv n128 129 0 1200 (pI (G8 D n) K) h1 (by omega) (by omega) (by omega) rI smI P2 F2 LV2 LR2;have ecO:ofR D n 129 0 (pI (G8 D n) K)=iL D n:=by unfold iL;rw [<-hK]
 rw [ecO] at e2 P3 rO smO;obtain ⟨c,hc⟩:∃ c,c=iL D n:=⟨_,rfl⟩;rw [<-hc] at e2 P3 rO smO;have wL:1<=c.row.length:=by
  have:(pI (G8 D n) K).row.length<=c.row.length:=by rw [hc,<-ecO];exact D1L
  rw [hsO.row] at this;simpa [G8] using this
 obtain ⟨xr,xi,xt,xb,xm,ml,mp,es1,es2,g1,g2,g3,g4,g5,g6,g7,g8,g9,g10,g11⟩:=id P3.row;rcases g3 with ⟨e0,_,_⟩ | ⟨rid,rfl,r1,r2,r3⟩
 ·omega
 have l4:B4 h2 (.c (.p (g.length+4) 4))=some (.c (.sl rid 0 c.row.length 1)):=B5 g1 rfl rfl;have c0:¬ ((c.row.length:Nat):Int)<(c.row.length:Nat):=by omega
 have r128:=B7L rO.nd λa ha=>⟨(rO.rg a ha).1,by have:=(rO.rg a ha).2;omega⟩
 obtain ⟨M2,h3,e3,P4,F4,z,wY,LR4⟩:=D6R (q:=1200) (pr:=g.length+1) (rid:=rid) (R:=c.row) (h0:=g++T) hv (by omega) rO.rg c.row.length 0 1200 c h2 (by omega) (by omega) P3 F3 ⟨_,rfl,LR3⟩ ⟨_,g1,rfl⟩ r1;rw [E5k] at P4;have ecF:S3 c c.row=U1 D n:=by unfold U1;rw [<-hc]
 rw [ecF] at P4;obtain ⟨yr,yi,yt,yb,ym,nl,np,fs1,fs2,k1,k2,_⟩:=id P4.row;have l6:C8 h3 6 (.c (.p (g.length+4) 4))=some (.a [yr,yi,yt,yb,ym,.i .i64 (U1 D n).lost]):=by rw [cP k1 (by simp [wkC]) rfl];rfl
 have s6:=storeAll (n:=6) (xs:=[yr,yi,yt,yb,ym,.i .i64 (U1 D n).lost]) LR4.2 wY rfl;have LR5:=LR4.self (cs':=[yr,yi,yt,yb,ym,.i .i64 (U1 D n).lost]);have l6':=B8 (n:=6) LR5.2 rfl;refine ⟨[yr,yi,yt,yb,ym,.i .i64 (U1 D n).lost],h3.set (g.length+1) (rT [yr,yi,yt,yb,ym,.i .i64 (U1 D n).lost]),?_,P4.set LR4.1 (by omega),vwC D.length n m f,[.m nl,.m np],?_,rfl,rfl,by rw [<-hc];exact rO,by rw [<-hc];exact smO⟩
 rotate_left
 ·rw [A7 LR4.1.2.1,k1];rfl
 rw [B2e];rw [A9W 1200 M'] at e2;rw [A9Y 1200 M2] at e3;have E13:A17 (g++[rT (vwC D.length n m f),rT [Cell.ns,.ns,.ns,.ns,.ns,o0],some (S4 []),some (S4 [])]) (some .i64) (.c (.m (g.length+3))) (.c (.i .i64 1)) (.c (.i .i64 1))=some (g++[rT (vwC D.length n m f),rT [Cell.ns,.ns,.ns,.ns,.ns,o0],some (S4 []),some (S4 [(.i .i64 1,.c (.i .i64 1))])]):=by
  rw [E2u (F:=λ_=>none) (es:=[]) (by simp) MapI.nil];simp [A71,B0E,mgo]
 have ef1:D9 [o0,o0,.i .u64 0,.nf,.ns,.ns,.ns,.ns,.ns,o0,.nm,.nm] [(0,4,.a (vwC D.length n m f)),(10,1,.c (.m (g.length+2))),(11,1,.c (.m (g.length+3)))]=some (vwC D.length n m f++[.ns,.ns,.ns,.ns,.ns,o0,.m (g.length+2),.m (g.length+3)]):=rfl;have ef2:D9 [o0] [(0,1,.c (.i .i64 1))]=some [.i .i64 1]:=rfl;have lv0:ld1 (rT (vwC D.length n m f)) 0=some (.c (.i .i64 (D.length:Int))):=rfl;have lv1:ld1 (rT (vwC D.length n m f)) 1=some (.c (.i .i64 n)):=rfl;have l4v:=E1q (b:=D.length) (n:=n) (m:=m) (f:=f);have l3v:=D35 (b:=D.length) (n:=n) (m:=m) (f:=f);have wn:IntKind.wrap .i64 (n+1)=(N:Int):=by rw [wrap_i64 (by omega) (by omega),hN]
 have nt:∀ k:Nat,k<=1000->A4V (.c (.i .i64 (k:Int)))=some k:=λk hk=>by
  simp only [A4V];rw [if_pos (by omega)];simp
 have am1:A1m (.c (.i .i64 (N:Int))) (.c (.i .i64 (N:Int)))=some N:=by simp only [A1m,nt N (by omega),E49];rw [if_pos (E44 _)]
 have am2:A1m (.c (.i .i64 (D.length:Int))) (.c (.i .i64 (D.length:Int)))=some D.length:=by simp only [A1m,nt D.length (by omega),E49];rw [if_pos (E44 _)]
 have ef3:D9 [Cell.ns,.ns,.ns,.ns,.ns,o0] [(0,1,.c (.sl (g.length+5) 0 1 1)),(1,1,.c (.sl (g.length+6) 0 N 11)),(2,1,.c (.sl (g.length+7) 0 D.length 1))]=some [.sl (g.length+5) 0 1 1,.sl (g.length+6) 0 N 11,.sl (g.length+7) 0 D.length 1,.ns,.ns,o0]:=rfl;have sw:stN (rT (vwC D.length n m f++[.ns,.ns,.ns,.ns,.ns,o0,.m (g.length+2),.m (g.length+3)])) 4 6 [.sl (g.length+5) 0 1 1,.sl (g.length+6) 0 N 11,.sl (g.length+7) 0 D.length 1,.ns,.ns,o0]=rT W:=by rw [hW];rfl
 have rz1:rows [o0,o0,o0,o0,o0,o0,o0,o0,o0,o0,o0] N=T1 (E41 N (zI 11)):=by unfold rows T1;rw [List.map_replicate];rfl
 have rz2:rows [Cell.b false] D.length=I7 (E41 D.length false):=by unfold rows I7;rw [List.map_replicate,List.flatten_replicate_singleton]
 rw [hT] at e1;rw [hT] at E0a;simp only [esc,Nat.reduceAdd] at E0a;have c00:((0:Nat):Int)=0:=rfl;rw [c00] at e1 e2 e3;generalize T1 (E41 N (zI 11))=ZI at *;generalize I7 (E41 D.length false)=ZB at *;generalize vwC D.length n m f=V at *;simp only [esc,Y2,N6,dY,S7,R6,J1,Nat.reduceAdd,l3v,l4v,hCk,E13,ef1,ef2,lv0,lv1,wn,am1,am2,ef3,sw,rz1,rz2,Nat.add_assoc];simp only [esc,E0a];simp only [esc,Nat.reduceAdd] at e1;refine e1.trans ?_;refine e2.trans ?_;simp only [esc,Nat.reduceAdd,l4,c0];refine e3.trans ?_;simp only [esc,Nat.reduceAdd,c0,l6,s6,l6']
end
end
theorem D3b (l:List (List Int)):N7 (T1 l)=true:=by
 induction l with
 | nil=>rfl
 | cons x l ih =>
  rw [Z2,zJ,ih];simp [N7,encI,Cell.flat]
theorem D3a (l:List Bool):N7 (I7 l)=true:=by simp [N7,I7,Cell.flat]
theorem B9S (l:List Bool):noX (I7 l)=true:=by simp [noX,I7,Cell.isX]
theorem C1g {D:Dev} {n m:Int} {f:Cell} {h:A6} (hD:okD D) (hv:IsView h f D) (hm:R4 D.length n=true) :
  ∃ cs t,tF [.a (vwC D.length n m f)] h=some (.a cs,h++t)/\IsCl (h++t) cs (U1 D n)/\t.all B21=true:=by
 obtain ⟨six,g',e,P,V,t,hr,hV,h6,_,_⟩:=C9L (n:=n) (m:=m) hD hv.ro hm;obtain ⟨xr,xi,xt,xb,xm,ml,mp,es1,es2,g1,g2,g3,g4,g5,g6,g7,_⟩:=id P.row;obtain ⟨c,hc⟩:∃ c,c=U1 D n:=⟨_,rfl⟩;rw [<-hc] at g1 g2 g3 g4 g5 g6 g7 P ⊢;rw [g1] at hr;simp only [Option.some.injEq,Row.mk.injEq,and_true] at hr;have e6:six=[xr,xi,xt,xb,xm,.i .i64 c.lost]:=by
  have h1:(wkC D n m f xr xi xt xb xm c.lost ml mp).drop 4=(six++t):=by rw [hr,E45,List.drop_left' hV]
  have h2:((wkC D n m f xr xi xt xb xm c.lost ml mp).drop 4).take 6=six:=by rw [h1,List.take_left' h6]
  rw [<-h2];rfl
 have low:∀ (i:Nat) (x:Cell) (id:Nat),(wkC D n m f xr xi xt xb xm c.lost ml mp)[i]?=some x->nmC x=some id->(ro h).length<=id:=λi x id hi hx=>P.low id (B4R g1 hi hx)
 obtain ⟨l2,fin,c1,_,c3,c4⟩:=B4y (h2:=g') (b:=(ro h).length) six [] (λx hx=>by
   rw [e6] at hx;simp only [List.mem_cons,List.not_mem_nil,or_false] at hx;rcases hx with rfl | rfl | rfl | rfl | rfl | rfl
   ·exact g3.canon (by simp [N7,encI,Cell.flat]) λid e=>low 4 _ _ rfl e
   ·exact g4.canon (D3b _) λid e=>low 5 _ _ rfl e
   ·exact g5.canon (D3a _) λid e=>low 6 _ _ rfl e
   ·exact g6.canon (by simp [N7,encI,Cell.flat]) λid e=>low 7 _ _ rfl e
   ·exact g7.canon fZ λid e=>low 8 _ _ rfl e
   ·exact .inl rfl) (λi j a x y hi hj hx hy=>by
   have sh:∀ (i:Nat) (x:Cell),six[i]?=some x->(wkC D n m f xr xi xt xb xm c.lost ml mp)[4+i]?=some x:=λi x hi=>by
    rw [hr,E45,E5e (by omega),hV,show 4+i-4=i by omega,E5z (List.getElem?_eq_some_iff.1 hi).1];exact hi
   have:=g2.1 (4+i) (4+j) a x y (sh i x hi) (sh j y hj) hx hy;omega) (λx hx a ha=>by simp)
 have hgood:=(A4m (μ:=λ_=>none) (μ':=λ_=>none) (λ_ _=>rfl) _ _ _ _ c1 Good.nil).1;have D3f:(fin.map (rd g')).all B21=true:=by
  rw [E5S];intro x hx;obtain ⟨j,hj,rfl⟩:=List.mem_map.1 hx;obtain ⟨_,r,h1,h2,_⟩:=hgood.ok j hj;rw [h1];exact Row.own_rw h2
 rw [E7] at c1 c4;have hS:=C2s e (v2:=.a l2) (ids:=fin) (by simp only [W8,c1,Option.map_some]);refine ⟨l2,_,hS,?_⟩;rw [e6] at c3 c4;have q0:=c4 0 _ rfl;have q1:=c4 1 _ rfl;have q2:=c4 2 _ rfl;have q3:=c4 3 _ rfl;have q4:=c4 4 _ rfl;have q5:=c4 5 _ rfl;obtain ⟨y0,y1,y2,y3,y4,y5,rfl⟩:∃ y0 y1 y2 y3 y4 y5,l2=[y0,y1,y2,y3,y4,y5]:=by
  match l2,c3 with
  | [a,b,c,d,e,f],_=>exact ⟨a,b,c,d,e,f,rfl⟩
 simp only [List.getElem?_cons_zero,E5N,Option.some.injEq] at q0 q1 q2 q3 q4 q5;have e5:y5=.i .i64 c.lost:=by
  rcases q5 with ⟨_,h1⟩ | ⟨_,_,_,_,_,h1,_⟩
  ·exact h1
  ·cases h1
 subst e5;exact ⟨⟨_,_,_,_,_,rfl,g3.moved (bF _) q0,g4.moved (B1q _) q1,g5.moved (B9S _) q2,g6.moved (bF _) q3,g7.moved (dJ _) q4⟩,D3f⟩
theorem D1f {b n m:Int} {f:Cell} {h:A6} (hm:R4 b n=false):tF [.a (vwC b n m f)] h=some (.a [.ns,.ns,.ns,.ns,.ns,o0],h):=by
 have hCk:=λh=>bG (b:=b) (n:=n) (m:=m) (h:=h)
 rw [hm,cond_false] at hCk;have key:∀ g,∃ g',A0p 0 [.a (vwC b n m f)] g=some (.a [.ns,.ns,.ns,.ns,.ns,o0],g'):=by
  intro g;have l3v:=D35 (b:=b) (n:=n) (m:=m) (f:=f);have n10:¬ (1:Int)=0:=by decide
  have ef:D9 [Cell.ns,.ns,.ns,.ns,.ns,o0] []=some [.ns,.ns,.ns,.ns,.ns,o0]:=rfl;have s6:stN (rT [Cell.ns,.ns,.ns,.ns,.ns,o0]) 0 6 [.ns,.ns,.ns,.ns,.ns,o0]=rT [.ns,.ns,.ns,.ns,.ns,o0]:=rfl;have l6:ldN (rT [Cell.ns,.ns,.ns,.ns,.ns,o0]) 0 6=some (.a [.ns,.ns,.ns,.ns,.ns,o0]):=rfl;rw [B2e];generalize vwC b n m f=V at *;exact ⟨_,by simp only [esc,Y2,N6,R6,J1,Nat.reduceAdd,l3v,hCk,n10,ef,s6,l6]<;>rfl⟩
 obtain ⟨g',e⟩:=key (ro h);exact C2r e rfl
theorem C97 {R:List Int} {a:Int} {y:Cell} {q:Nat} {h:A6} (hy:∀ i,i<R.length->∃ ad,D5 1 (.c y) (iV (i:Int))=some ad/\B4 h ad=some (iV (R.getD i 0))) (hR:R.length<=1000):∀ (e i M:Nat),i+e=R.length->e<M ->
  B2A q M (iV a) (.c y) (iV (R.length:Nat)) (iV (i:Int)) h=some (bV (decide (a∈R.drop i)),h)
 | e,i,0,_,hM=>by omega
 | 0,i,M+1,hi,_=>by
  have c0:¬ ((i:Int)<(R.length:Nat)):=by omega
  rw [A4s,E5c (by omega)];simp only [esc,c0];simp
 | e+1,i,M+1,hi,hM=>by
  have P6:i<R.length:=by omega
  have c0:((i:Int)<(R.length:Nat)):=by omega
  have w1:=C6 (show i+1<9223372036854775808 by omega);obtain ⟨ad,a1,a2⟩:=hy i P6;have eg:R.getD i 0=R[i]:=by simp [List.getD,P6]
  rw [eg] at a2;rw [A4s,E46 P6];by_cases c1:R[i]=a
  ·rw [c1] at a2 ⊢;simp only [esc,c0,a1,a2,eq_self];simp
  ·have ih:=C97 (q:=q) (a:=a) hy hR e (i+1) M (by omega) (by omega);simp only [esc,c0,a1,a2,c1,w1];rw [ih];have:(a∈R[i]::R.drop (i+1))↔a∈R.drop (i+1):=by
    rw [List.mem_cons];constructor
    ·rintro (h | h)
     ·exact absurd h.symm c1
     ·exact h
    ·exact .inr
   simp only [this]
theorem B2z {cs:List Cell} {c:Cl} {a:Int} {h:A6} (hc:IsCl h cs c) (hR:c.row.length<=1000):A5F [.a cs,iV a] h=some (bV (decide (a∈c.row)),h):=by
 obtain ⟨xr,xi,xt,xb,xm,rfl,h1,_⟩:=hc.form;have key:∃ g',A5l 1100 [.a [xr,xi,xt,xb,xm,.i .i64 c.lost],iV a] (ro h)=some (bV (decide (a∈c.row)),g'):=by
  have h2:=h1.ro.more [rT [xr,xi,xt,xb,xm,.i .i64 c.lost]];have hl:=h2.len;have k:=C97 (q:=1100) (a:=a) (R:=c.row) (y:=xr) (h:=ro h++[rT [xr,xi,xt,xb,xm,.i .i64 c.lost]]) (λi hi=>by
   obtain ⟨id,off,e,_,hA,_⟩:=h2.sl (by omega);cases e;refine ⟨pV id (off+i*1),C4 hi,?_⟩;rw [Nat.mul_one];exact hA i _ (by rw [F6,E47,E40 hi];rfl)) hR c.row.length 0 1100 (by omega) (by omega)
  rw [E5k] at k;refine ⟨ro h++[rT [xr,xi,xt,xb,xm,.i .i64 c.lost]],?_⟩
  ·rw [C1Z];have l0:B4 (ro h++[rT [xr,xi,xt,xb,xm,.i .i64 c.lost]]) (pV (ro h).length 0)=some (.c xr):=by rw [S7];exact A2s
   simp only [esc,l0,hl];exact k
 obtain ⟨g',e⟩:=key;exact B50 e rfl
section
def zP (O:Dev) (no:Int) (b:List UInt8):Dev:=if 0<=no/\no<O.length then O.set no.toNat b else O
theorem cQ {O:Dev} {no:Int} {b:List UInt8}:(zP O no b).length=O.length:=by unfold zP;split<;>simp
theorem okD.put {O:Dev} (h:okD O) {no:Int} {b:List UInt8} (hb:b.length=256):okD (zP O no b):=by
 unfold zP;split
 ·exact h.set hb
 ·exact h
structure OutD (g:A6) (p id:Nat) (O:Dev) (h:A6):Prop where
 lo:Low g.length g h
 gp:g.length<=p
 gid:g.length<=id
 ne:p≠id
 var:rd h p=rT [.sl id 0 O.length 256]
 blk:rd h id=rT (D1 O)
theorem OutD.more {g h:A6} {p id:Nat} {O:Dev} (k:OutD g p id O h) (t:A6):OutD g p id O (h++t) :=
 ⟨k.lo.new t,k.gp,k.gid,k.ne,B6 k.var,B6 k.blk⟩
theorem OutD.set {g h:A6} {p id:Nat} {O O':Dev} (k:OutD g p id O h) (hl:O'.length=O.length):OutD g p id O' (h.set id (rT (D1 O'))) :=
 ⟨k.lo.set k.gid _,k.gp,k.gid,k.ne,by rw [A7 (Ne.symm k.ne),hl];exact k.var,by rw [B7 (C5 k.blk)]⟩
theorem put_eq {g h:A6} {p id:Nat} {O:Dev} {no:Int} {b:List UInt8} (k:OutD g p id O h) (hO:okD O) (hb:b.length=256) :
  ∃ h',nO [iV no,.a (A5 b),pV p 0] h=some (.t [],h')/\OutD g p id (zP O no b) h'/\h.length<=h'.length/\∀ j,j<h.length->j≠id->rd h' j=rd h j:=by
 obtain ⟨H,hH⟩:∃ H,H=h++[rT (A5 b)]:=⟨_,rfl⟩;have kH:OutD g p id O H:=by rw [hH];exact k.more _
 have lV:B4 H (pV p 0)=some (sV id 0 O.length 256):=B5 kH.var rfl rfl;have lB:C8 H 256 (pV h.length 0)=some (.a (A5 b)):=B8 (by rw [hH,E9];rfl) (by rw [A4,hb]);have cl:cells? (.a (A5 b))=some (A5 b):=rfl;have same:∀ j,j<h.length->rd H j=rd h j:=λj hj=>by rw [hH,D4 hj]
 have len:H.length=h.length+1:=by rw [hH];simp
 by_cases c0:0<=no
 ·by_cases c1:no<(O.length:Nat)
  ·obtain ⟨i,rfl⟩:=E5I c0;have hi:i<O.length:=by omega
   have ad:D5 256 (sV id 0 O.length 256) (iV (i:Int))=some (pV id (i*256)):=by rw [C4 hi];simp
   have sd:E1 H 256 (pV id (i*256)) (.a (A5 b))=some (H.set id (rT (D1 (O.set i b)))):=B1x kH.blk hO hb hi;have ep:zP O (i:Int) b=O.set i b:=by unfold zP;rw [if_pos ⟨c0,c1⟩];simp
   rw [ep];refine ⟨_,nV (n:=0) (p:=(.t [],H.set id (rT (D1 (O.set i b))))) ?_,kH.set (by simp),by simp;omega,λj hj T5=>by rw [A7 (Ne.symm T5)];exact same j hj⟩;rw [nT];have c0':(i:Int)>=0:=c0;simp only [esc,cl,<-hH,c0',lV,c1,lB,ad,sd];rfl
  ·have ep:zP O no b=O:=by unfold zP;rw [if_neg (by omega)]
   rw [ep];refine ⟨_,nV (n:=0) (p:=(.t [],H)) ?_,kH,by omega,λj hj T5=>same j hj⟩;rw [nT];have c0':no>=0:=c0;simp only [esc,cl,<-hH,c0',lV,c1];rfl
 ·have ep:zP O no b=O:=by unfold zP;rw [if_neg (by omega)]
  rw [ep];refine ⟨_,nV (n:=0) (p:=(.t [],H)) ?_,kH,by omega,λj hj T5=>same j hj⟩;rw [nT];have c0':¬ no>=0:=c0;simp only [esc,cl,<-hH,c0'];rfl
def D6W (x:List Int):Prop:=x.length=11/\A1p (x.getD 0 0) (x.getD 1 0) (x.getD 2 0) (x.getD 3 0) (x.drop 4)=true
def A6A (x:List Int):List UInt8:=gA (x.getD 0 0) (x.getD 1 0) (x.getD 2 0) (x.getD 3 0) (x.drop 4)
theorem C9S {x:List Int} (h:x.length=11):encI x=E6 (x.getD 0 0) (x.getD 1 0) (x.getD 2 0) (x.getD 3 0) (x.drop 4):=by
 match x,h with
 | [a,b,c,d,e,f,g,i,j,k,l],_=>rfl
theorem B0u {x:List Int} (h:x.length=11):(A6A x).length=32:=by
 unfold A6A gA;rw [E43,E43,fK,kR,List.length_drop,h,zeros_length]
def C1M (O:Dev):List Int->List (List UInt8)->Dev
 | no::l,b::m=>C1M (zP O no b) l m
 | _,_=>O
def B44 (O:Dev) (no:Int):Nat->Dev
 | 0=>O
 | e+1=>B44 (zP O no (zeros 256)) (no+1) e
def B9O (n:Int) (O:Dev) (i:Nat) (x:List Int):Dev :=
 if Q7 O.length n i=true then zP O (V4 O.length n i) (I6 (blk O (V4 O.length n i)) (32*(bR O.length n i).toNat) (A6A x)) else O
def B7f (n:Int):Dev->Nat->List (List Int)->Dev
 | O,_,[]=>O
 | O,i,x::l=>B7f n (B9O n O i x) (i+1) l
def T6:Nat->List Bool->List Nat
 | _,[]=>[]
 | i,b::l=>if b=true then i::T6 (i+1) l else T6 (i+1) l
def B4M (D:Dev) (n:Int) (c:Cl):Dev :=
 zP (B7f n (B44 (C1M D c.blocks c.made) (rQ D.length n) (A1i D.length n).toNat) 0 c.ino) 1 (eQ (T6 0 c.taken))
theorem B9V {O:Dev} {m:List (List UInt8)}:C1M O [] m=O:=by cases m<;>rfl
theorem B0N:∀ {l:List Int} {m:List (List UInt8)} {O:Dev},okD O->(∀ b∈m,b.length=256)->okD (C1M O l m)/\(C1M O l m).length=O.length
 | [],_,O,h,_=>by rw [B9V];exact ⟨h,rfl⟩
 | _::_,[],O,h,_=>⟨h,rfl⟩
 | no::l,b::m,O,h,hm=>by
  obtain ⟨h1,h2⟩:=B0N (l:=l) (m:=m) (O:=zP O no b) (h.put (hm b (E5n ..))) λx hx=>hm x (E5m _ hx)
  exact ⟨h1,h2.trans cQ⟩
theorem A44:∀ {e:Nat} {no:Int} {O:Dev},okD O->okD (B44 O no e)/\(B44 O no e).length=O.length
 | 0,_,O,h=>⟨h,rfl⟩
 | e+1,no,O,h=>by
  obtain ⟨h1,h2⟩:=A44 (e:=e) (no:=no+1) (h.put (no:=no) zeros_length);exact ⟨h1,h2.trans cQ⟩
theorem D1w {n:Int} {O:Dev} {i:Nat} {x:List Int} (h:okD O) (hx:x.length=11) (hn:n<=128):okD (B9O n O i x)/\(B9O n O i x).length=O.length:=by
 unfold B9O;split
 ·refine ⟨h.put ?_,cQ⟩;rename_i hc;have hk:(bR O.length n i).toNat<8:=by unfold bR;rw [hc];simp only [cond_true];omega
  rw [O1 (by rw [O2 h,B0u hx];omega),O2 h]
 ·exact ⟨h,rfl⟩
theorem B0x {n:Int} (hn:n<=128):∀ {l:List (List Int)} {i:Nat} {O:Dev},okD O->(∀ x∈l,x.length=11)->okD (B7f n O i l)/\(B7f n O i l).length=O.length
 | [],_,O,h,_=>⟨h,rfl⟩
 | x::l,i,O,h,hx=>by
  have h1:=D1w (n:=n) (i:=i) h (hx x (E5n ..)) hn;have h2:=B0x (n:=n) hn (l:=l) (i:=i+1) h1.1 λy hy=>hx y (E5m _ hy)
  exact ⟨h2.1,h2.2.trans h1.2⟩
theorem D15:∀ {l:List Bool} {i:Nat},(∀ x∈T6 i l,x<i+l.length)/\(T6 i l).length<=l.length
 | [],i=>⟨λx hx=>by simp [T6] at hx,by simp [T6]⟩
 | b::l,i=>by
  obtain ⟨h1,h2⟩:=D15 (l:=l) (i:=i+1);unfold T6;split
  ·refine ⟨λx hx=>?_,by simpa using h2⟩;rcases List.mem_cons.1 hx with rfl | hx
   ·simp
   ·have:=h1 x hx;simp;omega
  ·exact ⟨λx hx=>by have:=h1 x hx;simp;omega,by simp;omega⟩
section
variable {D:Dev} {n m:Int} {f:Cell} {g:A6} {p id q pv pc:Nat} {xr xi xt xb xm:Cell} {lost:Int} {c:Cl}
theorem B9C {a b:Val} {h:A6}:A2a pJ (.c (.f 52 [(p,0)])) [a,b] h=nO [a,b,pV p 0] h:=rfl
theorem E19 (hpc:rd g pc=rT [xr,xi,xt,xb,xm,.i .i64 lost]) {bl:List Int} {md:List (List UInt8)} (hb:Has g (.c xb) 1 bl.length (encI bl)) (hm:Has g (.c xm) 256 md.length (D1 md)) (hl:bl.length=md.length) (hmd:∀ b∈md,b.length=256) (hB:bl.length<=1000000) :
  ∀ (e i M:Nat) (O:Dev) (h:A6),i+e=bl.length->e<M->okD O->OutD g p id O h ->
  ∃ h' M',dZ q M (pV pv 0) (pV pc 0) (pV p 0) (.c (.f 52 [(p,0)])) (.c xb) (iV (bl.length:Nat)) (iV (i:Int)) h =
   dZ q (M'+1) (pV pv 0) (pV pc 0) (pV p 0) (.c (.f 52 [(p,0)])) (.c xb) (iV (bl.length:Nat)) (iV (bl.length:Nat)) h'/\OutD g p id (C1M O (bl.drop i) (md.drop i)) h':=by
 intro e
 induction e with
 | zero =>
  intro i M O h hi hM hO k;obtain ⟨M,rfl⟩:∃ M',M=M'+1:=⟨M-1,by omega⟩;have ei:i=bl.length:=by omega
  subst ei;refine ⟨h,M,rfl,?_⟩;rw [List.drop_length,B9V];exact k
 | succ e ih =>
  intro i M O h hi hM hO k;obtain ⟨M,rfl⟩:∃ M',M=M'+1:=⟨M-1,by omega⟩;have P6:i<bl.length:=by omega
  have him:i<md.length:=by omega
  have c0:(i:Int)<(bl.length:Nat):=by omega
  have c1:(i:Int)<(md.length:Nat):=by omega
  have w1:=C6 (show i+1<9223372036854775808 by omega);have hb':=hb.since k.lo;have hm':=hm.since k.lo;obtain ⟨ib,ob,eb,_,hA,_⟩:=hb'.sl (by omega);cases eb;obtain ⟨im,om,em,_,_,hC⟩:=hm'.sl (by omega);cases em;have a1:D5 1 (sV ib ob bl.length 1) (iV (i:Int))=some (pV ib (ob+i)):=by rw [C4 P6];simp
  have a2:B4 h (pV ib (ob+i))=some (iV bl[i]):=hA i _ (by rw [F6,E40 P6];rfl);have a3:B4 h (pV pc 4)=some (sV im om md.length 256):=B5 (k.lo.rd hpc) rfl rfl;have a4:D5 256 (sV im om md.length 256) (iV (i:Int))=some (pV im (om+i*256)):=C4 him;have okm:okD md:=hmd;have a5:C8 h 256 (pV im (om+i*256))=some (.a (A5 md[i])):=by
   rw [hC (i*256) 256 (by rw [I3 okm];omega),bW okm him]
  obtain ⟨h1,b1,b2,_⟩:=put_eq (no:=bl[i]) (b:=md[i]) k hO (hmd _ (E5F him));obtain ⟨h',M',e1,e2⟩:=ih (i+1) M _ h1 (by omega) (by omega) (hO.put (hmd _ (E5F him))) b2;rw [E46 P6,E46 him];refine ⟨h',M',?_,e2⟩;rw [kD];simp only [esc,Nat.reduceAdd,c0,a1,a2,a3,D1b,c1,a4,a5,B9C,b1,A0X,w1];exact e1
theorem E2a (t0 tn:Int) (h0:0<=t0/\t0<=100) (hn:0<=tn/\tn<=100) :
  ∀ (e:Nat) (i:Int) (M:Nat) (O:Dev) (h:A6),i+e=t0+tn->t0<=i->e<M->okD O->OutD g p id O h ->
  ∃ h' M',eG q M (pV pv 0) (pV pc 0) (pV p 0) (.c (.f 52 [(p,0)])) (iV t0) (iV tn) (iV i) h =
   eG q (M'+1) (pV pv 0) (pV pc 0) (pV p 0) (.c (.f 52 [(p,0)])) (iV t0) (iV tn) (iV (t0+tn)) h'/\OutD g p id (B44 O i e) h':=by
 intro e
 induction e with
 | zero =>
  intro i M O h hi hi0 hM hO k;obtain ⟨M,rfl⟩:∃ M',M=M'+1:=⟨M-1,by omega⟩;have ei:i=t0+tn:=by omega
  subst ei;exact ⟨h,M,rfl,k⟩
 | succ e ih =>
  intro i M O h hi hi0 hM hO k;obtain ⟨M,rfl⟩:∃ M',M=M'+1:=⟨M-1,by omega⟩;have w0:IntKind.wrap .i64 (t0+tn)=t0+tn:=wrap_i64 (by omega) (by omega);have w1:IntKind.wrap .i64 (i+1)=i+1:=wrap_i64 (by omega) (by omega);have c0:i<t0+tn:=by omega
  have ef:D9 (A5 (zeros 256)) []=some (A5 (zeros 256)):=rfl;obtain ⟨h1,b1,b2,_⟩:=put_eq (no:=i) (b:=zeros 256) k hO zeros_length;obtain ⟨h',M',e1,e2⟩:=ih (i+1) M _ h1 (by omega) (by omega) (by omega) (hO.put zeros_length) b2;refine ⟨h',M',?_,e2⟩;rw [kE,I5];generalize A5 (zeros 256)=Z at *;simp only [esc,w0,c0,ef,B9C,b1,w1];exact e1
end
end
section
theorem D7w {b n i:Int} (h:Q7 b n i=true):2<=V4 b n i/\V4 b n i<b/\0<=bR b n i/\bR b n i<8:=by
 obtain ⟨h1,h2,h3⟩:=kT.1 h;obtain ⟨_,_,_,_,h4,h5⟩:=J5.1 h1;unfold V4 bR;rw [h];simp only [cond_true];omega
section
variable {D:Dev} {n m:Int} {f:Cell} {g:A6} {p id q pv pc:Nat} {xr xi xt xb xm:Cell} {lost:Int} {c:Cl}
theorem E2b (hpv:rd g pv=rT (vwC D.length n m f)) {R:List (List Int)} (hx:Has g (.c xi) 11 R.length (T1 R)) (hR:∀ x∈R,D6W x) (hn:n<=128) (hB:R.length<=1000000) :
  ∀ (e i M:Nat) (O:Dev) (h:A6),i+e=R.length->e<M->okD O->O.length=D.length->OutD g p id O h ->
  ∃ h' M',eH q M (pV pv 0) (pV pc 0) (pV p 0) (.c (.f 52 [(p,0)])) (.c xi) (iV (R.length:Nat)) (iV (i:Int)) h =
   eH q (M'+1) (pV pv 0) (pV pc 0) (pV p 0) (.c (.f 52 [(p,0)])) (.c xi) (iV (R.length:Nat)) (iV (R.length:Nat)) h'/\OutD g p id (B7f n O i (R.drop i)) h':=by
 intro e
 induction e with
 | zero =>
  intro i M O h hi hM hO hlen k;obtain ⟨M,rfl⟩:∃ M',M=M'+1:=⟨M-1,by omega⟩;have ei:i=R.length:=by omega
  subst ei;refine ⟨h,M,rfl,?_⟩;rw [List.drop_length];exact k
 | succ e ih =>
  intro i M O h hi hM hO hlen k;obtain ⟨M,rfl⟩:∃ M',M=M'+1:=⟨M-1,by omega⟩;have P6:i<R.length:=by omega
  have c0:(i:Int)<(R.length:Nat):=by omega
  have w1:=C6 (show i+1<9223372036854775808 by omega);obtain ⟨x,ex⟩:∃ x,x=R[i]:=⟨_,rfl⟩;obtain ⟨xl,xm⟩:=hR R[i] (E5F P6);have h11:∀ x∈R,x.length=11:=λx hx=>(hR x hx).1
  have hx':=hx.since k.lo;obtain ⟨ii,oi,ei,_,_,hC⟩:=hx'.sl (by omega);cases ei;have a1:D5 11 (sV ii oi R.length 11) (iV (i:Int))=some (pV ii (oi+i*11)):=C4 P6;have a2:C8 h 11 (pV ii (oi+i*11))=some (.a (encI R[i])):=by
   rw [hC (i*11) 11 (by rw [U4 h11];omega),C6B h11 P6]
  rw [<-ex] at a2 xl xm;obtain ⟨G,hG⟩:∃ G,G=h++[rT (encI x)]:=⟨_,rfl⟩;have st:E1 (h++[rT [o0,o0,o0,o0,o0,o0,o0,o0,o0,o0,o0]]) 11 (pV h.length 0) (.a (encI x))=some G:=by
   rw [storeAll (n:=11) (cs:=[o0,o0,o0,o0,o0,o0,o0,o0,o0,o0,o0]) (by rw [E9];rfl) rfl (by rw [A8,xl]),cU,hG];rfl
  have kG:OutD g p id O G:=by rw [hG];exact k.more _
  have lv3:C8 G 3 (pV pv 0)=some (.a (D3 D.length n m)):=by rw [cP (kG.lo.rd hpv) (by simp [vwC]) rfl];rfl
  have hW:=A3L (b:=D.length) (n:=n) (m:=m) (i:=(i:Int)) (h:=G);have lx:C8 G 11 (pV h.length 0)=some (.a (encI x)):=B8 (by rw [hG,E9];rfl) (by rw [A8,xl]);rw [E46 P6,<-ex];have es:B7f n O i (x::R.drop (i+1))=B7f n (B9O n O i x) (i+1) (R.drop (i+1)):=rfl;rw [es];obtain ⟨okS,lenS⟩:=D1w (n:=n) (i:=i) (x:=x) hO xl hn;have lV:B4 G (pV p 0)=some (sV id 0 O.length 256):=B5 kG.var rfl rfl;cases hc:Q7 (D.length:Int) n (i:Int) with
  | false =>
   rw [hc] at hW;have e1:B9O n O i x=O:=by unfold B9O;rw [hlen,hc];simp
   rw [e1] at okS lenS ⊢;obtain ⟨h',M',b1,b2⟩:=ih (i+1) M O G (by omega) (by omega) hO hlen kG;refine ⟨h',M',?_,b2⟩;rw [aZ];generalize encI x=X at *;generalize D3 D.length n m=L at *;simp only [esc,Nat.reduceAdd,c0,a1,a2,st,lv3,hW,kB,w1];exact b1
  | true =>
   rw [hc] at hW;obtain ⟨w2,wb,k0,k8⟩:=D7w hc;obtain ⟨wB,hwB⟩:=E5I (show 0<=V4 D.length n i by omega);obtain ⟨wK,hwK⟩:=E5I k0;rw [hwB,hwK] at hW;have hwl:wB<O.length:=by omega
   have cW:(wB:Int)<(O.length:Nat):=by omega
   have hk8:wK<8:=by omega
   have ad:D5 256 (sV id 0 O.length 256) (iV (wB:Int))=some (pV id (wB*256)):=by rw [C4 hwl];simp
   have lb:C8 G 256 (pV id (wB*256))=some (.a (A5 O[wB])):=by
    rw [cP kG.blk (by rw [I3 hO];omega) rfl,bW hO hwl]
   have hT:=B3d (j:=wK) (k:=x.getD 0 0) (l:=x.getD 1 0) (s:=x.getD 2 0) (p:=x.getD 3 0) (d:=x.drop 4) (b:=O[wB]) (h:=G) (hO.at hwl) (by rw [List.length_drop,xl]) hk8 xm;rw [<-C9S xl] at hT;have ei:gA (x.getD 0 0) (x.getD 1 0) (x.getD 2 0) (x.getD 3 0) (x.drop 4)=A6A x:=rfl;rw [ei] at hT;have hbl:(I6 O[wB] (32*wK) (A6A x)).length=256:=by
    rw [O1 (by rw [hO.at hwl,B0u xl];omega),hO.at hwl]
   have sd:E1 G 256 (pV id (wB*256)) (.a (A5 (I6 O[wB] (32*wK) (A6A x))))=some (G.set id (rT (D1 (O.set wB (I6 O[wB] (32*wK) (A6A x)))))):=B1x kG.blk hO hbl hwl;have e1:B9O n O i x=O.set wB (I6 O[wB] (32*wK) (A6A x)):=by
    unfold B9O;rw [hlen,hc,if_pos rfl,hwB,hwK,B9y hwl];unfold zP;rw [if_pos ⟨by omega,cW⟩];simp
   have kS:=kG.set (O':=B9O n O i x) lenS;obtain ⟨h',M',b1,b2⟩:=ih (i+1) M _ _ (by omega) (by omega) okS (by rw [lenS,hlen]) kS;refine ⟨h',M',?_,b2⟩;rw [e1] at b1;rw [aZ];generalize encI x=X at *;generalize D3 D.length n m=L at *;simp only [esc,Nat.reduceAdd,c0,a1,a2,st,lv3,hW,lV,cW,ad,lb,lx,hT,sd,kB,w1];exact b1
theorem D7j {l:List Bool} {i:Nat} (hi:i<l.length):T6 i (l.drop i)=if l[i]=true then i::T6 (i+1) (l.drop (i+1)) else T6 (i+1) (l.drop (i+1)):=by
 rw [E46 hi];rfl
theorem E2c {T:List Bool} {N:Nat} (hx:Has g (.c xt) 1 T.length (I7 T)) (hT:T.length<=2048) {O:Dev} (hO:okD O) :
  ∀ (e i M:Nat) (S:List Nat) (sid:Nat) (h:A6),i+e=T.length->e<M->S.length<=i->(∀ x∈S,x<2048)->rd h sid=rT (encI (S.map λx:Nat=>(x:Int)))->g.length<=sid->sid≠p->sid≠id->OutD g p id O h ->
  ∃ h',oS q M (pV p 0) (.c (.f 52 [(p,0)])) (sV sid 0 S.length 1) (.c xt) (iV (T.length:Nat)) (iV (i:Int)) h=some (sV id 0 O.length 256,h') /\
   OutD g p id (zP O 1 (eQ (S++T6 i (T.drop i)))) h':=by
 intro e
 induction e with
 | zero =>
  intro i M S sid h hi hM hS hS2 hr hg n1 n2 k;obtain ⟨M,rfl⟩:∃ M',M=M'+1:=⟨M-1,by omega⟩;have ei:i=T.length:=by omega
  subst ei;have c0:¬ ((T.length:Nat):Int)<(T.length:Nat):=by omega
  have hC:=B2w (v:=sV sid 0 S.length 1) (nv:=S.length) (l:=S) (h:=h) hS2 (by omega) (Has.tr hr (by simp [encI]) (bF _));have hml:(eQ S).length=256:=by unfold eQ;rw [cK,zeros_length]
  obtain ⟨h1,b1,b2,_⟩:=put_eq (no:=1) (b:=eQ S) k hO hml;have lV:B4 h1 (pV p 0)=some (sV id 0 (zP O 1 (eQ S)).length 256):=B5 b2.var rfl rfl;rw [cQ] at lV;refine ⟨h1,?_,?_⟩
  ·rw [bA];simp only [esc,c0,wJ,hC,B9C,b1,lV]
  ·rw [List.drop_length];have:S++T6 T.length []=S:=by simp [T6]
   rw [this];exact b2
 | succ e ih =>
  intro i M S sid h hi hM hS hS2 hr hg n1 n2 k;obtain ⟨M,rfl⟩:∃ M',M=M'+1:=⟨M-1,by omega⟩;have P6:i<T.length:=by omega
  have c0:(i:Int)<(T.length:Nat):=by omega
  have w1:=C6 (show i+1<9223372036854775808 by omega);have hx':=hx.since k.lo;obtain ⟨ii,oi,ei,_,hA,_⟩:=hx'.sl (by omega);cases ei;have a1:D5 1 (sV ii oi T.length 1) (iV (i:Int))=some (pV ii (oi+i)):=by rw [C4 P6];simp
  have a2:B4 h (pV ii (oi+i))=some (bV T[i]):=hA i _ (by simp [I7,P6]);rw [D7j P6];cases hb:T[i] with
  | false =>
   rw [hb] at a2;obtain ⟨h',b1,b2⟩:=ih (i+1) M S sid h (by omega) (by omega) (by omega) hS2 hr hg n1 n2 k;refine ⟨h',?_,by simpa using b2⟩;rw [bA];simp only [esc,Nat.reduceAdd,c0,a1,a2,kC,w1];exact b1
  | true =>
   rw [hb] at a2;obtain ⟨h1,p1,p2,p3,p4⟩:=D4Y (n:=S.length) (sz:=1) (ys:=[Cell.i .i64 (i:Int)]) hr (by simp [encI]) rfl (by omega) (by omega);have hpl:=C5 k.var;have E4U:=C5 k.blk;have kk:OutD g p id O h1:=⟨k.lo.trans (p4 g.length hg (by have:=k.lo.2.1;omega)),k.gp,k.gid,k.ne,p3 _ _ (Ne.symm n1) k.var,p3 _ _ (Ne.symm n2) k.blk⟩;have er:encI (S.map λx:Nat=>(x:Int))++[Cell.i .i64 (i:Int)]=encI ((S++[i]).map λx:Nat=>(x:Int)):=by simp [encI]
   rw [er] at p2;have ls:(S++[i]).length=S.length+1:=by simp
   obtain ⟨h',b1,b2⟩:=ih (i+1) M (S++[i]) (h.length+1) h1 (by omega) (by omega) (by rw [ls];omega) (λx hx=>by
    rcases List.mem_append.1 hx with hx | hx
    ·exact hS2 x hx
    ·simp at hx;omega) p2 (by have:=k.lo.2.1;omega) (by omega) (by omega) kk
   rw [ls] at b1;refine ⟨h',?_,by simpa using b2⟩;have ef:D9 [o0] [(0,1,iV (i:Int))]=some [.i .i64 (i:Int)]:=rfl;rw [bA];simp only [esc,Nat.reduceAdd,c0,a1,a2,ef,p1,kC,w1];exact b1
structure ImgOk (D:Dev) (n:Int) (c:Cl):Prop where
 row:0<c.row.length
 tak:c.taken.length=D.length
 ino:∀ x∈c.ino,D6W x
 il:c.ino.length<=1000
 bm:c.blocks.length=c.made.length
 bl:c.blocks.length<=1000000
 md:∀ b∈c.made,b.length=256
theorem C5V {h:A6} {cs:List Cell} (hD:okD D) (hv:IsView h f D) (hm:R4 D.length n=true) (hc:IsCl h cs c) (ok:ImgOk D n c) :
  R3 [.a (vwC D.length n m f),.a cs] h=some (sV h.length 0 D.length 256,h++[rT (D1 (B4M D n c))]):=by
 obtain ⟨b16,b512,n8,n128,_,_⟩:=J5.1 hm;obtain ⟨xr,xi,xt,xb,xm,rfl,hr,hi,ht,hb,hmd⟩:=hc.form;obtain ⟨g,hg⟩:∃ g,g=ro h++[rT (vwC D.length n m f),rT [xr,xi,xt,xb,xm,.i .i64 c.lost],rT []]:=⟨_,rfl⟩;have lg:g.length=(ro h).length+3:=by rw [hg];simp
 have rv:rd g (ro h).length=rT (vwC D.length n m f):=by rw [hg,E9];rfl
 have rc:rd g ((ro h).length+1)=rT [xr,xi,xt,xb,xm,.i .i64 c.lost]:=by rw [hg,K0];rfl
 have hvg:IsView g f D:=by rw [hg];exact hv.ro.more _
 have hr':Has g (.c xr) 1 c.row.length (encI c.row):=by rw [hg];exact hr.ro.more _
 have hi':Has g (.c xi) 11 c.ino.length (T1 c.ino):=by rw [hg];exact hi.ro.more _
 have ht':Has g (.c xt) 1 c.taken.length (I7 c.taken):=by rw [hg];exact ht.ro.more _
 have hb':Has g (.c xb) 1 c.blocks.length (encI c.blocks):=by rw [hg];exact hb.ro.more _
 have hm':Has g (.c xm) 256 c.made.length (D1 c.made):=by rw [hg];exact hmd.ro.more _
 have hI:=C80 (m:=m) hD hvg hm;obtain ⟨H,hH⟩:∃ H,H=g++[rT (D1 D),rT [.sl g.length 0 D.length 256]]:=⟨_,rfl⟩;have k0:OutD g (g.length+1) g.length D H:=by
  refine ⟨by rw [hH];exact (Low.refl (E44 _)).new _,by omega,E44 _,by omega,?_,?_⟩
  ·rw [hH,K0];rfl
  ·rw [hH,E9];rfl
 obtain ⟨h1,M1,e1,k1⟩:=E19 (q:=1000002) (pv:=(ro h).length) rc hb' hm' ok.bm ok.md ok.bl c.blocks.length 0 1000002 D H (by omega) (by have:=ok.bl;omega) hD k0;obtain ⟨ok1,len1⟩:=B0N (l:=c.blocks) (m:=c.made) hD ok.md;obtain ⟨t0,t2,tn0,tn16⟩:=D7p (b:=D.length) (n:=n);obtain ⟨tN,htN⟩:=E5I tn0;obtain ⟨h2,M2,e2,k2⟩:=E2a (q:=1000002) (pv:=(ro h).length) (pc:=(ro h).length+1) (rQ D.length n) (A1i D.length n) ⟨by omega,by omega⟩ ⟨by omega,by omega⟩ tN (rQ D.length n) 1000002 _ h1 (by omega) (by omega) (by omega) ok1 (by simpa using k1);obtain ⟨ok2,len2⟩:=A44 (e:=tN) (no:=rQ D.length n) ok1;obtain ⟨h3,M3,e3,k3⟩:=E2b (q:=1000002) (pc:=(ro h).length+1) rv hi' ok.ino n128 (by have:=ok.il;omega) c.ino.length 0 1000002 _ h2 (by omega) (by have:=ok.il;omega) ok2 (by rw [len2,len1]) k2;obtain ⟨ok3,len3⟩:=B0x (n:=n) n128 (l:=c.ino) (i:=0) ok2 (λx hx=>(ok.ino x hx).1);have k3':=(k3.more [rT ([]:List Cell)]);obtain ⟨h4,e4,k4⟩:=E2c (q:=1000002) (N:=0) (p:=g.length+1) (id:=g.length) (g:=g) ht' (by rw [ok.tak];omega) ok3 c.taken.length 0 1000002 [] h3.length (h3++[rT ([]:List Cell)]) (by omega) (by rw [ok.tak];omega) (by simp) (by simp) (by rw [E9];rfl) (by have:=k3.lo.2.1;omega) (by have:=C5 k3.var;omega) (by have:=C5 k3.blk;omega) (by simpa using k3');have eimg:B4M D n c=zP (B7f n (B44 (C1M D c.blocks c.made) (rQ D.length n) tN) 0 c.ino) 1 (eQ ([]++T6 0 (c.taken.drop 0))):=by
  unfold B4M;rw [htN];simp
 have lenF:(B4M D n c).length=D.length:=by rw [eimg,cQ,len3,len2,len1]
 have key:fO 1000002 [.a (vwC D.length n m f),.a [xr,xi,xt,xb,xm,.i .i64 c.lost]] (ro h)=some (sV g.length 0 D.length 256,h4):=by
  have l0:B4 g (pV ((ro h).length+1) 0)=some (.c xr):=B5 rc rfl (by rfl);have l2:B4 g (pV ((ro h).length+1) 2)=some (.c xt):=B5 rc rfl (by rfl);have lv0:B4 g (pV (ro h).length 0)=some (iV (D.length:Nat)):=B5 rv rfl rfl;have lv4:C8 g 4 (pV (ro h).length 0)=some (.a (vwC D.length n m f)):=B8 rv rfl;have s1:F9 (g++[rT (D1 D),rT [Cell.ns]]) (pV (g.length+1) 0) (sV g.length 0 D.length 256)=some H:=by
   rw [F5 (cs:=[Cell.ns]) (by rw [K0];rfl) (by simp),rD,hH];rfl
  have l3:B4 H (pV ((ro h).length+1) 3)=some (.c xb):=B5 (k0.lo.rd rc) rfl (by rfl);have mf:B4t 52 [pV (g.length+1) 0]=some (.c (.f 52 [(g.length+1,0)])):=rfl;have n1:B4 h2 (pV ((ro h).length+1) 1)=some (.c xi):=B5 (k2.lo.rd rc) rfl (by rfl);have n2:B4 (h3++[rT ([]:List Cell)]) (pV ((ro h).length+1) 2)=some (.c xt):=B5 ((k3.lo.new _).rd rc) rfl (by rfl);have v3:C8 h1 3 (pV (ro h).length 0)=some (.a (D3 D.length n m)):=by rw [cP (k1.lo.rd rv) (by simp [vwC]) rfl];rfl
  have hTb:=A3K (b:=D.length) (n:=n) (m:=m) (h:=h1);have c1:¬ ((c.row.length:Nat):Int)=0:=by have:=ok.row;omega
  have c2:((c.taken.length:Nat):Int)=(D.length:Nat):=by rw [ok.tak]
  have lr:=hr'.len;have lt:=ht'.len;have lb:=(hb'.since k0.lo).len;have lx:=(hi'.since k2.lo).len;have lt3:=(ht'.since (k3.lo.new [rT ([]:List Cell)])).len;have cl1:cells? (.a (vwC D.length n m f))=some (vwC D.length n m f):=rfl;rw [mQ];simp only [E43,E5a,E5u,E5l,E45,E5x,E5g,cl1,C5M,Q5,<-hg];generalize vwC D.length n m f=V at *;have c00:((0:Nat):Int)=0:=rfl;rw [c00] at e1 e3 e4;rw [lenF.symm] at e4;simp only [esc,Nat.reduceAdd,l0,lr,c1,l2,lt,lv0,c2,lv4,hI,s1,mf,l3,lb];refine e1.trans ?_;have cB:¬ ((c.blocks.length:Nat):Int)<(c.blocks.length:Nat):=by omega
  rw [kD];simp only [esc,Nat.reduceAdd,cB,v3,hTb];refine e2.trans ?_;have wT:IntKind.wrap .i64 (rQ D.length n+A1i D.length n)=rQ D.length n+A1i D.length n:=wrap_i64 (by omega) (by omega);have cT:¬ rQ D.length n+A1i D.length n<rQ D.length n+A1i D.length n:=by omega
  rw [kE];simp only [esc,Nat.reduceAdd,wT,cT,n1,lx];refine e3.trans ?_;have cI:¬ ((c.ino.length:Nat):Int)<(c.ino.length:Nat):=by omega
  rw [aZ];simp only [esc,Nat.reduceAdd,cI,n2,lt3];have eL:([]:List Nat).length=0:=rfl;rw [eL] at e4;rw [e4,lenF,len3,len2,len1]
 have ho:Out h.length h4 (sV g.length 0 D.length 256) 256 D.length (D1 (B4M D n c)):=by
  refine ⟨?_,g.length,rfl,by rw [lg,E7];omega,?_⟩
  ·rw [I3,lenF];rw [eimg];refine okD.put ok3 ?_;unfold eQ;rw [cK,zeros_length]
  ·rw [eimg];exact k4.blk
 exact jQ key ho fZ
end
end
section
structure MayC (c:Cl):Prop where
 ino:∀ x∈c.ino,D6W x
 par:∀ i,0<=(c.par i).getD 0/\(c.par i).getD 0<=65535
 bm:c.blocks.length=c.made.length
 md:∀ b∈c.made,b.length=256
theorem B4F {D:Dev} {n:Int} {c:Cl} {no:Int} (hm:R4 D.length n=true):M7 (T0 D n c no)=true:=by
 rw [B0Z];obtain ⟨_,b512,_⟩:=J5.1 hm;unfold T0 B4E;cases hd:iP D.length n no with
 | false=>simp
 | true =>
  have:=C6C hd;cases c.taken.getD no.toNat true with
  | true=>simp
  | false=>simp;omega
theorem D5s {l:List Int} {i:Nat} {x:Int} (h:l.all M7=true) (hx:M7 x=true):(l.set i x).all M7=true:=by
 rw [E5S] at h ⊢;intro y hy;rcases E5H hy with h1 | h1
 ·exact h y h1
 ·rw [h1];exact hx
theorem C55 {D:Dev} {n:Int} {d:List Int} (hm:R4 D.length n=true):∀ {e k:Nat} {s:Cl × List Int},s.2.all M7=true->(A6o D n d e k s).2.all M7=true
 | 0,_,s,h=>h
 | e+1,k,s,h=>by
  rw [A6o];exact C55 hm (D5s h (B4F hm))
theorem D27 {D:Dev} {n ino:Int} {c:Cl} (hm:R4 D.length n=true):(dM D n c ino).2.all M7=true:=by
 have h1:=C55 (d:=drV D n ino) (e:=(min (A3w (szV D n ino)) 6).toNat) (k:=0) (s:=(c,zI 7)) hm (by show (zI 7).all M7=true;decide);unfold dM B64;split
 ·exact D5s h1 (B4F hm)
 ·exact h1
theorem D7o {D:Dev} {n i:Int}:0<=szV D n i/\szV D n i<=34304:=by
 unfold szV;cases hc:C8w D n i with
 | false=>simp
 | true =>
  simp only [cond_true];unfold C8w iO A1p at hc;simp only [E42] at hc;obtain ⟨_,h1,_⟩:=hc;split at h1
  ·unfold D37 at h1;have:=of_decide_eq_true h1;omega
  ·unfold A2v at h1;simp only [E42,decide_eq_true_eq] at h1;exact h1.2.2.2.1
theorem D6X {s:Int} {d:List Int} {l:Int} (hs:0<=s/\s<=34304) (hd:d.length=7) (ha:d.all M7=true) (hl:M7 l=true):D6W (1::l::s::0::d):=by
 refine ⟨by simp [hd],?_⟩;show A1p 1 l s 0 d=true;unfold A1p A2v;have h0:M7 0=true:=by decide
 simp [hl,ha,h0,hs]
theorem D8N {p no:Int} (hp:M7 p=true) (hn:M7 no=true):D6W (2::1::0::p::no::zI 6):=by
 refine ⟨by simp [zI],?_⟩;show A1p 2 1 0 p (no::zI 6)=true;unfold A1p A2v;have h0:M7 0=true:=by decide
 have h1:M7 1=true:=by decide
 have hz:(zI 6).all M7=true:=by decide
 simp [E5J,hn,hz,hp,h1]
theorem D6Y:D6W (zI 11):=⟨by simp [zI],by decide⟩
theorem C6N {α:Type} {l:List α} {i:Nat} {x y:α} (h:y∈l.set i x):y∈l\/y=x:=E5H h
section
variable {D:Dev} {n:Int} {c:Cl} {ino:Int}
theorem D6C (hm:R4 D.length n=true) (h:MayC c):MayC (Y6 D n c ino):=by
 have hs:=(A04 (D:=D) (n:=n) (ino:=ino) (c:=c));refine ⟨λx hx=>?_,λi=>?_,?_,λb hb=>?_⟩
 ·rcases C6N hx with h1 | h1
  ·rw [hs.1.ino] at h1;exact h.ino x h1
  ·rw [h1];exact D6X D7o hs.2 (D27 hm) (by decide)
 ·have:(Y6 D n c ino).par=c.par:=hs.1.par;rw [this];exact h.par i
 ·have e1:(Y6 D n c ino).blocks=c.blocks:=hs.1.blocks;have e2:(Y6 D n c ino).made=c.made:=hs.1.made;rw [e1,e2];exact h.bm
 ·have e2:(Y6 D n c ino).made=c.made:=hs.1.made;rw [e2] at hb;exact h.md b hb
theorem MayC.same {c':Cl} (h:MayC c) (s:SameC c c'):MayC c':=⟨by rw [s.ino];exact h.ino,by rw [s.par];exact h.par,by rw [s.blocks,s.made];exact h.bm,by rw [s.made];exact h.md⟩
theorem MayC.md' (h:MayC c) {no:Int} {b:List UInt8} (hb:b.length=256):MayC (R5 c no b):=by
 refine ⟨h.ino,h.par,?_,λx hx=>?_⟩
 ·show (c.blocks++[no]).length=(c.made++[b]).length;simp [h.bm]
 ·rcases List.mem_append.1 (show x∈c.made++[b] from hx) with h1 | h1
  ·exact h.md x h1
  ·simp at h1;rw [h1];exact hb
theorem D6B (hD:okD D) (hm:R4 D.length n=true) (h:MayC c):MayC (gK D n c ino):=by
 have h1:=D6C (ino:=ino) hm h;unfold gK;split
 ·exact h1
 ·exact MayC.md' (h1.same (tZ (D:=D) (n:=n) (many:=A3w (szV D n ino)) (e:=128) (k:=0) (s:=(Y6 D n c ino,blk D ((dM D n c ino).2.getD 6 0))))) (B1j (by omega) (O2 hD))
theorem D8b (hm:R4 D.length n=true) (h:MayC c):MayC (W9 D n c ino):=by
 have hs:=A0d (D:=D) (n:=n) (ino:=ino) (c:=c);have hn:M7 (fY D n c ino).2=true:=by
  unfold fY;cases (decide (kdV D n ino=2)&&T8 (blk D ((drV D n ino).getD 0 0))) with
  | true=>exact B4F hm
  | false=>show M7 0=true;decide
 refine ⟨λx hx=>?_,λi=>?_,?_,λb hb=>?_⟩
 ·rcases C6N hx with h1 | h1
  ·rw [hs.ino] at h1;exact h.ino x h1
  ·rw [h1];exact D8N (B0Z.2 (h.par ino)) hn
 ·have:(W9 D n c ino).par=c.par:=hs.par;rw [this];exact h.par i
 ·have e1:(W9 D n c ino).blocks=c.blocks:=hs.blocks;have e2:(W9 D n c ino).made=c.made:=hs.made;rw [e1,e2];exact h.bm
 ·have e2:(W9 D n c ino).made=c.made:=hs.made;rw [e2] at hb;exact h.md b hb
theorem D0B (hi:0<=ino/\ino<=65535):∀ {L:List Ent} {s:Cl × (List UInt8->Option Int)},MayC s.1->MayC (Z9 D n ino s L).1
 | [],_,h=>h
 | x::L,s,h=>by
  have h1:MayC (Y7 D n ino s x).1:=by
   unfold Y7 cX;cases gR D n s.1 x.2 with
   | false=>exact h
   | true =>
    simp only [cond_true];cases (s.1.par x.2).isSome with
    | true=>exact ⟨h.ino,h.par,h.bm,h.md⟩
    | false =>
     refine ⟨h.ino,λi=>?_,h.bm,h.md⟩;show 0<=(uI s.1.par x.2 ino i).getD 0/\(uI s.1.par x.2 ino i).getD 0<=65535;unfold uI;split
     ·exact hi
     ·exact h.par i
  exact D0B hi (L:=L) (s:=Y7 D n ino s x) h1
theorem C1k {X:List Int} {K:List UInt8->Option Int}:∀ {L:List Int} {c:Cl},MayC c->MayC (M9 D X K c L)
 | [],_,h=>h
 | no::L,c,h=>by
  have hs:=oU (D:=D) (X:=X) (no:=no) (K:=K) (l:=N1 (blk D no)) (s:=(c,aU []));have hl:=B4D (D:=D) (X:=X) (no:=no) (K:=K) (l:=N1 (blk D no)) (s:=(c,aU [])) (oY (l:=[])) λx hx=>(C7p x hx).1
  have h1:MayC (T4 D X no K (c,aU []) (N1 (blk D no))).1:=⟨by rw [hs.ino];exact h.ino,by rw [hs.par];exact h.par,by rw [hs.blocks,hs.made];exact h.bm,by rw [hs.made];exact h.md⟩;exact C1k (L:=L) (c:=uG D X K c no) (h1.md' hl)
theorem D8a (hi:0<=ino/\ino<=65535) (hm:R4 D.length n=true) (h:MayC c):MayC (pF D n c ino):=by
 have h1:=D8b (ino:=ino) hm h;unfold pF;split
 ·exact h1
 ·unfold vX;have hb:=h1.same (fS (D:=D) (n:=n) (L:=J6 (eY (getD (blk D ((drV D n ino).getD 0 0))) (N0 (blk D ((drV D n ino).getD 0 0)) 32)) (B9 (V7 (getD (blk D ((drV D n ino).getD 0 0))) (N0 (blk D ((drV D n ino).getD 0 0)) 32)))) (s:=(W9 D n c ino,eY (getD (blk D ((drV D n ino).getD 0 0))) (N0 (blk D ((drV D n ino).getD 0 0)) 32))));refine C1k (MayC.md' (D0B (s:=(_,_)) hi hb) ?_);have hl:=B1f (D:=D) (n:=n) (L:=J6 (eY (getD (blk D ((drV D n ino).getD 0 0))) (N0 (blk D ((drV D n ino).getD 0 0)) 32)) (B9 (V7 (getD (blk D ((drV D n ino).getD 0 0))) (N0 (blk D ((drV D n ino).getD 0 0)) 32)))) (s:=(W9 D n c ino,eY (getD (blk D ((drV D n ino).getD 0 0))) (N0 (blk D ((drV D n ino).getD 0 0)) 32)));cases okX (V7 (getD (blk D ((drV D n ino).getD 0 0))) (N0 (blk D ((drV D n ino).getD 0 0)) 32)) (T7 D n (W9 D n c ino) (getD (blk D ((drV D n ino).getD 0 0))) (N0 (blk D ((drV D n ino).getD 0 0)) 32)).2 with
  | true=>exact kP (hl.trans wH)
  | false=>exact zeros_length
theorem D8X (hi:0<=ino/\ino<=65535) (hD:okD D) (hm:R4 D.length n=true) (h:MayC c):MayC (gP D n c ino):=by
 unfold gP;split
 ·exact D6B hD hm h
 ·exact D8a hi hm h
theorem D5U (hD:okD D) (hm:R4 D.length n=true):∀ {e i:Nat} {c:Cl},RowW n c->MayC c->MayC (ofR D n e i c)
 | 0,_,_,_,h=>h
 | e+1,i,c,hr,h=>by
  obtain ⟨_,_,_,n128,_⟩:=J5.1 hm;unfold ofR;cases hc:c.row[i]? with
  | none=>exact h
  | some a =>
   have ha:=hr.rg a (E5s hc);exact D5U hD hm (C60 hr) (D8X ⟨by omega,by omega⟩ hD hm h)
end
theorem D7J (D:Dev):IsView [rT (D1 D),rT [.sl 0 0 D.length 256]] (.f 41 [(1,0)]) D :=
 ⟨1,0,true,true,rfl,rfl,rfl⟩
section
variable {D:Dev} {n:Int}
theorem zC (hD:okD D) (hm:R4 D.length n=true):RowW n (iL D n)/\Small (iL D n) 128 (224*129) (33*129) (224*129)/\(∀ x∈(U1 D n).ino,x.length=11)/\(U1 D n).ino.length=(n+1).toNat/\(U1 D n).taken.length=D.length:=by
 obtain ⟨_,_,_,P,_,_,_,_,_,h1,h2⟩:=C9L (n:=n) (m:=0) hD (D7J D) hm;exact ⟨h1,h2,P.il,P.ilen,P.tlen⟩
theorem claimI_may:MayC (G8 D n):=by
 refine ⟨λx hx=>?_,λi=>?_,rfl,λb hb=>by cases hb⟩
 ·rw [List.eq_of_mem_replicate hx];exact D6Y
 ·have e:((G8 D n).par i).getD 0=if i=1 then 1 else 0:=by
   show ((uI (λ_=>none) 1 1) i).getD 0=_;unfold uI;split<;>rfl
  rw [e];split<;>omega
theorem D4o (hD:okD D) (hm:R4 D.length n=true):MayC (iL D n):=by
 obtain ⟨_,_,_,n128,_⟩:=J5.1 hm;unfold iL;have hs:=ownR_same (c:=G8 D n) (k:=(kI D.length n).toNat);refine D5U hD hm ?_ (claimI_may.same hs);refine RowW.same (c:=G8 D n) ⟨by simp [G8],λi=>?_,λi hi=>?_⟩ hs.row hs.par
 ·by_cases c1:i=1
  ·subst c1;simp [G8,uI]
  ·simp [G8,uI,c1]
 ·obtain ⟨_,_,n8,_⟩:=J5.1 hm;simp [G8] at hi;omega
theorem D6Q {c:Cl} {a:Int} (hl:∀ i,M7 ((c.lnk i).getD 0)=true) (h:MayC c):MayC (Z7 c a):=by
 unfold Z7;split
 ·rename_i h1;refine ⟨λx hx=>?_,h.par,h.bm,h.md⟩;rcases C6N hx with h2 | h2
  ·exact h.ino x h2
  ·have hin:c.ino.getD a.toNat []∈c.ino:=by
    by_cases hl:a.toNat<c.ino.length
    ·rw [E47,E40 hl];exact E5F hl
    ·rw [E47 (l:=c.ino),E5C (by omega)] at h1;simp at h1
   obtain ⟨h3,h4⟩:=h.ino _ hin;generalize c.ino.getD a.toNat []=y at *;rw [h2]
   match y,h3 with
   | [y0,y1,y2,y3,y4,y5,y6,y7,y8,y9,y10],_ =>
    have e:y0=1:=h1;subst e;have h5:A2v 1 y1 y2 y3 [y4,y5,y6,y7,y8,y9,y10]=true:=h4;refine ⟨rfl,?_⟩;show A2v 1 ((c.lnk a).getD 0) y2 y3 [y4,y5,y6,y7,y8,y9,y10]=true;unfold A2v at h5 ⊢;simp only [E42] at h5 ⊢;exact ⟨h5.1,hl a,h5.2.2⟩
 ·exact h
theorem A6E {c:Cl} {a:Int}:(Z7 c a).row=c.row/\(Z7 c a).taken=c.taken/\(Z7 c a).blocks=c.blocks/\(Z7 c a).made=c.made/\(Z7 c a).lost=c.lost/\(Z7 c a).lnk=c.lnk/\(Z7 c a).par=c.par:=by
 unfold Z7;split<;>exact ⟨rfl,rfl,rfl,rfl,rfl,rfl,rfl⟩
theorem wQ:∀ {L:List Int} {c:Cl},(S3 c L).row=c.row/\(S3 c L).taken=c.taken/\(S3 c L).blocks=c.blocks/\(S3 c L).made=c.made/\(S3 c L).lost=c.lost/\(S3 c L).lnk=c.lnk/\(S3 c L).par=c.par
 | [],c=>⟨rfl,rfl,rfl,rfl,rfl,rfl,rfl⟩
 | a::L,c=>by
  obtain ⟨a1,a2,a3,a4,a5,a6,a7⟩:=wQ (L:=L) (c:=Z7 c a);obtain ⟨b1,b2,b3,b4,b5,b6,b7⟩:=A6E (c:=c) (a:=a);exact ⟨a1.trans b1,a2.trans b2,a3.trans b3,a4.trans b4,a5.trans b5,a6.trans b6,a7.trans b7⟩
theorem C6J:∀ {L:List Int} {c:Cl},(∀ i,M7 ((c.lnk i).getD 0)=true)->MayC c->MayC (S3 c L)
 | [],_,_,h=>h
 | a::L,c,hl,h=>C6J (L:=L) (c:=Z7 c a) (by rw [(A6E (c:=c) (a:=a)).2.2.2.2.2.1];exact hl) (D6Q hl h)
theorem D4n (hD:okD D) (hm:R4 D.length n=true):MayC (U1 D n):=by
 obtain ⟨h1,h2,_⟩:=zC hD hm;refine C6J (λi=>?_) (D4o hD hm);rw [B0Z];have:=h2.lnk i;omega
theorem D8Y {c:Cl} {k:Nat}:(pI c k).row=c.row:=ownR_same.row
theorem C9K (hD:okD D) (hm:R4 D.length n=true):ImgOk D n (U1 D n):=by
 obtain ⟨h1,h2,h3,h4,h5⟩:=zC hD hm;obtain ⟨_,_,_,n128,_⟩:=J5.1 hm;have hc:=D4n hD hm;obtain ⟨s1,s2,s3,s4,s5,s6,s7⟩:=wQ (L:=(iL D n).row) (c:=iL D n);have hr:1<=(iL D n).row.length:=by
  have:(pI (G8 D n) (kI D.length n).toNat).row.length<=(iL D n).row.length:=D1L;rw [D8Y] at this;simpa [G8] using this
 refine ⟨?_,h5,hc.ino,by rw [h4];omega,hc.bm,?_,hc.md⟩
 ·show 0<(S3 _ _).row.length;rw [s1];omega
 ·show (S3 _ _).blocks.length<=_;rw [s3];have:=h2.blocks;omega
theorem B2y {m:Int} {f:Cell} {h:A6} {cs:List Cell} (hD:okD D) (hv:IsView h f D) (hm:R4 D.length n=true) (hc:IsCl h cs (U1 D n)) :
  R3 [.a (vwC D.length n m f),.a cs] h=some (sV h.length 0 D.length 256,h++[rT (D1 (B4M D n (U1 D n)))]) :=
 C5V hD hv hm hc (C9K hD hm)
end
end
section
def B0M:List Int->List (List UInt8)->Int->List UInt8->List UInt8
 | no::l,b::m,x,a=>B0M l m x (if no=x then b else a)
 | _,_,_,a=>a
def C8Y (ino:List (List Int)) (b:Nat):Nat->Nat->List UInt8->List UInt8
 | 0,_,a=>a
 | e+1,k,a=>C8Y ino b e (k+1) (I6 a (32*k) (A6A (ino.getD (b+k) [])))
def B7J (D:Dev) (n:Int) (c:Cl) (i:Nat):List UInt8 :=
 if sE D.length n i=3 then C8Y c.ino (8*(i-2)+1) 8 0 (zeros 256) else B0M c.blocks c.made i (D.getD i [])
theorem B7B {O:Dev} {no:Int} {b:List UInt8} {i:Nat} (hi:i<O.length):(zP O no b)[i]?=if no=i then some b else O[i]? := by
 unfold zP;by_cases h:0<=no/\no<O.length
 ·rw [if_pos h,List.getElem?_set];by_cases e:no=i
  ·rw [if_pos (by omega),if_pos (by omega),if_pos e]
  ·rw [if_neg (by omega),if_neg e]
 ·rw [if_neg h,if_neg (by omega)]
theorem D0k {i:Nat}:∀ {l:List Int} {m:List (List UInt8)} {O:Dev},i<O.length->(C1M O l m)[i]?=(O[i]?).map (B0M l m i)
 | [],_,O,hi=>by rw [B9V,E40 hi];rfl
 | _::_,[],O,hi=>by rw [E40 hi];exact E40 hi
 | no::l,b::m,O,hi=>by
  have ih:=D0k (i:=i) (l:=l) (m:=m) (O:=zP O no b) (by rw [cQ];exact hi);rw [B7B hi] at ih;refine ih.trans ?_;rw [E40 hi];split<;>rename_i e
  ·show some _=some (B0M l m i (if no=i then b else O[i]));rw [if_pos e]
  ·show some _=some (B0M l m i (if no=i then b else O[i]));rw [if_neg e]
theorem C7G {i:Nat}:∀ {e:Nat} {no:Int} {O:Dev},i<O.length->(B44 O no e)[i]?=if no<=i/\i<no+e then some (zeros 256) else O[i]?
 | 0,no,O,hi=>by rw [if_neg (by omega)];rfl
 | e+1,no,O,hi=>by
  have ih:=C7G (i:=i) (e:=e) (no:=no+1) (O:=zP O no (zeros 256)) (by rw [cQ];exact hi);rw [B7B hi] at ih;refine ih.trans ?_;by_cases h1:no=i
  ·rw [if_neg (by omega),if_pos h1,if_pos (by omega)]
  ·rw [if_neg h1];by_cases h2:no+1<=i/\i<no+1+e
   ·rw [if_pos h2,if_pos (by omega)]
   ·rw [if_neg h2,if_neg (by omega)]
def stI (b n:Int) (j:Nat) (i:Nat) (x:List Int) (a:List UInt8):List UInt8 :=
 if Q7 b n i=true/\V4 b n i=j then I6 a (32*(bR b n i).toNat) (A6A x) else a
def foldI (b n:Int) (j:Nat):Nat->List (List Int)->List UInt8->List UInt8
 | _,[],a=>a
 | i,x::l,a=>foldI b n j (i+1) l (stI b n j i x a)
theorem C94 {n:Int} {j:Nat} (hn:n<=128):∀ {l:List (List Int)} {i:Nat} {O:Dev},okD O->(∀ x∈l,x.length=11)->j<O.length->(B7f n O i l)[j]?=(O[j]?).map (foldI O.length n j i l)
 | [],_,O,h,_,hj=>by rw [E40 hj];exact E40 hj
 | x::l,i,O,h,hx,hj=>by
  obtain ⟨h1,h2⟩:=D1w (n:=n) (i:=i) h (hx x (E5n ..)) hn;have ih:=C94 (n:=n) (j:=j) hn (l:=l) (i:=i+1) (O:=B9O n O i x) h1 (λy hy=>hx y (E5m _ hy)) (by rw [h2];exact hj);rw [h2] at ih;refine ih.trans ?_;have e:(B9O n O i x)[j]?=some (stI O.length n j i x O[j]):=by
   unfold B9O stI;cases hc:Q7 O.length n i with
   | false=>rw [if_neg (by decide),if_neg (λe=>by cases e.1)];exact E40 hj
   | true =>
    rw [if_pos rfl,B7B hj];by_cases e:V4 O.length n i=j
    ·rw [if_pos e,if_pos ⟨rfl,e⟩,e,B9y hj]
    ·rw [if_neg e,if_neg (λq=>e q.2)];exact E40 hj
  rw [e,E40 hj];rfl
section
variable {b n:Int} {j:Nat}
theorem A6v:∀ {l m:List (List Int)} {i:Nat} {a:List UInt8},foldI b n j i (l++m) a=foldI b n j (i+l.length) m (foldI b n j i l a)
 | [],m,i,a=>rfl
 | x::l,m,i,a=>by
  show foldI b n j (i+1) (l++m) _=foldI b n j (i+(l.length+1)) m (foldI b n j (i+1) l _);rw [A6v,show i+1+l.length=i+(l.length+1) by omega]
theorem A6w:∀ {l:List (List Int)} {i:Nat} {a:List UInt8},(∀ k:Nat,i<=k->k<i+l.length->¬ (Q7 b n k=true/\V4 b n k=j))->foldI b n j i l a=a
 | [],i,a,_=>rfl
 | x::l,i,a,h=>by
  have e:stI b n j i x a=a:=by unfold stI;rw [if_neg (h i (E44 _) (by simp))]
  show foldI b n j (i+1) l (stI b n j i x a)=a;rw [e];exact A6w λk h1 h2=>h k (by omega) (by simp at h2 ⊢;omega)
theorem C9Y (hm:R4 b n=true) (hj:2<=j) (hn:8*(j-2)+8<=n.toNat) {ino:List (List Int)} :
  ∀ {e k:Nat} {a:List UInt8},k+e=8->8*(j-2)+9<=ino.length->foldI b n j (8*(j-2)+1+k) ((ino.drop (8*(j-2)+1+k)).take e) a=C8Y ino (8*(j-2)+1) e k a
 | 0,k,a,_,_=>by rw [E5X];rfl
 | e+1,k,a,hk,hl=>by
  have U8:8*(j-2)+1+k<ino.length:=by omega
  rw [E46 U8,List.take_succ_cons];obtain ⟨_,_,n8,_⟩:=J5.1 hm;have hi:Q7 b n ((8*(j-2)+1+k:Nat):Int)=true:=kT.2 ⟨hm,by omega,by omega⟩;have hw:V4 b n ((8*(j-2)+1+k:Nat):Int)=j:=by unfold V4;rw [hi];simp only [cond_true];omega
  have hk2:(bR b n ((8*(j-2)+1+k:Nat):Int)).toNat=k:=by unfold bR;rw [hi];simp only [cond_true];omega
  have es:stI b n j (8*(j-2)+1+k) ino[8*(j-2)+1+k] a=I6 a (32*k) (A6A (ino.getD (8*(j-2)+1+k) [])):=by
   unfold stI;rw [if_pos ⟨hi,hw⟩,hk2,E47,E40 U8];rfl
  show foldI b n j (8*(j-2)+1+k+1) _ (stI b n j _ _ a)=C8Y ino (8*(j-2)+1) e (k+1) _;rw [es];exact C9Y hm hj hn (k:=k+1) (by omega) hl
end
theorem E2G {l:List (List Int)} {q:Nat}:l=l.take q++((l.drop q).take 8++l.drop (q+8)):=by
 have e:l.drop (q+8)=(l.drop q).drop 8:=by rw [E5W]
 rw [e,List.take_append_drop,List.take_append_drop]
theorem D8x {D:Dev} {n:Int} {c:Cl} {i:Nat} (hD:okD D) (hm:R4 D.length n=true) (ok:ImgOk D n c) (P6:c.ino.length=(n+1).toNat) (hi:i<D.length) :
  (B4M D n c)[i]?=some (if i=1 then eQ (T6 0 c.taken) else B7J D n c i):=by
 obtain ⟨b16,b512,n8,n128,nm8,nb⟩:=J5.1 hm;have hx:∀ x∈c.ino,x.length=11:=λx hx=>(ok.ino x hx).1
 obtain ⟨ok1,l1⟩:=B0N (l:=c.blocks) (m:=c.made) hD ok.md;obtain ⟨ok2,l2⟩:=A44 (e:=(A1i D.length n).toNat) (no:=rQ D.length n) ok1;obtain ⟨ok3,l3⟩:=B0x (n:=n) n128 (l:=c.ino) (i:=0) ok2 hx;have eF:rQ D.length n=2:=by unfold rQ;rw [hm];rfl
 have eN:A1i D.length n=n/8:=by unfold A1i;rw [hm];rfl
 unfold B4M;rw [B7B (by rw [l3,l2,l1];exact hi)];by_cases h1:i=1
 ·rw [if_pos (by omega),if_pos h1]
 ·rw [if_neg (by omega),if_neg h1,C94 n128 ok2 hx (by rw [l2,l1];exact hi),l2,l1,C7G (by rw [l1];exact hi),D0k hi,E40 hi,eF,eN];unfold B7J;have eD:D.getD i []=D[i]:=by rw [E47,E40 hi];rfl
  by_cases ha:sE D.length n i=3
  ·have h3:2<=i/\((i:Int)-2)*8<n:=by
    unfold sE at ha;split at ha
    ·split at ha
     ·omega
     ·split at ha<;>omega
    ·omega
   rw [if_pos ha,if_pos (by omega)];have hs:c.ino=c.ino.take (8*(i-2)+1)++((c.ino.drop (8*(i-2)+1)).take 8++c.ino.drop (8*(i-2)+1+8)):=E2G;show some (foldI D.length n i 0 c.ino (zeros 256))=_;rw [hs,A6v,A6v];have t1:(c.ino.take (8*(i-2)+1)).length=8*(i-2)+1:=by rw [E5q];omega
   have t2:((c.ino.drop (8*(i-2)+1)).take 8).length=8:=by rw [E5q,List.length_drop];omega
   rw [A6w (l:=c.ino.take (8*(i-2)+1)),t1,E5l,t2]
   ·have:=C9Y (b:=D.length) (n:=n) (j:=i) hm h3.1 (by omega) (ino:=c.ino) (e:=8) (k:=0) (a:=zeros 256) rfl (by omega);rw [Nat.add_zero] at this;rw [this,A6w,<-hs];intro k k1 k2 q;have q2:=q.2;unfold V4 at q2;rw [q.1] at q2;simp only [cond_true] at q2;omega
   ·intro k k1 k2 q;have q2:=q.2;unfold V4 at q2;rw [q.1] at q2;simp only [cond_true] at q2;rw [t1] at k2;have:=(kT.1 q.1).2.1;omega
  ·rw [if_neg ha,if_neg (λq=>ha ?_)]
   ·show some (foldI D.length n i 0 c.ino _)=_;rw [A6w,eD];intro k k1 k2 q;refine ha ?_;have q2:=q.2;unfold V4 at q2;rw [q.1] at q2;simp only [cond_true] at q2;obtain ⟨_,q3,q4⟩:=kT.1 q.1;unfold sE;rw [if_pos ⟨hm,by omega,by omega⟩,if_neg (by omega),if_pos (by omega)]
   ·unfold sE;rw [if_pos ⟨hm,by omega,by omega⟩,if_neg (by omega),if_pos (by omega)]
end
section
def A6f (b:List UInt8) (i:Nat):List UInt8:=b.set (i/8) (b.getD (i/8) 0+UInt8.ofNat (2 ^ (i%8)))
theorem C03 {b:List UInt8} {i:Nat}:(A6f b i).length=b.length:=by simp [A6f]
theorem C04 {l:List Nat}:∀ {b:List UInt8},(l.foldl A6f b).length=b.length:=by
 induction l with
 | nil=>intro b;rfl
 | cons x l ih=>intro b;rw [List.foldl_cons,ih,C03]
theorem C7n:∀ {l:List Bool} {i k:Nat},T6 i (l++E41 k false)=T6 i l
 | [],i,0=>rfl
 | [],i,k+1=>by
  have ih:=C7n (l:=[]) (i:=i+1) (k:=k);rw [E5g] at ih ⊢;rw [E5p];show (if false=true then _ else T6 (i+1) (E41 k false))=_;rw [if_neg (by decide),ih];rfl
 | b::l,i,k=>by
  have ih:=C7n (l:=l) (i:=i+1) (k:=k);show (if b=true then i::T6 (i+1) (l++E41 k false) else T6 (i+1) (l++E41 k false))=(if b=true then i::T6 (i+1) l else T6 (i+1) l);rw [ih]
theorem D0y {b:Bool}:∀ {l:List Bool} {i:Nat},T6 i (l++[b])=T6 i l++(if b=true then [i+l.length] else [])
 | [],i=>by cases b<;>rfl
 | x::l,i=>by
  have ih:=D0y (b:=b) (l:=l) (i:=i+1);show (if x=true then i::T6 (i+1) (l++[b]) else T6 (i+1) (l++[b]))=(if x=true then i::T6 (i+1) l else T6 (i+1) l)++_;rw [ih,E5a,show i+1+l.length=i+(l.length+1) by omega];cases x<;>rfl
theorem C5E:∀ {l:List Bool} {A:List Bool} {i m:Nat},A.length=i->l.length<=m->(T6 i l).foldl (λb x=>b.set x true) (A++E41 m false)=A++l++E41 (m-l.length) false
 | [],A,i,m,_,_=>by simp [T6]
 | b::l,A,i,m,hA,hm=>by
  obtain ⟨m,rfl⟩:∃ m',m=m'+1:=⟨m-1,by simp at hm;omega⟩;have hm':l.length<=m:=by simp at hm;omega
  have e0:A++E41 (m+1) false=(A++[false])++E41 m false:=by rw [E5p,E45];rfl
  have e1:(A++E41 (m+1) false).set i true=(A++[true])++E41 m false:=by
   rw [E5p,<-hA,E5A _ _ (E44 _),E5K,E45];rfl
  have em:m+1-(b::l).length=m-l.length:=by simp
  rw [em];cases b with
  | true =>
   have ih:=C5E (l:=l) (A:=A++[true]) (i:=i+1) (m:=m) (by simp [hA]) hm';show (T6 (i+1) l).foldl _ ((A++E41 (m+1) false).set i true)=_;rw [e1,ih];simp
  | false =>
   have ih:=C5E (l:=l) (A:=A++[false]) (i:=i+1) (m:=m) (by simp [hA]) hm';show (T6 (i+1) l).foldl _ (A++E41 (m+1) false)=_;rw [e0,ih];simp
def InvB (i:Nat) (b:List UInt8):Prop:=∀ q,(b.getD q 0).toNat<2 ^ (i-8*q)
theorem InvB.more {i:Nat} {b:List UInt8} (h:InvB i b):InvB (i+1) b:=λq=>Nat.lt_of_lt_of_le (h q) (Nat.pow_le_pow_right (by omega) (by omega))
theorem D9I {i:Nat} {b:List UInt8} (h:InvB i b):A6f b i=rP b i:=by
 unfold A6f rP
 congr 1
 have h1:=h (i/8);rw [show i-8*(i/8)=i%8 by omega] at h1;have e:=Nat.two_pow_add_eq_or_of_lt h1 1;rw [Nat.mul_one] at e;have hl:=B0D i;unfold A1b at hl ⊢;refine UInt8.toNat_inj.1 ?_;rw [UInt8.toNat_add,UInt8.toNat_ofNat',UInt8.toNat_ofNat',Nat.or_comm,<-e,Nat.add_mod_mod,Nat.add_comm]
theorem InvB.set {i:Nat} {b:List UInt8} (h:InvB i b):InvB (i+1) (rP b i):=by
 intro q;unfold rP;rw [E47,List.getElem?_set];by_cases e:i/8=q
 ·rw [if_pos e];by_cases hl:i/8<b.length
  ·rw [if_pos hl,E5G,UInt8.toNat_ofNat'];have h1:=h (i/8);rw [show i-8*(i/8)=i%8 by omega] at h1;have e2:=Nat.two_pow_add_eq_or_of_lt h1 1;rw [Nat.mul_one] at e2;have hm:A1b i=2 ^ (i%8):=rfl;have hlm:=B0D i;rw [hm,Nat.or_comm,<-e2];have e3:2 ^ (i+1-8*q)=2 ^ (i%8)*2:=by rw [<-Nat.pow_succ];congr 1;omega
   rw [e3];exact Nat.lt_of_le_of_lt (Nat.mod_le _ _) (by omega)
  ·rw [if_neg hl];exact Nat.pow_pos (by omega)
 ·rw [if_neg e,<-E47];exact h.more q
theorem D07:∀ {l:List Bool} {i:Nat} {b:List UInt8},InvB i b->(T6 i l).foldl A6f b=(T6 i l).foldl rP b
 | [],i,b,_=>rfl
 | true::l,i,b,h=>by
  show (T6 (i+1) l).foldl A6f (A6f b i)=(T6 (i+1) l).foldl rP (rP b i);rw [D9I h];exact D07 h.set
 | false::l,i,b,h=>D07 (l:=l) (i:=i+1) h.more
def A7g (S:List Nat):List Bool:=S.foldl (λb x=>b.set x true) (E41 2048 false)
theorem A6h {S:List Nat}:(A7g S).length=2048:=by
 have:∀ (S:List Nat) (b:List Bool),(S.foldl (λb x=>b.set x true) b).length=b.length:=by
  intro S
  induction S with
  | nil=>intro b;rfl
  | cons x S ih=>intro b;rw [List.foldl_cons,ih,E5w]
 unfold A7g;rw [this,E5r]
theorem D8K {l:List Bool} (hl:l.length<=2048):(T6 0 (A7g (T6 0 l))).foldl A6f (zeros 256)=eQ (T6 0 l):=by
 have e:=C5E (l:=l) (A:=[]) (i:=0) (m:=2048) rfl hl;rw [E5g,E5g] at e;unfold A7g eQ;rw [e,C7n];refine D07 λq=>?_
 have:((zeros 256).getD q 0)=0:=by
  rw [E47];unfold zeros;rw [List.getElem?_replicate];split<;>rfl
 rw [this];exact Nat.pow_pos (by omega)
section
variable {g:A6} {x0:Val} {l:List Bool} {q:Nat}
theorem D3C {i k:Nat} (h:k<=i%8):2 ^ k<256:=by
 have h8:i%8<8:=Nat.mod_lt _ (by omega);have:(2:Nat) ^ k<=2 ^ 7:=Nat.pow_le_pow_right (by omega) (by omega);omega
theorem E0y {b:List UInt8} {i m:Nat} (hb:b.length=256) (hi:i<2048):∀ e k M:Nat,k+e=i%8->e<M ->
  B2G q m M x0 (sV (g.length+1) 0 256 1) (iV (i:Int)) (iV ((2 ^ k:Nat):Int)) (iV (k:Int)) (g++[rT [],rT (A5 b)]) =
   B2E q m x0 (sV (g.length+1) 0 256 1) (iV (i:Int)) (g++[rT [],rT (A5 (A6f b i))]):=by
 intro e
 induction e with
 | zero =>
  intro k M hk hM;obtain ⟨M,rfl⟩:∃ M',M=M'+1:=⟨M-1,by omega⟩;have ek:k=i%8:=by omega
  subst ek;have r1:N5 .rem (iV (i:Int)) (iV 8)=some (iV ((i%8:Nat):Int)):=by
   rw [A7M (by omega) (by omega)];congr 3
  have q1:N5 .quo (iV (i:Int)) (iV 8)=some (iV ((i/8:Nat):Int)):=by
   rw [zQ (by omega) (by omega) (by omega)];congr 3
  have U8:i/8<b.length:=by omega
  have ad:D5 1 (sV (g.length+1) 0 256 1) (iV ((i/8:Nat):Int))=some (pV (g.length+1) (i/8)):=by rw [C4 (by omega)];simp
  have l1:(A5 b)[i/8]?=some (.i .u8 b[i/8].toNat):=by rw [bB,E40 U8];rfl
  have hp:=D3C (i:=i) (E44 _);have w1:IntKind.wrap .u8 ((2 ^ (i%8):Nat):Int)=((2 ^ (i%8):Nat):Int):=by
   generalize 2 ^ (i%8)=y at *;exact wrap_u8 (by omega) (by omega)
  have eb:b.getD (i/8) 0=b[i/8]:=by rw [E47,E40 U8];rfl
  have w2:IntKind.wrap .u8 ((b[i/8].toNat:Int)+((2 ^ (i%8):Nat):Int))=(((b.getD (i/8) 0+UInt8.ofNat (2 ^ (i%8))).toNat:Nat):Int):=by
   rw [eb,pD,UInt8.toNat_add,UInt8.toNat_ofNat',Nat.add_mod_mod];generalize 2 ^ (i%8)=y at *;simp
  have es:(A5 b).set (i/8) (.i .u8 (((b.getD (i/8) 0+UInt8.ofNat (2 ^ (i%8))).toNat:Nat):Int))=A5 (A6f b i):=by rw [gJ];rfl
  have s1:=C3r (cs:=A5 b) (off:=i/8) (x:=.i .u8 (((b.getD (i/8) 0+UInt8.ofNat (2 ^ (i%8))).toNat:Nat):Int)) (by rw [A4];omega);rw [es] at s1;have c0:¬ ((i%8:Nat):Int)<((i%8:Nat):Int):=by omega
  rw [A4y];generalize (b.getD (i/8) 0+UInt8.ofNat (2 ^ (i%8))).toNat=z at *;generalize ((2 ^ (i%8):Nat):Int)=y at *;generalize A5 b=B at *;generalize A5 (A6f b i)=B' at *;simp only [esc,dY,tQ,A2s,r1,c0,q1,ad,l1,w1,w2,s1]
 | succ e ih =>
  intro k M hk hM;obtain ⟨M,rfl⟩:∃ M',M=M'+1:=⟨M-1,by omega⟩;have r1:N5 .rem (iV (i:Int)) (iV 8)=some (iV ((i%8:Nat):Int)):=by
   rw [A7M (by omega) (by omega)];congr 3
  have c0:(k:Int)<((i%8:Nat):Int):=by omega
  have hp:=D3C (i:=i) (k:=k) (by omega);have w2:IntKind.wrap .i64 (((2 ^ k:Nat):Int)*2)=((2 ^ (k+1):Nat):Int):=by
   rw [Nat.pow_succ];generalize 2 ^ k=y at *;rw [wrap_i64 (by omega) (by omega)];omega
  have w1:=C6 (show k+1<9223372036854775808 by omega);rw [A4y];simp only [esc,r1,c0,w2,w1];exact ih (k+1) M (by omega) (by omega)
theorem E0x (hx:Has g x0 1 2048 (I7 l)) (hl:l.length=2048):∀ (e i M:Nat) (b:List UInt8),i+e=2048->e<M->b.length=256->8<q ->
  B2F q M x0 (sV (g.length+1) 0 256 1) (iV (i:Int)) (g++[rT [],rT (A5 b)]) =
   some (sV (g.length+1) 0 256 1,g++[rT [],rT (A5 ((T6 i (l.drop i)).foldl A6f b))]):=by
 intro e
 induction e with
 | zero =>
  intro i M b hi hM hb hq;obtain ⟨M,rfl⟩:∃ M',M=M'+1:=⟨M-1,by omega⟩;have ei:i=2048:=by omega
  subst ei;have hlen:=hx.len;have c0:¬ ((2048:Nat):Int)<((2048:Nat):Int):=by omega
  have ed:l.drop 2048=[]:=E5c (by omega);rw [tS,ed];simp only [esc,hlen,c0];rfl
 | succ e ih =>
  intro i M b hi hM hb hq;obtain ⟨M,rfl⟩:∃ M',M=M'+1:=⟨M-1,by omega⟩;have hlen:=hx.len;have c0:((i:Nat):Int)<((2048:Nat):Int):=by omega
  have P6:i<l.length:=by omega
  obtain ⟨id,off,rfl,hid,hA,_⟩:=(hx.more [rT [],rT (A5 b)]).sl (by omega);have ad:D5 1 (sV id off 2048 1) (iV (i:Int))=some (pV id (off+i)):=by rw [C4 (by omega)];simp
  have h1:=hA i (.b l[i]) (by simp [I7,P6]);have w1:=C6 (show i+1<9223372036854775808 by omega);rw [E46 P6];cases hb2:l[i] with
  | true =>
   rw [hb2] at h1;have e1:=E0y (g:=g) (x0:=sV id off 2048 1) (q:=q) (m:=M) hb (show i<2048 by omega) (i%8) 0 q (by omega) (by omega);rw [Nat.pow_zero] at e1;rw [tS];simp only [esc,hlen,c0,ad,h1];refine e1.trans ?_;rw [A4x];simp only [esc,w1];exact ih (i+1) M (A6f b i) (by omega) (by omega) (by rw [C03,hb]) hq
  | false =>
   rw [hb2] at h1;rw [tS];simp only [esc,hlen,c0,ad,h1];rw [A4x];simp only [esc,w1];exact ih (i+1) M b (by omega) (by omega) hb hq
theorem C7e {h:A6} (hx:Has h x0 1 2048 (I7 l)) (hl:l.length=2048):A5P [x0] h=some (sV h.length 0 256 1,h++[rT (A5 ((T6 0 l).foldl A6f (zeros 256)))]):=by
 have e:=E0x (q:=2049) hx.ro hl 2048 0 2049 (zeros 256) (by omega) (by omega) zeros_length (by omega);have q1:N5 .quo (iV ((2048:Nat):Int)) (iV 8)=some (iV 256):=by
  rw [zQ (by omega) (by omega) (by omega)];congr 3
 have a1:A1m (iV 256) (iV 256)=some 256:=rfl;have hlen:=hx.len;refine B8B (n:=2049) (h2:=ro h++[rT [],rT (A5 ((T6 0 l).foldl A6f (zeros 256)))]) (v:=sV ((ro h).length+1) 0 256 1) ?_ ⟨?_,(ro h).length+1,rfl,by rw [E7];omega,?_⟩ (by simp)
 ·rw [C14];simp only [esc,hlen,q1,a1,mP];exact e
 ·rw [A4,C04,zeros_length]
 ·rw [K0];rfl
theorem E2y {S:List Nat} {nv:Nat} (hS:∀ x∈S,x<2048) (hl:S.length<=2048) (hx:Has g x0 1 nv (encI (S.map λx:Nat=>(x:Int)))):∀ (e i M:Nat),i+e=S.length->e<M ->
  ∃ H',B6W q M x0 (sV (g.length+1) 0 2048 1) (iV (i:Int)) (g++[rT [],rT (I7 ((S.take i).foldl (λb x=>b.set x true) (E41 2048 false)))]) =
   some (sV (g.length+2) 0 256 1,H')/\rd H' (g.length+2)=rT (A5 ((T6 0 (A7g S)).foldl A6f (zeros 256))):=by
 intro e;have hnv:S.length=nv:=by
  have:=hx.length;rw [A8,List.length_map] at this;omega
 subst hnv
 induction e with
 | zero =>
  intro i M hi hM;obtain ⟨M,rfl⟩:∃ M',M=M'+1:=⟨M-1,by omega⟩;have ei:i=S.length:=by omega
  subst ei;have hlen:=hx.len;have c0:¬ ((S.length:Nat):Int)<((S.length:Nat):Int):=by omega
  rw [List.take_length];have eb:S.foldl (λb x=>b.set x true) (E41 2048 false)=A7g S:=rfl;rw [eb];have hB:=C7e (x0:=sV (g.length+1) 0 2048 1) (l:=A7g S) (h:=g++[rT [],rT (I7 (A7g S))]) (Has.row (rw:=true) (by rw [K0];rfl) (by rw [I7,List.length_map,A6h]) (B9S _)) A6h;rw [A7o];generalize A5 ((T6 0 (A7g S)).foldl A6f (zeros 256))=Y at *;generalize I7 (A7g S)=B at *;simp only [E43,E5a,E5u,E5l,Nat.reduceAdd,E45,E5x,E5g] at hB;simp only [esc,hlen,c0,Nat.reduceAdd,hB];exact ⟨_,rfl,by rw [K0];rfl⟩
 | succ e ih =>
  intro i M hi hM;obtain ⟨M,rfl⟩:∃ M',M=M'+1:=⟨M-1,by omega⟩;have P6:i<S.length:=by omega
  have hlen:=hx.len;have c0:((i:Nat):Int)<((S.length:Nat):Int):=by omega
  obtain ⟨B,eB⟩:∃ B,B=(S.take i).foldl (λb x=>b.set x true) (E41 2048 false):=⟨_,rfl⟩;have eN:(S.take (i+1)).foldl (λb x=>b.set x true) (E41 2048 false)=B.set S[i] true:=by
   rw [E5f P6,List.foldl_append,<-eB];rfl
  have lB:B.length=2048:=by
   have:=A6h (S:=S.take i);unfold A7g at this;rw [eB];exact this
  obtain ⟨id,off,rfl,hid,hA,_⟩:=(hx.more [rT [],rT (I7 B)]).sl (by omega);have ad:D5 1 (sV id off S.length 1) (iV (i:Int))=some (pV id (off+i)):=by rw [C4 (by omega)];simp
  have h1:=hA i (.i .i64 (S[i]:Int)) (by simp [encI,P6]);have hs:=hS _ (E5F P6);obtain ⟨s,es⟩:∃ s,s=S[i]:=⟨_,rfl⟩;rw [<-es] at h1 hs eN;have w1:=C6 (show i+1<9223372036854775808 by omega);have c1:(s:Int)>=0:=by omega
  have c2:(s:Int)<2048:=by omega
  have a2:D5 1 (sV (g.length+1) 0 2048 1) (iV (s:Int))=some (pV (g.length+1) s):=by rw [C4 hs];simp
  have s1:=C3r (cs:=I7 B) (off:=s) (x:=.b true) (by simp [I7,lB];omega);have e1:(I7 B).set s (.b true)=I7 (B.set s true):=by simp [I7,List.map_set]
  rw [e1] at s1;obtain ⟨H',f1,f2⟩:=ih (i+1) M (by omega) (by omega);refine ⟨H',?_,f2⟩;rw [<-eB];rw [eN] at f1;rw [A7o];generalize I7 B=Y at *;generalize I7 (B.set s true)=Y' at *;simp only [esc,tQ,hlen,c0,ad,h1,c1,c2,a2,s1,C27,w1];exact f1
theorem C8U {h:A6} {S:List Nat} {nv:Nat} (hS:∀ x∈S,x<2048) (hl:S.length<=2048) (hx:Has h x0 1 nv (encI (S.map λx:Nat=>(x:Int)))) :
  A8Z [x0] h=some (sV h.length 0 256 1,h++[rT (A5 ((T6 0 (A7g S)).foldl A6f (zeros 256)))]):=by
 obtain ⟨H',e1,e2⟩:=E2y (q:=2049) hS hl hx.ro S.length 0 2049 (by omega) (by omega);have a1:A1m (iV 2048) (iV 2048)=some 2048:=rfl;have rz:rows [Cell.b false] 2048=I7 (E41 2048 false):=by unfold rows I7;rw [List.map_replicate,List.flatten_replicate_singleton]
 refine C2B (n:=2049) (h2:=H') (v:=sV ((ro h).length+2) 0 256 1) ?_ ⟨?_,(ro h).length+2,rfl,by rw [E7];omega,e2⟩ (by simp)
 ·rw [C34];generalize E41 2048 false=Z at *;simp only [esc,a1,rz];exact e1
 ·rw [A4,C04,zeros_length]
end
end
theorem C7l (s:List UInt8) (hs:s.length<9223372036854775807) (n:Nat) (h:A6):∀ d i m:Nat,i+d=s.length->d<m ->
  B2D n m (.c (.s s)) (iV i) h=some (bV ((s.drop i).all bD),h)
 | d,i,0,_,hm=>by omega
 | 0,i,m+1,hi,hm=>by
  have c0:¬ ((i:Int)<s.length):=by omega
  rw [A4w,show s.drop i=[] from E5c (by omega)];simp only [esc,c0,List.all_nil]
 | d+1,i,m+1,hi,hm=>by
  have h1:(i:Int)<s.length:=by omega
  have h2:i<s.length:=by omega
  have ih:=C7l s hs n h d (i+1) m (by omega) (by omega);rw [A4w,E46 h2,E5J];by_cases c1:(s[i].toNat:Int)=0
  ·have f:bD s[i]=false:=by unfold bD;rw [decide_eq_true c1];rfl
   simp only [esc,h1,jI h2,c1,f,E48]
  ·by_cases c2:(s[i].toNat:Int)=47
   ·have f:bD s[i]=false:=by unfold bD;rw [decide_eq_true c2];simp
    simp only [esc,h1,jI h2,c1,c2,f,E48,Int.reduceEq]
   ·have f:bD s[i]=true:=by unfold bD;rw [decide_eq_false c1,decide_eq_false c2];rfl
    simp only [esc,h1,jI h2,c1,c2,f,E5d,C6 (show i+1<9223372036854775808 by omega)];exact ih
theorem right_eq {s:List UInt8} (hs:s.length<9223372036854775807) (h:A6):A5O [.c (.s s)] h=some (bV (U3 s),h):=by
 refine B53 (n:=s.length+1) (h2:=ro h) ?_ rfl;rw [C13];have hl:=C7l s hs (s.length+1) (ro h) s.length 0 (s.length+1) (by omega) (by omega);rw [E5k] at hl;unfold U3;by_cases c1:(s.length:Int)<1
 ·simp only [esc,c1,Bool.true_or,E48]
 ·by_cases c2:(24:Int)<s.length
  ·simp only [esc,c1,c2,Bool.true_or,E48,Bool.or_true]
  ·by_cases c3:s=[46]
   ·subst c3;simp only [esc];rfl
   ·by_cases c4:s=[46,46]
    ·subst c4;simp only [esc];rfl
    ·simp only [esc,c1,c2,c3,c4,Bool.or_self,E5d];exact hl
theorem D4R {s:List UInt8} (hs:s.length<=24):gQ s s.length=UInt8.ofNat s.length::(s++zeros 24).take 24:=by
 unfold gQ;refine congrArg (UInt8.ofNat s.length :: ·) ?_;rw [List.take_append,E5b (E44 _),E5b hs];unfold zeros;rw [List.take_replicate,E5U (by omega)]
theorem B7K {g:A6} (s:List UInt8) (hs:s.length<=24) (k:Nat):∀ d i m h id,i+d=24->d<m->Low g.length g h->g.length<=id->rd h id=rT (A5 (UInt8.ofNat s.length::(s++zeros 24).take i)) ->
  ∃ v' h',B6T k m (.c (.s s)) (sV id 0 (i+1) 1) (iV i) h=some (v',h')/\Out g.length h' v' 1 25 (A5 (gQ s s.length))
 | d,i,0,h,id,_,hm,_,_,_=>by omega
 | 0,i,m+1,h,id,hi,hm,hlow,hb,hr=>by
  have e:i=24:=by omega
  subst e;have h1':¬ ((24:Nat):Int)<24:=by omega
  rw [<-D4R hs] at hr;rw [A7l];exact ⟨_,_,by simp only [esc,h1']<;>rfl,by rw [A4,mM (E44 _) hs],id,rfl,hb,hr⟩
 | d+1,i,m+1,h,id,hi,hm,hlow,hb,hr=>by
  have hlen:(s++zeros 24).length=s.length+24:=by rw [E43,zeros_length]
  have E37:i<(s++zeros 24).length:=by omega
  have c1:(i:Int)<24:=by omega
  have step:∀ x:UInt8,(s++zeros 24)[i]=x->∃ v' h',bnd (jK (h++[rT [.i .u8 x.toNat]]) 1 (sV id 0 (i+1) 1) (sV h.length 0 1 1)) (λp=>B6S k m (.c (.s s)) p.1 (iV i) p.2)=some (v',h')/\Out g.length h' v' 1 25 (A5 (gQ s s.length)):=by
   intro x hx;obtain ⟨h',a1,a2,a3,a4,a5⟩:=push (ys:=[.i .u8 x.toNat]) (sz:=1) (n:=i+1) hlow hr (by rw [A4,E5a,E5q];omega) hb rfl (by omega) (by omega);have e4:A5 (UInt8.ofNat s.length::(s++zeros 24).take i)++[Cell.i .u8 x.toNat]=A5 (UInt8.ofNat s.length::(s++zeros 24).take (i+1)):=by
    rw [E5f E37,hx,<-E5x,J9];rfl
   rw [e4] at a2;obtain ⟨v',h'',b1,b2⟩:=B7K s hs k d (i+1) m h' (h.length+1) (by omega) (by omega) a3 a4 a2;refine ⟨v',h'',?_,b2⟩;simp only [esc,a1];rw [C25];simp only [esc,C6 (show i+1<9223372036854775808 by omega)];exact b1
  rw [A7l];by_cases c2:i<s.length
  ·have c2':(i:Int)<s.length:=by omega
   obtain ⟨v',h',b1,b2⟩:=step s[i] (by rw [List.getElem_append_left c2]);have e5:D9 [Cell.i .u8 0] [(0,1,.c (.i .u8 s[i].toNat))]=some [.i .u8 s[i].toNat]:=rfl;exact ⟨v',h',by simp only [esc,c1,c2',jI c2,e5];exact b1,b2⟩
  ·have c2':¬ (i:Int)<s.length:=by omega
   obtain ⟨v',h',b1,b2⟩:=step 0 (by rw [List.getElem_append_right (by omega)];exact List.getElem_replicate _);have e5:D9 [Cell.i .u8 0] [(0,1,.c (.i .u8 0))]=some [.i .u8 (0:UInt8).toNat]:=rfl;exact ⟨v',h',by simp only [esc,c1,c2',e5];exact b1,b2⟩
theorem C7k {s:List UInt8} (hs:s.length<=24) (h:A6):A8V [.c (.s s)] h=some (sV h.length 0 25 1,h++[rT (A5 (gQ s s.length))]):=by
 obtain ⟨v',h',e,ho⟩:=B7K (g:=ro h) s hs 25 24 0 25 (ro h++[rT [],rT (A5 [UInt8.ofNat s.length])]) ((ro h).length+1) (by omega) (by omega) ((Low.refl (E44 _)).new _) (by omega) (by simp);refine C2y (n:=25) (v:=v') (h2:=h') ?_ (by simpa [E7] using ho) (by simp);have e1:IntKind.wrap .u8 (s.length:Int)=((UInt8.ofNat s.length).toNat:Int):=by rw [wrap_u8 (by omega) (by omega),UInt8.toNat_ofNat'];omega
 have e5:D9 [Cell.i .u8 0] [(0,1,.c (.i .u8 (UInt8.ofNat s.length).toNat))]=some (A5 [UInt8.ofNat s.length]):=rfl;rw [C31];simp only [esc,e1,e5];exact e
theorem D12 {v:Val} {nv:Nat} {l:List UInt8} {h:A6} (hv:Has h v 1 nv (A5 l)) (hl:l.length=25) :
  A28 [v] h=some (.t [.c (.s ((cY l).getD [])),.c (.b (cY l).isSome)],h):=by
 have key:∀ g,Has g v 1 nv (A5 l)->∃ g',A2I 0 [v] g=some (.t [.c (.s ((cY l).getD [])),.c (.b (cY l).isSome)],g'):=by
  intro g hv;have hnv:nv=25:=by
   have:l.length=nv:=by simpa [A4] using hv.length
   omega
  subst hnv;have hvl:=hv.len;have hv0:=hv;obtain ⟨id,off,rfl,hid,h1,h2⟩:=hv.sl (by omega);obtain ⟨x,r,rfl⟩:∃ x r,l=x::r:=by
   cases l with
   | nil=>simp at hl
   | cons x r=>exact ⟨x,r,rfl⟩
  have hx:=x.toNat_lt;have a0:D5 1 (sV id off 25 1) (iV 0)=some (pV id (off+0)):=rfl;have l0:=h1 0 (.i .u8 x.toNat) rfl;rw [Nat.add_zero] at l0;have e1:IntKind.wrap .i64 (x.toNat:Int)=x.toNat:=wrap_i64 (by omega) (by omega);rw [B72];unfold cY;simp only [List.headD_cons,List.drop_succ_cons,E5k];by_cases c1:x.toNat<=24
  ·rw [if_pos c1];have c1':¬ (24:Int)<x.toNat:=by omega
   have e2:IntKind.wrap .i64 (1+(x.toNat:Int))=((1+x.toNat:Nat):Int):=by rw [wrap_i64 (by omega) (by omega)];omega
   have e3:=E2F (id:=id) (off:=off) (n:=25) (sz:=1) (a:=1) (b:=1+x.toNat) (by omega) (by omega);rw [show 1+x.toNat-1=x.toNat by omega,Nat.mul_one,show ((1:Nat):Int)=1 from rfl] at e3;have hh:Has g (sV id (off+1) x.toNat 1) 1 x.toNat (A5 (r.take x.toNat)):=by
    rcases hv0 with ⟨e,_⟩ | ⟨gG,off',row,e,hr,g1,g2,g3,g4⟩
    ·cases e
    ·cases e;refine Has.part hr (by omega) ?_ (F0 _);have:(row.cells.drop (off+1)).take (x.toNat*1)=((A5 (x::r)).drop 1).take x.toNat:=by
      rw [<-g3,List.drop_take,E5W,List.take_take]
      congr 1
      omega
     rw [this,C9Q,C9R];rfl
   have hs:(r.take x.toNat).length<9223372036854775807:=by simp;omega
   have mI:(r.take x.toNat).length<=24:=by simp;omega
   cases hf:U3 (r.take x.toNat) with
   | false =>
    rw [if_neg (by simp)];exact ⟨_,by simp only [esc,hvl,a0,l0,e1,c1',e2,E5y,e3,hh.str,right_eq hs,hf,E5Q,E5o]<;>rfl⟩
   | true =>
    have hp:=C7k mI g;have hS:=iE (h:=g++[rT (A5 (gQ (r.take x.toNat) (r.take x.toNat).length))]) (v:=sV g.length 0 25 1) (nv:=25) (l:=gQ (r.take x.toNat) (r.take x.toNat).length) (Has.tr (by simp) (by rw [A4,mM (E44 _) mI]) (F0 _))
     (hv0.more [rT (A5 (gQ (r.take x.toNat) (r.take x.toNat).length))]) (by rw [mM (E44 _) mI];omega)
    have epk:V9 (r.take x.toNat)=gQ (r.take x.toNat) (r.take x.toNat).length:=by unfold V9;rw [hf];rfl
    rw [epk];by_cases c2:gQ (r.take x.toNat) (r.take x.toNat).length=x::r
    ·rw [if_pos ⟨rfl,c2⟩];rw [decide_eq_true c2] at hS;exact ⟨_,by simp only [esc,hvl,a0,l0,e1,c1',e2,E5y,e3,hh.str,right_eq hs,hf,hp,hS,E5G,E5h]<;>rfl⟩
    ·rw [if_neg (λh=>c2 h.2)];rw [decide_eq_false c2] at hS;exact ⟨_,by simp only [esc,hvl,a0,l0,e1,c1',e2,E5y,e3,hh.str,right_eq hs,hf,hp,hS,E5Q,E5o]<;>rfl⟩
  ·rw [if_neg c1];have c1':(24:Int)<x.toNat:=by omega
   exact ⟨_,by simp only [esc,hvl,a0,l0,e1,c1',E5y,E5Q,E5o]<;>rfl⟩
 obtain ⟨g',e⟩:=key (ro h) hv.ro;exact B3N e (by simp)
end Go.Proofs.YtbnkgnfhgbhblaaGreat
namespace Go.Proofs.YtbnkgnfhgbhblaaGreat
open Go Go.Esc
set_option maxRecDepth 100000
noncomputable section
variable (n m m2:Nat) (a0 a1 x0 x1 x5:Val) (h:A6)
def A5c:FD Tryz.prog:=⟨px 0X17c21362a2a818896192f7f62f1f142f4f60362a2a85641d7f61d1f141d4f606101ac61c044c1e2123062ec2112,[.c (.b false)],[],[.tmp 2],[cal A67]⟩
def B3r:=A5c.R
def C7U:=mR B3r A5c (tT []) n [a0] h
def C3G:=A5c.K Tryz.func224
def B3W:=A5c.S
theorem C8f:SOk Tryz.prog 224 B3W:=C3G.sok
theorem C2K:E5 B3r B3W:=C3G.flat
def yK:FD Tryz.prog:=⟨px 0X1782161a13cc31431331231131051a513fc4e1c142125c3162a13cc6111ac361c044c619201ac64c861c1444d601931313b862ec2112,[.c (.i .u8 0)],[],[.tmp 2],[cal gI,cal A8W]⟩
def A5q:=yK.R
def C17:=mR A5q yK (tT []) n [a0] h
def B5m:=yK.K Tryz.func188
def A5T:=yK.S
theorem A68:SOk Tryz.prog 188 A5T:=B5m.sok
theorem B8I:pE A5q A5T:=B5m.out
def A1t:FD Tryz.prog:=⟨px 0X175122821de4825c39354220135122821de0293e83542224675a2a861882bf63a251881af28962a301881af628901887f628961887f41883018836141881af4821883b60672a2a866e2bf6136e1af4826e3b6062bc3c3912a5a18432184231c8221de29182d96113a102293e81962a321ac628907c628967c40006a2a1191874105218c01886114a6803e28697c1916111ac1cd62a301ac629907c628967c4001a11b7641052302942d9241032,[.c (.b false),.c (.b true)],[],[.cellN 4 2,.tmp 5],[cal B2j,cal B8A,cal qD,cal C8f,cal A68,cal dV]⟩
def A8j:=A1t.R
def C39:=mR A8j A1t (tT []) n [a0,a1] h
def C0f:=A1t.K Tryz.func182
def A82:=A1t.S
theorem A83:SOk Tryz.prog 182 A82:=C0f.sok
theorem B8K:E5 A8j A82:=C0f.flat
def oH:FD Tryz.prog:=⟨px 0X174114125c515607c2e1a1318011cc412c0241224362e2a861a24f7f44f364f1f07a4f4f605e2a17385104218c0188221de2962d912e6802a28697c1c161a201ac4e001d11976510521551033070243d617c1e181219510425103351030605101510320314111022,[.c (.b false),.c (.i .i64 (-1))],[],[.tmp 4],[cal A83]⟩
def C0K:=oH.R
def B6X:AtH:=oH.lj 0 n [m] [x0,x1,x5]
def C0V:=tT [⟨2,3,B6X⟩]
def C36:=mR C0K oH C0V n [a0,a1] h
def A7p:=mL oH C0V 0 n [m] [x0,x1,x5] h
def C0d:=oH.K Tryz.func226
def A81:=oH.S
theorem C4Q:SOk Tryz.prog 226 A81:=C0d.sok
theorem B8J:E5 C0K A81:=C0d.flat
def A1s:FD Tryz.prog:=⟨px 0X12801614301ac64ac1f131b12711310419413fc28892889175bc5012103b9102,[.c (.i .u8 98),.c (.i .u8 107),.c (.i .u8 116),.c (.i .u8 33)],[],[.tmp 0],[cal iD]⟩
def A8i:=A1s.R
def C37:=mR A8i A1s (tT []) n [] h
def C0e:=A1s.K Tryz.func186
def A1V:=A1s.S
theorem C4R:SOk Tryz.prog 186 A1V:=C0e.sok
theorem C2J:pE A8i A1V:=C0e.out
end
end Go.Proofs.YtbnkgnfhgbhblaaGreat
namespace Go.Proofs.YtbnkgnfhgbhblaaGreat
open Go Go.Esc
theorem D1Z {s:List UInt8} {n:Int} {h:A6} (hs:s.length<9223372036854775807):B3W [.a [.s s,.i .i64 n]] h=some (bV (A1o s n),h):=by
 have key:∀ g,∃ g',B3r 0 [.a [.s s,.i .i64 n]] g=some (bV (A1o s n),g'):=by
  intro g;have hC:=λh=>right_eq hs h
  rw [C7U];unfold A1o;cases hf:U3 s with
  | false =>
   rw [hf] at hC;exact ⟨_,by simp only [esc,esh,Nat.reduceAdd,Nat.reduceMul,Nat.reduceLT,hC]<;>rfl⟩
  | true =>
   rw [hf] at hC;by_cases c1:1<=n
   ·by_cases c2:n<=128
    ·rw [decide_eq_true c1,decide_eq_true c2];exact ⟨_,by simp only [esc,esh,Nat.reduceAdd,Nat.reduceMul,Nat.reduceLT,hC,c1,c2]<;>rfl⟩
    ·rw [decide_eq_true c1,decide_eq_false c2];exact ⟨_,by simp only [esc,esh,Nat.reduceAdd,Nat.reduceMul,Nat.reduceLT,hC,c1,c2]<;>rfl⟩
   ·rw [decide_eq_false c1];exact ⟨_,by simp only [esc,esh,Nat.reduceAdd,Nat.reduceMul,Nat.reduceLT,hC,c1]<;>rfl⟩
 obtain ⟨g',e⟩:=key (ro h);exact C2K e rfl
theorem D6V {s:List UInt8} {n:Int} (hm:A1o s n=true):U3 s=true:=by
 unfold A1o at hm;simp only [E42] at hm;exact hm.1
theorem B0V {s:List UInt8} {n:Int} {h:A6} (hm:A1o s n=true):A5T [.a [.s s,.i .i64 n]] h=some (sV h.length 0 32 1,h++[rT (A5 (X3 s n))]):=by
 have hf:=D6V hm;have hs:=(bY hf).2;have ep:gQ s s.length=V9 s:=by unfold V9;rw [hf,cond_true]
 have key:∀ g,∃ v g',A5q 0 [.a [.s s,.i .i64 n]] g=some (v,g')/\Out g.length g' v 1 32 (A5 (X3 s n)):=by
  intro g;have hB:=λh=>dB (w:=2) (v:=n) (h:=h) (by omega)
  simp only [E5y] at hB;have hP:=λh=>C7k hs h
  rw [ep] at hP;have ef5:D9 [Cell.i .u8 0,.i .u8 0,.i .u8 0,.i .u8 0,.i .u8 0] [(0,1,.c (.i .u8 0)),(1,1,.c (.i .u8 0)),(2,1,.c (.i .u8 0)),(3,1,.c (.i .u8 0)),(4,1,.c (.i .u8 0))]=some (A5 [0,0,0,0,0]):=rfl;have hpl:(A5 (V9 s)).length=25:=by rw [A4];exact gD
  have hA:=jX (h:=g++[rT [.s s,.i .i64 n],rT [],rT (A5 (A9 2 n)),rT (A5 (V9 s))]) (id:=g.length+2) (jd:=g.length+3) (n:=2) (m:=25) (sz:=1) (cs:=A5 (A9 2 n)) (ys:=A5 (V9 s)) (rw:=true) (by simp) (by simp [A4]) (by simp) (by rw [hpl]) rfl (by omega) (by omega);simp only [E43,E5a,E5u,E5l,E45,E5x,E5g,rD,E5M,E5L,Nat.reduceAdd,<-J9] at hA;have E1Z:(A5 (A9 2 n++V9 s)).length=27*1:=by rw [A4,E43,O7,gD]
  have hA2:=jX (h:=g++[rT [.s s,.i .i64 n],rT [],none,rT (A5 (V9 s)),rT (A5 (A9 2 n++V9 s)),rT (A5 [0,0,0,0,0])]) (id:=g.length+4) (jd:=g.length+5) (n:=27) (m:=5) (sz:=1) (cs:=A5 (A9 2 n++V9 s)) (ys:=A5 [0,0,0,0,0]) (rw:=true) (by simp) E1Z (by simp) rfl rfl (by omega) (by omega);simp only [E43,E5a,E5u,E5l,E45,E5x,E5g,rD,E5M,E5L,Nat.reduceAdd,<-J9] at hA2;rw [<-E45 (A9 2 n),show A9 2 n++V9 s++[0,0,0,0,0]=X3 s n from rfl] at hA2;rw [C17];refine ⟨sV (g.length+6) 0 32 1,g++[rT [.s s,.i .i64 n],rT [],none,rT (A5 (V9 s)),none,rT (A5 [0,0,0,0,0]),rT (A5 (X3 s n))],?_,by rw [A4,X4],g.length+6,rfl,by omega,?_⟩
  ·generalize X3 s n=E at *;generalize A9 2 n++V9 s=Q at *;generalize A5 [0,0,0,0,0]=F at *;generalize A5 (V9 s)=P at *;generalize A5 (A9 2 n)=B2 at *;simp only [esc,esh,Nat.reduceAdd,Nat.reduceMul,Nat.reduceLT,hB,E2w,hP,hpl,hA,ef5,hA2]
  ·simp
 obtain ⟨v,g',e,ho⟩:=key (ro h);exact B8I e (by simpa [E7] using ho) (by simp)
theorem D72 {b:List UInt8} {k:Nat}:bN b ((J2 k+2:Nat):Int) 25=nameB b k:=by
 unfold bN nameB;rw [if_pos (by omega),E5j];rfl
theorem E4A {k:Nat} (hk:k<7):IntKind.wrap .i64 (32*(k:Int))=((32*k:Nat):Int):=by rw [wrap_i64 (by omega) (by omega)];omega
theorem E4y {k:Nat} (hk:k<7):IntKind.wrap .i64 (32+((32*k:Nat):Int))=((J2 k:Nat):Int):=by unfold J2;rw [wrap_i64 (by omega) (by omega)];omega
theorem E3u {k:Nat} (hk:k<7):IntKind.wrap .i64 (34+((32*k:Nat):Int))=((J2 k+2:Nat):Int):=by unfold J2;rw [wrap_i64 (by omega) (by omega)];omega
theorem vK {v:Val} {nv k:Nat} {b:List UInt8} {h:A6} (hv:Has h v 1 nv (A5 b)) (hb:b.length=256) (hk:k<7):A82 [v,iV (k:Int)] h=some (.t [.a (V3 (R0 b k)),.c (.b (R0 b k).isSome)],h):=by
 have key:∀ g,Has g v 1 nv (A5 b)->∃ g',A8j 0 [v,iV (k:Int)] g=some (.t [.a (V3 (R0 b k)),.c (.b (R0 b k).isSome)],g'):=by
  intro g hv;have hnl:=A6G hb hk;have mI:=B7M hb hk;have hC:=λl=>A6J (hv.more l) (a:=((J2 k+2:Nat):Int)) (n:=25) (by unfold J2;omega) (by omega)
  rw [D72,hnl] at hC;have hU:=λ(c0:Option Row)=>D12 (v:=sV (g.length+1) 0 25 1) (nv:=25) (l:=nameB b k) (h:=g++[c0,rT (A5 (nameB b k))]) (Has.row (rw:=true) (by simp) (by rw [A4,hnl]) (F0 _)) hnl
  have hA:=λl=>pC (hv.more l) hb (a:=(J2 k:Nat)) (w:=2)
  rw [D5y hk] at hA;have ef:∀ (s:List UInt8) (n:Int),D9 [Cell.s [],o0] [(0,1,.c (.s s)),(1,1,iV n)]=some [.s s,.i .i64 n]:=λ_ _=>rfl
  have ef0:D9 [Cell.s [],o0] []=some [.s [],o0]:=rfl;have w0:=E4A hk;have w1:=E4y hk;have w2:=E3u hk;rw [C39];unfold R0;cases hu:cY (nameB b k) with
  | none =>
   rw [hu] at hU;simp only [E5Q,E5o] at hU;generalize cH b k=n at *;generalize A5 (nameB b k)=z at *;exact ⟨_,by simp only [esc,esh,Nat.reduceAdd,Nat.reduceMul,Nat.reduceLT,w0,w1,w2,hC,hU,hA,ef,ef0,Option.bind_none,V3,E5o]<;>rfl⟩
  | some s =>
   rw [hu] at hU;simp only [E5G,E5h] at hU;have hfs:=(bY (A6S hu)).2;have hM:=λh=>D1Z (s:=s) (n:=cH b k) (h:=h) (by omega)
   rw [E49];unfold isE;cases hm:A1o s (cH b k) with
   | false =>
    rw [hm] at hM;rw [E48,if_neg (by simp)];generalize cH b k=n at *;generalize A5 (nameB b k)=z at *;exact ⟨_,by simp only [esc,esh,Nat.reduceAdd,Nat.reduceMul,Nat.reduceLT,w0,w1,w2,hC,hU,hA,ef,ef0,hM,V3,E5o]<;>rfl⟩
   | true =>
    rw [hm] at hM;rw [E5d];have hB:=λh=>B0V (s:=s) (n:=cH b k) (h:=h) hm
    have hC2:=λl=>A6J (hv.more l) (a:=(J2 k:Nat)) (n:=32) (by unfold J2;omega) (by omega)
    rw [D2W,mI] at hC2;have hS:=λ(c0 c1 c2:Option Row)=>iE (l:=X3 s (cH b k)) (r:=A1g b k) (h:=g++[c0,c1,c2,rT (A5 (X3 s (cH b k))),rT (A5 (A1g b k))]) (v:=sV (g.length+3) 0 32 1) (u:=sV (g.length+4) 0 32 1) (Has.row (rw:=true) (by simp) (by rw [A4,X4]) (F0 _)) (Has.row (rw:=true) (by simp) (by rw [A4,mI]) (F0 _)) (by rw [X4];omega)
    by_cases ce:X3 s (cH b k)=A1g b k
    ·rw [if_pos (decide_eq_true ce)];rw [decide_eq_true ce] at hS;generalize X3 s (cH b k)=E at *;generalize A1g b k=L at *;generalize cH b k=n at *;generalize A5 (nameB b k)=z at *;exact ⟨_,by simp only [esc,esh,Nat.reduceAdd,Nat.reduceMul,Nat.reduceLT,w0,w1,w2,hC,hU,hA,ef,ef0,hM,hB,hC2,hS,V3,E5h]<;>rfl⟩
    ·rw [if_neg (by rw [decide_eq_true_eq];exact ce)];rw [decide_eq_false ce] at hS;generalize X3 s (cH b k)=E at *;generalize A1g b k=L at *;generalize cH b k=n at *;generalize A5 (nameB b k)=z at *;exact ⟨_,by simp only [esc,esh,Nat.reduceAdd,Nat.reduceMul,Nat.reduceLT,w0,w1,w2,hC,hU,hA,ef,ef0,hM,hB,hC2,hS,V3,E5o]<;>rfl⟩
 obtain ⟨g',e⟩:=key (ro h) hv.ro;exact B8K e (by simp [Val.flat,C9T,Cell.flat])
def D4W (o:Option Nat):Int:=match o with
 | some k=>k
 | none=>-1
theorem B4Z {v:Val} {nv q:Nat} {b nm:List UInt8} (hb:b.length=256):∀ (e k m:Nat) (h:A6),k+e=7->e<m->Has h v 1 nv (A5 b) ->
  ∃ h',B6X q m v (.c (.s nm)) (iV (k:Int)) h=some (iV (D4W ((Z6 b nm e k).map (·.1))),h')
 | e,k,0,h,_,hm,_=>by omega
 | 0,k,m+1,h,hk,hm,hv=>by
  have e0:k=7:=by omega
  subst e0;have c0:¬ ((7:Nat):Int)<7:=by omega
  rw [A7p];exact ⟨_,by simp only [esc,c0]<;>rfl⟩
 | e+1,k,m+1,h,hk,hm,hv=>by
  have c0:(k:Int)<7:=by omega
  have hR:=vK (k:=k) hv hb (by omega);have w1:=C6 (show k+1<9223372036854775808 by omega);rw [A7p];cases hx:R0 b k with
  | none =>
   rw [hx] at hR;rw [A3J hx];obtain ⟨h',ih⟩:=B4Z (q:=q) (nm:=nm) hb e (k+1) m (h++[rT ([.s [],o0])]) (by omega) (by omega) (hv.more _);exact ⟨h',by simp only [esc,esh,Nat.reduceAdd,Nat.reduceMul,Nat.reduceLT,c0,hR,V3,E5o,w1];exact ih⟩
  | some x =>
   obtain ⟨s,n⟩:=x;rw [hx] at hR;by_cases ce:s=nm
   ·subst ce;rw [A6u hx];exact ⟨_,by simp only [esc,esh,Nat.reduceAdd,Nat.reduceMul,Nat.reduceLT,c0,hR,V3,E5h]<;>rfl⟩
   ·rw [A3I hx ce];obtain ⟨h',ih⟩:=B4Z (q:=q) (nm:=nm) hb e (k+1) m (h++[rT [.s s,.i .i64 n]]) (by omega) (by omega) (hv.more _);exact ⟨h',by simp only [esc,esh,Nat.reduceAdd,Nat.reduceMul,Nat.reduceLT,c0,hR,V3,E5h,ce,w1];exact ih⟩
theorem C8V {v:Val} {nv:Nat} {b nm:List UInt8} {h:A6} (hv:Has h v 1 nv (A5 b)) (hb:b.length=256):A81 [v,.c (.s nm)] h=some (iV (D4W ((V8 b nm).map (·.1))),h):=by
 obtain ⟨h',e⟩:=B4Z (q:=8) (nm:=nm) hb 7 0 8 (ro h) (by omega) (by omega) hv.ro;exact B8J (n:=8) (by rw [C36];exact e) rfl
theorem C8W {h:A6}:A1V [] h=some (sV h.length 0 256 1,h++[rT (A5 hdB)]):=by
 have key:∀ g,∃ v g',A8i 0 [] g=some (v,g')/\Out g.length g' v 1 256 (A5 hdB):=by
  intro g;have hn:A1m (iV 256) (iV 256)=some 256:=rfl;have rz:=mP 256;have ef:D9 [Cell.i .u8 0,.i .u8 0,.i .u8 0,.i .u8 0] [(0,1,.c (.i .u8 98)),(1,1,.c (.i .u8 107)),(2,1,.c (.i .u8 116)),(3,1,.c (.i .u8 33))]=some (A5 B1P):=rfl;have hM:xY (g++[rT [],rT (A5 (zeros 256)),rT (A5 B1P)]) (sV (g.length+2) 0 4 1)=some (sV (g.length+2) 0 4 1):=by simp [xY]
  have hL:=mO (v:=sV (g.length+1) 0 256 1) (u:=sV (g.length+2) 0 4 1) (nv:=256) (nu:=4) (l:=zeros 256) (data:=B1P) (a:=0) (h:=g++[rT [],rT (A5 (zeros 256)),rT (A5 B1P)]) (Has.row (rw:=true) (by simp) (by rw [A4,zeros_length]) (F0 _)) (Has.row (rw:=true) (by simp) rfl (F0 _)) (by omega) (by rw [zeros_length];omega);have el:A70 (zeros 256) 0 B1P=hdB:=by
   have h1:=A0f (l:=zeros 256) (a:=0) (xs:=B1P) (by rw [zeros_length];decide);have h2:=C6Z (b:=B1P) (by decide);unfold A7Z at h2;rw [if_pos ⟨by omega,by omega⟩,E5b (by decide)] at h2;exact h1.trans h2
  rw [el,zeros_length] at hL;rw [C37];refine ⟨sV (g.length+3) 0 256 1,g++[rT [],rT (A5 (zeros 256)),rT (A5 B1P),rT (A5 hdB)],?_,by rw [A4,A6y],g.length+3,rfl,by omega,by simp⟩;generalize hdB=H at *;generalize A5 B1P=mg at *;generalize zeros 256=z at *;simp only [esc,esh,Nat.reduceAdd,Nat.reduceMul,Nat.reduceLT,hn,rz,ef,hM,hL]
 obtain ⟨v,g',e,ho⟩:=key (ro h);exact C2J e (by simpa [E7] using ho) (by simp)
theorem D6T {x:Nat} {b:Int} (h5:b<=5):C8M x b=x%B9 b:=by
 unfold C8M B9 V1;by_cases c:b<1
 ·rw [if_pos c];have:(max 0 (min b 5)).toNat=0:=by omega
  rw [this];simp [Nat.mod_one]
 ·rw [if_neg c,if_neg (by omega)];have:(max 0 (min b 5)).toNat=b.toNat:=by omega
  rw [this]
theorem B0l {b nm:List UInt8}:∀ {e k:Nat} {x:Slt},Z6 b nm e k=some x->k<=x.1/\x.1<k+e/\R0 b x.1=some x.2/\x.2.1=nm
 | 0,k,x,h=>by simp [Z6] at h
 | e+1,k,x,h=>by
  cases hr:R0 b k with
  | none =>
   rw [A3J hr] at h;have:=B0l h;exact ⟨by omega,by omega,this.2.2⟩
  | some y =>
   obtain ⟨s,n⟩:=y;by_cases c:s=nm
   ·subst c;rw [A6u hr] at h;cases h;exact ⟨E44 _,by simp,hr,rfl⟩
   ·rw [A3I hr c] at h;have:=B0l h;exact ⟨by omega,by omega,this.2.2⟩
theorem D4w {b nm:List UInt8} {x:Slt} (h:V8 b nm=some x):x.1<7/\R0 b x.1=some x.2/\x.2.1=nm:=by
 have:=B0l h;exact ⟨by omega,this.2.2⟩
end Go.Proofs.YtbnkgnfhgbhblaaGreat
namespace Go.Proofs.YtbnkgnfhgbhblaaGreat
open Go Go.Esc
set_option maxRecDepth 100000
noncomputable section
variable (n m m2:Nat) (a0 a1 a2 a3 a4 a5 x0 x1 x3 x4 x5 x6 x7 x8 x9 x10 x11 x12 x13 x14 x15 x16 x17 x18 x19 x20 x22 x23 x33 x34 x35:Val) (h:A6)
def A1x:FD Tryz.prog:=⟨px 0X11fc71638181de1801c183847622621fa21c4c480363232321fa61a119818048391418632421c818161e13cc61c21c4c00012d3fd518632420117127a181de1c18383762224633a2a863a1f61a13a19b7a3a363a1f25e3a4f6062bc61a201ac4a02e319391b2b6324263233103d62d942ec032ed4643242,[.c (.b true)],[],[.cellN 6 8,.tmp 7],[cal C4T]⟩
def C0M:=A1x.R
def A0t:=mR C0M A1x (tT []) n [a0,a1,a2] h
def C0k:=A1x.K Tryz.func109
def vT:=A1x.Q
theorem A9a:SOk Tryz.prog 109 vT:=C0k.ok
theorem A0F:OfT C0M vT:=C0k.of
def A1y:FD Tryz.prog:=⟨px 0X1238181de1c18382612621fa41c4c61e13cc61012113fc18061e13cc61c46e4c00013fc196322621fa35e4c61e13cc61011113fc4061e13cc61c32e4c00013fc19632323d62d9032ed2632142,[],[],[.cellN 6 8],[]⟩
def C0N:=A1y.R
def C4f:=mR C0N A1y (tT []) n [a0,a1,a2] h
def C0l:=A1y.K Tryz.func112
def A1X:=A1y.Q
theorem A9b:SOk Tryz.prog 112 A1X:=C0l.ok
theorem C4Y:OfT C0N A1X:=C0l.of
def U6:FD Tryz.prog:=⟨px 0X1248181de61e2e361ac26151ac69a061c1a584c28181e939501918135e82b15607c4ca1bb1318621fa1a1e11985de05de05de1dd151806e82c15ba0218228181de5ba181db3922e2b2a1b1a18641826d80106cc2181de3d02d2df14e6804a1d9696c81c9162e3a321ac61c61a119859a059a03833828181ca391b11b2e2d2b2a1b1a18641932461a17c5c039607c4da1bd141c82c2b2a1b1a18641922c2b2a1b1a18641831a12c112c2b2a1b1a1864182352b2a1b1a186473270241889617c4ba1b9121ba2b2a1b1a18641822b2a1b1a1864732b2a1b1a1864726251012b2a1b1a1864722a1a184435c82a16141ac61e231ac61c1a584c4062a1b1a18646201248181de28183821812241627c61c1a584c31aa1b1a18641721b1a1864163621fa1284c3ee031b1a1864162621b1de1a1e1b198581b381c03ce19a15291b1a18641724cc29161e1b3cc61c1284c0001b3fc5291b1a1864311820621fa1a584c3aa0318228181de7c1818b392281b1a186431182498048c2181de3d1f2d913e6803a189694887b161e2a321ac61c1a4c4c3833828187c391b281f1b1a1864311922439657c5c79127a1b1a191864311921b1a186431711a2cc1c15607c685813181a21fa1e61628c4584c780680518228181de6c186c3921e1c1b1a191864311a239c0103982181de3d01d2df14e6804a6a6938c5a162e3a321ac61c1a61628c44c4c6803833828185b391b11b1e1d1c1b1a191864311b3151c1b1a1918643119307024362a2a861a118f7f5c18f36818f36039617c6849174f1c1b1a191864311a21c1b1a191864311931c1b1a191864311906051011c1b1a191864311921b1a191864311832881b16111ac61c24c3e4d41b1a191864311821ec21b1de3b1a2d961251151033b3e861c24c3b4d51a19186431721d821b1de3b192d961a1e301ac1c03833842f1619186431623d182d92a62ed042ed318643152,[.c (.b false)],[],[.cellN 8 8],[cal nP,cal B8G,cal A9a,cal nR,cal B58,cal C2Q,cal A9b]⟩
def A1U:=U6.R
def zG:AtH:=U6.lj 0 n [m] [x1,x3,x4,x6,x8,x9,x10,x11,x12]
def A6s:AtH:=U6.lj 1 n [] [x1,x3,x4,x6,x8,x10,x11]
def A6t:AtH:=U6.lj 2 n [m] [x4,x6,x8,x10,x11,x18,x19]
def D1m:AtH:=U6.lj 3 n [m] [x4,x6,x8,x10,x11,x18,x19,x20]
def vV:=tT [⟨2,9,zG⟩,⟨1,7,A6s⟩,⟨2,7,A6t⟩,⟨2,8,D1m⟩]
def C4e:=mR A1U U6 vV n [a0,a1,a2,a3] h
def A7t:=mL U6 vV 0 n [m] [x1,x3,x4,x6,x8,x9,x10,x11,x12] h
def A7r:=mJ U6 vV 1 n [] [x1,x3,x4,x6,x8,x10,x11] h
def xP:=mL U6 vV 2 n [m] [x4,x6,x8,x10,x11,x18,x19] h
def A7s:=mJ U6 vV 3 n [m] [x4,x6,x8,x10,x11,x18,x19,x20] h
def C0j:=U6.K Tryz.func49
def A89:=U6.Q
theorem C4W:SOk Tryz.prog 49 A89:=C0j.ok
theorem C4V:OfT A1U A89:=C0j.of
def B07:FD Tryz.prog:=⟨px 0X11ec01dc01d8611647c5805804c3a171876321cc1a161a231ac18061a221ac6e002d161a19220130101613187632241627c5a2b122c19204219203319819161c1a614828c316a4c61e211ac61c04e4c6101ac4e1b160191920333010161442ed442032,[.c (.b false)],[],[.tmp 6,.tmp 7,.tmp 8],[cal B52,cal C78,cal nR,cal C4Q]⟩
def B77:=B07.R
def D0L:=mR B77 B07 (tT []) n [a0,a1,a2] h
def C9a:=B07.K Tryz.func183
def B8T:=B07.S
theorem D0Y:SOk Tryz.prog 183 B8T:=C9a.sok
theorem C4U:E5 B77 B8T:=C9a.flat
def A5d:FD Tryz.prog:=⟨px 0X17c614a02612621fa1a1e11985e0402a1b15712587161a13cc000001183fd472132163b9121032,[],[],[.tmp 6],[]⟩
def B3w:=A5d.R
def C7Z:=mR B3w A5d (tT []) n [a0,a1,a2] h
def C3M:=A5d.K Tryz.func228
def B34:=A5d.S
theorem C8k:SOk Tryz.prog 228 B34:=C3M.sok
theorem C4Z:pE B3w B34:=C3M.out
def oI:FD Tryz.prog:=⟨px 0X171b1258181de2c183831b1a220621fa02c4c61e13cc61011113fc28061e13cc61c02c4c00013fc1918621fa72c4c61a1e321ac1c028061c72c4c71a54322462bc6c026e1a543521a5201a621fa62c4c63e4a321ac35607c61c61a119828061c62c4c28061c62c5a4d190191d1a543530131b1258181de2c183831b1a2224673a2a8361a18c2ab6c19b3618c3196218c7f6818c3601627c6848119581d1a543621d1a543531fc1d161a211ac28061c02c3c4d51d1c1a543621dc1c10658c61a1e301ac2803c33842f161c1a543520131b126a181de2c183831b1a2224672e2a861e5487f6481f15e484f6e4836019617c5a1e1182d1a75431721a7543163303d1a2d92e72ed052ed41a7543162,[.c (.b false),.c (.b true)],[],[.cellN 10 8,.tmp 11],[cal nP,cal B54,cal C8k]⟩
def A8m:=oI.R
def D1n:AtH:=oI.lj 0 n [] [x5,x10]
def C0W:=tT [⟨1,2,D1n⟩]
def dT:=mR A8m oI C0W n [a0,a1,a2,a3,a4] h
def xQ:=mJ oI C0W 0 n [] [x5,x10] h
def C0m:=oI.K Tryz.func185
def A1Y:=oI.Q
theorem C40:SOk Tryz.prog 185 A1Y:=C0m.ok
theorem A0G:OfT A8m A1Y:=C0m.of
def zV:FD Tryz.prog:=⟨px 0X134114125c515607c2e1a13180174114122461a27c4061c61a11984a001c16295104215510330702461e17c61c80060419510425103351030605101510320334111022,[.c (.b false),.c (.b true)],[],[.tmp 4],[]⟩
def C9n:=zV.R
def C6b:AtH:=zV.lj 0 n [m] [x0,x1,x5]
def C9t:=tT [⟨2,3,C6b⟩]
def D0M:=mR C9n zV C9t n [a0,a1] h
def B2N:=mL zV C9t 0 n [m] [x0,x1,x5] h
def C9b:=zV.K Tryz.func187
def B8U:=zV.S
theorem D0Z:SOk Tryz.prog 187 B8U:=C9b.sok
theorem C4X:E5 C9n B8U:=C9b.flat
def I8:FD Tryz.prog:=⟨px 0X1268181de38183bd3921c1219dc4915607c7ce2ba1318238181de61a3a371ac2298061c61a119828c06c038183ae3960191a884b15607c7ea2bf1318621fa5384c5607c61c5383aa4d5181d8c4a161e3a31b1ac611a1ac2a8238628907c628967c29c02980181824362e2a861e21969b1af669b1f02a869b4f1b869b360362a2a861a26897f29c68932bc689360363e2a862e25e97f65e91f61a15e919b28c5e936c5e932b85e93602c82ef12c39a4c4b4a492e1d1c1b611b21bb801bac01ba84e124a6813e6803a2ec691b9c2de161e2a331ac61c02a84c5c493842df11c584f4e4c4b4a492e1d1c1b611d201972462bc2ac2dc122dd4c4b4a492e1d1c1b611b24c4b4a492e1d1c1b611a31adc01ad8221de294c2d915a6804e2da691acc2c9161a221ac29c062e211ac61c61a119828c06c042ca11e4d4c4b4a492e1d1c1b611b21954b4a492e1d1c1b611971a1870243d617c7da2bd122be4b4a492e1d1c1b611a24b4a492e1d1c1b611934b4a492e1d1c1b6119661851014b4a492e1d1c1b611924a492e1d1c1b6118319e84a10182bc1ad24a492e1d1c1b6118275492e1d1c1b61736702461e17c61c86c07ae2ae142b9492e1d1c1b61182492e1d1c1b6173492e1d1c1b617566514911492e1d1c1b61721c623238181de61a1e371ac7ae028038182aa3952e1d1c1b6162198c019883f112a6801e2a86918fc29d16161ac5c4929e3973f2e1d1c1b6411826b82f15607c4fa1cd1318018e82e163a13cc61013113fc61c61a119878e078078a01818246be0128d2f2e1e1d1c1b1864311c2238181de6be1828c3923e2f2e1e1d1c1b1864311c2189c018982181de3d3d2d914e6804a28a69188c1fa161e2a2e3a551ac61c16aa4c1c0483384038181fb391d3e3d2f2e1e1d1c1b1864311d27cc07c8221de293b2d913e6803a1f8697bc1ea161a221ac5ee061a211ac5ea041eb11b3b2f2e1e1d1c1b1864311c278c0178806fc38125a6814e6804a1df696f81cf162e3a331ac61c61a11985aa07805c493841d811d01939382f2e1e1d1c1b1864311d3552f2e1e1d1c1b1864311b41a4702461e17c61c87804da1c9141cc2f2e1e1d1c1b1864311c22f2e1e1d1c1b1864311b32f2e1e1d1c1b1864311b26451012f2e1e1d1c1b1864311b22e1d1c1b6417312e3b912e1e1d1c1b1864311a26881e16141ac781bf131e1d1c1b1864311923881f15607c7c5f13183a82815607c29e6b131805f81e162a13cc61013113fc61c04da4c78061824362a2a861a22db7f4be2db349a2db360363e2a862e22bb7f62bb1f61a12bb19b7c2bb36c2bb33de2bb360361a2a83ba2ad3603be1991291b929281f1e1d1c1b1864311d24c804bc04b82b124a6813e6803a18e694ac188161e2a331ac61c039a4c5c4938418911c2d2c2b2a29281f1e1d1c1b1864312823fc03f8221de29292d915a6804e7e693ec6d161a221ac2ea062e211ac61c61a11987c06c046e11e2a29281f1e1d1c1b1864311d235281f1e1d1c1b1864311b31a270243d617c28e69126a281f1e1d1c1b1864311c2281f1e1d1c1b1864311b3281f1e1d1c1b1864311b162512811281f1e1d1c1b1864311b2151f1e1d1c1b1864311a30702461e17c61c86c07c5b145e1f1e1d1c1b1864311b21f1e1d1c1b1864311a31f1e1d1c1b1864311a06051011f1e1d1c1b1864311a21e1d1c1b18643119313b811e1d1c1b1864311922d81d16101ac5c49593931d1c1b1864311823d2d83a1b2ed3a182ed062ed41c1b18643172,[.c (.b false)],[],[.cellN 12 8],[cal A1W,cal nR,cal A83,cal D0Y,cal C4H,cal C40,cal B2m,cal A9b,cal C4R,cal D0Z,cal A68,cal iD]⟩
def B5K:=I8.R
def vF:AtH:=I8.lj 0 n [m] [x1,x3,x4,x6,x8,x11,x12,x13,x14,x15]
def B2O:AtH:=I8.lj 1 n [m,m2] [x1,x3,x4,x6,x8,x11,x12,x13,x14,x15,x16]
def A3D:AtH:=I8.lj 2 n [m] [x1,x3,x4,x6,x8,x11,x12,x13,x14,x22,x23]
def C8D:AtH:=I8.lj 3 n [m,m2] [x1,x3,x4,x6,x8,x11,x12,x13,x14,x15,x16]
def C8E:AtH:=I8.lj 4 n [m] [x1,x3,x4,x6,x8,x11,x12,x13,x14,x22,x23]
def A3E:AtH:=I8.lj 5 n [m] [x1,x6,x11,x12,x13,x22,x33]
def A3F:AtH:=I8.lj 6 n [m,m2] [x1,x6,x11,x12,x13,x22,x33,x34,x35]
def C8F:AtH:=I8.lj 7 n [m,m2] [x1,x6,x11,x12,x13,x22,x33,x34,x35]
def aA:=tT [⟨2,10,vF⟩,⟨3,11,B2O⟩,⟨2,11,A3D⟩,⟨3,11,C8D⟩,⟨2,11,C8E⟩,⟨2,7,A3E⟩,⟨3,9,A3F⟩,⟨3,9,C8F⟩]
def C2d:=mR B5K I8 aA n [a0,a1,a2,a3,a4,a5] h
def A4K:=mL I8 aA 0 n [m] [x1,x3,x4,x6,x8,x11,x12,x13,x14,x15] h
def mE:=mL I8 aA 1 n [m,m2] [x1,x3,x4,x6,x8,x11,x12,x13,x14,x15,x16] h
def tW:=mL I8 aA 2 n [m] [x1,x3,x4,x6,x8,x11,x12,x13,x14,x22,x23] h
def eJ:=mJ I8 aA 3 n [m,m2] [x1,x3,x4,x6,x8,x11,x12,x13,x14,x15,x16] h
def A4J:=mJ I8 aA 4 n [m] [x1,x3,x4,x6,x8,x11,x12,x13,x14,x22,x23] h
def A4L:=mL I8 aA 5 n [m] [x1,x6,x11,x12,x13,x22,x33] h
def mH:=mL I8 aA 6 n [m,m2] [x1,x6,x11,x12,x13,x22,x33,x34,x35] h
def aT:=mJ I8 aA 7 n [m,m2] [x1,x6,x11,x12,x13,x22,x33,x34,x35] h
def B5r:=I8.K Tryz.func117
def A5Z:=I8.Q
theorem C2U:SOk Tryz.prog 117 A5Z:=B5r.ok
theorem C2T:OfT B5K A5Z:=B5r.of
def Y9:FD Tryz.prog:=⟨px 0X1248181de61a2e3a3e4a661ac5c493861c161628c44c4c1c0383384028181eb391a181259c2915607c48e1aa13186b82c15607c58e1cd13180121fa1a614828c15c4c5ea04182462e27c161c61a11985de05de061c1a614828c15c4c59e1cf1180191df2c2b29281b191864311c3352c2b29281b191864311b31a27024361e2a816238b7f4fe38b360289617c4de1bf161cc2c2b29281b191864311c22c2b29281b191864311b32c2b29281b191864311b262512c112c2b29281b191864311b2228181de4ea181be3922b29281b191864311a25ec0105e82181de3d02a2df14e6804a1bc695dc1ac162e3a331ac61c61a11984be04be03833828181ad391b11b2b2a29281b191864311b31529281b191864311930702461e17c61c83fe03ee19e141a929281b191864311a229281b1918643119329281b1918643119160510129281b191864311921b19186431734ec2816151ac5c49383281b1918643118225c491de6141ac5c493831b191864317201248181de28183821812241627c61c161628c44c4c41981b191864311821b1918643173621fa1284c7c031b1918643172621b1de1a1e1b1984c1b381c07c7f151f1b191864311823f81f161e1b3cc61c1284c0001b3fc51f1b1918643118201a21fa161628c44c4c780418228181de6c186f3921e1b191864311823b803ac2181de3d1d2d914a6803e6d693a85e162a2e331ac61c161628c4584c3833828185f391c1e1d1b1918643119224361a2a8681af36019627c61c058584d65d1b1a191864311921b19186431701a2bc02b82491de1f1b2d914a6803e4e692ac3f16121ac62a211ac61c161628c4584c44811c1c1b1a191864311921f821b1de3b1a2d961a1e301ac1c03833843b161a19186431721d821b1de3b192d9613511191033b3e861c61a11981c061c7282d4d1819186431623d182d92a62ed042ed318643152,[.c (.b false)],[],[.cellN 8 8],[cal nP,cal nR,cal C8h,cal A9a,cal C8g,cal A1W,cal C2U]⟩
def B3v:=Y9.R
def B0f:AtH:=Y9.lj 0 n [] [x1,x3,x4,x6,x8,x9,x11]
def wD:AtH:=Y9.lj 1 n [m] [x1,x3,x4,x6,x8,x9,x11,x16,x17]
def B0j:AtH:=Y9.lj 2 n [m,m2] [x1,x3,x4,x6,x8,x9,x11,x16,x17,x19,x20]
def D25:AtH:=Y9.lj 3 n [m,m2] [x1,x3,x4,x6,x8,x9,x11,x16,x17,x19,x20]
def A0P:=tT [⟨1,7,B0f⟩,⟨2,9,wD⟩,⟨3,11,B0j⟩,⟨3,11,D25⟩]
def A2L:=mR B3v Y9 A0P n [a0,a1,a2,a3] h
def B0g:=mJ Y9 A0P 0 n [] [x1,x3,x4,x6,x8,x9,x11] h
def B0i:=mL Y9 A0P 1 n [m] [x1,x3,x4,x6,x8,x9,x11,x16,x17] h
def qU:=mL Y9 A0P 2 n [m,m2] [x1,x3,x4,x6,x8,x9,x11,x16,x17,x19,x20] h
def B0h:=mJ Y9 A0P 3 n [m,m2] [x1,x3,x4,x6,x8,x9,x11,x16,x17,x19,x20] h
def C3L:=Y9.K Tryz.func50
def B33:=Y9.Q
theorem C8j:SOk Tryz.prog 50 B33:=C3L.ok
theorem C8i:OfT B3v B33:=C3L.of
def Y0:FD Tryz.prog:=⟨px 0X1228181de2c18382412621fa12c4c4c1cc1354225a81a15607c581ab131801a21fa164c3a3e1b19861c61a119858061c62c4c5804c01a18245627c61c064c61a1b1985804c1ad161ba1a1954362551a19543541a4702461e197c61c11c4c5819f141aa1a19543621a19543531a195435364519011a19543521954334f819161e1b3cc61c12c4c0001b19b3fd5195434238c715607c3c68131822c181de61a1e2a431ac4801c338002c183861822c181de61a1e2a421ac4801c338002c183861824363e2a85621eb7f061eb58f61a1e311eb1af481eb31c31eb3b01eb3605637c486f11a1881875430723b818161c61a11983c061c02c6a4d61875430623575430521a2702462a17c61c861c02c4c3c5b155f75430627543053754305162510175430525433328c615607c38481318621fa22c4c63a13cc36101411048a29637c61a201ac3801c33861c22c4a4d71191565430530702461e17c61c01c4c383c143f65430626543053654305060516116543052543043521fa56119861c72c394d45430421c82181de13d452df6172e164e116e1043d3e8661135ca5607c61c11c4c661125ca5607c61c16e4c661b3b15ca5607c61c14e4c510111101b48b1f5195430433d2d8432ed243032,[.c (.b false)],[],[.cellN 4 8],[cal A0C,cal nP,cal C4W,cal C8j]⟩
def C9o:=Y0.R
def C6c:AtH:=Y0.lj 0 n [m] [x0,x3,x4,x5,x6]
def tX:AtH:=Y0.lj 1 n [m] [x0,x3,x4,x5,x7]
def D4u:AtH:=Y0.lj 2 n [m] [x0,x3,x4,x5,x7]
def B4I:AtH:=Y0.lj 3 n [m] [x3,x4,x5,x9,x10]
def D4v:AtH:=Y0.lj 4 n [m] [x3,x4,x5,x9,x10]
def A0a:=tT [⟨2,5,C6c⟩,⟨2,5,tX⟩,⟨2,5,D4u⟩,⟨2,5,B4I⟩,⟨2,5,D4v⟩]
def D0N:=mR C9o Y0 A0a n [a0,a1] h
def B2Q:=mL Y0 A0a 0 n [m] [x0,x3,x4,x5,x6] h
def B2R:=mL Y0 A0a 1 n [m] [x0,x3,x4,x5,x7] h
def A3G:=mJ Y0 A0a 2 n [m] [x0,x3,x4,x5,x7] h
def A3H:=mL Y0 A0a 3 n [m] [x3,x4,x5,x9,x10] h
def B2P:=mJ Y0 A0a 4 n [m] [x3,x4,x5,x9,x10] h
def C9c:=Y0.K Tryz.func16
def B1b:=Y0.Q
theorem D01:SOk Tryz.prog 16 B1b:=C9c.ok
theorem D00:OfT C9o B1b:=C9c.of
def N3:FD Tryz.prog:=⟨px 0X159c613c02612621fa51e11986131ac4803c19f157121981915607c4a29131804f818161e13cc61011113fc4c04805182461c61a11984c061c22c18e4d519a19187540724ac7161e13cc61012113fc5803c18a15191875406203981c15607c6869131848c1a166a7a321ac6111ac61b3863e1b1985607c61a07c68064967c19677c4c061c12c4c628967c680586b12818551c1a191875401834702449617c685f12681c1a191875401921c1a191875401831c1a1918754018364511c111c1a191875401822f81a128892889175bc21a1918754072241d627c61a201ac4c02835a3945d1a191875401821a19187540741a1ec1b15607c5c3c131802cc1a161c61a11985c061c42c4c6182461a27c4c061c61a11985c061c32c3e4d74c1b1a19187540192351b1a191875401821a2702462a17c61c861c32c4c6a2f153b1b1a191875401921b1a191875401831b1a191875401816251011b1a191875401821a19187540731b81a1068861a4881985e002b151a19187540721519187540651a0702461e17c61c05a4c2a1d142819187540721918754063191875406060510119187540621872313b811875405213b8175404213b81e2ec442ed354032,[],[.slA 256 1 (.t 21) none none],[.tmp 6],[cal A0C,cal B2l,cal iD,cal C4J]⟩
def B5J:=N3.R
def A3A:AtH:=N3.lj 0 n [m] [x0,x4,x5,x7,x8,x9]
def A3B:AtH:=N3.lj 1 n [m,m2] [x0,x4,x5,x7,x8,x9,x10,x11]
def C8B:AtH:=N3.lj 2 n [m,m2] [x0,x4,x5,x7,x8,x9,x10,x11]
def A3C:AtH:=N3.lj 3 n [m,m2] [x0,x4,x5,x7,x8,x9,x10,x12]
def B2M:AtH:=N3.lj 4 n [m] [x0,x4,x5,x7,x8,x9,x10]
def C8C:AtH:=N3.lj 5 n [m] [x0,x4,x5,x7,x8,x9]
def fQ:=tT [⟨2,6,A3A⟩,⟨3,8,A3B⟩,⟨3,8,C8B⟩,⟨3,8,A3C⟩,⟨2,7,B2M⟩,⟨2,6,C8C⟩]
def C2c:=mR B5J N3 fQ n [a0,a1,a2] h
def tV:=mL N3 fQ 0 n [m] [x0,x4,x5,x7,x8,x9] h
def mD:=mL N3 fQ 1 n [m,m2] [x0,x4,x5,x7,x8,x9,x10,x11] h
def A4F:=mJ N3 fQ 2 n [m,m2] [x0,x4,x5,x7,x8,x9,x10,x11] h
def A4I:=mL N3 fQ 3 n [m,m2] [x0,x4,x5,x7,x8,x9,x10,x12] h
def A4G:=mJ N3 fQ 4 n [m] [x0,x4,x5,x7,x8,x9,x10] h
def A4H:=mJ N3 fQ 5 n [m] [x0,x4,x5,x7,x8,x9] h
def B5q:=N3.K Tryz.func22
def A5Y:=N3.Q
theorem C2S:SOk Tryz.prog 22 A5Y:=B5q.ok
theorem C2R:OfT B5J A5Y:=B5q.of
end
end Go.Proofs.YtbnkgnfhgbhblaaGreat
namespace Go.Proofs.YtbnkgnfhgbhblaaGreat
open Go Go.Esc
section
theorem Q4 {g H t:A6} (G:Grows g H) (ht:t.all B21=true):Grows g (H++t):=by
 refine G.trans' ⟨List.prefix_append _ _,λid x hid hx=>?_⟩;rw [rd_some,E5e hid] at hx;exact List.all_eq_true.1 ht _ (E5s hx)
theorem A6x {g H:A6} (G:Grows g H) {id:Nat} (hid:g.length<=id):Grows g (H.set id none):=by
 obtain ⟨⟨t,rfl⟩,h2⟩:=G;refine ⟨⟨t.set (id-g.length) none,by rw [E5A _ _ hid]⟩,λi x hi hx=>?_⟩;by_cases e:id=i
 ·subst e;have hl:=C5 hx;simp at hl;rw [B7 (by simpa using hl)] at hx;cases hx
 ·rw [A7 e] at hx;exact h2 i x hi hx
theorem B4G {H:A6} {v:Val} {ys:List Cell} {m sz:Nat} (hv:Has H v sz m ys) (hsz:0<sz) (hm:m<=1073741824) :
  jK (H++[rT []]) sz (sV H.length 0 0 sz) v=some (sV (H.length+1) 0 m sz,H++[none,rT ys]):=by
 have h1:=(hv.more [rT []]).add;have h2:rd (H++[rT []]) H.length=rT []:=by rw [E9];rfl
 have hl:=hv.length;have hd:ys.length/sz=m:=by rw [hl];exact Nat.mul_div_cancel m hsz
 simp only [jK,h1,h2,E49,hd];rw [if_pos ⟨trivial,trivial,by simp,trivial,by omega⟩];simp
theorem one_app {K:A6} {id n sz:Nat} {cs ys:List Cell} (hr:rd K id=rT cs) (hl:cs.length=n*sz) (hy:ys.length=sz) (hsz:0<sz) (hn:n+1<=1073741824) :
  jK (K++[rT ys]) sz (sV id 0 n sz) (sV K.length 0 1 sz)=some (sV (K.length+1) 0 (n+1) sz,(K++[rT ys]).set id none++[rT (cs++ys)]):=by
 have h1:rd (K++[rT ys]) id=rT cs:=B6 hr;have h2:O5 (K++[rT ys]) sz (sV K.length 0 1 sz)=some ys:=by
  simp [O5,gF,hy,E5b (Nat.le_of_eq hy)]
 simp only [jK,h2,h1,E49,hy,Nat.div_self hsz];rw [if_pos ⟨trivial,trivial,hl.symm,trivial,hn⟩];simp
def InR (P:Nat->Prop) (x:Cell):Prop:=∀ id,nmC x=some id->P id
theorem has_set {h:A6} {x:Cell} {sz n j:Nat} {cs:List Cell} {y:Option Row} (hv:Has h (.c x) sz n cs) (ho:rd h j=none\/nmC x≠some j):Has (h.set j y) (.c x) sz n cs:=by
 rcases hv with hv | ⟨id,off,r,e,hr,h2⟩
 ·exact .inl hv
 ·cases e;refine .inr ⟨id,off,r,rfl,?_,h2⟩;rw [A7]
  ·exact hr
  ·intro e;subst e;rcases ho with ho | ho
   ·rw [ho] at hr;cases hr
   ·exact ho rfl
theorem A3M {h:A6} {x:Cell} {sz n id:Nat} {cs:List Cell} (hv:Has h (.c x) sz n cs) (hn:nmC x=some id):id<h.length:=by
 rcases hv with ⟨e,_⟩ | ⟨gG,off,r,e,hr,_⟩
 ·cases e;cases hn
 ·cases e;cases hn;exact C5 hr
def eK (n:Int) (F:Int->Option Int):List Int:=(E5v (n+1).toNat).map λi:Nat=>(F (i:Int)).getD 0
theorem Q9 {n:Int} {F:Int->Option Int}:(eK n F).length=(n+1).toNat:=by simp [eK]
theorem A4R {n:Int} {F:Int->Option Int} {i:Nat} (hi:i<(n+1).toNat):(eK n F)[i]?=some ((F (i:Int)).getD 0):=by simp [eK,hi]
theorem C6K {n:Int} {F:Int->Option Int} {i:Nat} {v:Int}:(eK n F).set i v=eK n (uI F (i:Int) v):=by
 refine List.ext_getElem? λk=>?_
 rw [List.getElem?_set];by_cases hk:k<(n+1).toNat
 ·by_cases e:i=k
  ·subst e;rw [if_pos rfl,if_pos (by rw [Q9];exact hk),A4R hk];simp [uI]
  ·rw [if_neg e,A4R hk,A4R hk];unfold uI;rw [if_neg (by omega)]
 ·have h1:¬ k<(eK n F).length:=by rw [Q9];exact hk
  have h2:(eK n (uI F (i:Int) v))[k]?=none:=E5C (by rw [Q9];omega);have h3:(eK n F)[k]?=none:=E5C (by omega);rw [h2,h3];split
  ·rename_i e;subst e;rw [if_neg h1]
  ·rfl
def D39 (P:Nat->Prop) (h:A6) (ys:List Cell) (made:List (List UInt8)):Prop :=
 ys.length=made.length/\noX ys=true/\∀ (i:Nat) (y:Cell),ys[i]?=some y->InR P y/\∃ b,made[i]?=some b/\b.length=256/\Has h (.c y) 1 256 (A5 b)
structure RCF (n:Int) (P:Nat->Prop) (h:A6) (c:Cl) (xr xi xt xb xm xl xy:Cell) (ys:List Cell):Prop where
 row:Has h (.c xr) 1 c.row.length (encI c.row)
 ino:Has h (.c xi) 11 c.ino.length (T1 c.ino)
 tak:Has h (.c xt) 1 c.taken.length (I7 c.taken)
 blk:Has h (.c xb) 1 c.blocks.length (encI c.blocks)
 mad:Has h (.c xm) 1 c.made.length ys
 mds:D39 P h ys c.made
 tol:Has h (.c xl) 1 (n+1).toNat (encI (eK n c.lnk))
 par:Has h (.c xy) 1 (n+1).toNat (encI (eK n c.par))
 pr:InR P xr
 pi:InR P xi
 pt:InR P xt
 pb:InR P xb
 pm:InR P xm
 pl:InR P xl
 py:InR P xy
def rcC (xr xi xt xb xm:Cell) (lost:Int) (xl xy:Cell):List Cell:=[xr,xi,xt,xb,xm,.i .i64 lost,xl,xy]
def IsRC (n:Int) (P:Nat->Prop) (h:A6) (cs:List Cell) (c:Cl):Prop :=
 ∃ xr xi xt xb xm xl xy ys,cs=rcC xr xi xt xb xm c.lost xl xy/\RCF n P h c xr xi xt xb xm xl xy ys
theorem IsRC.length {n:Int} {P:Nat->Prop} {h:A6} {cs:List Cell} {c:Cl} (k:IsRC n P h cs c):cs.length=8:=by
 obtain ⟨_,_,_,_,_,_,_,_,rfl,_⟩:=k;rfl
section
variable {n:Int} {P Q:Nat->Prop} {h h':A6} {c:Cl} {xr xi xt xb xm xl xy:Cell} {ys:List Cell}
theorem InR.mono (hpq:∀ id,P id->Q id) {x:Cell} (k:InR P x):InR Q x:=λid hi=>hpq id (k id hi)
theorem RCF.mono (hpq:∀ id,P id->Q id) (k:RCF n P h c xr xi xt xb xm xl xy ys):RCF n Q h c xr xi xt xb xm xl xy ys :=
 ⟨k.row,k.ino,k.tak,k.blk,k.mad,⟨k.mds.1,k.mds.2.1,λi y hy=>⟨(k.mds.2.2 i y hy).1.mono hpq,(k.mds.2.2 i y hy).2⟩⟩,k.tol,k.par,k.pr.mono hpq,k.pi.mono hpq,k.pt.mono hpq,k.pb.mono hpq,k.pm.mono hpq,k.pl.mono hpq,k.py.mono hpq⟩
theorem RCF.to (hk:∀ (x:Cell) (sz m:Nat) (cs:List Cell),InR P x->Has h (.c x) sz m cs->Has h' (.c x) sz m cs) (k:RCF n P h c xr xi xt xb xm xl xy ys):RCF n P h' c xr xi xt xb xm xl xy ys :=
 ⟨hk _ _ _ _ k.pr k.row,hk _ _ _ _ k.pi k.ino,hk _ _ _ _ k.pt k.tak,hk _ _ _ _ k.pb k.blk,hk _ _ _ _ k.pm k.mad,
  ⟨k.mds.1,k.mds.2.1,λi y hy=>⟨(k.mds.2.2 i y hy).1,by
   obtain ⟨h1,b,h2,h3,h4⟩:=k.mds.2.2 i y hy;exact ⟨b,h2,h3,hk _ _ _ _ h1 h4⟩⟩⟩,hk _ _ _ _ k.pl k.tol,hk _ _ _ _ k.py k.par,k.pr,k.pi,k.pt,k.pb,k.pm,k.pl,k.py⟩
theorem RCF.grows (G:Grows h h') (k:RCF n P h c xr xi xt xb xm xl xy ys):RCF n P h' c xr xi xt xb xm xl xy ys:=k.to λ_ _ _ _ _ hv=>hv.grows G
theorem RCF.set {j:Nat} {y:Option Row} (hj:rd h j=none\/¬ P j) (k:RCF n P h c xr xi xt xb xm xl xy ys):RCF n P (h.set j y) c xr xi xt xb xm xl xy ys :=
 k.to λx _ _ _ hp hv=>has_set hv (hj.imp id λhn e=>hn (hp j e))
theorem RCF.low (k:RCF n P h c xr xi xt xb xm xl xy ys):RCF n (λid=>P id/\id<h.length) h c xr xi xt xb xm xl xy ys :=
 ⟨k.row,k.ino,k.tak,k.blk,k.mad,⟨k.mds.1,k.mds.2.1,λi y hy=>by
  obtain ⟨h1,b,h2,h3,h4⟩:=k.mds.2.2 i y hy;exact ⟨λid hi=>⟨h1 id hi,A3M h4 hi⟩,b,h2,h3,h4⟩⟩,k.tol,k.par,λid hi=>⟨k.pr id hi,A3M k.row hi⟩,λid hi=>⟨k.pi id hi,A3M k.ino hi⟩,λid hi=>⟨k.pt id hi,A3M k.tak hi⟩,λid hi=>⟨k.pb id hi,A3M k.blk hi⟩,λid hi=>⟨k.pm id hi,A3M k.mad hi⟩,λid hi=>⟨k.pl id hi,A3M k.tol hi⟩,λid hi=>⟨k.py id hi,A3M k.par hi⟩⟩
theorem IsRC.mono (hpq:∀ id,P id->Q id) {cs:List Cell} (k:IsRC n P h cs c):IsRC n Q h cs c:=by
 obtain ⟨a1,a2,a3,a4,a5,a6,a7,a8,e,k⟩:=k;exact ⟨a1,a2,a3,a4,a5,a6,a7,a8,e,k.mono hpq⟩
theorem IsRC.grows (G:Grows h h') {cs:List Cell} (k:IsRC n P h cs c):IsRC n P h' cs c:=by
 obtain ⟨a1,a2,a3,a4,a5,a6,a7,a8,e,k⟩:=k;exact ⟨a1,a2,a3,a4,a5,a6,a7,a8,e,k.grows G⟩
theorem IsRC.set {j:Nat} {y:Option Row} (hj:rd h j=none\/¬ P j) {cs:List Cell} (k:IsRC n P h cs c):IsRC n P (h.set j y) cs c:=by
 obtain ⟨a1,a2,a3,a4,a5,a6,a7,a8,e,k⟩:=k;exact ⟨a1,a2,a3,a4,a5,a6,a7,a8,e,k.set hj⟩
theorem IsRC.low {cs:List Cell} (k:IsRC n P h cs c):IsRC n (λid=>P id/\id<h.length) h cs c:=by
 obtain ⟨a1,a2,a3,a4,a5,a6,a7,a8,e,k⟩:=k;exact ⟨a1,a2,a3,a4,a5,a6,a7,a8,e,k.low⟩
end
section
variable {D:Dev} {n m:Int} {P:Nat->Prop} {h:A6} {c:Cl} {cs:List Cell}
theorem D3N {no:Int} (k:IsRC n P h cs c) (ht:c.taken.length=D.length) (hl:D.length<=1000) :
  ∃ cs' H',vT [.a cs,.a (D3 D.length n m),iV no] h=some (.t [.a cs',.c (.i .i64 (T0 D n c no))],H')/\Grows h H'/\IsRC n (λid=>P id\/h.length<=id) H' cs' (dG D n c no):=by
 obtain ⟨xr,xi,xt,xb,xm,xl,xy,ys,rfl,k⟩:=k;have hD:=λh=>C8X (b:=D.length) (n:=n) (m:=m) (i:=no) (h:=h)
 have cl1:cells? (.a (rcC xr xi xt xb xm c.lost xl xy))=some (rcC xr xi xt xb xm c.lost xl xy):=rfl;have cl2:cells? (.a (D3 D.length n m))=some (D3 D.length n m):=rfl;have z8l:[Cell.ns,.ns,.ns,.ns,.ns,o0,.ns,.ns].length=8:=rfl;have cl8:(rcC xr xi xt xb xm c.lost xl xy).length=8:=rfl;have ll3:(D3 D.length n m).length=3:=rfl;have l2:ld1 (rT (rcC xr xi xt xb xm c.lost xl xy)) 2=some (.c xt):=rfl;have stay:∀ t:A6,t.all B21=true->Grows h (h++t)/\IsRC n (λid=>P id\/h.length<=id) (h++t) (rcC xr xi xt xb xm c.lost xl xy) c:=λt ht =>
  ⟨Q4 Grows.rfl' ht,_,_,_,_,_,_,_,_,rfl,(k.mono λ_=>.inl).grows (Q4 Grows.rfl' ht)⟩
 cases hd:iP (D.length:Int) n no with
 | false =>
  have e1:T0 D n c no=0:=by unfold T0 B4E;rw [hd];rfl
  have e2:dG D n c no=c:=by unfold dG B4E;rw [hd];rfl
  rw [e1,e2];rw [hd] at hD;obtain ⟨g1,g2⟩:=stay [rT (rcC xr xi xt xb xm c.lost xl xy),rT (D3 D.length n m),rT (rcC xr xi xt xb xm c.lost xl xy)] rfl;refine ⟨_,_,A0F (n:=0) (p:=(_,_)) ?_,g1,g2⟩;rw [A0t];generalize rcC xr xi xt xb xm c.lost xl xy=C at *;generalize D3 D.length n m=L at *;simp only [esc,esh,Nat.reduceAdd,Nat.reduceMul,Nat.reduceLT,Bool.not_false,cl1,cl2,ll3,cl8,z8l,hD]
 | true =>
  rw [hd] at hD;obtain ⟨i0,i1⟩:=C6C hd;obtain ⟨j,rfl⟩:=E5I i0;have hj:j<c.taken.length:=by omega
  obtain ⟨it,ot,et,_,hA,_⟩:=k.tak.sl (by omega);cases et;have a1:D5 1 (sV it ot c.taken.length 1) (iV (j:Int))=some (pV it (ot+j)):=by rw [C4 hj];simp
  have hA2:∀ t,B4 (h++t) (pV it (ot+j))=some (bV c.taken[j]):=λt=>by
   obtain ⟨it',ot',et',_,hA',_⟩:=(k.tak.more t).sl (by omega);cases et';exact hA' j _ (by simp [I7,hj])
  have eg:c.taken.getD (j:Int).toNat true=c.taken[j]:=by rw [E5j,E47,E40 hj];rfl
  cases hb:c.taken[j] with
  | true =>
   have e1:T0 D n c j=0:=by unfold T0 B4E;rw [hd,eg,hb];rfl
   have e2:dG D n c j=c:=by unfold dG B4E;rw [hd,eg,hb];rfl
   rw [e1,e2];rw [hb] at hA2;obtain ⟨g1,g2⟩:=stay [rT (rcC xr xi (.sl it ot c.taken.length 1) xb xm c.lost xl xy),rT (D3 D.length n m),rT (rcC xr xi (.sl it ot c.taken.length 1) xb xm c.lost xl xy)] rfl;refine ⟨_,_,A0F (n:=0) (p:=(_,_)) ?_,g1,g2⟩;rw [A0t];generalize rcC xr xi (.sl it ot c.taken.length 1) xb xm c.lost xl xy=C at *;generalize D3 D.length n m=L at *;simp only [esc,esh,Nat.reduceAdd,Nat.reduceMul,Nat.reduceLT,Bool.not_true,cl1,cl2,ll3,cl8,z8l,hD,l2,a1,hA2]
  | false =>
   have e1:T0 D n c j=j:=by unfold T0 B4E;rw [hd,eg,hb];rfl
   have e2:dG D n c j={ c with taken:=c.taken.set j true }:=by unfold dG B4E;rw [hd,eg,hb];rfl
   rw [e1,e2];rw [hb] at hA2;obtain ⟨T3,hT3⟩:∃ T3:A6,T3=[rT (rcC xr xi (.sl it ot c.taken.length 1) xb xm c.lost xl xy),rT (D3 D.length n m),rT [Cell.ns,.ns,.ns,.ns,.ns,o0,.ns,.ns]]:=⟨_,rfl⟩;have hcp:=B4G (H:=h++T3) (k.tak.more T3) (by omega) (by omega);have lT:(h++T3).length=h.length+3:=by rw [hT3];simp
   rw [lT,hT3] at hcp;have ad:D5 1 (sV (h.length+3+1) 0 c.taken.length 1) (iV (j:Int))=some (pV (h.length+4) j):=by rw [C4 hj];simp
   have hbl:(I7 c.taken).length=c.taken.length:=by simp [I7]
   have es:(I7 c.taken).set j (.b true)=I7 (c.taken.set j true):=by simp [I7,List.map_set]
   have sb:st1 (rT (I7 c.taken)) j (.b true)=rT (I7 (c.taken.set j true)):=by
    simp only [st1,E49];rw [if_pos ⟨trivial,by rw [hbl];exact hj⟩,es]
   have sc:st1 (rT (rcC xr xi (.sl it ot c.taken.length 1) xb xm c.lost xl xy)) 2 (.sl (h.length+3+1) 0 c.taken.length 1)=rT (rcC xr xi (.sl (h.length+4) 0 c.taken.length 1) xb xm c.lost xl xy):=rfl;have cl8':(rcC xr xi (.sl (h.length+4) 0 c.taken.length 1) xb xm c.lost xl xy).length=8:=rfl;obtain ⟨H',hH'⟩:∃ H',H'=h++[rT (rcC xr xi (.sl (h.length+4) 0 c.taken.length 1) xb xm c.lost xl xy),rT (D3 D.length n m),rT (rcC xr xi (.sl (h.length+4) 0 c.taken.length 1) xb xm c.lost xl xy),none,rT (I7 (c.taken.set j true))]:=⟨_,rfl⟩;have G:Grows h H':=by rw [hH'];exact Q4 Grows.rfl' rfl
   have k2:=(k.mono (Q:=λid=>P id\/h.length<=id) λ_=>.inl).grows G;refine ⟨rcC xr xi (.sl (h.length+4) 0 c.taken.length 1) xb xm c.lost xl xy,H',A0F (n:=0) ?_,G,xr,xi,.sl (h.length+4) 0 c.taken.length 1,xb,xm,xl,xy,ys,rfl,
    ⟨k2.row,k2.ino,?_,k2.blk,k2.mad,k2.mds,k2.tol,k2.par,k2.pr,k2.pi,λid hi=>?_,k2.pb,k2.pm,k2.pl,k2.py⟩⟩
   ·rw [A0t,hH'];have ef:D9 [] []=some []:=rfl;generalize hC1:rcC xr xi (.sl it ot c.taken.length 1) xb xm c.lost xl xy=C at *;generalize rcC xr xi (.sl (h.length+4) 0 c.taken.length 1) xb xm c.lost xl xy=C' at *;generalize D3 D.length n m=L at *;generalize I7 c.taken=B at *;generalize I7 (c.taken.set j true)=B' at *;simp only [E45,E5x,E5g] at hcp;simp only [esc,esh,Nat.reduceAdd,Nat.reduceMul,Nat.reduceLT,Bool.not_true,cl1,cl2,ll3,cl8,z8l,hD,l2,a1,hA2,ef,hcp,ad,sb,sc,cl8']
   ·have e3:(c.taken.set j true).length=c.taken.length:=by simp
    show Has H' (sV (h.length+4) 0 c.taken.length 1) 1 (c.taken.set j true).length (I7 (c.taken.set j true));rw [e3];exact Has.row (rw:=true) (by rw [hH',K0];rfl) (by simp [I7]) (B9S _)
   ·cases hi;exact .inr (by omega)
end
end
section
theorem D66 {m:List (List UInt8)} {x:Int} {a:List UInt8}:B0M [] m x a=a:=by cases m<;>rfl
theorem D8o {h H:A6} {v:Val} {D:Dev} (hv:Has h v 256 D.length (D1 D)) (hD:okD D) (G:Grows h H) {i:Nat} (hi:i<D.length) :
  ∃ a id off,D5 256 v (iV (i:Int))=some a/\B4w H 256 1 a none none=some (sV id off 256 1)/\Has H (sV id off 256 1) 1 256 (A5 D[i])/\id<h.length:=by
 rcases hv with ⟨_,h0,_⟩ | ⟨id,off,r,rfl,hr,h1,h2,h3,h4⟩
 ·omega
 ·have bO:off+i*256+256*1<=r.cells.length:=by omega
  have hrH:=G.rd hr;refine ⟨pV id (off+i*256),id,off+i*256,C4 hi,?_,?_,C5 hr⟩
  ·simp only [B4w,hrH,E49,bound];rw [if_pos ⟨by omega,by omega,bO,D14 h3 h4 (show i*256<D.length*256 by omega) h2⟩];simp
  ·refine Has.part (cs:=r.cells) (rw:=r.rw) hrH bO ?_ (F0 _);rw [<-bW hD hi,<-h3,List.drop_take,List.take_take,E5W]
   congr 1
   omega
section
variable {D:Dev} {n m:Int} {P:Nat->Prop} {h:A6} {c:Cl} {cs:List Cell} {v x7 x8:Val} {q pl pc io is:Nat}
theorem E0E {H:A6} {i m0:Nat} (rc:rd H pc=rT cs) (K:IsRC n P H cs c) (hP:∀ id,P id->id≠io/\id≠is) (bm:c.blocks.length=c.made.length) (hB:c.blocks.length<=1000000) (hmd:∀ b∈c.made,b.length=256) :
  ∀ (e k M:Nat) (y:Cell) (b:List UInt8),k+e=c.blocks.length->e<M->Has H (.c y) 1 256 (A5 b)->b.length=256->InR (λid=>id≠io/\id≠is) y ->
  ∃ y' M',A3B q m0 M v (pV pl 0) (pV pc 0) x7 x8 (iV (i:Int)) (.c y) (iV (k:Int)) H =
   A3B q m0 (M'+1) v (pV pl 0) (pV pc 0) x7 x8 (iV (i:Int)) (.c y') (iV (c.blocks.length:Nat)) H /\
   Has H (.c y') 1 256 (A5 (B0M (c.blocks.drop k) (c.made.drop k) i b))/\(B0M (c.blocks.drop k) (c.made.drop k) i b).length=256/\InR (λid=>id≠io/\id≠is) y':=by
 intro e
 induction e with
 | zero =>
  intro k M y b hk hM hy hb hR;obtain ⟨M,rfl⟩:∃ M',M=M'+1:=⟨M-1,by omega⟩;have ek:k=c.blocks.length:=by omega
  subst ek;rw [List.drop_length,D66];exact ⟨y,M,rfl,hy,hb,hR⟩
 | succ e ih =>
  intro k M y b hk hM hy hb hR;obtain ⟨M,rfl⟩:∃ M',M=M'+1:=⟨M-1,by omega⟩;have hkl:k<c.blocks.length:=by omega
  have hkm:k<c.made.length:=by omega
  obtain ⟨yr,yi,yt,yb,ym,yl,yy,ys,rfl,kk⟩:=id K;have l3:B4 H (pV pc 3)=some (.c yb):=B5 rc rfl rfl;have l4:B4 H (pV pc 4)=some (.c ym):=B5 rc rfl rfl;have al:=kk.blk.len;have c0:(k:Int)<(c.blocks.length:Nat):=by omega
  have w1:=C6 (show k+1<9223372036854775808 by omega);obtain ⟨i1,o1,e1,_,hA1,_⟩:=kk.blk.sl (by omega);cases e1;obtain ⟨i2,o2,e2,_,hA2,_⟩:=kk.mad.sl (by omega);cases e2;have a1:D5 1 (sV i1 o1 c.blocks.length 1) (iV (k:Int))=some (pV i1 (o1+k)):=by rw [C4 hkl,Nat.mul_one]
  have a2:D5 1 (sV i2 o2 c.made.length 1) (iV (k:Int))=some (pV i2 (o2+k)):=by rw [C4 hkm,Nat.mul_one]
  have b1:=hA1 k (.i .i64 c.blocks[k]) (by simp [encI,hkl]);have hyl:=kk.mds.1;have hyk:ys[k]?=some (ys[k]'(by omega)):=E40 _;obtain ⟨hp,bb,y1,y2,y3⟩:=kk.mds.2.2 k _ hyk;rw [E40 hkm] at y1;cases y1;have b2:=hA2 k _ hyk;rw [E46 hkl,E46 hkm];have ep:B0M (c.blocks[k]::c.blocks.drop (k+1)) (c.made[k]::c.made.drop (k+1)) i b=B0M (c.blocks.drop (k+1)) (c.made.drop (k+1)) i (if c.blocks[k]=i then c.made[k] else b):=rfl;rw [ep];by_cases ce:c.blocks[k]=(i:Int)
  ·rw [if_pos ce];obtain ⟨y',M',f1,f2,f3,f4⟩:=ih (k+1) M _ _ (by omega) (by omega) y3 y2 (λid hi=>hP id (hp id hi));refine ⟨y',M',?_,f2,f3,f4⟩;rw [mD];simp only [esc,l3,al,c0,a1,b1,ce,l4,a2,b2,A4F,w1];exact f1
  ·rw [if_neg ce];obtain ⟨y',M',f1,f2,f3,f4⟩:=ih (k+1) M _ _ (by omega) (by omega) hy hb hR;refine ⟨y',M',?_,f2,f3,f4⟩;rw [mD];simp only [esc,l3,al,c0,a1,b1,ce,A4F,w1];exact f1
theorem E0F {H0:A6} {i m0:Nat} (rc:rd H0 pc=rT cs) (K:IsRC n P H0 cs c) (hx:∀ x∈c.ino,x.length=11) (P6:8*(i-2)+9<=c.ino.length) (h2:2<=i) (hi:i<=512) (hio:io<H0.length) (his:is<H0.length) :
  ∀ (e k M:Nat) (y:Cell) (b:List UInt8) (H:A6),k+e=8->e<M->Grows H0 H->Has H (.c y) 1 256 (A5 b)->b.length=256->InR (λid=>id≠io/\id≠is) y ->
  ∃ y' H' M',A3C q m0 M v (pV pl 0) (pV pc 0) x7 x8 (iV (i:Int)) (.c y) (iV (k:Int)) H =
   A3C q m0 (M'+1) v (pV pl 0) (pV pc 0) x7 x8 (iV (i:Int)) (.c y') (iV 8) H'/\Grows H0 H' /\
   Has H' (.c y') 1 256 (A5 (C8Y c.ino (8*(i-2)+1) e k b))/\(C8Y c.ino (8*(i-2)+1) e k b).length=256/\InR (λid=>id≠io/\id≠is) y':=by
 intro e
 induction e with
 | zero =>
  intro k M y b H hk hM G hy hb hR;obtain ⟨M,rfl⟩:∃ M',M=M'+1:=⟨M-1,by omega⟩;have ek:k=8:=by omega
  subst ek;exact ⟨y,H,M,rfl,G,hy,hb,hR⟩
 | succ e ih =>
  intro k M y b H hk hM G hy hb hR;obtain ⟨M,rfl⟩:∃ M',M=M'+1:=⟨M-1,by omega⟩;obtain ⟨yr,yi,yt,yb,ym,yl,yy,ys,rfl,kk⟩:=K.grows G;have rcH:=G.rd rc;have l1:B4 H (pV pc 1)=some (.c yi):=B5 rcH rfl rfl;obtain ⟨j,ej⟩:∃ j,j=8*(i-2)+1+k:=⟨_,rfl⟩;have hj:j<c.ino.length:=by omega
  obtain ⟨ii,oi,ei,_,_,hC⟩:=kk.ino.sl (by omega);cases ei;have c0:(k:Int)<8:=by omega
  have w0:IntKind.wrap .i64 (32*(k:Int))=((32*k:Nat):Int):=by rw [wrap_i64 (by omega) (by omega)];omega
  have w1:IntKind.wrap .i64 ((i:Int)-2)=((i-2:Nat):Int):=by rw [wrap_i64 (by omega) (by omega)];omega
  have w2:IntKind.wrap .i64 (8*((i-2:Nat):Int))=((8*(i-2):Nat):Int):=by rw [wrap_i64 (by omega) (by omega)];omega
  have w3:IntKind.wrap .i64 (((8*(i-2):Nat):Int)+(k:Int))=((8*(i-2)+k:Nat):Int):=by rw [wrap_i64 (by omega) (by omega)];omega
  have w4:IntKind.wrap .i64 (((8*(i-2)+k:Nat):Int)+1)=(j:Int):=by rw [wrap_i64 (by omega) (by omega)];omega
  have w5:=C6 (show k+1<9223372036854775808 by omega);have ad:D5 11 (sV ii oi c.ino.length 11) (iV (j:Int))=some (pV ii (oi+j*11)):=C4 hj;have ld:C8 H 11 (pV ii (oi+j*11))=some (.a (encI c.ino[j])):=by
   rw [hC (j*11) 11 (by rw [U4 hx];omega),C6B hx hj]
  obtain ⟨x,ex⟩:∃ x,x=c.ino[j]:=⟨_,rfl⟩;have xl:x.length=11:=by rw [ex];exact hx _ (E5F hj)
  rw [<-ex] at ld;have hP:A5S [.a (encI x)] H=some (sV H.length 0 32 1,H++[rT (A5 (A6A x))]):=by
   rw [C9S xl];exact B7H (by rw [List.length_drop,xl])
  have rl:=B0u xl;obtain ⟨H1,eH1⟩:∃ H1,H1=H++[rT (A5 (A6A x))]:=⟨_,rfl⟩;have lH1:H1.length=H.length+1:=by rw [eH1];simp
  have hL:=mO (v:=.c y) (u:=sV H.length 0 32 1) (nv:=256) (nu:=32) (l:=b) (data:=A6A x) (a:=((32*k:Nat):Int)) (h:=H1) (by rw [eH1];exact hy.more _) (by rw [eH1];exact Has.row (rw:=true) (by rw [E9];rfl) (by rw [A4,rl]) (F0 _)) (by omega) (by omega);rw [A0f (by rw [rl,hb];omega),hb] at hL;have G2:Grows H0 (H1++[rT (A5 (I6 b (32*k) (A6A x)))]):=by rw [eH1];exact (G.new _).new _
  have lb:(I6 b (32*k) (A6A x)).length=256:=by rw [O1 (by rw [rl,hb];omega),hb]
  have gl:=G.len;obtain ⟨y',H',M',f1,f2,f3,f4,f5⟩:=ih (k+1) M (.sl H1.length 0 256 1) (I6 b (32*k) (A6A x)) _ (by omega) (by omega) G2 (Has.row (rw:=true) (by rw [E9];rfl) (by rw [A4,lb]) (F0 _)) lb (λid hid=>by cases hid;constructor<;>omega);have et:C8Y c.ino (8*(i-2)+1) (e+1) k b=C8Y c.ino (8*(i-2)+1) e (k+1) (I6 b (32*k) (A6A x)):=by
   show C8Y c.ino (8*(i-2)+1) e (k+1) (I6 b (32*k) (A6A (c.ino.getD (8*(i-2)+1+k) [])))=_;rw [<-ej,E47,E40 hj,ex];rfl
  rw [et];refine ⟨y',H',M',?_,f2,f3,f4,f5⟩;rw [<-eH1] at hP;rw [A4I];simp only [esc,c0,w0,l1,w1,w2,w3,w4,ad,ld,hP,hL,w5];exact f1
end
end
section
section
variable {D:Dev} {n m:Int} {P:Nat->Prop} {h:A6} {c:Cl} {cs:List Cell} {v:Val} {q:Nat}
structure ImI (D:Dev) (n m:Int) (c:Cl) (cs:List Cell) (h:A6) (i io is:Nat) (ys:List Cell) (H:A6):Prop where
 gr:Grows h H
 rl:rd H h.length=rT (D3 D.length n m)
 rc:rd H (h.length+1)=rT cs
 lo:h.length+2<=io
 ls:h.length+2<=is
 ne:io≠is
 ro:rd H io=rT ys
 rs:rd H is=rT (encI ((T6 0 (c.taken.take i)).map λx:Nat=>(x:Int)))
 md:D39 (λid=>id≠io/\id≠is) H ys ((E5v i).map (B7J D n c))
theorem D53 {i io is M:Nat} {ys:List Cell} {y:Cell} {H:A6} (K:IsRC n P h cs c) (hP:∀ id,P id->id<h.length) (ht:c.taken.length=D.length) (hl:D.length<=512) (hi:i<D.length) (k:ImI D n m c cs h i io is ys H)
  (hy:Has H (.c y) 1 256 (A5 (B7J D n c i))) (hb:(B7J D n c i).length=256) (hR:InR (λid=>id≠io/\id≠is) y) :
  ∃ io' is' ys' H',B2M q M v (pV h.length 0) (pV (h.length+1) 0) (sV io 0 i 1) (sV is 0 (T6 0 (c.taken.take i)).length 1) (iV (i:Int)) (.c y) H =
   A3A q M v (pV h.length 0) (pV (h.length+1) 0) (sV io' 0 (i+1) 1) (sV is' 0 (T6 0 (c.taken.take (i+1))).length 1) (iV ((i+1:Nat):Int)) H'/\ImI D n m c cs h (i+1) io' is' ys' H':=by
 have ylen:=k.md.1;rw [List.length_map,List.length_range] at ylen;have lio:=C5 k.ro;have lis:=C5 k.rs;have P6:i<c.taken.length:=by omega
 have ef:D9 [Cell.ns] [(0,1,.c y)]=some [y]:=rfl;have A1:=one_app (sz:=1) (n:=i) (ys:=[y]) k.ro (by omega) rfl (by omega) (by omega);obtain ⟨H1,eH1⟩:∃ H1,H1=(H++[rT [y]]).set io none++[rT (ys++[y])]:=⟨_,rfl⟩;rw [<-eH1] at A1;have lH1:H1.length=H.length+2:=by rw [eH1];simp
 have keepR:∀ {id r},rd H id=some r->id≠io->rd H1 id=some r:=λ{id r} hr T5=>by
  rw [eH1];exact B6 (by rw [A7 (Ne.symm T5)];exact B6 hr)
 have keepH:∀ {x:Cell} {sz w:Nat} {l:List Cell},Has H (.c x) sz w l->nmC x≠some io->Has H1 (.c x) sz w l:=λhv hn=>by
  rw [eH1];exact (has_set (hv.more _) (.inr hn)).more _
 have new1:rd H1 (H.length+1)=rT (ys++[y]):=by
  rw [eH1];have:=E9 (h:=(H++[rT [y]]).set io none) (l:=[rT (ys++[y])]);rw [E5w,E43] at this;exact this
 have G1:Grows h H1:=by
  rw [eH1];exact (A6x (k.gr.new _) (by have:=k.lo;omega)).new _
 obtain ⟨yr,yi,yt,yb,ym,yl,yy,zs,ec,kk⟩:=K.grows G1;have rc1:rd H1 (h.length+1)=rT cs:=keepR k.rc (by have:=k.lo;omega);have l2:B4 H1 (pV (h.length+1) 2)=some (.c yt):=B5 rc1 (by rw [ec];rfl) rfl;obtain ⟨i1,o1,e1,_,hA1,_⟩:=kk.tak.sl (by omega);cases e1;have a1:D5 1 (sV i1 o1 c.taken.length 1) (iV (i:Int))=some (pV i1 (o1+i)):=by rw [C4 P6,Nat.mul_one]
 have b1:=hA1 i (.b c.taken[i]) (by simp [I7,P6]);have w1:=C6 (show i+1<9223372036854775808 by omega);have er:(E5v (i+1)).map (B7J D n c)=(E5v i).map (B7J D n c)++[B7J D n c i]:=by rw [List.range_succ,E5T];rfl
 have md1:∀ is',is'=is\/H.length+2<=is'->D39 (λid=>id≠H.length+1/\id≠is') H1 (ys++[y]) ((E5v (i+1)).map (B7J D n c)):=by
  intro is' his;have one:∀ (x:Cell) (w:List UInt8),InR (λid=>id≠io/\id≠is) x->w.length=256->Has H (.c x) 1 256 (A5 w)->InR (λid=>id≠H.length+1/\id≠is') x/\Has H1 (.c x) 1 256 (A5 w):=by
   intro x w hx hw hv;refine ⟨λid hid=>?_,keepH hv λe=>(hx _ e).1 rfl⟩;have h1:=A3M hv hid;have h2:=(hx id hid).2;constructor
   ·omega
   ·rcases his with rfl | his
    ·exact h2
    ·omega
  rw [er];refine ⟨by simp [ylen],?_,λj x hj=>?_⟩
  ·have h1:noX [y]=true:=by
    have:y.isX=false:=by
     rcases hy with ⟨e,_⟩ | ⟨_,_,_,e,_⟩<;>cases e<;>rfl
    simp [noX,this]
   have h2:=k.md.2.1;unfold noX at h1 h2 ⊢;rw [List.all_append,h1,h2];rfl
  ·by_cases hji:j<i
   ·rw [E5z (by omega)] at hj;obtain ⟨p1,b,p2,p3,p4⟩:=k.md.2.2 j x hj;obtain ⟨q1,q2⟩:=one x b p1 p3 p4;exact ⟨q1,b,by rw [E5z (by simp;exact hji)];exact p2,p3,q2⟩
   ·have ej:j=i:=by
     have:=(List.getElem?_eq_some_iff.1 hj).1;simp at this;omega
    subst ej;have:(ys++[y])[j]?=some y:=by rw [E5e (by omega),ylen];simp
    rw [this] at hj;cases hj;obtain ⟨q1,q2⟩:=one y _ hR hb hy;exact ⟨q1,_,by rw [E5e (by simp)];simp,hb,q2⟩
 have es:T6 0 (c.taken.take (i+1))=T6 0 (c.taken.take i)++(if c.taken[i]=true then [i] else []):=by
  rw [E5f P6,D0y,E5q,E5l,E5U (by omega)]
 obtain ⟨S,eS⟩:∃ S,S=T6 0 (c.taken.take i):=⟨_,rfl⟩;have rs1:rd H1 is=rT (encI (S.map λx:Nat=>(x:Int))):=by rw [eS];exact keepR k.rs (Ne.symm k.ne)
 have lS:S.length<=i:=by
  rw [eS];have:=(D15 (l:=c.taken.take i) (i:=0)).2;rw [E5q] at this;omega
 rw [es,<-eS];have rl1:rd H1 h.length=rT (D3 D.length n m):=keepR k.rl (by have:=k.lo;omega);have hlo:=k.lo;have hls:=k.ls;cases hb2:c.taken[i] with
 | false =>
  rw [hb2] at b1;rw [if_neg (by decide),E5t];refine ⟨H.length+1,is,ys++[y],H1,?_,⟨G1,rl1,rc1,by omega,hls,by omega,new1,by rw [es,<-eS,hb2,if_neg (by decide),E5t];exact rs1,md1 is (.inl rfl)⟩⟩;rw [A4G];simp only [esc,ef,A1,l2,a1,b1,A4H,w1]
 | true =>
  rw [hb2] at b1;rw [if_pos rfl];have ef2:D9 [o0] [(0,1,iV (i:Int))]=some [.i .i64 (i:Int)]:=rfl;have A2:=one_app (sz:=1) (n:=S.length) (ys:=[Cell.i .i64 (i:Int)]) rs1 (by simp [encI]) rfl (by omega) (by omega);obtain ⟨H2,eH2⟩:∃ H2,H2=(H1++[rT [Cell.i .i64 (i:Int)]]).set is none++[rT (encI (S.map λx:Nat=>(x:Int))++[Cell.i .i64 (i:Int)])]:=⟨_,rfl⟩;rw [<-eH2] at A2;have eE:encI (S.map λx:Nat=>(x:Int))++[Cell.i .i64 (i:Int)]=encI ((S++[i]).map λx:Nat=>(x:Int)):=by simp [encI]
  have keepR2:∀ {id r},rd H1 id=some r->id≠is->rd H2 id=some r:=λ{id r} hr T5=>by
   rw [eH2];exact B6 (by rw [A7 (Ne.symm T5)];exact B6 hr)
  have new2:rd H2 (H1.length+1)=rT (encI ((S++[i]).map λx:Nat=>(x:Int))):=by
   rw [eH2,<-eE];have:=E9 (h:=(H1++[rT [Cell.i .i64 (i:Int)]]).set is none) (l:=[rT (encI (S.map λx:Nat=>(x:Int))++[Cell.i .i64 (i:Int)])]);rw [E5w,E43] at this;exact this
  have G2:Grows h H2:=by
   rw [eH2];exact (A6x (G1.new _) (by omega)).new _
  have md0:=md1 is (.inl rfl);have md2:D39 (λid=>id≠H.length+1/\id≠H1.length+1) H2 (ys++[y]) ((E5v (i+1)).map (B7J D n c)):=by
   refine ⟨md0.1,md0.2.1,λj x hj=>?_⟩;obtain ⟨p1,b,p2,p3,p4⟩:=md0.2.2 j x hj;refine ⟨λid hid=>⟨(p1 id hid).1,?_⟩,b,p2,p3,?_⟩
   ·have:=A3M p4 hid;omega
   ·rw [eH2];exact (has_set (p4.more _) (.inr λe=>(p1 _ e).2 rfl)).more _
  have lS2:(S++[i]).length=S.length+1:=by simp
  refine ⟨H.length+1,H1.length+1,ys++[y],H2,?_,⟨G2,keepR2 rl1 (by omega),keepR2 rc1 (by omega),by omega,by omega,by omega,keepR2 new1 (by omega),by rw [es,<-eS,hb2,if_pos rfl];exact new2,md2⟩⟩;rw [lS2,A4G];simp only [esc,ef,A1,l2,a1,b1,ef2,A2,A4H,w1]
theorem E0D (hv:Has h v 256 D.length (D1 D)) (hD:okD D) (hm:R4 D.length n=true) (K:IsRC n P h cs c) (hP:∀ id,P id->id<h.length) (ok:ImgOk D n c) (P6:c.ino.length=(n+1).toNat) :
  ∀ (e i M io is:Nat) (ys:List Cell) (H:A6),i+e=D.length->e<M->1000002<=q->ImI D n m c cs h i io is ys H ->
  ∃ io' ys' H',A3A q M v (pV h.length 0) (pV (h.length+1) 0) (sV io 0 i 1) (sV is 0 (T6 0 (c.taken.take i)).length 1) (iV (i:Int)) H=some (sV io' 0 D.length 1,H') /\
   Grows h H'/\rd H' io'=rT ys'/\D39 (λ_=>True) H' ys' (B4M D n c):=by
 obtain ⟨b16,b512,n8,n128,nm8,nb⟩:=J5.1 hm;have hx:∀ x∈c.ino,x.length=11:=λx hx=>(ok.ino x hx).1
 have lenD:(B4M D n c).length=D.length:=by
  obtain ⟨ok1,l1⟩:=B0N (l:=c.blocks) (m:=c.made) hD ok.md;obtain ⟨ok2,l2⟩:=A44 (e:=(A1i D.length n).toNat) (no:=rQ D.length n) ok1;obtain ⟨ok3,l3⟩:=B0x (n:=n) n128 (l:=c.ino) (i:=0) ok2 hx;unfold B4M;rw [cQ,l3,l2,l1]
 intro e
 induction e with
 | zero =>
  intro i M io is ys H hi hM hq k;obtain ⟨M,rfl⟩:∃ M',M=M'+1:=⟨M-1,by omega⟩;have ei:i=D.length:=by omega
  subst ei;have et:c.taken.take D.length=c.taken:=by rw [<-ok.tak,List.take_length]
  have rs:=k.rs;rw [et] at rs ⊢;have ylen:=k.md.1;rw [List.length_map,List.length_range] at ylen;have l0:B4 H (pV h.length 0)=some (iV (D.length:Nat)):=B5 k.rl rfl rfl;have c0:¬ ((D.length:Nat):Int)<(D.length:Nat):=by omega
  obtain ⟨s1,s2⟩:=D15 (l:=c.taken) (i:=0);have htk:=ok.tak;have hMk:=C8U (x0:=sV is 0 (T6 0 c.taken).length 1) (h:=H) (S:=T6 0 c.taken) (nv:=(T6 0 c.taken).length) (λx hx=>by have:=s1 x hx;omega) (by omega) (Has.row rs (by simp [encI]) (bF _));rw [D8K (by omega)] at hMk;have ad:D5 1 (sV io 0 D.length 1) (iV 1)=some (pV io 1):=by
   have:=C4 (k:=.i64) (id:=io) (off:=0) (sz:=1) (len:=D.length) (j:=1) (by omega);exact this
  have lio:=C5 k.ro;obtain ⟨Hm,eHm⟩:∃ Hm,Hm=H++[rT (A5 (eQ (T6 0 c.taken)))]:=⟨_,rfl⟩;rw [<-eHm] at hMk;have rom:rd Hm io=rT ys:=by rw [eHm];exact B6 k.ro
  have st:=F5 (x:=.sl H.length 0 256 1) rom (off:=1) (by omega);have lm:(eQ (T6 0 c.taken)).length=256:=by unfold eQ;rw [cK,zeros_length]
  have GH:Grows h Hm:=by rw [eHm];exact k.gr.new _
  refine ⟨io,_,Hm.set io (rT (ys.set 1 (.sl H.length 0 256 1))),?_,GH.set (by have:=k.lo;omega) _,B7 (C5 rom),?_⟩
  ·rw [tV];simp only [esc,l0,c0,hMk,ad,st]
  ·refine ⟨by rw [E5w,ylen,lenD],?_,λj x hj=>⟨λ_ _=>trivial,?_⟩⟩
   ·have h2:=k.md.2.1;refine List.all_eq_true.2 λx hx=>?_
    rcases E5H hx with hx | rfl
    ·exact List.all_eq_true.1 h2 x hx
    ·rfl
   ·have hjl:j<D.length:=by
     have:=(List.getElem?_eq_some_iff.1 hj).1;rw [E5w] at this;omega
    have hI:=D8x (c:=c) hD hm ok P6 hjl;rw [List.getElem?_set] at hj;by_cases e1:1=j
    ·rw [if_pos e1,if_pos (by omega)] at hj;cases hj;rw [if_pos e1.symm] at hI;refine ⟨_,hI,lm,has_set (Has.row (rw:=true) (by rw [eHm,E9];rfl) (by rw [A4,lm]) (F0 _)) (.inr λe=>?_)⟩;cases e;omega
    ·rw [if_neg e1] at hj;rw [if_neg (Ne.symm e1)] at hI;obtain ⟨p1,b,p2,p3,p4⟩:=k.md.2.2 j x hj;rw [List.getElem?_map,List.getElem?_range hjl] at p2;cases p2;refine ⟨_,hI,p3,has_set (by rw [eHm];exact p4.more _) (.inr λe=>(p1 _ e).1 rfl)⟩
 | succ e ih =>
  intro i M io is ys H hi hM hq k;obtain ⟨M,rfl⟩:∃ M',M=M'+1:=⟨M-1,by omega⟩;have hiD:i<D.length:=by omega
  have l0:B4 H (pV h.length 0)=some (iV (D.length:Nat)):=B5 k.rl rfl rfl;have l3:C8 H 3 (pV h.length 0)=some (.a (D3 D.length n m)):=B8 k.rl rfl;have c0:(i:Int)<(D.length:Nat):=by omega
  obtain ⟨a,idv,off,ha,hs,hHv,U8⟩:=D8o hv hD k.gr hiD;have hlo:=k.lo;have hls:=k.ls;have lio:=C5 k.ro;have lis:=C5 k.rs;have okb:D[i].length=256:=hD _ (E5F hiD);have hPn:∀ id,P id->id≠io/\id≠is:=λid hid=>by have:=hP id hid;constructor<;>omega
  obtain ⟨y1,M1,f1,f2,f3,f4⟩:=E0E (v:=v) (x7:=sV io 0 i 1) (x8:=sV is 0 (T6 0 (c.taken.take i)).length 1) (q:=q) (pl:=h.length) (io:=io) (is:=is) (i:=i) (m0:=M) k.rc (K.grows k.gr) hPn ok.bm ok.bl ok.md c.blocks.length 0 q _ _ (by omega) (by have:=ok.bl;omega) hHv okb (λid hid=>by cases hid;constructor<;>omega);rw [E5k,E5k] at f2 f3;obtain ⟨zr,zi,zt,zb,zm,zl,zy,zs,ec,kk⟩:=K.grows k.gr;have lb:B4 H (pV (h.length+1) 3)=some (.c zb):=B5 k.rc (by rw [ec];rfl) rfl;have al:=kk.blk.len;have cB:¬ ((c.blocks.length:Nat):Int)<(c.blocks.length:Nat):=by omega
  have hAr:=A3S (b:=D.length) (n:=n) (m:=m) (no:=(i:Int)) (h:=H);have eD:D.getD i []=D[i]:=by rw [E47,E40 hiD];rfl
  have c00:((0:Nat):Int)=0:=rfl;rw [c00] at f1;by_cases hA:sE D.length n i=3
  ·have h3:2<=i/\((i:Int)-2)*8<n:=by
    unfold sE at hA;split at hA
    ·split at hA
     ·omega
     ·split at hA<;>omega
    ·omega
   have a6:A1m (iV 256) (iV 256)=some 256:=rfl;obtain ⟨H0,eH0⟩:∃ H0,H0=H++[rT (A5 (zeros 256))]:=⟨_,rfl⟩;have lH0:H0.length=H.length+1:=by rw [eH0];simp
   have G0:Grows h H0:=by rw [eH0];exact k.gr.new _
   obtain ⟨y2,H2,M2,g1,g2,g3,g4,g5⟩:=E0F (v:=v) (x7:=sV io 0 i 1) (x8:=sV is 0 (T6 0 (c.taken.take i)).length 1) (q:=q) (pl:=h.length) (io:=io) (is:=is) (H0:=H0) (i:=i) (m0:=M) (pc:=h.length+1) (by rw [eH0];exact B6 k.rc) (K.grows G0) hx (by omega) h3.1 (by omega) (by omega) (by omega) 8 0 q (.sl H.length 0 256 1) (zeros 256) H0 (by omega) (by omega) Grows.rfl' (by rw [eH0];exact Has.row (rw:=true) (by rw [E9];rfl) (by rw [A4,zeros_length]) (F0 _)) zeros_length (λid hid=>by cases hid;constructor<;>omega);have er:B7J D n c i=C8Y c.ino (8*(i-2)+1) 8 0 (zeros 256):=by unfold B7J;rw [if_pos hA]
   rw [<-er] at g3 g4;have GH2:Grows H H2:=(by rw [eH0];exact (Grows.rfl').new _:Grows H H0).trans' g2;have k2:ImI D n m c cs h i io is ys H2:=⟨k.gr.trans' GH2,GH2.rd k.rl,GH2.rd k.rc,hlo,hls,k.ne,GH2.rd k.ro,GH2.rd k.rs,k.md.1,k.md.2.1,λj x hj=>by
    obtain ⟨p1,b,p2,p3,p4⟩:=k.md.2.2 j x hj;exact ⟨p1,b,p2,p3,p4.grows GH2⟩⟩
   obtain ⟨io',is',ys',H',t1,t2⟩:=D53 (q:=q) (M:=M) (v:=v) K hP ok.tak (by omega) hiD k2 g3 g4 g5;obtain ⟨io2,ys2,H3,r1,r2⟩:=ih (i+1) M io' is' ys' H' (by omega) (by omega) hq t2;refine ⟨io2,ys2,H3,?_,r2⟩;rw [hA] at hAr;rw [tV];simp only [esc,l0,c0,ha,hs];refine f1.trans ?_;have c33:((3:Int)=3):=rfl;have c88:¬ (8:Int)<8:=by omega
   rw [c00] at g1;rw [mD];simp only [esc,lb,al,cB,l3,hAr,a6,mP,<-eH0];refine g1.trans ?_;rw [A4I];simp only [esc,c88];exact t1.trans r1
  ·have er:B7J D n c i=B0M c.blocks c.made i D[i]:=by unfold B7J;rw [if_neg hA,eD]
   rw [<-er] at f2 f3;obtain ⟨io',is',ys',H',t1,t2⟩:=D53 (q:=q) (M:=M) (v:=v) K hP ok.tak (by omega) hiD k f2 f3 f4;obtain ⟨io2,ys2,H3,r1,r2⟩:=ih (i+1) M io' is' ys' H' (by omega) (by omega) hq t2;refine ⟨io2,ys2,H3,?_,r2⟩;rw [tV];simp only [esc,l0,c0,ha,hs];refine f1.trans ?_;rw [mD];simp only [esc,lb,al,cB,l3,hAr,hA];exact t1.trans r1
theorem E0C (hv:Has h v 256 D.length (D1 D)) (hD:okD D) (hm:R4 D.length n=true) (K:IsRC n P h cs c) (hP:∀ id,P id->id<h.length) (ok:ImgOk D n c) (P6:c.ino.length=(n+1).toNat) :
  ∃ id ys H',A5Y [v,.a (D3 D.length n m),.a cs] h=some (sV id 0 D.length 1,H')/\Grows h H'/\rd H' id=rT ys/\D39 (λ_=>True) H' ys (B4M D n c):=by
 obtain ⟨b16,_⟩:=J5.1 hm;obtain ⟨H0,eH0⟩:∃ H0,H0=h++[rT (D3 D.length n m),rT cs,rT [],rT [],rT []]:=⟨_,rfl⟩;have et:c.taken.take 0=[]:=rfl;have k0:ImI D n m c cs h 0 (h.length+3) (h.length+4) [] H0:=by
  refine ⟨by rw [eH0];exact Q4 Grows.rfl' rfl,by rw [eH0,E9];rfl,by rw [eH0,K0];rfl,by omega,by omega,by omega,by rw [eH0,K0];rfl,by rw [eH0,K0,et];rfl,rfl,rfl,λj x hj=>by simp at hj⟩
 obtain ⟨q,hq⟩:∃ q,q=1000002:=⟨_,rfl⟩;obtain ⟨io',ys',H',e1,e2,e3,e4⟩:=E0D (q:=q) (m:=m) hv hD hm K hP ok P6 D.length 0 q _ _ _ _ (by omega) (by have:=(J5.1 hm).2.1;omega) (by omega) k0;have z0:((0:Nat):Int)=0:=rfl;have z1:(T6 0 (c.taken.take 0)).length=0:=rfl;rw [z0,z1] at e1;refine ⟨io',ys',H',C2R (n:=q) (p:=(_,_)) ?_,e2,e3,e4⟩;have cl1:cells? (.a (D3 D.length n m))=some (D3 D.length n m):=rfl;have cl2:cells? (.a cs)=some cs:=rfl;rw [C2c];generalize D3 D.length n m=L at *;simp only [esc,Nat.reduceAdd,cl1,cl2,<-eH0];exact e1
end
end
section
theorem D3u {l:List Cell} {x:Cell} (h:noX l=true) (hx:x.isX=false):noX (l++[x])=true:=by
 unfold noX at *;rw [List.all_append,h];simp [hx]
section
variable {D:Dev} {n m:Int} {P:Nat->Prop} {h:A6} {c:Cl} {cs:List Cell}
theorem D3O {no:Int} {y:Cell} {b:List UInt8} (k:IsRC n P h cs c) (hy:Has h (.c y) 1 256 (A5 b)) (py:InR P y) (h1:c.blocks.length<=100000) (h2:c.made.length<=100000) (hyx:y.isX=false) :
  ∃ cs' H',A1X [.a cs,iV no,.c y] h=some (.a cs',H')/\Grows h H'/\IsRC n (λid=>P id\/h.length<=id) H' cs' (R5 c no b):=by
 obtain ⟨xr,xi,xt,xb,xm,xl,xy,ys,rfl,k⟩:=k;have hbl:b.length=256:=by have:=hy.length;rw [A4] at this;omega
 obtain ⟨T,hT⟩:∃ T:A6,T=[rT (rcC xr xi xt xb xm c.lost xl xy),rT [Cell.ns,.ns,.ns,.ns,.ns,o0,.ns,.ns]]:=⟨_,rfl⟩;have lT:(h++T).length=h.length+2:=by rw [hT];simp
 have c1:=B4G (H:=h++T) (k.blk.more T) (by omega) (by omega);obtain ⟨K,hK⟩:∃ K,K=h++T++[none,rT (encI c.blocks)]:=⟨_,rfl⟩;have lK:K.length=h.length+4:=by rw [hK,E43,lT];rfl
 have rK:rd K (h.length+3)=rT (encI c.blocks):=by rw [hK,hT,E45,K0];rfl
 have o1:=one_app (ys:=[Cell.i .i64 no]) rK (n:=c.blocks.length) (sz:=1) (by rw [A8];omega) rfl (by omega) (by omega);obtain ⟨K2,hK2⟩:∃ K2,K2=(K++[rT [Cell.i .i64 no]]).set (h.length+3) none++[rT (encI c.blocks++[Cell.i .i64 no])]:=⟨_,rfl⟩;have lK2:K2.length=h.length+6:=by rw [hK2];simp [lK]
 have G0:Grows h K:=by rw [hK,E45];exact Q4 Grows.rfl' (by rw [hT];rfl)
 have G2:Grows h K2:=by rw [hK2];exact (A6x (G0.new _) (by omega)).new _
 have rc2:rd K2 h.length=rT (rcC xr xi xt xb xm c.lost xl xy):=by
  rw [hK2,D4 (by simp;omega),A7 (by omega),D4 (by omega),hK,hT,E45,E9];rfl
 have rr2:rd K2 (h.length+1)=rT [Cell.ns,.ns,.ns,.ns,.ns,o0,.ns,.ns]:=by
  rw [hK2,D4 (by simp;omega),A7 (by omega),D4 (by omega),hK,hT,E45,K0];rfl
 have rb2:rd K2 (h.length+5)=rT (encI (c.blocks++[no])):=by
  have:rd K2 ((K++[rT [Cell.i .i64 no]]).set (h.length+3) none).length=rT (encI c.blocks++[Cell.i .i64 no]):=by rw [hK2];exact S8
  rw [E5w,E43,lK] at this;rw [A2g];exact this
 obtain ⟨K3,hK3⟩:∃ K3,K3=K2.set h.length (rT (rcC xr xi xt (.sl (h.length+5) 0 (c.blocks.length+1) 1) xm c.lost xl xy)):=⟨_,rfl⟩;have lK3:K3.length=h.length+6:=by rw [hK3];simp [lK2]
 have s3:F9 K2 (pV h.length 3) (sV (h.length+5) 0 (c.blocks.length+1) 1)=some K3:=by rw [F5 rc2 (by simp [rcC]),hK3];rfl
 have G3:Grows h K3:=by rw [hK3];exact G2.set (E44 _) _
 have rc3:rd K3 h.length=rT (rcC xr xi xt (.sl (h.length+5) 0 (c.blocks.length+1) 1) xm c.lost xl xy):=by rw [hK3];exact B7 (by omega)
 have rr3:rd K3 (h.length+1)=rT [Cell.ns,.ns,.ns,.ns,.ns,o0,.ns,.ns]:=by rw [hK3,A7 (by omega)];exact rr2
 have rb3:rd K3 (h.length+5)=rT (encI (c.blocks++[no])):=by rw [hK3,A7 (by omega)];exact rb2
 have c2:=B4G (H:=K3) (k.mad.grows G3) (by omega) (by omega);obtain ⟨K4,hK4⟩:∃ K4,K4=K3++[none,rT ys]:=⟨_,rfl⟩;have lK4:K4.length=h.length+8:=by rw [hK4];simp [lK3]
 have rK4:rd K4 (h.length+7)=rT ys:=by
  rw [hK4,show h.length+7=K3.length+1 by omega,K0];rfl
 have o2:=one_app (ys:=[y]) rK4 (n:=c.made.length) (sz:=1) (by rw [k.mds.1];omega) rfl (by omega) (by omega);obtain ⟨K5,hK5⟩:∃ K5,K5=(K4++[rT [y]]).set (h.length+7) none++[rT (ys++[y])]:=⟨_,rfl⟩;have G4:Grows h K4:=by rw [hK4];exact Q4 G3 rfl
 have G5:Grows h K5:=by rw [hK5];exact (A6x (G4.new _) (by omega)).new _
 have old5:∀ id,id<K3.length->rd K5 id=rd K3 id:=λid hid=>by
  rw [hK5,D4 (by simp [lK4];omega),A7 (by omega),D4 (by omega),hK4,D4 hid]
 have rm5:rd K5 (h.length+9)=rT (ys++[y]):=by
  have:rd K5 ((K4++[rT [y]]).set (h.length+7) none).length=rT (ys++[y]):=by rw [hK5];exact S8
  rw [E5w,E43,lK4] at this;exact this
 have lK5:K5.length=h.length+10:=by rw [hK5];simp [lK4]
 obtain ⟨C',hC'⟩:∃ C',C'=rcC xr xi xt (.sl (h.length+5) 0 (c.blocks.length+1) 1) (.sl (h.length+9) 0 (c.made.length+1) 1) c.lost xl xy:=⟨_,rfl⟩;obtain ⟨K6,hK6⟩:∃ K6,K6=K5.set h.length (rT C'):=⟨_,rfl⟩;have rc5:rd K5 h.length=rT (rcC xr xi xt (.sl (h.length+5) 0 (c.blocks.length+1) 1) xm c.lost xl xy):=by rw [old5 _ (by omega)];exact rc3
 have s4:F9 K5 (pV h.length 4) (sV (h.length+9) 0 (c.made.length+1) 1)=some K6:=by rw [F5 rc5 (by simp [rcC]),hK6,hC'];rfl
 have rc6:rd K6 h.length=rT C':=by rw [hK6];exact B7 (by omega)
 have rr6:rd K6 (h.length+1)=rT [Cell.ns,.ns,.ns,.ns,.ns,o0,.ns,.ns]:=by rw [hK6,A7 (by omega),old5 _ (by omega)];exact rr3
 have l8:C8 K6 8 (pV h.length 0)=some (.a C'):=B8 rc6 (by rw [hC'];rfl);have s8:E1 K6 8 (pV (h.length+1) 0) (.a C')=some (K6.set (h.length+1) (rT C')):=storeAll rr6 rfl (by rw [hC'];rfl);obtain ⟨K7,hK7⟩:∃ K7,K7=K6.set (h.length+1) (rT C'):=⟨_,rfl⟩;rw [<-hK7] at s8;have l8':C8 K7 8 (pV (h.length+1) 0)=some (.a C'):=B8 (by rw [hK7];exact B7 (C5 rr6)) (by rw [hC'];rfl);have G7:Grows h K7:=by rw [hK7,hK6];exact (G5.set (E44 _) _).set (by omega) _
 have old7:∀ id,id≠h.length->id≠h.length+1->rd K7 id=rd K5 id:=λid e1 e2=>by rw [hK7,A7 (Ne.symm e2),hK6,A7 (Ne.symm e1)]
 have k7:=(k.mono (Q:=λid=>P id\/h.length<=id) λ_=>.inl).grows G7;refine ⟨C',K7,C4Y (n:=0) ?_,G7,xr,xi,xt,.sl (h.length+5) 0 (c.blocks.length+1) 1,.sl (h.length+9) 0 (c.made.length+1) 1,xl,xy,ys++[y],by rw [hC'];rfl,
  ⟨k7.row,k7.ino,k7.tak,?_,?_,⟨by simp [R5,k.mds.1],D3u k.mds.2.1 hyx,λi z hz=>?_⟩,k7.tol,k7.par,k7.pr,k7.pi,k7.pt,λid hi=>by cases hi;exact .inr (by omega),λid hi=>by cases hi;exact .inr (by omega),k7.pl,k7.py⟩⟩
 ·have cl1:cells? (.a (rcC xr xi xt xb xm c.lost xl xy))=some (rcC xr xi xt xb xm c.lost xl xy):=rfl;have ef:D9 [] []=some []:=rfl;have ef1:D9 [o0] [(0,1,iV no)]=some [.i .i64 no]:=rfl;have ef2:D9 [Cell.ns] [(0,1,.c y)]=some [y]:=rfl;have lb:B4 (h++T++[rT []]) (pV h.length 3)=some (.c xb):=B5 (cs:=rcC xr xi xt xb xm c.lost xl xy) (rw:=true) (by rw [hT,E45,E9];rfl) rfl rfl;have lm:B4 (K3++[rT []]) (pV h.length 4)=some (.c xm):=B5 (B6 rc3) rfl rfl;rw [lT] at c1;rw [<-hK] at c1;rw [<-hK2] at o1;rw [lK] at o1;rw [lK3] at c2;rw [<-hK4] at c2;rw [<-hK5] at o2;rw [lK4] at o2;simp only [hT,E45,E5x,E5g] at c1 lb;rw [C4f];generalize C'=Z at *;simp only [esc,Nat.reduceAdd,cl1,ef,lb,c1,lK,ef1,o1,s3,lK3,lm,c2,lK4,ef2,o2,s4,l8,s8,l8']
 ·show Has K7 (sV (h.length+5) 0 (c.blocks.length+1) 1) 1 (c.blocks++[no]).length (encI (c.blocks++[no]));rw [E43];exact Has.row (rw:=true) (by rw [old7 _ (by omega) (by omega),old5 _ (by omega)];exact rb3) (by simp [A8]) (bF _)
 ·show Has K7 (sV (h.length+9) 0 (c.made.length+1) 1) 1 (c.made++[b]).length (ys++[y]);rw [E43];exact Has.row (rw:=true) (by rw [old7 _ (by omega) (by omega)];exact rm5) (by simp [k.mds.1]) (D3u k.mds.2.1 hyx)
 ·by_cases hi:i<ys.length
  ·rw [E5z hi] at hz;obtain ⟨q1,b',q2,q3,q4⟩:=k7.mds.2.2 i z hz;refine ⟨q1,b',?_,q3,q4⟩;show (c.made++[b])[i]?=some b';rw [E5z (by rw [<-k.mds.1];exact hi)];exact q2
  ·rw [E5e (by omega)] at hz;have e:i-ys.length=0:=by
    have:=(List.getElem?_eq_some_iff.1 hz).1;simp at this;omega
   rw [e] at hz;simp at hz;subst hz;refine ⟨λid hid=>.inl (py id hid),b,?_,hbl,hy.grows G7⟩;show (c.made++[b])[i]?=some b;have e2:=k.mds.1;rw [E5e (by omega),show i-c.made.length=0 by omega];rfl
theorem D56 {x:Cell} {l:List Int} {at_:Nat} {v:Int} {nv:Nat} (hx:Has h (.c x) 1 nv (encI l)) (ha:at_<l.length) (hl:l.length<=100000) :
  B34 [.c x,iV (at_:Int),iV v] h=some (sV h.length 0 nv 1,h++[rT (encI (l.set at_ v))]):=by
 have hn:nv=l.length:=by have:=hx.length;rw [A8] at this;omega
 subst hn;obtain ⟨T,hT⟩:∃ T:A6,T=[rT []]:=⟨_,rfl⟩;have c1:=B4G (H:=ro h++T) (hx.ro.more T) (by omega) (by omega);have lT:(ro h++T).length=(ro h).length+1:=by rw [hT];simp
 rw [lT,hT] at c1;have ad:D5 1 (sV ((ro h).length+1+1) 0 l.length 1) (iV (at_:Int))=some (pV ((ro h).length+2) at_):=by rw [C4 ha];simp
 have st:st1 (rT (encI l)) at_ (.i .i64 v)=rT (encI (l.set at_ v)):=by
  simp only [st1,E49];rw [if_pos ⟨trivial,by rw [A8];exact ha⟩,bC]
 have key:B3w 0 [.c x,iV (at_:Int),iV v] (ro h)=some (sV ((ro h).length+2) 0 l.length 1,ro h++[rT [],none,rT (encI (l.set at_ v))]):=by
  have ef:D9 [] []=some []:=rfl;simp only [E45,E5x,E5g] at c1;rw [C7Z];generalize encI l=E at *;generalize encI (l.set at_ v)=E' at *;simp only [esc,esh,Nat.reduceAdd,Nat.reduceMul,Nat.reduceLT,ef,c1,ad,st]
 exact C4Z key ⟨by simp [A8],(ro h).length+2,rfl,by rw [E7];omega,by rw [K0];rfl⟩ C6h
end
end
section
section
variable {D:Dev} {n m:Int} {P:Nat->Prop} {h:A6} {c:Cl} {cs:List Cell} {v:Val}
theorem D9g {dir ino:Int} (hv:Has h v 256 D.length (D1 D)) (hD:okD D) (k:IsRC n P h cs c) (hR:RowW n c) (hr:c.row.length<=100000) (hk:∀ i,0<=(c.lnk i).getD 0/\(c.lnk i).getD 0<1000000) (hn:n<=128) :
  ∃ cs' H',A1Y [.a cs,v,.a (D3 D.length n m),iV dir,iV ino] h=some (.t [.a cs',.c (.b (gR D n c ino))],H')/\Grows h H'/\IsRC n (λid=>P id\/h.length<=id) H' cs' (cX D n c dir ino):=by
 obtain ⟨xr,xi,xt,xb,xm,xl,xy,ys,rfl,k⟩:=k;have cl1:cells? (.a (rcC xr xi xt xb xm c.lost xl xy))=some (rcC xr xi xt xb xm c.lost xl xy):=rfl;have cl2:cells? (.a (D3 D.length n m))=some (D3 D.length n m):=rfl;have z8l:[Cell.ns,.ns,.ns,.ns,.ns,o0,.ns,.ns].length=8:=rfl;have cl8:(rcC xr xi xt xb xm c.lost xl xy).length=8:=rfl;have ll3:(D3 D.length n m).length=3:=rfl;have ll1:ld1 (rT (D3 D.length n m)) 1=some (iV n):=rfl;have l0:ld1 (rT (rcC xr xi xt xb xm c.lost xl xy)) 0=some (.c xr):=by simp only [ld1,rcC];rfl
 have l6:ld1 (rT (rcC xr xi xt xb xm c.lost xl xy)) 6=some (.c xl):=by simp only [ld1,rcC];rfl
 have no:gR D n c ino=false->∀ t:A6,t=[rT (rcC xr xi xt xb xm c.lost xl xy),rT (D3 D.length n m),rT (rcC xr xi xt xb xm c.lost xl xy)] ->
   A8m 0 [.a (rcC xr xi xt xb xm c.lost xl xy),v,.a (D3 D.length n m),iV dir,iV ino] h=some (.t [.a (rcC xr xi xt xb xm c.lost xl xy),.c (.b false)],h++t) ->
   ∃ cs' H',A1Y [.a (rcC xr xi xt xb xm c.lost xl xy),v,.a (D3 D.length n m),iV dir,iV ino] h=some (.t [.a cs',.c (.b (gR D n c ino))],H')/\Grows h H'/\IsRC n (λid=>P id\/h.length<=id) H' cs' (cX D n c dir ino):=by
  intro hb t ht he;have e2:cX D n c dir ino=c:=by unfold cX;rw [hb];rfl
  rw [hb,e2];have G:Grows h (h++t):=Q4 Grows.rfl' (by rw [ht];rfl);exact ⟨_,_,A0G he,G,_,_,_,_,_,_,_,_,rfl,(k.mono λ_=>.inl).grows G⟩
 by_cases c0:ino<2
 ·refine no ?_ _ rfl ?_
  ·unfold gR;by_cases e:ino=1
   ·simp [e]
   ·have:kdV D n ino=0:=by
     by_cases hz:kdV D n ino=0
     ·exact hz
     ·have:=(D4E hz).2;omega
    simp [this]
  ·rw [dT];generalize rcC xr xi xt xb xm c.lost xl xy=C at *;generalize D3 D.length n m=L at *;simp only [esc,esh,Nat.reduceAdd,Nat.reduceMul,Nat.reduceLT,cl1,cl2,c0,cl8,z8l,ll1]
 by_cases c1:ino > n
 ·refine no ?_ _ rfl ?_
  ·unfold gR;have:kdV D n ino=0:=by
    by_cases hz:kdV D n ino=0
    ·exact hz
    ·have:=(D4E hz).2;omega
   simp [this]
  ·rw [dT];generalize rcC xr xi xt xb xm c.lost xl xy=C at *;generalize D3 D.length n m=L at *;simp only [esc,esh,Nat.reduceAdd,Nat.reduceMul,Nat.reduceLT,cl1,cl2,c0,cl8,z8l,ll1,c1]
 obtain ⟨j,rfl⟩:=E5I (show 0<=ino by omega);have hI:=λt=>rC (n:=n) (m:=m) (i:=(j:Int)) (hv.more t) hD
 have hIn:=λt=>C1O (x:=(j:Int)) (k.row.more t) (by omega)
 have f0:C06 (.a (A1n D n (j:Int))) 0=some (iV (kdV D n (j:Int))):=by rw [A6B];rfl
 have E3i:decide ((j:Int)∈c.row)=(c.par (j:Int)).isSome:=by
  rw [Bool.eq_iff_iff,decide_eq_true_eq];exact (hR.par _).symm
 rw [E3i] at hIn;have n1:¬ (j:Int)=1:=by omega
 have eb:gR D n c (j:Int) = !(decide (kdV D n (j:Int)=0)||decide (kdV D n (j:Int)=2)&&(c.par (j:Int)).isSome):=by unfold gR;simp [n1]
 by_cases c2:kdV D n (j:Int)=0
 ·refine no (by rw [eb];simp [c2]) _ rfl ?_;rw [dT];generalize A1n D n (j:Int)=I at *;generalize (c.par (j:Int)).isSome=sn at *;generalize rcC xr xi xt xb xm c.lost xl xy=C at *;generalize D3 D.length n m=L at *;rw [c2] at f0;simp only [esc,esh,Nat.reduceAdd,Nat.reduceMul,Nat.reduceLT,cl1,cl2,c0,cl8,z8l,ll1,c1,ll3,hI,f0,l0,hIn]
 by_cases c3:kdV D n (j:Int)=2/\(c.par (j:Int)).isSome=true
 ·refine no (by rw [eb];simp [c3.1,c3.2]) _ rfl ?_;rw [c3.2] at hIn;rw [c3.1] at f0;have n20:¬ (2:Int)=0:=by decide
  rw [dT];generalize A1n D n (j:Int)=I at *;generalize rcC xr xi xt xb xm c.lost xl xy=C at *;generalize D3 D.length n m=L at *;simp only [esc,esh,Nat.reduceAdd,Nat.reduceMul,Nat.reduceLT,cl1,cl2,c0,cl8,z8l,ll1,c1,ll3,hI,f0,l0,hIn,n20]
 have hb:gR D n c (j:Int)=true:=by
  rw [eb];by_cases e:kdV D n (j:Int)=2
  ·have:(c.par (j:Int)).isSome=false:=by
    cases hs:(c.par (j:Int)).isSome with
    | false=>rfl
    | true=>exact absurd ⟨e,hs⟩ c3
   rw [this];simp [c2]
  ·simp [c2,e]
 have hj:j<(n+1).toNat:=by omega
 have hlj:j<(eK n c.lnk).length:=by rw [Q9];exact hj
 have hyj:j<(eK n c.par).length:=by rw [Q9];exact hj
 obtain ⟨it,ot,et,_,hA,_⟩:=k.tol.sl (by omega);cases et;have a1:D5 1 (sV it ot (n+1).toNat 1) (iV (j:Int))=some (pV it (ot+j)):=by rw [C4 hj];simp
 have a2:∀ t,B4 (h++t) (pV it (ot+j))=some (iV ((c.lnk (j:Int)).getD 0)):=λt=>by
  obtain ⟨it',ot',et',_,hA',_⟩:=(k.tol.more t).sl (by omega);cases et';exact hA' j _ (by rw [F6,A4R hj];rfl)
 have hkj:=hk (j:Int);have wk:IntKind.wrap .i64 ((c.lnk (j:Int)).getD 0+1)=(c.lnk (j:Int)).getD 0+1:=wrap_i64 (by omega) (by omega);obtain ⟨lk',elk⟩:∃ lk',lk'=uI c.lnk (j:Int) ((c.lnk (j:Int)).getD 0+1):=⟨_,rfl⟩;have eset:=C6K (n:=n) (F:=c.lnk) (i:=j) (v:=(c.lnk (j:Int)).getD 0+1);rw [<-elk] at eset;have S1:=λt=>D56 (at_:=j) (v:=(c.lnk (j:Int)).getD 0+1) (k.tol.more t) hlj (by rw [Q9];omega)
 rw [eset] at S1;obtain ⟨C1,hC1⟩:∃ C1,C1=rcC xr xi xt xb xm c.lost (.sl (h.length+3) 0 (n+1).toNat 1) xy:=⟨_,rfl⟩;have sC1:st1 (rT (rcC xr xi xt xb xm c.lost (.sl it ot (n+1).toNat 1) xy)) 6 (.sl (h.length+3) 0 (n+1).toNat 1)=rT C1:=by rw [hC1];rfl
 have C18:C1.length=8:=by rw [hC1];rfl
 cases hsn:(c.par (j:Int)).isSome with
 | true =>
  rw [hsn] at hIn;have e2:cX D n c dir (j:Int)=B0B c (j:Int):=by unfold cX;rw [hb,hsn];rfl
  rw [hb,e2];have nk2:¬ kdV D n (j:Int)=2:=λe=>c3 ⟨e,hsn⟩
  obtain ⟨H',hH'⟩:∃ H',H'=h++[rT C1,rT (D3 D.length n m),rT C1,rT (encI (eK n lk'))]:=⟨_,rfl⟩;have G:Grows h H':=by rw [hH'];exact Q4 Grows.rfl' rfl
  have k2:=(k.mono (Q:=λid=>P id\/h.length<=id) λ_=>.inl).grows G;refine ⟨C1,H',A0G (n:=0) ?_,G,xr,xi,xt,xb,xm,.sl (h.length+3) 0 (n+1).toNat 1,xy,ys,hC1,
   ⟨k2.row,k2.ino,k2.tak,k2.blk,k2.mad,k2.mds,?_,k2.par,k2.pr,k2.pi,k2.pt,k2.pb,k2.pm,λid hi=>by cases hi;exact .inr (by omega),k2.py⟩⟩
  ·rw [dT,hH'];generalize A1n D n (j:Int)=I at *;generalize kdV D n (j:Int)=kd at *;generalize rcC xr xi xt xb xm c.lost (.sl it ot (n+1).toNat 1) xy=C at *;generalize D3 D.length n m=L at *;generalize encI (eK n lk')=E at *;simp only [esc,esh,Nat.reduceAdd,Nat.reduceMul,Nat.reduceLT,cl1,cl2,c0,cl8,z8l,ll1,c1,ll3,hI,f0,l0,hIn,c2,nk2,l6,a1,a2,wk,S1,sC1,C18,xQ]
  ·show Has H' (sV (h.length+3) 0 (n+1).toNat 1) 1 (n+1).toNat (encI (eK n (B0B c (j:Int)).lnk));have:(B0B c (j:Int)).lnk=lk':=by rw [elk];rfl
   rw [this];exact Has.row (rw:=true) (by rw [hH',K0];rfl) (by rw [A8,Q9];omega) (bF _)
 | false =>
  rw [hsn] at hIn;have e2:cX D n c dir (j:Int)=D4T (B0B c (j:Int)) dir (j:Int):=by unfold cX;rw [hb,hsn];rfl
  rw [hb,e2];obtain ⟨pa',epa⟩:∃ pa',pa'=uI c.par (j:Int) dir:=⟨_,rfl⟩;have eset2:=C6K (n:=n) (F:=c.par) (i:=j) (v:=dir);rw [<-epa] at eset2;have S2:=λt=>D56 (at_:=j) (v:=dir) (k.par.more t) hyj (by rw [Q9];omega)
  rw [eset2] at S2;obtain ⟨C2,hC2⟩:∃ C2,C2=rcC xr xi xt xb xm c.lost (.sl (h.length+3) 0 (n+1).toNat 1) (.sl (h.length+4) 0 (n+1).toNat 1):=⟨_,rfl⟩;have l7:ld1 (rT C1) 7=some (.c xy):=by rw [hC1];simp only [ld1,rcC];rfl
  have sC2:st1 (rT C1) 7 (.sl (h.length+4) 0 (n+1).toNat 1)=rT C2:=by rw [hC1,hC2];rfl
  have l0':ld1 (rT C2) 0=some (.c xr):=by rw [hC2];simp only [ld1,rcC];rfl
  obtain ⟨T,hT⟩:∃ T:A6,T=[rT C2,rT (D3 D.length n m),rT [Cell.ns,.ns,.ns,.ns,.ns,o0,.ns,.ns],rT (encI (eK n lk')),rT (encI (eK n pa'))]:=⟨_,rfl⟩;have cp:=B4G (H:=h++T) (k.row.more T) (by omega) (by omega);have lT:(h++T).length=h.length+5:=by rw [hT];simp
  obtain ⟨K,hK⟩:∃ K,K=h++T++[none,rT (encI c.row)]:=⟨_,rfl⟩;have lK:K.length=h.length+7:=by rw [hK,E43,lT];rfl
  have rK:rd K (h.length+6)=rT (encI c.row):=by rw [hK,hT,E45,K0];rfl
  have op:=one_app (ys:=[Cell.i .i64 (j:Int)]) rK (n:=c.row.length) (sz:=1) (by rw [A8];omega) rfl (by omega) (by omega);have er:encI c.row++[Cell.i .i64 (j:Int)]=encI (c.row++[(j:Int)]):=by simp [encI]
  rw [lK,er] at op;rw [lT] at cp;obtain ⟨C3,hC3⟩:∃ C3,C3=rcC (.sl (h.length+8) 0 (c.row.length+1) 1) xi xt xb xm c.lost (.sl (h.length+3) 0 (n+1).toNat 1) (.sl (h.length+4) 0 (n+1).toNat 1):=⟨_,rfl⟩;have sC3:st1 (rT C2) 0 (.sl (h.length+8) 0 (c.row.length+1) 1)=rT C3:=by rw [hC2,hC3];rfl
  have C38:C3.length=8:=by rw [hC3];rfl
  have ef:D9 [] []=some []:=rfl;have ef1:D9 [o0] [(0,1,iV (j:Int))]=some [.i .i64 (j:Int)]:=rfl;obtain ⟨H',hH'⟩:∃ H',H'=h++[rT C3,rT (D3 D.length n m),rT C3,rT (encI (eK n lk')),rT (encI (eK n pa')),none,none,rT [Cell.i .i64 (j:Int)],rT (encI (c.row++[(j:Int)]))]:=⟨_,rfl⟩;have G:Grows h H':=by rw [hH'];exact Q4 Grows.rfl' rfl
  have k2:=(k.mono (Q:=λid=>P id\/h.length<=id) λ_=>.inl).grows G;refine ⟨C3,H',A0G (n:=0) ?_,G,.sl (h.length+8) 0 (c.row.length+1) 1,xi,xt,xb,xm,.sl (h.length+3) 0 (n+1).toNat 1,.sl (h.length+4) 0 (n+1).toNat 1,ys,hC3,
   ⟨?_,k2.ino,k2.tak,k2.blk,k2.mad,k2.mds,?_,?_,λid hi=>by cases hi;exact .inr (by omega),k2.pi,k2.pt,k2.pb,k2.pm,λid hi=>by cases hi;exact .inr (by omega),λid hi=>by cases hi;exact .inr (by omega)⟩⟩
  ·rw [hK,hT] at op;rw [hT] at cp;rw [dT,hH'];generalize A1n D n (j:Int)=I at *;generalize kdV D n (j:Int)=kd at *;generalize rcC xr xi xt xb xm c.lost (.sl it ot (n+1).toNat 1) xy=C at *;generalize D3 D.length n m=L at *;generalize encI (eK n lk')=E at *;generalize encI (eK n pa')=E2 at *;generalize encI (c.row++[(j:Int)])=R2 at *;generalize encI c.row=R1 at *;simp only [E45,E5x,E5g] at cp;simp only [esc,Nat.reduceAdd] at op;by_cases nk2:kd=2
   ·rw [nk2] at f0;have n20:¬ (2:Int)=0:=by decide
    simp only [esc,esh,Nat.reduceAdd,Nat.reduceMul,Nat.reduceLT,Bool.not_false,cl1,cl2,c0,cl8,z8l,ll1,c1,ll3,hI,f0,l0,hIn,n20,l6,a1,a2,wk,S1,sC1,l7,S2,sC2,l0',ef,cp,ef1,op,sC3,C38,xQ]
   ·simp only [esc,esh,Nat.reduceAdd,Nat.reduceMul,Nat.reduceLT,Bool.not_false,cl1,cl2,c0,cl8,z8l,ll1,c1,ll3,hI,f0,l0,hIn,c2,nk2,l6,a1,a2,wk,S1,sC1,l7,S2,sC2,l0',ef,cp,ef1,op,sC3,C38,xQ]
  ·show Has H' (sV (h.length+8) 0 (c.row.length+1) 1) 1 (c.row++[(j:Int)]).length (encI (c.row++[(j:Int)]));rw [E43];exact Has.row (rw:=true) (by rw [hH',K0];rfl) (by simp [A8]) (bF _)
  ·show Has H' (sV (h.length+3) 0 (n+1).toNat 1) 1 (n+1).toNat (encI (eK n (B0B c (j:Int)).lnk));have:(B0B c (j:Int)).lnk=lk':=by rw [elk];rfl
   rw [this];exact Has.row (rw:=true) (by rw [hH',K0];rfl) (by rw [A8,Q9];omega) (bF _)
  ·show Has H' (sV (h.length+4) 0 (n+1).toNat 1) 1 (n+1).toNat (encI (eK n (D4T (B0B c (j:Int)) dir (j:Int)).par));have:(D4T (B0B c (j:Int)) dir (j:Int)).par=pa':=by rw [epa];rfl
   rw [this];exact Has.row (rw:=true) (by rw [hH',K0];rfl) (by rw [A8,Q9];omega) (bF _)
end
end
section
section
variable {D:Dev} {h:A6} {v:Val}
theorem A0j {no:Int} (hv:Has h v 256 D.length (D1 D)) (hD:okD D) :
  ∃ u t,qE [v,iV no] h=some (.c u,h++t)/\t.all B21=true/\Has (h++t) (.c u) 1 256 (A5 (blk D no))/\u.isX=false:=by
 by_cases hin:0<=no/\no<(D.length:Nat)
 ·obtain ⟨i,rfl⟩:=E5I hin.1;have hi:i<D.length:=by omega
  obtain ⟨u,e1,e2⟩:=C7j hv hD hi;obtain ⟨id,off,eu,_⟩:=e2.sl (by omega);subst eu;refine ⟨.sl id off 256 1,[],by rw [E5t];exact e1,rfl,?_,rfl⟩;rw [E5t,B9y hi];exact e2
 ·have eb:blk D no=zeros 256:=D2J (by omega);rw [eb];have hlen:=hv.ro.len;have mk:A1m (iV 256) (iV 256)=some 256:=rfl;have rz:rows [Cell.i .u8 0] 256=A5 (zeros 256):=by
   unfold rows;rw [List.flatten_replicate_singleton,I5]
  have key:yT 0 [v,iV no] (ro h)=some (sV ((ro h).length+1) 0 256 1,ro h++[rT [],rT (A5 (zeros 256))]):=by
   rw [A64];by_cases c0:no<0
   ·simp only [esc,c0,mk,rz]
   ·have c1:no>=(D.length:Nat):=by omega
    simp only [esc,c0,hlen,c1,mk,rz]
  have hS:=B8S key (sz:=1) (k:=256) (cs:=A5 (zeros 256)) ⟨by rw [A4,zeros_length],(ro h).length+1,rfl,by rw [E7];omega,by rw [K0];rfl⟩ (by simp);refine ⟨.sl h.length 0 256 1,[rT (A5 (zeros 256))],hS,rfl,?_,rfl⟩;exact Has.row (rw:=true) (by rw [E9];rfl) (by rw [A4,zeros_length]) (F0 _)
def B4x (D:Dev) (X:List Int) (nm:List UInt8):Int:=if P8 X nm=0 then 0 else D4W ((V8 (blk D (P8 X nm)) nm).map (·.1))
theorem D42 {d:Int} {t:List Int} {nm:List UInt8} (hv:Has h v 256 D.length (D1 D)) (hD:okD D) (ht:t.length=32) (h5:d<=5) (hs:nm.length<9223372036854775807) :
  B8T [v,.a (encI (d::t)),.c (.s nm)] h=some (.t [.c (.i .i64 (P8 (d::t) nm)),.c (.i .i64 (B4x D (d::t) nm)),.c (.b (hmS D (d::t) nm).isSome)],h):=by
 have key:∀ g,Has g v 256 D.length (D1 D)->∃ g',B77 0 [v,.a (encI (d::t)),.c (.s nm)] g=some (.t [.c (.i .i64 (P8 (d::t) nm)),.c (.i .i64 (B4x D (d::t) nm)),.c (.b (hmS D (d::t) nm).isSome)],g'):=λg hv=>by
  obtain ⟨G,hG⟩:∃ G,G=g++[rT (encI (d::t))]:=⟨_,rfl⟩;have rG:rd G g.length=rT (encI (d::t)):=by rw [hG,E9];rfl
  have hvG:Has G v 256 D.length (D1 D):=by rw [hG];exact hv.more _
  have hM:=λh=>C1N (s:=nm) hs (h:=h)
  have hP:=λh=>D1S (x:=xT nm) (b:=d) (h:=h) C3o
  rw [D6T h5] at hP;have U8:=D3g (d::t) nm;have eP:xT nm%B9 d=A07 (d::t) nm:=rfl;rw [eP] at hP;have ad:J3 32 1 (pV g.length 1) (iV (A07 (d::t) nm:Nat))=some (pV g.length (1+A07 (d::t) nm)):=by rw [D7G (by omega) (by omega)];simp
  have l0:B4 G (pV g.length 0)=some (iV d):=B5 rG rfl rfl;have l1:B4 G (pV g.length (1+A07 (d::t) nm))=some (iV (P8 (d::t) nm)):=by
   refine B5 rG ?_ rfl;rw [F6,Nat.add_comm,E5N,E40 (by omega)];unfold P8;rw [List.tail_cons,E47,E40 (by omega)];rfl
  have cl:cells? (.a (encI (d::t)))=some (encI (d::t)):=rfl;rw [D0L];by_cases c0:P8 (d::t) nm=0
  ·have e1:B4x D (d::t) nm=0:=by unfold B4x;rw [if_pos c0]
   have e2:hmS D (d::t) nm=none:=by unfold hmS;rw [if_pos c0]
   rw [e1,e2,c0];rw [c0] at l1;generalize encI (d::t)=X at *;generalize A07 (d::t) nm=P at *;exact ⟨G,by simp only [esc,Nat.reduceAdd,cl,<-hG,hM,l0,hP,ad,l1];rfl⟩
  ·obtain ⟨u,tt,b1,b2,b3,b4⟩:=A0j (no:=P8 (d::t) nm) hvG hD;have hF:=C8V (nm:=nm) b3 (O2 hD);have e1:B4x D (d::t) nm=D4W ((V8 (blk D (P8 (d::t) nm)) nm).map (·.1)):=by unfold B4x;rw [if_neg c0]
   have e2:hmS D (d::t) nm=V8 (blk D (P8 (d::t) nm)) nm:=by unfold hmS;rw [if_neg c0]
   have e3:decide (D4W ((V8 (blk D (P8 (d::t) nm)) nm).map (·.1))>=0)=(V8 (blk D (P8 (d::t) nm)) nm).isSome:=by
    cases V8 (blk D (P8 (d::t) nm)) nm with
    | none=>rfl
    | some x =>
     show decide (((x.1:Nat):Int)>=0)=true;exact decide_eq_true (by omega)
   rw [e1,e2];have e3':N5 .geq (iV (D4W ((V8 (blk D (P8 (d::t) nm)) nm).map (·.1)))) (iV 0)=some (bV (V8 (blk D (P8 (d::t) nm)) nm).isSome):=by rw [C5s,e3]
   generalize D4W ((V8 (blk D (P8 (d::t) nm)) nm).map (·.1))=S at *;generalize (V8 (blk D (P8 (d::t) nm)) nm).isSome=I at *;generalize P8 (d::t) nm=B at *;generalize A07 (d::t) nm=P at *;generalize encI (d::t)=X at *;refine ⟨G++tt,?_⟩;simp only [Q5,cl,E5t,<-hG,hM,C7c,D2p,E5l,l0,hP,ad,l1,vW,c0,decide_false,C50,b1,hF,e3'];rfl
 obtain ⟨g',e⟩:=key (ro h) hv.ro;exact C4U e rfl
theorem D7Q {X:List Int} {no:Int} {kk:Nat} {s:List UInt8} {i:Int} (bM:no≠0) (hr:R0 (blk D no) kk=some (s,i)) :
  ((hmS D X s).isSome&&decide (P8 X s=no)&&decide (B4x D X s=(kk:Int)))=atH D X (no,(kk,(s,i))):=by
 show _=(decide (P8 X s=no)&&decide (hmS D X s=some (kk,(s,i))));by_cases c:P8 X s=no
 ·have c0:¬ P8 X s=0:=by rw [c];exact bM
  unfold hmS B4x;rw [if_neg c0,if_neg c0,c];cases hf:V8 (blk D no) s with
  | none=>simp
  | some x =>
   obtain ⟨h1,h2,h3⟩:=D4w hf;simp only [E5h,decide_true,E5d,Option.map_some,Option.some.injEq];show decide (((x.1:Nat):Int)=(kk:Int))=decide (x=(kk,(s,i)));by_cases e:x.1=kk
   ·rw [e] at h2;rw [hr] at h2;have:x=(kk,(s,i)):=by
     obtain ⟨a,b⟩:=x;simp only at e h2;simp only [Option.some.injEq] at h2;rw [e,<-h2]
    rw [decide_eq_true this,decide_eq_true (by omega)]
   ·rw [decide_eq_false (by omega),decide_eq_false (λh=>e (by rw [h]))]
 ·simp [c]
theorem D3K {x:Val} {l:V0} {s:List UInt8} {nv q:Nat} (hx:Has h x 1 nv (encS l)) (hl:l.length<=100000):∀ (e i M:Nat),i+e=l.length->e<M ->
  C6b q M x (.c (.s s)) (iV (i:Int)) h=some (bV (decide (s∈l.drop i)),h)
 | e,i,0,_,hM=>by omega
 | 0,i,M+1,hi,_=>by
  have hn:nv=l.length:=by have:=hx.length;rw [L9] at this;omega
  subst hn;have hlen:=hx.len;have c0:¬ (i:Int)<(l.length:Nat):=by omega
  rw [B2N,E5c (by omega)];simp only [esc,hlen,c0];simp
 | e+1,i,M+1,hi,hM=>by
  have hn:nv=l.length:=by have:=hx.length;rw [L9] at this;omega
  subst hn;have P6:i<l.length:=by omega
  have hlen:=hx.len;have c0:(i:Int)<(l.length:Nat):=by omega
  have w1:=C6 (show i+1<9223372036854775808 by omega);obtain ⟨id,off,ex,_,hA,_⟩:=id hx |>.sl (by omega)
  have a1:D5 1 x (iV (i:Int))=some (pV id (off+i)):=by rw [ex,C4 P6];simp
  have a2:B4 h (pV id (off+i))=some (.c (.s l[i])):=hA i _ (by simp [encS,P6]);have ih:=D3K (q:=q) (s:=s) hx hl e (i+1) M (by omega) (by omega);rw [B2N,E46 P6];by_cases c1:l[i]=s
  ·simp only [esc,hlen,c0,a1,a2,B9t,c1];simp
  ·have:decide (s∈l[i]::l.drop (i+1))=decide (s∈l.drop (i+1)):=by
    have:s∈l[i]::l.drop (i+1)↔s∈l.drop (i+1):=by
     rw [List.mem_cons];exact ⟨λh=>h.resolve_left (λe=>c1 e.symm),.inr⟩
    simp only [this]
   rw [this];simp only [esc,hlen,c0,a1,a2,B9t,c1,w1];exact ih
theorem E2x {x:Val} {l:V0} {s:List UInt8} {nv:Nat} (hx:Has h x 1 nv (encS l)) (hl:l.length<=100000):B8U [x,.c (.s s)] h=some (bV (decide (s∈l)),h):=by
 have e:=D3K (q:=l.length+1) (s:=s) hx.ro hl l.length 0 (l.length+1) (by omega) (by omega);rw [E5k] at e;exact C4X (n:=l.length+1) (by rw [D0M];exact e) rfl
end
end
section
theorem D2U {D:Dev} {n:Int} {c:Cl}:B4E D n c 0=false:=by
 unfold B4E;have:iP D.length n 0=false:=by
  cases h:iP (D.length:Int) n 0 with
  | false=>rfl
  | true =>
   obtain ⟨h1,h2,_⟩:=D3l.1 h;unfold kI rQ A1i at h2;rw [h1] at h2;simp only [cond_true] at h2;obtain ⟨_,_,h8,_⟩:=J5.1 h1;omega
 rw [this];rfl
theorem D6u {D:Dev} {n:Int} {c:Cl}:dG D n c 0=c:=by unfold dG;rw [D2U];rfl
theorem D6v {D:Dev} {n:Int} {c:Cl}:T0 D n c 0=0:=by unfold T0;rw [D2U];rfl
theorem fX {D:Dev} {n:Int} {c:Cl} {no:Int}:(dG D n c no).taken.length=c.taken.length:=by
 unfold dG;cases B4E D n c no<;>simp
section
variable {D:Dev} {n m:Int} {P Q:Nat->Prop} {g H:A6} {c:Cl} {cs:List Cell} {v:Val}
abbrev Z8:List Cell:=[.ns,.ns,.ns,.ns,.ns,o0,.ns,.ns]
theorem D8y {x4:Nat} {no:Int} {c0:List Cell} (G:Grows g H) (hg:g.length<=x4) (k:IsRC n Q H cs c) (rx:rd H x4=rT c0) (hc0:c0.length=8) (hQ:∀ id,H.length<id->Q id) (hx:¬ Q x4) (ht:c.taken.length=D.length) (hl:D.length<=1000) :
  ∃ cs' K H1 H2,quiet (H++[none]) (vT [.a cs,.a (D3 D.length n m),iV no] (H++[none]))=some (.t [.a cs',.c (.i .i64 (T0 D n c no))],K) /\
   E1 (K.set H.length (rT Z8)) 8 (pV H.length 0) (.a cs')=some H1/\C8 H1 8 (pV H.length 0)=some (.a cs')/\E1 H1 8 (pV x4 0) (.a cs')=some H2 /\
   Grows g H2/\IsRC n Q H2 cs' (dG D n c no)/\rd H2 x4=rT cs'/\H.length<=H2.length/\(∀ j,j<H.length->j≠x4->rd H2 j=rd H j):=by
 have hxl:=C5 rx;obtain ⟨cs',K,e1,e2,e3⟩:=D3N (m:=m) (no:=no) (k.grows (h':=H++[none]) (Q4 Grows.rfl' rfl)) ht hl;have e3:IsRC n Q K cs' (dG D n c no):=e3.mono λid h=>by
  rcases h with h | h
  ·exact h
  ·exact hQ id (by simp at h;omega)
 have hc8:=e3.length;have hKl:H.length+1<=K.length:=by have:=e2.len;simpa using this
 have rn:rd K H.length=none:=by
  obtain ⟨t,rfl⟩:=e2.1;rw [E45];unfold rd;rw [E5e (E44 _),E5K];rfl
 have low:∀ j,j<H.length->rd K j=rd H j:=λj hj=>by
  obtain ⟨t,rfl⟩:=e2.1;rw [E45,D4 hj]
 have GK:Grows g K:=G.trans' ((Q4 (t:=[none]) Grows.rfl' rfl).trans' e2);obtain ⟨K1,hK1⟩:∃ K1,K1=K.set H.length (rT Z8):=⟨_,rfl⟩;obtain ⟨H1,hH1⟩:∃ H1,H1=K1.set H.length (rT cs'):=⟨_,rfl⟩;obtain ⟨H2,hH2⟩:∃ H2,H2=H1.set x4 (rT cs'):=⟨_,rfl⟩;have hgH:=G.len;have rz:rd K1 H.length=rT Z8:=by rw [hK1];exact B7 (by omega)
 have r1:rd H1 H.length=rT cs':=by rw [hH1];exact B7 (by rw [hK1];simp;omega)
 have rx1:rd H1 x4=rT c0:=by rw [hH1,A7 (by omega),hK1,A7 (by omega),low x4 hxl];exact rx
 have eq1:H1=K.set H.length (rT cs'):=by rw [hH1,hK1];simp
 refine ⟨cs',K,H1,H2,by rw [e1];exact U9 e2,?_,B8 r1 hc8,?_,?_,?_,?_,?_,?_⟩
 ·rw [<-hK1,storeAll (n:=8) rz rfl hc8,hH1]
 ·rw [storeAll rx1 hc0 hc8,hH2]
 ·rw [hH2,eq1];exact (GK.set (by omega) _).set hg _
 ·rw [hH2,eq1];exact (e3.set (.inl rn)).set (.inr hx)
 ·rw [hH2];exact B7 (by rw [eq1];simp;omega)
 ·rw [hH2,eq1];simp;omega
 ·intro j hj T5;rw [hH2,A7 (Ne.symm T5),eq1,A7 (by omega)];exact low j hj
theorem D8z {x4:Nat} {no:Int} {c0:List Cell} (G:Grows g H) (hg:g.length<=x4) (k:IsRC n Q H cs c) (rx:rd H x4=rT c0) (hc0:c0.length=8) (hQ:∀ id,H.length<=id->Q id) (hx:¬ Q x4) (ht:c.taken.length=D.length) (hl:D.length<=1000) :
  ∃ cs' K H1 H2,vT [.a cs,.a (D3 D.length n m),iV no] H=some (.t [.a cs',.c (.i .i64 (T0 D n c no))],K) /\
   E1 (K++[rT Z8]) 8 (pV K.length 0) (.a cs')=some H1/\C8 H1 8 (pV K.length 0)=some (.a cs')/\E1 H1 8 (pV x4 0) (.a cs')=some H2 /\
   Grows g H2/\IsRC n Q H2 cs' (dG D n c no)/\rd H2 x4=rT cs'/\H.length<=H2.length/\(∀ j,j<H.length->j≠x4->rd H2 j=rd H j):=by
 have hxl:=C5 rx;obtain ⟨cs',K,e1,e2,e3⟩:=D3N (m:=m) (no:=no) k ht hl;have e3:IsRC n Q K cs' (dG D n c no):=e3.mono λid h=>by
  rcases h with h | h
  ·exact h
  ·exact hQ id h
 have hc8:=e3.length;have hKl:=e2.len;have low:∀ j,j<H.length->rd K j=rd H j:=λj hj=>by
  obtain ⟨t,rfl⟩:=e2.1;rw [D4 hj]
 have GK:Grows g K:=G.trans' e2;obtain ⟨H1,hH1⟩:∃ H1,H1=K++[rT cs']:=⟨_,rfl⟩;obtain ⟨H2,hH2⟩:∃ H2,H2=H1.set x4 (rT cs'):=⟨_,rfl⟩;have rx1:rd H1 x4=rT c0:=by rw [hH1,D4 (by omega),low x4 hxl];exact rx
 refine ⟨cs',K,H1,H2,e1,?_,B8 (by rw [hH1,E9];rfl) hc8,?_,?_,?_,?_,?_,?_⟩
 ·rw [storeAll (n:=8) (cs:=Z8) (by rw [E9];rfl) rfl hc8,cU,hH1];rfl
 ·rw [storeAll rx1 hc0 hc8,hH2]
 ·rw [hH2,hH1];exact (GK.new _).set hg _
 ·rw [hH2,hH1];exact (e3.grows ((Grows.rfl').new _)).set (.inr hx)
 ·rw [hH2];exact B7 (by rw [hH1];simp;omega)
 ·rw [hH2,hH1];simp;omega
 ·intro j hj T5;rw [hH2,A7 (Ne.symm T5),hH1,D4 (by omega)];exact low j hj
theorem eU {h:A6} {x:List Int} {id:Nat} (hr:rd h id=rT (encI x)) {k:Nat} (hk:k<x.length):B4 h (pV id k)=some (iV (x.getD k 0)) :=
 B5 hr (by rw [F6,E47,E40 hk];rfl) rfl
theorem A4g:[Cell.ns,.ns,.ns,.ns,.ns,o0,.ns,.ns]=Z8:=rfl
theorem D9b {was:List Int} {x3:Val} {x4 x6 x8 x9 x10 q:Nat} {many:Int} {pre:List Int} (hw:was.length=11) (hpre:pre.length=4) (hg:g.length<=x4/\g.length<=x10) (hx4:¬ Q x4) (E4r:¬ Q x10) (hl:D.length<=1000)
  (n1:x4≠x10) (n2:x4≠x6) (n3:x4≠x9) (n4:x10≠x6) (n5:x10≠x9) (n6:x4≠x8) (n7:x10≠x8) {r8:List Cell} (hm:many<=134) :
  ∀ (e k M:Nat) (c:Cl) (cs:List Cell) (dd:List Int) (H:A6),(k:Int)+e=min many 6->e<M->dd.length=7->Grows g H->(∀ id,H.length<=id->Q id)->IsRC n Q H cs c->c.taken.length=D.length->rd H x4=rT cs->rd H x6=rT (D3 D.length n m)->rd H x8=rT r8->rd H x9=rT (encI was)->rd H x10=rT (encI (pre++dd)) ->
  ∃ cs' H' M',zG q M v x3 (pV x4 0) (pV x6 0) (pV x8 0) (pV x9 0) (pV x10 0) (iV many) (iV (k:Int)) H =
    zG q (M'+1) v x3 (pV x4 0) (pV x6 0) (pV x8 0) (pV x9 0) (pV x10 0) (iV many) (iV (min many 6)) H' /\
   Grows g H'/\(∀ id,H'.length<=id->Q id)/\IsRC n Q H' cs' (A6o D n (was.drop 4) e k (c,dd)).1/\rd H' x4=rT cs'/\rd H' x6=rT (D3 D.length n m)/\rd H' x8=rT r8/\rd H' x9=rT (encI was)/\rd H' x10=rT (encI (pre++(A6o D n (was.drop 4) e k (c,dd)).2))/\(A6o D n (was.drop 4) e k (c,dd)).1.taken.length=D.length/\H.length<=H'.length:=by
 intro e
 induction e with
 | zero =>
  intro k M c cs dd H hi hM hd G hQ K ht r4 r6 rr8 r9 r10;obtain ⟨M,rfl⟩:∃ M',M=M'+1:=⟨M-1,by omega⟩;have ei:(k:Int)=min many 6:=by omega
  rw [<-ei];exact ⟨cs,H,M,rfl,G,hQ,K,r4,r6,rr8,r9,r10,ht,E44 _⟩
 | succ e ih =>
  intro k M c cs dd H hi hM hd G hQ K ht r4 r6 rr8 r9 r10;obtain ⟨M,rfl⟩:∃ M',M=M'+1:=⟨M-1,by omega⟩;have k6:(k:Int)<6:=by omega
  have km:(k:Int)<many:=by omega
  have w1:=C6 (show k+1<9223372036854775808 by omega);have l4:C8 H 8 (pV x4 0)=some (.a cs):=B8 r4 K.length;have l6:C8 H 3 (pV x6 0)=some (.a (D3 D.length n m)):=B8 r6 rfl;have ad:∀ x,J3 6 1 (pV x 4) (iV (k:Int))=some (pV x (4+k)):=λx=>by rw [J4 (by omega)];simp
  have lw:B4 H (pV x9 (4+k))=some (iV ((was.drop 4).getD k 0)):=by
   rw [eU r9 (by omega)];rw [E47,E47,E5R]
  obtain ⟨cs',K1,H1,H2,a1,a2,a3,a4,a5,a6,a7,a8,a9⟩:=D8y (m:=m) (no:=(was.drop 4).getD k 0) G hg.1 K r4 K.length (λid h=>hQ id (by omega)) hx4 ht hl;have E4b:=C5 r10;have l10:(encI (pre++dd)).length=11:=by rw [A8,E43,hpre,hd]
  have q10:rd H2 x10=rT (encI (pre++dd)):=by rw [a9 _ E4b (Ne.symm n1)];exact r10
  have es:(encI (pre++dd)).set (4+k) (.i .i64 (T0 D n c ((was.drop 4).getD k 0)))=encI (pre++dd.set k (T0 D n c ((was.drop 4).getD k 0))):=by
   rw [bC,E5A _ _ (by omega),hpre,Nat.add_sub_cancel_left]
  obtain ⟨H3,xR⟩:∃ H3,H3=H2.set x10 (rT (encI (pre++dd.set k (T0 D n c ((was.drop 4).getD k 0))))):=⟨_,rfl⟩;have s10:F9 H2 (pV x10 (4+k)) (iV (T0 D n c ((was.drop 4).getD k 0)))=some H3:=by rw [F5 q10 (by omega),es,xR]
  have o3:∀ j,j≠x10->rd H3 j=rd H2 j:=λj hj=>by rw [xR,A7 (Ne.symm hj)]
  have lH3:H3.length=H2.length:=by rw [xR];simp
  have ed:A6o D n (was.drop 4) (e+1) k (c,dd)=A6o D n (was.drop 4) e (k+1) (dG D n c ((was.drop 4).getD k 0),dd.set k (T0 D n c ((was.drop 4).getD k 0))):=rfl;rw [ed];obtain ⟨cs2,H',M',f1,f2,f3,f4,f5,f6,f7,f8,f9,f10,f11⟩:=ih (k+1) M _ cs' (dd.set k (T0 D n c ((was.drop 4).getD k 0))) H3 (by omega) (by omega) (by simpa using hd) (by rw [xR];exact a5.set hg.2 _) (λid h=>hQ id (by omega)) (by rw [xR];exact a6.set (.inr E4r)) (by rw [fX];exact ht) (by rw [o3 _ n1];exact a7) (by rw [o3 _ (Ne.symm n4),a9 _ (C5 r6) (Ne.symm n2)];exact r6) (by rw [o3 _ (Ne.symm n7),a9 _ (C5 rr8) (Ne.symm n6)];exact rr8) (by rw [o3 _ (Ne.symm n5),a9 _ (C5 r9) (Ne.symm n3)];exact r9) (by rw [xR];exact B7 (C5 q10));refine ⟨cs2,H',M',?_,f2,f3,f4,f5,f6,f7,f8,f9,f10,by omega⟩;rw [A7t,A4g];simp only [esc,Nat.reduceAdd,k6,km,l4,l6,ad,lw,a1,a2,a3,a4,s10,w1];exact f1
end
end
section
theorem B6Y {b b':List UInt8} {k:Nat} {x:Int} (hk:k<128) (h1:ptP b' k=x) (h2:∀ i,i<128->i≠k->ptP b' i=ptP b i):(aK b 128).set k x=aK b' 128:=by
 rw [B1k,B1k];refine List.ext_getElem? λi=>?_
 rw [List.getElem?_set];by_cases hi:i<128
 ·by_cases e:k=i
  ·subst e;rw [if_pos rfl,if_pos (by simp;exact hi)];simp [hi,h1]
  ·rw [if_neg e];simp [hi,h2 i hi (Ne.symm e)]
 ·rw [E5C (by simp;omega),E5C (by simp;omega)];split
  ·rename_i e;subst e;exact absurd hk hi
  ·rfl
theorem D6G {b:List UInt8} {k:Nat} (hk:k<128):(aK b 128)[k]?=some (ptP b k):=by rw [B1k];simp [hk]
section
variable {D:Dev} {n m:Int} {P Q:Nat->Prop} {g H h:A6} {c:Cl} {cs:List Cell} {v:Val}
theorem B0k {many:Int}:∀ {e k:Nat} {s:Cl × List UInt8},(bK D n many e k s).1.taken.length=s.1.taken.length
 | 0,_,_=>rfl
 | e+1,k,s=>by
  rw [bK,B0k];unfold gL;split
  ·rfl
  ·dsimp only;split
   ·exact fX
   ·rfl
theorem D9c {x4 x6 x8 x10 nid q:Nat} {many:Int} {ii:List Int} (hii:ii.length=11) (hg:g.length<=x4/\g.length<=nid) (hx4:¬ Q x4) (E3g:¬ Q nid) (hl:D.length<=1000) (hm:many<=134)
  (n1:x4≠nid) (n2:x4≠x6) (n3:x4≠x8) (n4:x4≠x10) (n5:nid≠x6) (n6:nid≠x8) (n7:nid≠x10) {r8:List Cell} :
  ∀ (e k M:Nat) (s:Cl × List UInt8) (cs:List Cell) (H:A6),k+e=128->e<M->s.2.length=256->Grows g H->(∀ id,H.length<=id->Q id)->IsRC n Q H cs s.1->s.1.taken.length=D.length->rd H x4=rT cs->rd H x6=rT (D3 D.length n m)->rd H x8=rT r8->rd H x10=rT (encI ii)->rd H nid=rT (encI (aK s.2 128)) ->
  ∃ cs' H' M',A6t q M (pV x4 0) (pV x6 0) (pV x8 0) (pV x10 0) (iV many) (sV nid 0 128 1) (iV (k:Int)) H =
    A6t q (M'+1) (pV x4 0) (pV x6 0) (pV x8 0) (pV x10 0) (iV many) (sV nid 0 128 1) (iV 128) H' /\
   Grows g H'/\(∀ id,H'.length<=id->Q id)/\IsRC n Q H' cs' (bK D n many e k s).1/\rd H' x4=rT cs'/\rd H' x8=rT r8/\rd H' x10=rT (encI ii)/\rd H' nid=rT (encI (aK (bK D n many e k s).2 128)):=by
 intro e
 induction e with
 | zero =>
  intro k M s cs H hi hM hs G hQ K ht r4 r6 rr8 r10 rn;obtain ⟨M,rfl⟩:∃ M',M=M'+1:=⟨M-1,by omega⟩;have ei:k=128:=by omega
  subst ei;exact ⟨cs,H,M,rfl,G,hQ,K,r4,rr8,r10,rn⟩
 | succ e ih =>
  intro k M s cs H hi hM hs G hQ K ht r4 r6 rr8 r10 rn;obtain ⟨M,rfl⟩:∃ M',M=M'+1:=⟨M-1,by omega⟩;have hk:k<128:=by omega
  have c0:(k:Int)<128:=by omega
  have w1:=C6 (show k+1<9223372036854775808 by omega);have w6:IntKind.wrap .i64 ((k:Int)+6)=(k:Int)+6:=wrap_i64 (by omega) (by omega);have l4:C8 H 8 (pV x4 0)=some (.a cs):=B8 r4 K.length;have l6:C8 H 3 (pV x6 0)=some (.a (D3 D.length n m)):=B8 r6 rfl;have ad:D5 1 (sV nid 0 128 1) (iV (k:Int))=some (pV nid k):=by rw [C4 hk];simp
  have ln:B4 H (pV nid k)=some (iV (ptP s.2 k)):=B5 rn (by rw [F6,D6G hk];rfl) rfl;have nl:(encI (aK s.2 128)).length=128:=by rw [A8,qV]
  have er:bK D n many (e+1) k s=bK D n many e (k+1) (gL D n many s k):=rfl;rw [er];have mI:=B9I (D:=D) (n:=n) (many:=many) hs hk;have vH:=C6j (D:=D) (n:=n) (many:=many) (s:=s) (k:=k);have hft:(gL D n many s k).1.taken.length=D.length:=by
   have:=B0k (D:=D) (n:=n) (many:=many) (e:=1) (k:=k) (s:=s);rw [<-ht];exact this
  have setE:∀ x,x=(if (k:Int)+6<many then T0 D n s.1 (ptP s.2 k) else 0)->(aK s.2 128).set k x=aK (gL D n many s k).2 128:=by
   intro x hx;subst hx;unfold gL;by_cases hz:ptP s.2 k=0
   ·rw [if_pos hz];refine B6Y hk ?_ λ_ _ _=>rfl
    rw [hz,D6v];split<;>rfl
   ·rw [if_neg hz];dsimp only;by_cases h6:(k:Int)+6<many
    ·simp only [h6,if_true,decide_true,E5d];by_cases hc:T0 D n s.1 (ptP s.2 k)=0
     ·rw [hc];simp only [decide_true,Bool.not_true,cond_false];refine B6Y hk ?_ λi hi T5=>?_
      ·rw [C3p hs hk hk];simp
      ·rw [C3p hs hk hi,if_neg T5]
     ·simp only [hc,decide_false,Bool.not_false,cond_true];have:T0 D n s.1 (ptP s.2 k)=ptP s.2 k:=by
       unfold T0 at hc ⊢;cases hB:B4E D n s.1 (ptP s.2 k) with
       | true=>rfl
       | false=>rw [hB] at hc;exact absurd rfl hc
      rw [this];exact B6Y hk rfl λ_ _ _=>rfl
    ·simp only [h6,if_false,decide_false,E48,cond_false];refine B6Y hk ?_ λi hi T5=>?_
     ·rw [C3p hs hk hk];simp
     ·rw [C3p hs hk hi,if_neg T5]
  have clmE:(if (k:Int)+6<many then dG D n s.1 (ptP s.2 k) else s.1)=(gL D n many s k).1:=by
   unfold gL;by_cases hz:ptP s.2 k=0
   ·rw [if_pos hz,hz,D6u];split<;>rfl
   ·rw [if_neg hz]
  by_cases h6:(k:Int)+6<many
  ·rw [if_pos h6] at clmE setE;obtain ⟨cs',K1,H1,H2,a1,a2,a3,a4,a5,a6,a7,a8,a9⟩:=D8y (m:=m) (no:=ptP s.2 k) G hg.1 K r4 K.length (λid h=>hQ id (by omega)) hx4 ht hl;rw [clmE] at a6;have q1:rd H2 nid=rT (encI (aK s.2 128)):=by rw [a9 _ (C5 rn) (Ne.symm n1)];exact rn
   have sn:F9 H2 (pV nid k) (iV (T0 D n s.1 (ptP s.2 k)))=some (H2.set nid (rT (encI (aK (gL D n many s k).2 128)))):=by
    rw [F5 q1 (by omega),bC,setE _ rfl]
   obtain ⟨H3,xR⟩:∃ H3,H3=H2.set nid (rT (encI (aK (gL D n many s k).2 128))):=⟨_,rfl⟩;rw [<-xR] at sn;have o3:∀ j,j≠nid->rd H3 j=rd H2 j:=λj hj=>by rw [xR,A7 (Ne.symm hj)]
   have lH3:H3.length=H2.length:=by rw [xR];simp
   obtain ⟨cs2,H',M',f1,f2⟩:=ih (k+1) M (gL D n many s k) cs' H3 (by omega) (by omega) mI (by rw [xR];exact a5.set hg.2 _) (λid h=>hQ id (by omega)) (by rw [xR];exact a6.set (.inr E3g)) hft (by rw [o3 _ n1];exact a7) (by rw [o3 _ (Ne.symm n5),a9 _ (C5 r6) (Ne.symm n2)];exact r6) (by rw [o3 _ (Ne.symm n6),a9 _ (C5 rr8) (Ne.symm n3)];exact rr8) (by rw [o3 _ (Ne.symm n7),a9 _ (C5 r10) (Ne.symm n4)];exact r10) (by rw [xR];exact B7 (C5 q1));refine ⟨cs2,H',M',?_,f2⟩;rw [xP,A4g];simp only [esc,Nat.reduceAdd,c0,w6,h6,l4,l6,ad,ln,a1,a2,a3,a4,A7s,sn,w1];exact f1
  ·rw [if_neg h6] at clmE setE;have sn:F9 H (pV nid k) (iV 0)=some (H.set nid (rT (encI (aK (gL D n many s k).2 128)))):=by
    rw [F5 rn (by omega),bC,setE _ rfl]
   obtain ⟨H3,xR⟩:∃ H3,H3=H.set nid (rT (encI (aK (gL D n many s k).2 128))):=⟨_,rfl⟩;rw [<-xR] at sn;have o3:∀ j,j≠nid->rd H3 j=rd H j:=λj hj=>by rw [xR,A7 (Ne.symm hj)]
   have lH3:H3.length=H.length:=by rw [xR];simp
   obtain ⟨cs2,H',M',f1,f2⟩:=ih (k+1) M (gL D n many s k) cs H3 (by omega) (by omega) mI (by rw [xR];exact G.set hg.2 _) (λid h=>hQ id (by omega)) (by rw [xR,<-clmE];exact K.set (.inr E3g)) hft (by rw [o3 _ n1];exact r4) (by rw [o3 _ (Ne.symm n5)];exact r6) (by rw [o3 _ (Ne.symm n6)];exact rr8) (by rw [o3 _ (Ne.symm n7)];exact r10) (by rw [xR];exact B7 (C5 rn));refine ⟨cs2,H',M',?_,f2⟩;rw [xP,A4g];simp only [esc,Nat.reduceAdd,c0,w6,h6,ad,A7s,sn,w1];exact f1
theorem D0q {x4 x10 ino:Nat} {ii:List Int} (G:Grows g H) (hg:g.length<=x4) (K:IsRC n Q H cs c) (r4:rd H x4=rT cs) (hQ:∀ id,H.length<=id->Q id) (hx4:¬ Q x4) (r10:rd H x10=rT (encI ii)) (hii:ii.length=11) (hin:ino<c.ino.length) (P6:∀ x∈c.ino,x.length=11) (hc:c.ino.length<=1000) (nx:x10≠x4) :
  ∃ v49 p50 H1 cs' H2,B4 (H++[rT []]) (pV x4 1)=some v49/\jK (H++[rT []]) 11 (sV H.length 0 0 11) v49=some (sV (H.length+1) 0 c.ino.length 11,p50)/\C8 p50 11 (pV x10 0)=some (.a (encI ii)) /\
   D5 11 (sV (H.length+1) 0 c.ino.length 11) (iV (ino:Int))=some (pV (H.length+1) (ino*11))/\E1 p50 11 (pV (H.length+1) (ino*11)) (.a (encI ii))=some H1/\F9 H1 (pV x4 1) (sV (H.length+1) 0 c.ino.length 11)=some H2 /\
   Grows g H2/\IsRC n Q H2 cs' { c with ino:=c.ino.set ino ii }/\rd H2 x4=rT cs'/\H2.length=H.length+2/\(∀ j,j<H.length->j≠x4->rd H2 j=rd H j):=by
 obtain ⟨xr,xi,xt,xb,xm,xl,xy,ys,rfl,k⟩:=K;have hxl:=C5 r4;have h10:=C5 r10;have cp:=B4G (H:=H) k.ino (by omega) (by omega);obtain ⟨p50,hp⟩:∃ p50,p50=H++[none,rT (T1 c.ino)]:=⟨_,rfl⟩;rw [<-hp] at cp;have lp:p50.length=H.length+2:=by rw [hp];simp
 have rn:rd p50 (H.length+1)=rT (T1 c.ino):=by rw [hp,K0];rfl
 have Gp:Grows g p50:=by rw [hp];exact Q4 G rfl
 have old:∀ j,j<H.length->rd p50 j=rd H j:=λj hj=>by rw [hp,D4 hj]
 obtain ⟨H1,hH1⟩:∃ H1,H1=p50.set (H.length+1) (rT (T1 (c.ino.set ino ii))):=⟨_,rfl⟩;have st:E1 p50 11 (pV (H.length+1) (ino*11)) (.a (encI ii))=some H1:=by
  rw [B1w rn (by rw [A8,hii]) (by rw [U4 P6];omega),C6H P6 hii hin,hH1]
 obtain ⟨C',hC'⟩:∃ C',C'=rcC xr (.sl (H.length+1) 0 c.ino.length 11) xt xb xm c.lost xl xy:=⟨_,rfl⟩;obtain ⟨H2,hH2⟩:∃ H2,H2=H1.set x4 (rT C'):=⟨_,rfl⟩;have q4:rd H1 x4=rT (rcC xr xi xt xb xm c.lost xl xy):=by rw [hH1,A7 (by omega),old _ hxl];exact r4
 have s4:F9 H1 (pV x4 1) (sV (H.length+1) 0 c.ino.length 11)=some H2:=by rw [F5 q4 (by simp [rcC]),hH2,hC'];rfl
 have hgl:=G.len;have G2:Grows g H2:=by rw [hH2,hH1];exact (Gp.set (by omega) _).set hg _
 have kp:=k.grows (h':=p50) (by rw [hp];exact Q4 Grows.rfl' rfl);have low:=k.low;have k2:RCF n (λid=>Q id/\id<H.length) H2 c xr xi xt xb xm xl xy ys:=by
  rw [hH2,hH1];refine RCF.set (.inr λh=>hx4 h.1) (RCF.set (.inr λh=>by omega) (RCF.grows ?_ k.low));rw [hp];exact Q4 Grows.rfl' rfl
 have k3:=k2.mono (Q:=Q) λid h=>h.1
 refine ⟨.c xi,p50,H1,C',H2,B5 (B6 r4) rfl rfl,cp,B8 (by rw [old _ h10];exact r10) (by rw [A8,hii]),by rw [C4 hin];simp,st,s4,G2,?_,by rw [hH2];exact B7 (by rw [hH1];simp;omega),by rw [hH2,hH1];simp [lp],λj hj T5=>by rw [hH2,A7 (Ne.symm T5),hH1,A7 (by omega),old _ hj]⟩;refine ⟨xr,.sl (H.length+1) 0 c.ino.length 11,xt,xb,xm,xl,xy,ys,hC',⟨k3.row,?_,k3.tak,k3.blk,k3.mad,k3.mds,k3.tol,k3.par,k3.pr,λid hi=>by cases hi;exact hQ _ (by omega),k3.pt,k3.pb,k3.pm,k3.pl,k3.py⟩⟩;have E4a:∀ x∈c.ino.set ino ii,x.length=11:=λx hx=>by
  rcases E5H hx with h1 | h1
  ·exact P6 x h1
  ·rw [h1];exact hii
 show Has H2 (sV (H.length+1) 0 c.ino.length 11) 11 (c.ino.set ino ii).length (T1 (c.ino.set ino ii));rw [E5w];refine Has.row (rw:=true) ?_ (by rw [U4 E4a,E5w]) (B1q _);rw [hH2,A7 (by omega),hH1];exact B7 (by omega)
end
end
theorem D74 {D:Dev} (h:A90 D=true):R4 D.length (D1g D)=true:=by
 unfold A90 at h;rw [E42] at h;have h1:=h.1;unfold okS at h1;rw [E42,of_decide_eq_true h.2] at h1;exact h1.1
section
def D9e (D:Dev) (n i:Int):List Int:=kdV D n i::lnV D n i::szV D n i::paV D n i::drV D n i
theorem D3P (D:Dev) (n i:Int):encI (D9e D n i)=A1n D n i:=by rw [A6B];rfl
theorem C1Q {D:Dev} {n i:Int}:(D9e D n i).length=11:=by simp [D9e,tR]
section
variable {h:A6} {r:Nat} {s:List Int} {B:Int}
end
end
section
section
variable {D:Dev} {n m:Int} {P:Nat->Prop} {h:A6} {c:Cl} {cs:List Cell} {v:Val}
theorem D41 {h t:A6} {v:Val} (hn:t.all B21=true):quiet h (some (v,h++t))=some (v,h++t):=U9 (Q4 Grows.rfl' hn)
theorem D9a {x4 x6 x8 x10 ino:Nat} {many:Int} {ii:List Int} {Q:Nat->Prop} {H:A6} (hv:Has h v 256 D.length (D1 D)) (hD:okD D) (e4:x4=h.length) (e6:x6=h.length+1) (e8:x8=h.length+2) (e10:x10=h.length+4)
  (hQ0:Q=λid=>(P id/\id<h.length)\/h.length+5<=id) (hHl:h.length+5<=H.length) (G:Grows h H) (K:IsRC n Q H cs c) (ht:c.taken.length=D.length) (hl:D.length<=1000) (hm:many<=134)
  (r4:rd H x4=rT cs) (r6:rd H x6=rT (D3 D.length n m)) (r8:rd H x8=rT Z8) (r10:rd H x10=rT (encI ii)) (hii:ii.length=11) (hin:ino<c.ino.length) (P6:∀ x∈c.ino,x.length=11) (hc:c.ino.length<=1000) (hb:c.blocks.length<=100000) (hmd:c.made.length<=100000) :
  ∃ cs' H',A6s 200 v (iV (ino:Int)) (pV x4 0) (pV x6 0) (pV x8 0) (pV x10 0) (iV many) H=some (.a cs',H')/\Grows h H'/\IsRC n (λid=>P id\/h.length<=id) H' cs'
   (if ii.getD 10 0=0 then { c with ino:=c.ino.set ino ii } else
    R5 (bK D n many 128 0 ({ c with ino:=c.ino.set ino ii },blk D (ii.getD 10 0))).1 (ii.getD 10 0) (bK D n many 128 0 ({ c with ino:=c.ino.set ino ii },blk D (ii.getD 10 0))).2):=by
 have hQ:∀ id,H.length<=id->Q id:=λid hid=>by rw [hQ0];exact .inr (by omega)
 have nQ4:¬ Q x4:=by rw [hQ0];intro hh;rcases hh with hh | hh<;>omega
 have nQ8:¬ Q x8:=by rw [hQ0];intro hh;rcases hh with hh | hh<;>omega
 obtain ⟨v49,p50,H1,cs1,H2,b1,b2,b3,b4,b5,b6,b7,b8,b9,b10,b11⟩:=D0q (g:=h) G (by omega) K r4 hQ nQ4 r10 hii hin P6 hc (by omega);have ef:D9 [] []=some []:=rfl;have q10:rd H2 x10=rT (encI ii):=by rw [b11 _ (C5 r10) (by omega)];exact r10
 have q8:rd H2 x8=rT Z8:=by rw [b11 _ (C5 r8) (by omega)];exact r8
 have q6:rd H2 x6=rT (D3 D.length n m):=by rw [b11 _ (C5 r6) (by omega)];exact r6
 have l10:B4 H2 (pV x10 10)=some (iV (ii.getD 10 0)):=eU q10 (by omega);have l8c:C8 H2 8 (pV x4 0)=some (.a cs1):=B8 b9 b8.length;have toP:∀ id,Q id->P id\/h.length<=id:=λid hid=>by
  rw [hQ0] at hid;rcases hid with hid | hid
  ·exact .inl hid.1
  ·exact .inr (by omega)
 by_cases hz:ii.getD 10 0=0
 ·rw [if_pos hz];rw [hz] at l10;obtain ⟨H3,xR⟩:∃ H3,H3=H2.set x8 (rT cs1):=⟨_,rfl⟩;have s8:E1 H2 8 (pV x8 0) (.a cs1)=some H3:=by rw [storeAll (n:=8) q8 rfl b8.length,xR]
  have l8:C8 H3 8 (pV x8 0)=some (.a cs1):=B8 (by rw [xR];exact B7 (C5 q8)) b8.length;refine ⟨cs1,H3,?_,by rw [xR];exact b7.set (by omega) _,by rw [xR];exact (b8.set (.inr nQ8)).mono toP⟩;rw [A7r];simp only [esc,Nat.reduceAdd,ef,b1,b2,b3,b4,b5,b6,l10,l8c,s8,l8]
 ·rw [if_neg hz];have hvr:Has H2 v 256 D.length (D1 D):=hv.grows b7;obtain ⟨u,t,d1,d2,d3,_⟩:=A0j (no:=ii.getD 10 0) hvr hD;have hN:=B9W d3 (O2 hD);obtain ⟨K1,hK1⟩:∃ K1,K1=H2++t:=⟨_,rfl⟩;rw [<-hK1] at d1 hN d3;obtain ⟨K2,hK2⟩:∃ K2,K2=K1++[rT (encI (aK (blk D (ii.getD 10 0)) 128))]:=⟨_,rfl⟩;rw [<-hK2] at hN;have lK1:H2.length<=K1.length:=by rw [hK1];simp
  have lK2:K2.length=K1.length+1:=by rw [hK2];simp
  have G12:Grows H2 K2:=by rw [hK2,hK1];exact (Q4 Grows.rfl' d2).new _
  have GK:Grows h K2:=b7.trans' G12;obtain ⟨Q2,hQ2⟩:∃ Q2:Nat->Prop,Q2=λid=>(Q id/\id<K1.length)\/K1.length+1<=id:=⟨_,rfl⟩
  have kQ2:IsRC n Q2 K2 cs1 { c with ino:=c.ino.set ino ii }:=(b8.low.grows G12).mono λid hid=>by
   rw [hQ2];exact .inl ⟨hid.1,by omega⟩
  have E30:∀ id,K2.length<=id->Q2 id:=λid hid=>by rw [hQ2];exact .inr (by omega)
  have nQ2:¬ Q2 K1.length:=by rw [hQ2];intro hh;rcases hh with hh | hh<;>omega
  have E2j:¬ Q2 x4:=by rw [hQ2];intro hh;rcases hh with hh | hh;exact nQ4 hh.1;have:=C5 b9;omega
  have E2k:¬ Q2 x8:=by rw [hQ2];intro hh;rcases hh with hh | hh;exact nQ8 hh.1;have:=C5 q8;omega
  have toK:∀ {id r},rd H2 id=some r->rd K2 id=some r:=λhr=>G12.rd hr
  have hg:=G.len;have lt4:=C5 b9;have lt6:=C5 q6;have lt8:=C5 q8;have lt10:=C5 q10;obtain ⟨cs2,H5,M5,f1,f2,f3,f4,f5,f6,f7,f8⟩:=D9c (Q:=Q2) (g:=h) (x4:=x4) (x6:=x6) (x8:=x8) (x10:=x10) (nid:=K1.length) (q:=200) (many:=many) hii ⟨by omega,by omega⟩ E2j nQ2 hl hm (by omega) (by omega) (by omega) (by omega) (by omega) (by omega) (by omega) 128 0 200 ({ c with ino:=c.ino.set ino ii },blk D (ii.getD 10 0)) cs1 K2 (by omega) (by omega) (O2 hD) GK E30 kQ2 ht (toK b9) (toK q6) (toK q8) (toK q10) (by rw [hK2,E9];rfl);obtain ⟨S,hS⟩:∃ S,S=bK D n many 128 0 ({ c with ino:=c.ino.set ino ii },blk D (ii.getD 10 0)):=⟨_,rfl⟩;rw [<-hS] at f4 f8 ⊢;have sl:S.2.length=256:=by rw [hS];exact B1j (by omega) (O2 hD)
  have ss:=tZ (D:=D) (n:=n) (many:=many) (e:=128) (k:=0) (s:=({ c with ino:=c.ino.set ino ii },blk D (ii.getD 10 0)));rw [<-hS] at ss;have hB:=C7i (v:=sV K1.length 0 128 1) (nv:=128) (l:=aK S.2 128) (h:=H5) (Has.row f8 (by rw [A8,qV]) (bF _)) (by omega);rw [D6F sl] at hB;obtain ⟨H6,hH6⟩:∃ H6,H6=H5++[rT (A5 S.2)]:=⟨_,rfl⟩;rw [<-hH6] at hB;have hq:=U9 (h:=H5) (h':=H6) (v:=sV H5.length 0 256 1) (by rw [hH6];exact (Grows.rfl').new _);have k6:IsRC n Q2 H6 cs2 S.1:=f4.grows (by rw [hH6];exact (Grows.rfl').new _);obtain ⟨cs3,H7,m1,m2,m3⟩:=D3O (no:=ii.getD 10 0) (y:=.sl H5.length 0 256 1) (b:=S.2) k6 (by rw [hH6];exact Has.row (rw:=true) (by rw [E9];rfl) (by rw [A4,sl]) (F0 _)) (λid hid=>by cases hid;exact f3 _ (E44 _)) (by rw [ss.blocks];exact hb) (by rw [ss.made];exact hmd) rfl;have lH6:H6.length=H5.length+1:=by rw [hH6];simp
  have q87:rd H7 x8=rT Z8:=m2.rd (by rw [hH6];exact B6 f6);have lt87:=C5 f6;obtain ⟨H8,hH8⟩:∃ H8,H8=H7.set x8 (rT cs3):=⟨_,rfl⟩;have s8:E1 H7 8 (pV x8 0) (.a cs3)=some H8:=by rw [storeAll (n:=8) q87 rfl m3.length,hH8]
  have l8:C8 H8 8 (pV x8 0)=some (.a cs3):=B8 (by rw [hH8];exact B7 (C5 q87)) m3.length;have G7:Grows h H7:=f2.trans' ((by rw [hH6];exact (Grows.rfl').new _:Grows H5 H6).trans' m2);refine ⟨cs3,H8,?_,by rw [hH8];exact G7.set (by omega) _,?_⟩
  ·have l8c2:C8 H5 8 (pV x4 0)=some (.a cs2):=B8 f5 f4.length;have l105:B4 H5 (pV x10 10)=some (iV (ii.getD 10 0)):=eU f7 (by omega);have E3R:¬ (128:Int)<128:=by decide
   have c00:((0:Nat):Int)=0:=rfl;rw [c00] at f1;rw [A7r];simp only [esc,Nat.reduceAdd,ef,b1,b2,b3,b4,b5,b6,l10,hz,d1,hN];refine f1.trans ?_;rw [xP];simp only [esc,Nat.reduceAdd,E3R,l8c2,l105,hB,hq,m1,s8,l8]
  ·rw [hH8];refine (m3.set (.inr ?_)).mono ?_
   ·intro hh;rcases hh with hh | hh
    ·exact E2k hh
    ·omega
   ·intro id hid;rcases hid with hid | hid
    ·rw [hQ2] at hid;rcases hid with hid | hid
     ·exact toP _ hid.1
     ·exact .inr (by omega)
    ·exact .inr (by have:=G7.len;have:=m2.len;have:=f2.len;omega)
theorem D89 {ino:Int} (hv:Has h v 256 D.length (D1 D)) (hD:okD D) (K:IsRC n P h cs c) (ht:c.taken.length=D.length) (hl:D.length<=1000) (i0:0<=ino) (i1:ino.toNat<c.ino.length) (P6:∀ x∈c.ino,x.length=11) (hc:c.ino.length<=1000) (hb:c.blocks.length<=100000) (hmd:c.made.length<=100000) :
  ∃ cs' H',A89 [.a cs,v,.a (D3 D.length n m),iV ino] h=some (.a cs',H')/\Grows h H'/\IsRC n (λid=>P id\/h.length<=id) H' cs' (gK D n c ino):=by
 have c8:=K.length;obtain ⟨many,em⟩:∃ many,many=A3w (szV D n ino):=⟨_,rfl⟩;have C92:0<=many/\many<=134:=by rw [em];unfold A3w;split;omega;split<;>omega
 obtain ⟨was,ew⟩:∃ was,was=D9e D n ino:=⟨_,rfl⟩;have hwl:was.length=11:=by rw [ew];exact C1Q
 have hwd:was.drop 4=drV D n ino:=by rw [ew];rfl
 obtain ⟨G3,hG3⟩:∃ G3,G3=h++[rT cs,rT (D3 D.length n m),rT Z8]:=⟨_,rfl⟩;have hI:=rC (v:=v) (n:=n) (m:=m) (i:=ino) (h:=G3) (by rw [hG3];exact hv.more _) hD;rw [<-D3P,<-ew] at hI;obtain ⟨G5,hG5⟩:∃ G5,G5=h++[rT cs,rT (D3 D.length n m),rT Z8,rT (encI was),rT (encI ([1,1,szV D n ino,0]++zI 7))]:=⟨_,rfl⟩;have lG5:G5.length=h.length+5:=by rw [hG5];simp
 obtain ⟨Q,hQ0⟩:∃ Q:Nat->Prop,Q=λid=>(P id/\id<h.length)\/h.length+5<=id:=⟨_,rfl⟩
 have G:Grows h G5:=by rw [hG5];exact Q4 Grows.rfl' rfl
 have K5:IsRC n Q G5 cs c:=(K.low.grows G).mono λid hid=>by rw [hQ0];exact .inl hid
 have hQn:∀ id,G5.length<=id->Q id:=λid hid=>by rw [hQ0];exact .inr (by omega)
 have nQ:∀ k,k<5->¬ Q (h.length+k):=λk hk=>by rw [hQ0];intro hh;rcases hh with hh | hh<;>omega
 have n0:¬ Q h.length:=nQ 0 (by omega);have n4:=nQ 4 (by omega);obtain ⟨cs1,H1,M1,f1,f2,f3,f4,f5,f6,f7,f8,f9,f10,f11⟩:=D9b (v:=v) (x3:=iV ino) (g:=h) (Q:=Q) (m:=m) (x4:=h.length) (x6:=h.length+1) (x8:=h.length+2) (x9:=h.length+3) (x10:=h.length+4) (q:=200) (many:=many) (pre:=[1,1,szV D n ino,0]) (r8:=Z8) hwl rfl ⟨by omega,by omega⟩ n0 n4 hl (by omega) (by omega) (by omega) (by omega) (by omega) (by omega) (by omega) C92.2
  (min many 6).toNat 0 200 c cs (zI 7) G5 (by omega) (by omega) rfl G hQn K5 ht (by rw [hG5,E9];rfl) (by rw [hG5,K0];rfl) (by rw [hG5,K0];rfl) (by rw [hG5,K0];rfl) (by rw [hG5,K0];rfl)
 obtain ⟨s,es⟩:∃ s,s=A6o D n (drV D n ino) (min many 6).toNat 0 (c,zI 7):=⟨_,rfl⟩;rw [hwd,<-es] at f4 f9 f10;have hs:=B1h (D:=D) (n:=n) (d:=drV D n ino) (e:=(min many 6).toNat) (k:=0) (s:=(c,zI 7));rw [<-es] at hs;have hs2:s.2.length=7:=hs.2;have eD:dM D n c ino=B64 D n (drV D n ino) many s:=by unfold dM;rw [es,em]
 have fin:∀ (H2:A6) (cs2:List Cell) (s2:Cl × List Int),B64 D n (drV D n ino) many s=s2->SameC c s2.1->s2.2.length=7->s2.1.taken.length=D.length->Grows h H2->h.length+5<=H2.length->IsRC n Q H2 cs2 s2.1->rd H2 h.length=rT cs2->rd H2 (h.length+1)=rT (D3 D.length n m)->rd H2 (h.length+2)=rT Z8->rd H2 (h.length+4)=rT (encI ([1,1,szV D n ino,0]++s2.2)) ->
   ∃ cs' H',A6s 200 v (iV ino) (pV h.length 0) (pV (h.length+1) 0) (pV (h.length+2) 0) (pV (h.length+4) 0) (iV many) H2=some (.a cs',H')/\Grows h H'/\IsRC n (λid=>P id\/h.length<=id) H' cs' (gK D n c ino):=by
  intro H2 cs2 s2 e2 sm l2 t2 G2 hH2 K2 q4 q6 q8 q10;have ei:ino=((ino.toNat:Nat):Int):=by omega
  obtain ⟨cs',H',j1,j2,j3⟩:=D9a (ino:=ino.toNat) (many:=many) (ii:=[1,1,szV D n ino,0]++s2.2) (Q:=Q) hv hD rfl rfl rfl rfl hQ0 hH2 G2 K2 t2 hl C92.2 q4 q6 q8 q10 (by simp [l2]) (by rw [sm.ino];exact i1) (by rw [sm.ino];exact P6) (by rw [sm.ino];exact hc) (by rw [sm.blocks];exact hb) (by rw [sm.made];exact hmd);rw [<-ei] at j1;refine ⟨cs',H',j1,j2,?_⟩;have e10:([1,1,szV D n ino,0]++s2.2).getD 10 0=s2.2.getD 6 0:=rfl;rw [e10] at j3;have eC:gK D n c ino=if s2.2.getD 6 0=0 then { s2.1 with ino:=s2.1.ino.set ino.toNat ([1,1,szV D n ino,0]++s2.2) } else
    R5 (bK D n many 128 0 ({ s2.1 with ino:=s2.1.ino.set ino.toNat ([1,1,szV D n ino,0]++s2.2) },blk D (s2.2.getD 6 0))).1 (s2.2.getD 6 0) (bK D n many 128 0 ({ s2.1 with ino:=s2.1.ino.set ino.toNat ([1,1,szV D n ino,0]++s2.2) },blk D (s2.2.getD 6 0))).2:=by
   unfold gK Y6;rw [eD,e2,em];rfl
  rw [eC];exact j3
 have key:∃ cs' H',A1U 200 [.a cs,v,.a (D3 D.length n m),iV ino] h=some (.a cs',H')/\Grows h H'/\IsRC n (λid=>P id\/h.length<=id) H' cs' (gK D n c ino):=by
  have z11:[o0,o0,o0,o0,o0,o0,o0,o0,o0,o0,o0]=encI (zI 11):=rfl;have cl1:cells? (.a cs)=some cs:=rfl;have cl2:cells? (.a (D3 D.length n m))=some (D3 D.length n m):=rfl;have l3:C8 G3 3 (pV (h.length+1) 0)=some (.a (D3 D.length n m)):=B8 (by rw [hG3,K0];rfl) rfl;have wl:(encI was).length=11:=by rw [A8,hwl]
  have il:(encI ([1,1,szV D n ino,0]++zI 7)).length=11:=rfl;obtain ⟨G4,hG4⟩:∃ G4,G4=h++[rT cs,rT (D3 D.length n m),rT Z8,rT (encI was)]:=⟨_,rfl⟩;have lG3:G3.length=h.length+3:=by rw [hG3];simp
  have lG4:G4.length=h.length+4:=by rw [hG4];simp
  have s4:E1 (G3++[rT (encI (zI 11))]) 11 (pV (h.length+3) 0) (.a (encI was))=some G4:=by
   rw [<-lG3,storeAll (by rw [E9];rfl) (by rfl) wl,cU,hG3,hG4];simp
  have s5:E1 (G4++[rT (encI (zI 11))]) 11 (pV (h.length+4) 0) (.a (encI ([1,1,szV D n ino,0]++zI 7)))=some G5:=by
   rw [<-lG4,storeAll (by rw [E9];rfl) (by rfl) il,cU,hG4,hG5];simp
  have eS:was.getD 2 0=szV D n ino:=by rw [ew];rfl
  have w4:B4 G4 (pV (h.length+3) 2)=some (iV (szV D n ino)):=by
   have:=eU (h:=G4) (id:=h.length+3) (x:=was) (by rw [hG4,K0];rfl) (k:=2) (by omega);rw [eS] at this;exact this
  have w5:B4 G5 (pV (h.length+3) 2)=some (iV (szV D n ino)):=by
   have:=eU (h:=G5) (id:=h.length+3) (x:=was) (by rw [hG5,K0];rfl) (k:=2) (by omega);rw [eS] at this;exact this
  have ef:D9 (encI (zI 11)) [(0,1,iV 1),(1,1,iV 1),(2,1,iV (szV D n ino))]=some (encI ([1,1,szV D n ino,0]++zI 7)):=rfl;have hBk:=C3d (x:=szV D n ino) (h:=G5);have eBk:(if szV D n ino<1 then (0:Int) else if 34304<szV D n ino then 134 else (szV D n ino+255)/256)=many:=by rw [em];rfl
  rw [eBk] at hBk;have c00:((0:Nat):Int)=0:=rfl;rw [c00] at f1;have start:A1U 200 [.a cs,v,.a (D3 D.length n m),iV ino] h=zG 200 (M1+1) v (iV ino) (pV h.length 0) (pV (h.length+1) 0) (pV (h.length+2) 0) (pV (h.length+3) 0) (pV (h.length+4) 0) (iV many) (iV (min many 6)) H1:=by
   rw [C4e,z11,A4g];generalize encI (zI 11)=Z at *;generalize encI ([1,1,szV D n ino,0]++zI 7)=I0 at *;generalize encI was=W at *;generalize hLL:D3 D.length n m=L at *;generalize Z8=E8 at *;simp only [cl1,cl2,Q5,E45,E5x,E5g,E43,E5a,E5u,E5l,Nat.reduceAdd,<-hG3];simp only [esc,Nat.reduceAdd,l3,hI,lG3,s4,w4,ef,lG4,s5,w5,hBk];exact f1
  rw [start,A7t];have cA:¬ ((min many 6<6)/\min many 6<many):=by omega
  by_cases c6:6<many
  ·have em6:min many 6=6:=by omega
   have c66:¬ (6:Int)<6:=by decide
   have cgt:many > 6:=c6;obtain ⟨cs2,K2,H2,H3,a1,a2,a3,a4,a5,a6,a7,a8,a9⟩:=D8z (m:=m) (no:=(drV D n ino).getD 6 0) f2 (by omega) f4 f5 f4.length f3 n0 f10 hl;have l4:C8 H1 8 (pV h.length 0)=some (.a cs1):=B8 f5 f4.length;have l6:C8 H1 3 (pV (h.length+1) 0)=some (.a (D3 D.length n m)):=B8 f6 rfl;have e10:was.getD 10 0=(drV D n ino).getD 6 0:=by rw [ew];rfl
   have lw:B4 H1 (pV (h.length+3) 10)=some (iV ((drV D n ino).getD 6 0)):=by rw [eU f8 (by omega),e10]
   have q10:rd H3 (h.length+4)=rT (encI ([1,1,szV D n ino,0]++s.2)):=by rw [a9 _ (C5 f9) (by omega)];exact f9
   have es':(encI ([1,1,szV D n ino,0]++s.2)).set 10 (.i .i64 (T0 D n s.1 ((drV D n ino).getD 6 0)))=encI ([1,1,szV D n ino,0]++s.2.set 6 (T0 D n s.1 ((drV D n ino).getD 6 0))):=by
    rw [bC];rfl
   obtain ⟨H4,hH4⟩:∃ H4,H4=H3.set (h.length+4) (rT (encI ([1,1,szV D n ino,0]++s.2.set 6 (T0 D n s.1 ((drV D n ino).getD 6 0))))):=⟨_,rfl⟩;have s10:F9 H3 (pV (h.length+4) 10) (iV (T0 D n s.1 ((drV D n ino).getD 6 0)))=some H4:=by
    rw [F5 q10 (by rw [A8];simp [hs2]),es',hH4]
   have o4:∀ j,j≠h.length+4->rd H4 j=rd H3 j:=λj hj=>by rw [hH4,A7 (Ne.symm hj)]
   obtain ⟨cs',H',j1,j2,j3⟩:=fin H4 cs2 (dG D n s.1 ((drV D n ino).getD 6 0),s.2.set 6 (T0 D n s.1 ((drV D n ino).getD 6 0))) (by unfold B64;rw [if_pos c6]) (hs.1.trans (oV ..)) (by simpa using hs2) (by rw [fX];exact f10) (by rw [hH4];exact a5.set (by omega) _) (by rw [hH4];simp;omega) (by rw [hH4];exact a6.set (.inr n4)) (by rw [o4 _ (by omega)];exact a7) (by rw [o4 _ (by omega),a9 _ (C5 f6) (by omega)];exact f6) (by rw [o4 _ (by omega),a9 _ (C5 f7) (by omega)];exact f7) (by rw [hH4];exact B7 (C5 q10));refine ⟨cs',H',?_,j2,j3⟩;rw [em6,A4g];simp only [esc,Nat.reduceAdd,c66,cgt,l4,l6,lw,a1,a2,a3,a4,s10];exact j1
  ·have em6:min many 6=many:=by omega
   have cgt:¬ many > 6:=c6;obtain ⟨cs',H',j1,j2,j3⟩:=fin H1 cs1 s (by unfold B64;rw [if_neg c6]) hs.1 hs2 f10 f2 (by omega) f4 f5 f6 f7 f9;refine ⟨cs',H',?_,j2,j3⟩;rw [em6];by_cases c66:many<6
   ·simp only [esc,Nat.reduceAdd,c66,Int.lt_irrefl,cgt];exact j1
   ·simp only [esc,Nat.reduceAdd,c66,cgt];exact j1
 obtain ⟨cs',H',e1,e2,e3⟩:=key;exact ⟨cs',H',C4V e1,e2,e3⟩
end
end
section
theorem B20 {D:Dev} {X:List Int} {s u:List Spt}:F8 D X (s++u)=F8 D X s++F8 D X u:=by
 unfold F8;rw [List.filter_append,E5T]
theorem D3r {D:Dev} {X:List Int} {e:Spt} {u:List Spt}:F8 D X (e::u)=(if atH D X e=true then [e.2.2.1] else [])++F8 D X u:=by
 rw [show e::u=[e]++u from rfl,B20]
 congr 1
 unfold F8;by_cases c:atH D X e=true<;>simp [c]
theorem D5A {t:List Int}:∀ {k:Nat},∀ no∈J6 t k,no≠0
 | 0,no,h=>by simp [J6] at h
 | k+1,no,h=>by
  rw [A0b] at h;rcases List.mem_append.1 h with h | h
  ·exact D5A no h
  ·by_cases c:vY t k=true
   ·rw [if_pos c] at h;simp at h;subst h;unfold vY at c;simp at c;exact c.1
   ·rw [if_neg c] at h;simp at h
section
variable {D:Dev} {n m:Int} {g:A6} {v:Val}
theorem E3x {d:Int} {t L:List Int} {x3 x4 x6 x8 x12:Val} {x11 bid q M0:Nat} {i:Nat} (hv:Has g v 256 D.length (D1 D)) (hD:okD D) (hX:rd g x11=rT (encI (d::t))) (ht:t.length=32) (h5:d<=5) (hL:rd g bid=rT (encI L)) (hi:i<L.length) (hLl:L.length<=32) (bM:L[i]≠0) :
  ∀ (e k M:Nat) (S:V0) (nid:Nat) (H:A6),k+e=7->e<M->Grows g H->g.length<=nid->rd H nid=rT (encS S)->S.length+e<=10000 ->
  ∃ nid' H',B2O q M0 M v x3 x4 x6 x8 (pV x11 0) x12 (sV bid 0 L.length 1) (sV nid 0 S.length 1) (iV (i:Int)) (iV (k:Int)) H =
    vF q M0 v x3 x4 x6 x8 (pV x11 0) x12 (sV bid 0 L.length 1) (sV nid' 0 (S++F8 D (d::t) ((M6 (blk D L[i]) e k).map λs=>(L[i],s))).length 1) (iV ((i+1:Nat):Int)) H' /\
   Grows g H'/\g.length<=nid'/\rd H' nid'=rT (encS (S++F8 D (d::t) ((M6 (blk D L[i]) e k).map λs=>(L[i],s)))):=by
 intro e
 induction e with
 | zero =>
  intro k M S nid H hk hM G hn hr hS;obtain ⟨M,rfl⟩:∃ M',M=M'+1:=⟨M-1,by omega⟩;have c0:¬ (k:Int)<7:=by omega
  have w1:=C6 (show i+1<9223372036854775808 by omega);have e1:S++F8 D (d::t) ((M6 (blk D L[i]) 0 k).map λs=>(L[i],s))=S:=by simp [M6,F8]
  rw [e1];refine ⟨nid,H,?_,G,hn,hr⟩;rw [mE];simp only [esc,c0,w1]
 | succ e ih =>
  intro k M S nid H hk hM G hn hr hS;obtain ⟨M,rfl⟩:∃ M',M=M'+1:=⟨M-1,by omega⟩;have k7:k<7:=by omega
  have c0:(k:Int)<7:=by omega
  have w1:=C6 (show k+1<9223372036854775808 by omega);have rL:=G.rd hL;have aL:D5 1 (sV bid 0 L.length 1) (iV (i:Int))=some (pV bid i):=by rw [C4 hi];simp
  have lL:∀ K:A6,rd K bid=rT (encI L)->B4 K (pV bid i)=some (iV L[i]):=λK hK=>B5 hK (by rw [F6,E40 hi];rfl) rfl
  obtain ⟨u,t1,b1,b2,b3,_⟩:=A0j (no:=L[i]) (hv.grows G) hD;obtain ⟨K,hK⟩:∃ K,K=H++t1:=⟨_,rfl⟩;rw [<-hK] at b1 b3;have GK:Grows H K:=by rw [hK];exact Q4 Grows.rfl' b2
  have hRd:=vK (k:=k) b3 (O2 hD) k7;have el2:(V3 (R0 (blk D L[i]) k)).length=2:=by cases R0 (blk D L[i]) k<;>rfl
  obtain ⟨K2,hK2⟩:∃ K2,K2=K++[rT (V3 (R0 (blk D L[i]) k))]:=⟨_,rfl⟩;have s2:E1 (K++[rT [Cell.s [],o0]]) 2 (pV K.length 0) (.a (V3 (R0 (blk D L[i]) k)))=some K2:=by
   rw [storeAll (n:=2) (cs:=[Cell.s [],o0]) (by rw [E9];rfl) rfl el2,cU,hK2];rfl
  have G2:Grows H K2:=by rw [hK2];exact GK.new _
  have lX:C8 K2 33 (pV x11 0)=some (.a (encI (d::t))):=B8 (G2.rd (G.rd hX)) (by rw [A8];simp [ht]);obtain ⟨nm,enm⟩:∃ nm,nm=((R0 (blk D L[i]) k).map (·.1)).getD []:=⟨_,rfl⟩;have lnm:B4 K2 (pV K.length 0)=some (.c (.s nm)):=by
   refine B5 (cs:=V3 (R0 (blk D L[i]) k)) (rw:=true) (by rw [hK2,E9];rfl) ?_ rfl;rw [enm];cases R0 (blk D L[i]) k<;>rfl
  have hnl:nm.length<=24:=by
   rw [enm];cases zN:R0 (blk D L[i]) k with
   | none=>simp
   | some x=>exact A0k zN
  have hAt:=D42 (h:=K2) (d:=d) (t:=t) (nm:=nm) (hv.grows (G.trans' G2)) hD ht h5 (by omega);have lL2:=lL K2 (G2.rd rL);cases zN:R0 (blk D L[i]) k with
  | none =>
   rw [vI zN];rw [zN] at hRd s2;obtain ⟨nid',H',f1,f2⟩:=ih (k+1) M S nid K2 (by omega) (by omega) (G.trans' G2) hn (G2.rd hr) (by omega);generalize S++F8 D (d::t) ((M6 (blk D L[i]) e (k+1)).map λs=>(L[i],s))=TT at f1 f2 ⊢;refine ⟨nid',H',?_,f2⟩;rw [mE];generalize encI (d::t)=X at *;generalize P8 (d::t) nm=hb at *;generalize B4x D (d::t) nm=sl at *;generalize (hmS D (d::t) nm).isSome=hm at *;simp only [esc,Nat.reduceAdd,c0,aL,lL H rL,b1,hRd,E5o,s2,lX,lnm,hAt,eJ,w1];exact f1
  | some x =>
   obtain ⟨s,ii⟩:=x;rw [vJ zN,E50,D3r];have es:nm=s:=by rw [enm,zN];rfl
   have B9L:=D7Q (X:=d::t) bM zN;rw [es] at lnm hAt;rw [zN] at hRd s2;by_cases ha:atH D (d::t) (L[i],(k,(s,ii)))=true
   ·rw [if_pos ha];rw [ha] at B9L;simp only [E42,decide_eq_true_eq] at B9L;obtain ⟨⟨g1,g2⟩,g3⟩:=B9L;have E39:rd K2 nid=rT (encS S):=G2.rd hr;have op:=one_app (ys:=[Cell.s s]) E39 (n:=S.length) (sz:=1) (by rw [L9];omega) rfl (by omega) (by omega);obtain ⟨K3,hK3⟩:∃ K3,K3=(K2++[rT [Cell.s s]]).set nid none++[rT (encS S++[Cell.s s])]:=⟨_,rfl⟩;rw [<-hK3] at op;have G3:Grows g K3:=by rw [hK3];exact (A6x ((G.trans' G2).new _) hn).new _
    have r3:rd K3 (K2.length+1)=rT (encS (S++[s])):=by
     have:rd K3 ((K2++[rT [Cell.s s]]).set nid none).length=rT (encS S++[Cell.s s]):=by rw [hK3];exact S8
     rw [E5w,E43] at this;rw [show encS (S++[s])=encS S++[Cell.s s] by simp [encS]];exact this
    have ls:(S++[s]).length=S.length+1:=by simp
    have eT:S++([s]++F8 D (d::t) ((M6 (blk D L[i]) e (k+1)).map λs=>(L[i],s)))=(S++[s])++F8 D (d::t) ((M6 (blk D L[i]) e (k+1)).map λs=>(L[i],s)):=by simp
    have es1:(L[i],((k,(s,ii)):Slt)).2.2.1=s:=rfl;rw [es1,eT]
    ·obtain ⟨nid',H',f1,f2⟩:=ih (k+1) M (S++[s]) (K2.length+1) K3 (by omega) (by omega) G3 (by have:=(G.trans' G2).len;omega) r3 (by rw [ls];omega);generalize (S++[s])++F8 D (d::t) ((M6 (blk D L[i]) e (k+1)).map λs=>(L[i],s))=TT at f1 f2 ⊢;rw [ls] at f1;refine ⟨nid',H',?_,f2⟩;have ef:D9 [Cell.s []] [(0,1,.c (.s s))]=some [.s s]:=rfl;rw [mE];generalize encI (d::t)=X at *;generalize P8 (d::t) s=hb at *;generalize B4x D (d::t) s=sl at *;generalize (hmS D (d::t) s).isSome=hm at *;subst g1;simp only [esc,Nat.reduceAdd,c0,aL,lL H rL,b1,hRd,E5h,s2,lX,lnm,hAt,lL2,g2,g3,ef,op,eJ,w1,eq_self];exact f1
   ·rw [if_neg ha,E5g];have ha:atH D (d::t) (L[i],(k,(s,ii)))=false:=by simpa using ha
    rw [ha] at B9L;obtain ⟨nid',H',f1,f2⟩:=ih (k+1) M S nid K2 (by omega) (by omega) (G.trans' G2) hn (G2.rd hr) (by omega);generalize S++F8 D (d::t) ((M6 (blk D L[i]) e (k+1)).map λs=>(L[i],s))=TT at f1 f2 ⊢;refine ⟨nid',H',?_,f2⟩;rw [mE];generalize encI (d::t)=X at *;generalize P8 (d::t) s=hb at *;generalize B4x D (d::t) s=sl at *;generalize (hmS D (d::t) s).isSome=hm at *;cases hm with
    | false =>
     simp only [esc,Nat.reduceAdd,c0,aL,lL H rL,b1,hRd,E5h,s2,lX,lnm,hAt,eJ,w1];exact f1
    | true =>
     by_cases c1:hb=L[i]
     ·by_cases c2:sl=(k:Int)
      ·simp [c1,c2] at B9L
      ·simp only [esc,Nat.reduceAdd,c0,aL,lL H rL,b1,hRd,E5h,s2,lX,lnm,hAt,lL2,c1,c2,eJ,w1,eq_self];exact f1
     ·simp only [esc,Nat.reduceAdd,c0,aL,lL H rL,b1,hRd,E5h,s2,lX,lnm,hAt,lL2,c1,eJ,w1];exact f1
end
end
section
section
variable {D:Dev} {n m:Int} {g:A6} {v:Val}
theorem E3w {d:Int} {t L:List Int} {x3 x4 x6 x8 x12:Val} {x11 bid q:Nat} (hv:Has g v 256 D.length (D1 D)) (hD:okD D) (hX:rd g x11=rT (encI (d::t))) (ht:t.length=32) (h5:d<=5) (hL:rd g bid=rT (encI L)) (hLl:L.length<=32) (bM:∀ no∈L,no≠0) (hq:8<=q) :
  ∀ (e i M:Nat) (S:V0) (nid:Nat) (H:A6),i+e=L.length->e<M->Grows g H->g.length<=nid->rd H nid=rT (encS S)->S.length+7*e<=1000 ->
  ∃ nid' H' M',vF q M v x3 x4 x6 x8 (pV x11 0) x12 (sV bid 0 L.length 1) (sV nid 0 S.length 1) (iV (i:Int)) H =
    vF q (M'+1) v x3 x4 x6 x8 (pV x11 0) x12 (sV bid 0 L.length 1) (sV nid' 0 (S++F8 D (d::t) (tO D (L.drop i))).length 1) (iV (L.length:Nat)) H' /\
   Grows g H'/\g.length<=nid'/\rd H' nid'=rT (encS (S++F8 D (d::t) (tO D (L.drop i)))):=by
 intro e
 induction e with
 | zero =>
  intro i M S nid H hi hM G hn hr hS;obtain ⟨M,rfl⟩:∃ M',M=M'+1:=⟨M-1,by omega⟩;have ei:i=L.length:=by omega
  subst ei;have e1:S++F8 D (d::t) (tO D (L.drop L.length))=S:=by rw [List.drop_length];simp [tO,F8]
  rw [e1];exact ⟨nid,H,M,rfl,G,hn,hr⟩
 | succ e ih =>
  intro i M S nid H hi hM G hn hr hS;obtain ⟨M,rfl⟩:∃ M',M=M'+1:=⟨M-1,by omega⟩;have P6:i<L.length:=by omega
  have c0:(i:Int)<(L.length:Nat):=by omega
  obtain ⟨nid1,H1,f1,f2,f3,f4⟩:=E3x (x3:=x3) (x4:=x4) (x6:=x6) (x8:=x8) (x12:=x12) (q:=q) (M0:=M) hv hD hX ht h5 hL P6 hLl (bM _ (E5F P6)) 7 0 q S nid H (by omega) (by omega) G hn hr (by omega);have eX:M6 (blk D L[i]) 7 0=N1 (blk D L[i]):=rfl;rw [eX] at f1 f4;have h7:=dI (blk D L[i]);have bO:(S++F8 D (d::t) ((N1 (blk D L[i])).map λs=>(L[i],s))).length<=S.length+7:=by
   have:=A4U (D:=D) (X:=d::t) (s:=(N1 (blk D L[i])).map λs=>(L[i],s));rw [List.length_map] at this;rw [E43];omega
  obtain ⟨nid',H',M',k1,k2⟩:=ih (i+1) M _ nid1 H1 (by omega) (by omega) f2 f3 f4 (by omega);have eA:S++F8 D (d::t) (tO D (L.drop i))=(S++F8 D (d::t) ((N1 (blk D L[i])).map λs=>(L[i],s)))++F8 D (d::t) (tO D (L.drop (i+1))):=by
   rw [E46 P6,B9u,B20,E45]
  rw [eA];refine ⟨nid',H',M',?_,k2⟩;have c00:((0:Nat):Int)=0:=rfl;rw [c00] at f1;generalize (S++F8 D (d::t) ((N1 (blk D L[i])).map λs=>(L[i],s)))++F8 D (d::t) (tO D (L.drop (i+1)))=TT at k1 ⊢;generalize S++F8 D (d::t) ((N1 (blk D L[i])).map λs=>(L[i],s))=TU at k1 f1;rw [A4K];simp only [esc,c0];exact f1.trans k1
structure KeptR (D:Dev) (X:List Int) (K:List UInt8->Option Int) (l:V0):Prop where
 mem:∀ s,s∈l↔(K s).isSome=true
 val:∀ s a,K s=some a->a=B0o D X s
theorem D8u {X:List Int} {L:List Int} {s:List UInt8} (hs:s∈fM (F8 D X (tO D L))):∃ no x,no∈L/\x∈N1 (blk D no)/\P8 X s=no/\hmS D X s=some x/\x.2.1=s:=by
 rw [B1v] at hs;unfold F8 at hs;obtain ⟨e,he,rfl⟩:=List.mem_map.1 hs;obtain ⟨he1,he2⟩:=List.mem_filter.1 he;unfold tO at he1;obtain ⟨no,bM,he3⟩:=List.mem_flatMap.1 he1;obtain ⟨x,hx,rfl⟩:=List.mem_map.1 he3;unfold atH at he2;simp only [E42,decide_eq_true_eq] at he2;exact ⟨no,x,bM,hx,he2.1,he2.2,rfl⟩
theorem E3y {lo:Nat} {P:Nat->Prop} {h:A6} {d ino:Int} {t L:List Int} {x4:Val} {x6 x8 x11 x12 bid sid q:Nat} {r8:List Cell} (hv:Has h v 256 D.length (D1 D)) (hD:okD D) (ht:t.length=32) (h5:d<=5) (bM:∀ no∈L,no≠0) (hn:n<=128)
  (e6:h.length<=x6) (n1:x6≠x8) (n2:x6≠x11) (n3:x6≠x12) (n4:x6≠bid) (n5:x6≠sid) {S:V0} (hS:S=fM (F8 D (d::t) (tO D L))) (hSl:S.length<=300) :
  ∀ (e i M B:Nat) (s:Cl × (List UInt8->Option Int)) (cs:List Cell) (kl:V0) (kid:Nat) (Q:Nat->Prop) (H:A6),i+e=S.length->e<M->Grows h H->IsRC n Q H cs s.1->¬ Q x6->¬ Q kid->(∀ id,Q id->P id\/lo<=id)->lo<=H.length->(∀ id,Q id->id<H.length)->RowW n s.1->s.1.row.length+e<=1000->BndL s.1 B->B+e<=900000 ->
   rd H x6=rT cs->rd H x8=rT (D3 D.length n m)->rd H x11=rT (encI (d::t))->rd H x12=rT r8->rd H bid=rT (encI L)->rd H sid=rT (encS S)->rd H kid=rT (encS kl)->h.length<=kid->kid≠x6->kid≠x8->kid≠x11->kid≠x12->kid≠bid->kid≠sid->kl.length<=i->KeptR D (d::t) s.2 kl ->
  ∃ cs' kl' kid' Q' H' M',A3D q M v (iV ino) x4 (pV x6 0) (pV x8 0) (pV x11 0) (pV x12 0) (sV bid 0 L.length 1) (sV sid 0 S.length 1) (sV kid 0 kl.length 1) (iV (i:Int)) H =
    A3D q (M'+1) v (iV ino) x4 (pV x6 0) (pV x8 0) (pV x11 0) (pV x12 0) (sV bid 0 L.length 1) (sV sid 0 S.length 1) (sV kid' 0 kl'.length 1) (iV (S.length:Nat)) H' /\
   Grows h H'/\IsRC n Q' H' cs' (Z9 D n ino s ((S.drop i).map λx=>(x,B0o D (d::t) x))).1/\¬ Q' x6/\¬ Q' kid'/\(∀ id,Q' id->P id\/lo<=id)/\lo<=H'.length/\(∀ id,Q' id->id<H'.length) /\
   rd H' x6=rT cs'/\rd H' x11=rT (encI (d::t))/\rd H' x12=rT r8/\rd H' bid=rT (encI L)/\rd H' kid'=rT (encS kl')/\kid'≠x6/\kid'≠x11/\kid'≠x12/\kid'≠bid/\kl'.length<=300/\KeptR D (d::t) (Z9 D n ino s ((S.drop i).map λx=>(x,B0o D (d::t) x))).2 kl':=by
 intro e
 induction e with
 | zero =>
  intro i M B s cs kl kid Q H hi hM G K nq6 nqk toP hlo low hR hr hB hB2 r6 r8' r11 r12 rb rs rk hk0 k1 k2 k3 k4 k5 k6 hkl KR;obtain ⟨M,rfl⟩:∃ M',M=M'+1:=⟨M-1,by omega⟩;have ei:i=S.length:=by omega
  subst ei;rw [List.drop_length];exact ⟨cs,kl,kid,Q,H,M,rfl,G,K,nq6,nqk,toP,hlo,low,r6,r11,r12,rb,rk,k1,k3,k4,k5,by omega,KR⟩
 | succ e ih =>
  intro i M B s cs kl kid Q H hi hM G K nq6 nqk toP hlo low hR hr hB hB2 r6 r8' r11 r12 rb rs rk hk0 k1 k2 k3 k4 k5 k6 hkl KR;obtain ⟨M,rfl⟩:∃ M',M=M'+1:=⟨M-1,by omega⟩;have P6:i<S.length:=by omega
  have c0:(i:Int)<(S.length:Nat):=by omega
  have w1:=C6 (show i+1<9223372036854775808 by omega);obtain ⟨no,x,E4h,hx,hh1,hh2,hh3⟩:=D8u (D:=D) (X:=d::t) (L:=L) (s:=S[i]) (by rw [<-hS];exact E5F P6);obtain ⟨hx1,hx2⟩:=B1n hx;have hnl:(S[i]).length<=24:=by rw [<-hh3];exact A0k hx1
  have no0:no≠0:=bM no E4h;have hvH:=hv.grows G;have hAt:=D42 (h:=H) (d:=d) (t:=t) (nm:=S[i]) hvH hD ht h5 (by omega);have eSl:B4x D (d::t) S[i]=(x.1:Int):=by
   have E0e:=hh2;unfold hmS at E0e;unfold B4x;rw [hh1] at E0e ⊢;rw [if_neg no0] at E0e ⊢;rw [E0e];rfl
  have eHn:B0o D (d::t) S[i]=x.2.2:=by unfold B0o;rw [hh2];rfl
  rw [hh1,eSl,hh2] at hAt;have lX:C8 H 33 (pV x11 0)=some (.a (encI (d::t))):=B8 r11 (by rw [A8];simp [ht]);have aS:∀ (K:A6),rd K sid=rT (encS S)->B4 K (pV sid i)=some (.c (.s S[i])):=λK hK=>B5 hK (by simp [encS,P6]) rfl
  have adS:D5 1 (sV sid 0 S.length 1) (iV (i:Int))=some (pV sid i):=by rw [C4 P6];simp
  obtain ⟨u,t1,b1,b2,b3,_⟩:=A0j (no:=no) hvH hD;obtain ⟨K1,hK1⟩:∃ K1,K1=H++t1:=⟨_,rfl⟩;rw [<-hK1] at b1 b3;have GK1:Grows H K1:=by rw [hK1];exact Q4 Grows.rfl' b2
  have hRd:=vK (k:=x.1) b3 (O2 hD) hx2;rw [hx1] at hRd;obtain ⟨K2,hK2⟩:∃ K2,K2=K1++[rT (V3 (some x.2))]:=⟨_,rfl⟩;have s2:E1 (K1++[rT [Cell.s [],o0]]) 2 (pV K1.length 0) (.a (V3 (some x.2)))=some K2:=by
   rw [storeAll (n:=2) (cs:=[Cell.s [],o0]) (by rw [E9];rfl) rfl rfl,cU,hK2];rfl
  have G2:Grows H K2:=by rw [hK2];exact GK1.new _
  have E4P:=GK1.len;have lK2:K2.length=K1.length+1:=by rw [hK2];simp
  have l6:C8 K2 8 (pV x6 0)=some (.a cs):=B8 (G2.rd r6) K.length;have l8:C8 K2 3 (pV x8 0)=some (.a (D3 D.length n m)):=B8 (G2.rd r8') rfl;have le:B4 K2 (pV K1.length 1)=some (iV x.2.2):=B5 (cs:=V3 (some x.2)) (rw:=true) (by rw [hK2,E9];rfl) rfl rfl;obtain ⟨cs1,K3,t1',t2',t3'⟩:=D9g (m:=m) (dir:=ino) (ino:=x.2.2) (hvH.grows G2) hD (K.grows G2) hR (by omega) (λa=>⟨(hB a).1,by have:=(hB a).2;omega⟩) hn;have E3X:=G2.len;have E4Q:=t2'.len;obtain ⟨K4,hK4⟩:∃ K4,K4=K3++[rT cs1]:=⟨_,rfl⟩;have s4:E1 (K3++[rT Z8]) 8 (pV K3.length 0) (.a cs1)=some K4:=by
   rw [storeAll (n:=8) (cs:=Z8) (by rw [E9];rfl) rfl t3'.length,cU,hK4];rfl
  have l4:C8 K4 8 (pV K3.length 0)=some (.a cs1):=B8 (by rw [hK4,E9];rfl) t3'.length;have E3B:∀ {id r},rd H id=some r->rd K4 id=some r:=λhr=>by rw [hK4];exact B6 (t2'.rd (G2.rd hr))
  obtain ⟨K5,hK5⟩:∃ K5,K5=K4.set x6 (rT cs1):=⟨_,rfl⟩;have s5:E1 K4 8 (pV x6 0) (.a cs1)=some K5:=by rw [storeAll (n:=8) (E3B r6) K.length t3'.length,hK5]
  have lK4:K4.length=K3.length+1:=by rw [hK4];simp
  have lK5:K5.length=K3.length+1:=by rw [hK5];simp [lK4]
  have B91:∀ {id r},rd H id=some r->id≠x6->rd K5 id=some r:=λhr T5=>by rw [hK5,A7 (Ne.symm T5)];exact E3B hr
  have G5:Grows h K5:=by rw [hK5,hK4];exact (((G.trans' G2).trans' t2').new _).set e6 _
  obtain ⟨Q1,hQ1⟩:∃ Q1:Nat->Prop,Q1=λid=>(Q id\/K2.length<=id)/\id<K3.length:=⟨_,rfl⟩
  have kr:=C5 rk;have x6l:=C5 r6;have nq16:¬ Q1 x6:=by rw [hQ1];intro hh;rcases hh.1 with hh | hh;exact nq6 hh;omega
  have nq1k:¬ Q1 kid:=by rw [hQ1];intro hh;rcases hh.1 with hh | hh;exact nqk hh;omega
  have Kr1:IsRC n Q1 K5 cs1 (cX D n s.1 ino x.2.2):=by
   rw [hK5,hK4];refine IsRC.set (.inr nq16) (IsRC.grows ((Grows.rfl').new _) ?_);rw [hQ1];exact t3'.low
  have E3C:∀ id,Q1 id->P id\/lo<=id:=λid hh=>by
   rw [hQ1] at hh;rcases hh.1 with hh | hh
   ·exact toP id hh
   ·exact .inr (by omega)
  have low1:∀ id,Q1 id->id<K5.length:=λid hh=>by rw [hQ1] at hh;have:=hh.2;omega
  have q6:rd K5 x6=rT cs1:=by rw [hK5];exact B7 (by omega)
  have ed:Z9 D n ino s ((S.drop i).map λx=>(x,B0o D (d::t) x))=Z9 D n ino (Y7 D n ino s (S[i],x.2.2)) ((S.drop (i+1)).map λx=>(x,B0o D (d::t) x)):=by
   rw [E46 P6,E50,eHn];rfl
  rw [ed];obtain ⟨_,fB,fr⟩:=A2z (D:=D) (n:=n) (ino:=ino) (e:=(S[i],x.2.2)) hB;have fR:RowW n (Y7 D n ino s (S[i],x.2.2)).1:=B90 (L:=[(S[i],x.2.2)]) hR;cases hb:gR D n s.1 x.2.2 with
  | false =>
   rw [hb] at t1';have e1:Y7 D n ino s (S[i],x.2.2)=s:=by unfold Y7;rw [hb];rfl
   have e2:cX D n s.1 ino x.2.2=s.1:=by unfold cX;rw [hb];rfl
   rw [e2] at Kr1;rw [e1];obtain ⟨cs',kl',kid',Q',H',M',f1,f2⟩:=ih (i+1) M B s cs1 kl kid Q1 K5 (by omega) (by omega) G5 Kr1 nq16 nq1k E3C (by omega) low1 hR (by omega) hB (by omega) q6 (B91 r8' (Ne.symm n1)) (B91 r11 (Ne.symm n2)) (B91 r12 (Ne.symm n3)) (B91 rb (Ne.symm n4)) (B91 rs (Ne.symm n5)) (B91 rk k1) hk0 k1 k2 k3 k4 k5 k6 (by omega) KR;refine ⟨cs',kl',kid',Q',H',M',?_,f2⟩;rw [tW,A4g];simp only [esc,Nat.reduceAdd,c0,lX,adS,aS H rs,hAt,b1,hRd,s2,l6,l8,le,t1',s4,l4,s5,A4J,w1];exact f1
  | true =>
   rw [hb] at t1';have e1:Y7 D n ino s (S[i],x.2.2)=(cX D n s.1 ino x.2.2,C8Z s.2 S[i] x.2.2):=by unfold Y7;rw [hb];rfl
   rw [e1] at fB fr fR ⊢;have q5k:=B91 rk k1;have op:=one_app (ys:=[Cell.s S[i]]) q5k (n:=kl.length) (sz:=1) (by rw [L9];omega) rfl (by omega) (by omega);obtain ⟨K6,hK6⟩:∃ K6,K6=(K5++[rT [Cell.s S[i]]]).set kid none++[rT (encS kl++[Cell.s S[i]])]:=⟨_,rfl⟩;rw [<-hK6] at op;have G6:Grows h K6:=by rw [hK6];exact (A6x (G5.new _) hk0).new _
   have lK6:K6.length=K5.length+2:=by rw [hK6];simp
   have D7u:∀ {id r},rd K5 id=some r->id≠kid->rd K6 id=some r:=λhr T5=>by
    rw [hK6];refine B6 ?_;rw [A7 (Ne.symm T5)];exact B6 hr
   have q6k:rd K6 (K5.length+1)=rT (encS (kl++[S[i]])):=by
    have:rd K6 ((K5++[rT [Cell.s S[i]]]).set kid none).length=rT (encS kl++[Cell.s S[i]]):=by rw [hK6];exact S8
    rw [E5w,E43] at this;rw [show encS (kl++[S[i]])=encS kl++[Cell.s S[i]] by simp [encS]];exact this
   have Kr2:IsRC n Q1 K6 cs1 (cX D n s.1 ino x.2.2):=by
    rw [hK6];exact IsRC.grows ((Grows.rfl').new _) (IsRC.set (.inr nq1k) (IsRC.grows ((Grows.rfl').new _) Kr1))
   have KR2:KeptR D (d::t) (C8Z s.2 S[i] x.2.2) (kl++[S[i]]):=by
    refine ⟨λa=>?_,λa b hab=>?_⟩
    ·rw [List.mem_append];unfold C8Z;by_cases ea:a=S[i]
     ·rw [if_pos ea];simp [ea]
     ·rw [if_neg ea];simp [ea,KR.mem a]
    ·unfold C8Z at hab;by_cases ea:a=S[i]
     ·rw [if_pos ea] at hab;cases hab;rw [ea,eHn]
     ·rw [if_neg ea] at hab;exact KR.val a b hab
   have b11:=C5 r11;have b12:=C5 r12;have bb:=C5 rb;have bs:=C5 rs;have b8:=C5 r8';have lkl:(kl++[S[i]]).length=kl.length+1:=by simp
   obtain ⟨cs',kl',kid',Q',H',M',f1,f2⟩:=ih (i+1) M (B+1) (cX D n s.1 ino x.2.2,C8Z s.2 S[i] x.2.2) cs1 (kl++[S[i]]) (K5.length+1) Q1 K6 (by omega) (by omega) G6 Kr2 nq16 (λhh=>by have:=low1 _ hh;omega) E3C (by omega) (λid hh=>by have:=low1 id hh;omega) fR (by omega) fB (by omega) (D7u q6 (Ne.symm k1)) (D7u (B91 r8' (Ne.symm n1)) (Ne.symm k2)) (D7u (B91 r11 (Ne.symm n2)) (Ne.symm k3)) (D7u (B91 r12 (Ne.symm n3)) (Ne.symm k4)) (D7u (B91 rb (Ne.symm n4)) (Ne.symm k5)) (D7u (B91 rs (Ne.symm n5)) (Ne.symm k6)) q6k (by have:=G5.len;omega) (by omega) (by omega) (by omega) (by omega) (by omega) (by omega) (by omega) KR2;rw [lkl] at f1;refine ⟨cs',kl',kid',Q',H',M',?_,f2⟩;have ef:D9 [Cell.s []] [(0,1,.c (.s S[i]))]=some [.s S[i]]:=rfl;rw [tW,A4g];simp only [esc,Nat.reduceAdd,c0,lX,adS,aS H rs,aS K5 (B91 rs (Ne.symm n5)),hAt,b1,hRd,s2,l6,l8,le,t1',s4,l4,s5,ef,op,A4J,w1];exact f1
end
end
section
section
variable {D:Dev} {n m:Int} {g:A6} {v:Val} {Q:Nat->Prop} {H:A6} {c:Cl} {cs:List Cell}
theorem IsRC.lost (k:IsRC n Q H cs c) (a:Int):IsRC n Q H (cs.set 5 (.i .i64 a)) { c with lost:=a }:=by
 obtain ⟨xr,xi,xt,xb,xm,xl,xy,ys,rfl,k⟩:=k;exact ⟨xr,xi,xt,xb,xm,xl,xy,ys,rfl,⟨k.row,k.ino,k.tak,k.blk,k.mad,k.mds,k.tol,k.par,k.pr,k.pi,k.pt,k.pb,k.pm,k.pl,k.py⟩⟩
theorem IsRC.atLost (k:IsRC n Q H cs c):cs[5]?=some (.i .i64 c.lost):=by
 obtain ⟨xr,xi,xt,xb,xm,xl,xy,ys,rfl,k⟩:=k;rfl
theorem D6M {X:List Int} {K:List UInt8->Option Int} {kl:V0} (KR:KeptR D X K kl) {no:Int} {k:Nat} {s:List UInt8} {i:Int} (hi:1<=i):A2q D X no K (k,(s,i))=(atH D X (no,(k,(s,i)))&&decide (s∈kl)):=by
 unfold A2q;cases ha:atH D X (no,(k,(s,i))) with
 | false=>rfl
 | true =>
  rw [E5d,E5d];have h1:hmS D X s=some (k,(s,i)):=by
   unfold atH at ha;simp only [E42,decide_eq_true_eq] at ha;exact ha.2
  have h2:B0o D X s=i:=by unfold B0o;rw [h1];rfl
  show decide ((K s).getD 0=i)=decide (s∈kl);cases hK:K s with
  | none =>
   have:s ∉ kl:=λhm=>by have:=(KR.mem s).1 hm;rw [hK] at this;cases this
   rw [decide_eq_false this];simp;omega
  | some a =>
   have hm:s∈kl:=(KR.mem s).2 (by rw [hK];rfl);have ea:=KR.val s a hK;rw [h2] at ea;rw [decide_eq_true hm];simp [ea]
theorem D8M {s:List UInt8} {i:Int} (h:A1o s i=true):1<=i:=by
 unfold A1o at h;simp only [E42,decide_eq_true_eq] at h;omega
theorem E3A {lo:Nat} {P:Nat->Prop} {h:A6} {d:Int} {t L:List Int} {x6 x11 bid kid q M0 i:Nat} {x12:Val} {kl:V0} {KK:List UInt8->Option Int} (hv:Has h v 256 D.length (D1 D)) (hD:okD D) (ht:t.length=32) (h5:d<=5) (hi:i<L.length) (bM:L[i]≠0)
  (e6:h.length<=x6) (n2:x6≠x11) (n4:x6≠bid) (n5:x6≠kid) (KR:KeptR D (d::t) KK kl) (hkl:kl.length<=300) :
  ∀ (e k M:Nat) (s:Cl × List UInt8) (cs:List Cell) (y:Cell) (H:A6),k+e=7->e<M->Grows h H->IsRC n Q H cs s.1->¬ Q x6->lo<=H.length->(∀ id,nmC y=some id->lo<=id/\id≠x6/\id≠x11/\id≠bid/\id≠kid)->y.isX=false->Has H (.c y) 1 256 (A5 s.2)->s.2.length=256->0<=s.1.lost/\s.1.lost+e<=900000 ->
   rd H x6=rT cs->rd H x11=rT (encI (d::t))->rd H bid=rT (encI L)->rd H kid=rT (encS kl) ->
  ∃ cs' y' H' M',A3F q M0 M v (pV x6 0) (pV x11 0) x12 (sV bid 0 L.length 1) (sV kid 0 kl.length 1) (iV (i:Int)) (.c y) (iV (k:Int)) H =
    A3F q M0 (M'+1) v (pV x6 0) (pV x11 0) x12 (sV bid 0 L.length 1) (sV kid 0 kl.length 1) (iV (i:Int)) (.c y') (iV 7) H' /\
   Grows h H'/\H.length<=H'.length/\IsRC n Q H' cs' (T4 D (d::t) L[i] KK s (M6 (blk D L[i]) e k)).1/\(∀ id,nmC y'=some id->lo<=id/\id≠x6/\id≠x11/\id≠bid/\id≠kid)/\y'.isX=false/\Has H' (.c y') 1 256 (A5 (T4 D (d::t) L[i] KK s (M6 (blk D L[i]) e k)).2) /\
   rd H' x6=rT cs'/\(∀ j,j<H.length->j≠x6->rd H' j=rd H j):=by
 intro e
 induction e with
 | zero =>
  intro k M s cs y H hk hM G K nq hlow hy hyx hY mI hlo r6 r11 rb rk;obtain ⟨M,rfl⟩:∃ M',M=M'+1:=⟨M-1,by omega⟩;have ek:k=7:=by omega
  subst ek;exact ⟨cs,y,H,M,rfl,G,E44 _,K,hy,hyx,hY,r6,λ_ _ _=>rfl⟩
 | succ e ih =>
  intro k M s cs y H hk hM G K nq hlow hy hyx hY mI hlo r6 r11 rb rk;obtain ⟨M,rfl⟩:∃ M',M=M'+1:=⟨M-1,by omega⟩;have k7:k<7:=by omega
  have c0:(k:Int)<7:=by omega
  have w1:=C6 (show k+1<9223372036854775808 by omega);have hvH:=hv.grows G;have aL:D5 1 (sV bid 0 L.length 1) (iV (i:Int))=some (pV bid i):=by rw [C4 hi];simp
  have lL:∀ K:A6,rd K bid=rT (encI L)->B4 K (pV bid i)=some (iV L[i]):=λK hK=>B5 hK (by rw [F6,E40 hi];rfl) rfl
  obtain ⟨u,t1,b1,b2,b3,_⟩:=A0j (no:=L[i]) hvH hD;obtain ⟨K1,hK1⟩:∃ K1,K1=H++t1:=⟨_,rfl⟩;rw [<-hK1] at b1 b3;have GK1:Grows H K1:=by rw [hK1];exact Q4 Grows.rfl' b2
  have hRd:=vK (k:=k) b3 (O2 hD) k7;have el2:(V3 (R0 (blk D L[i]) k)).length=2:=by cases R0 (blk D L[i]) k<;>rfl
  obtain ⟨K2,hK2⟩:∃ K2,K2=K1++[rT (V3 (R0 (blk D L[i]) k))]:=⟨_,rfl⟩;have s2:E1 (K1++[rT [Cell.s [],o0]]) 2 (pV K1.length 0) (.a (V3 (R0 (blk D L[i]) k)))=some K2:=by
   rw [storeAll (n:=2) (cs:=[Cell.s [],o0]) (by rw [E9];rfl) rfl el2,cU,hK2];rfl
  have G2:Grows H K2:=by rw [hK2];exact GK1.new _
  have E3X:=G2.len;have same2:∀ j,j<H.length->rd K2 j=rd H j:=λj hj=>by
   obtain ⟨tt,hh⟩:=G2.1;rw [<-hh,D4 hj]
  cases zN:R0 (blk D L[i]) k with
  | none =>
   rw [zN] at hRd s2;rw [vI zN];obtain ⟨cs',y',H',M',f1,f2,f3,f4,f5,f6,f7,f8,f9⟩:=ih (k+1) M s cs y K2 (by omega) (by omega) (G.trans' G2) (K.grows G2) nq (by omega) hy hyx (hY.grows G2) mI ⟨hlo.1,by omega⟩ (G2.rd r6) (G2.rd r11) (G2.rd rb) (G2.rd rk);refine ⟨cs',y',H',M',?_,f2,by omega,f4,f5,f6,f7,f8,λj hj T5=>by rw [f9 j (by omega) T5,same2 j hj]⟩;rw [mH];simp only [esc,Nat.reduceAdd,Bool.not_false,c0,aL,lL H rb,b1,hRd,E5o,s2,aT,w1];exact f1
  | some x =>
   obtain ⟨nm,ii⟩:=x;rw [zN] at hRd s2;have hnl:nm.length<=24:=A0k (x:=(nm,ii)) zN;have E3e:A1o nm ii=true:=D0o (x:=(nm,ii)) zN;have B4L:=D8M E3e;rw [vJ zN];have ec:∀ T,T4 D (d::t) L[i] KK s ((k,(nm,ii))::T)=T4 D (d::t) L[i] KK (fJ D (d::t) L[i] KK s (k,(nm,ii))) T:=λT=>rfl
   rw [ec];have hkE:=D6M KR (no:=L[i]) (k:=k) (s:=nm) B4L;have B9L:=D7Q (X:=d::t) bM zN;have lX:C8 K2 33 (pV x11 0)=some (.a (encI (d::t))):=B8 (G2.rd r11) (by rw [A8];simp [ht]);have rE:rd K2 K1.length=rT [.s nm,.i .i64 ii]:=by rw [hK2,E9,zN];rfl
   have lnm:B4 K2 (pV K1.length 0)=some (.c (.s nm)):=B5 rE rfl rfl;have lE:C8 K2 2 (pV K1.length 0)=some (.a [.s nm,.i .i64 ii]):=B8 rE rfl;have hAt:=D42 (h:=K2) (d:=d) (t:=t) (nm:=nm) (hvH.grows G2) hD ht h5 (by omega);have lL2:=lL K2 (G2.rd rb);have hIn:=E2x (s:=nm) (h:=K2) (x:=sV kid 0 kl.length 1) (nv:=kl.length) (l:=kl) (Has.row (G2.rd rk) (by rw [L9];omega) (B7n _)) (by omega);cases hke:A2q D (d::t) L[i] KK (k,(nm,ii)) with
   | true =>
    rw [hke] at hkE;have hkE:=hkE.symm;rw [E42,decide_eq_true_eq] at hkE;obtain ⟨ha,hm⟩:=hkE;rw [ha] at B9L;simp only [E42,decide_eq_true_eq] at B9L;obtain ⟨⟨g1,g2⟩,g3⟩:=B9L;rw [decide_eq_true hm] at hIn;have es:fJ D (d::t) L[i] KK s (k,(nm,ii))=(s.1,I6 s.2 (J2 k) (X3 nm ii)):=by unfold fJ;rw [hke];rfl
    rw [es];have hB:=B0V (h:=K2) E3e;obtain ⟨K3,hK3⟩:∃ K3,K3=K2++[rT (A5 (X3 nm ii))]:=⟨_,rfl⟩;rw [<-hK3] at hB;have lK3:K3.length=K2.length+1:=by rw [hK3];simp
    have G3:Grows H K3:=by rw [hK3];exact G2.new _
    have hEl:=X4 (s:=nm) (n:=ii);have hL:=mO (v:=.c y) (u:=sV K2.length 0 32 1) (nv:=256) (nu:=32) (l:=s.2) (data:=X3 nm ii) (h:=K3) (hY.grows G3) (by rw [hK3];exact Has.row (rw:=true) (by rw [E9];rfl) (by rw [A4,hEl]) (F0 _)) (a:=((32+32*k:Nat):Int)) (by omega) (by omega);have eL:A70 s.2 ((32+32*k:Nat):Int) (X3 nm ii)=I6 s.2 (J2 k) (X3 nm ii):=by rw [A0f (by rw [hEl];omega)];rfl
    rw [eL,mI] at hL;obtain ⟨K4,hK4⟩:∃ K4,K4=K3++[rT (A5 (I6 s.2 (J2 k) (X3 nm ii)))]:=⟨_,rfl⟩;rw [<-hK4] at hL;have G4:Grows H K4:=by rw [hK4];exact G3.new _
    have lK4:K4.length=K3.length+1:=by rw [hK4];simp
    have same4:∀ j,j<H.length->rd K4 j=rd H j:=λj hj=>by
     obtain ⟨tt,hh⟩:=G4.1;rw [<-hh,D4 hj]
    have nl:(I6 s.2 (J2 k) (X3 nm ii)).length=256:=by rw [O1 (by rw [hEl,mI];unfold J2;omega)];exact mI
    have b6:=C5 r6;have b11:=C5 r11;have bb:=C5 rb;have bk:=C5 rk;obtain ⟨cs',y',H',M',f1,f2,f3,f4,f5,f6,f7,f8,f9⟩:=ih (k+1) M (s.1,I6 s.2 (J2 k) (X3 nm ii)) cs (.sl K3.length 0 256 1) K4 (by omega) (by omega) (G.trans' G4) (K.grows G4) nq (by omega) (λid hid=>by cases hid;exact ⟨by omega,by omega,by omega,by omega,by omega⟩) rfl (by rw [hK4];exact Has.row (rw:=true) (by rw [E9];rfl) (by rw [A4,nl]) (F0 _)) nl ⟨hlo.1,by have:=hlo.2;dsimp only;omega⟩ (G4.rd r6) (G4.rd r11) (G4.rd rb) (G4.rd rk);refine ⟨cs',y',H',M',?_,f2,by omega,f4,f5,f6,f7,f8,λj hj T5=>by rw [f9 j (by omega) T5,same4 j hj]⟩;have wm:IntKind.wrap .i64 (32*(k:Int))=32*(k:Int):=wrap_i64 (by omega) (by omega);have wa:IntKind.wrap .i64 (32+32*(k:Int))=((32+32*k:Nat):Int):=by rw [wrap_i64 (by omega) (by omega)];omega
    rw [mH];generalize encI (d::t)=X at *;generalize P8 (d::t) nm=hb at *;generalize B4x D (d::t) nm=sl at *;generalize (hmS D (d::t) nm).isSome=hm2 at *;subst g1;simp only [esc,Nat.reduceAdd,Bool.not_true,c0,aL,lL H rb,b1,hRd,E5h,s2,lX,lnm,hAt,lL2,g2,g3,hIn,wm,wa,lE,hB,hL,aT,w1,eq_self];exact f1
   | false =>
    have es:fJ D (d::t) L[i] KK s (k,(nm,ii))=({ s.1 with lost:=s.1.lost+1 },s.2):=by unfold fJ;rw [hke];rfl
    rw [es];rw [hke] at hkE;have wl:IntKind.wrap .i64 (s.1.lost+1)=s.1.lost+1:=wrap_i64 (by omega) (by omega);have q6:=G2.rd r6;have c8:=K.length;have l5:B4 K2 (pV x6 5)=some (iV s.1.lost):=B5 q6 K.atLost rfl;obtain ⟨K3,hK3⟩:∃ K3,K3=K2.set x6 (rT (cs.set 5 (.i .i64 (s.1.lost+1)))):=⟨_,rfl⟩;have s5:F9 K2 (pV x6 5) (iV (s.1.lost+1))=some K3:=by rw [F5 q6 (by omega),hK3]
    have lK3:K3.length=K2.length:=by rw [hK3];simp
    have o3:∀ j,j≠x6->rd K3 j=rd K2 j:=λj hj=>by rw [hK3,A7 (Ne.symm hj)]
    have b6:=C5 r6;have hY3:Has K3 (.c y) 1 256 (A5 s.2):=by rw [hK3];exact has_set (hY.grows G2) (.inr λhh=>(hy _ hh).2.1 rfl)
    obtain ⟨cs',y',H',M',f1,f2,f3,f4,f5,f6,f7,f8,f9⟩:=ih (k+1) M ({ s.1 with lost:=s.1.lost+1 },s.2) (cs.set 5 (.i .i64 (s.1.lost+1))) y K3 (by omega) (by omega) (by rw [hK3];exact (G.trans' G2).set e6 _) (by rw [hK3];exact ((K.grows G2).set (.inr nq)).lost _) nq (by omega) hy hyx hY3 mI ⟨by have:=hlo.1;dsimp only;omega,by have:=hlo.2;dsimp only;omega⟩ (by rw [hK3];exact B7 (by omega)) (by rw [o3 _ (Ne.symm n2)];exact G2.rd r11) (by rw [o3 _ (Ne.symm n4)];exact G2.rd rb) (by rw [o3 _ (Ne.symm n5)];exact G2.rd rk);refine ⟨cs',y',H',M',?_,f2,by omega,f4,f5,f6,f7,f8,λj hj T5=>by rw [f9 j (by omega) T5,o3 j T5,same2 j hj]⟩;rw [mH];generalize encI (d::t)=X at *;generalize P8 (d::t) nm=hb at *;generalize B4x D (d::t) nm=sl at *;generalize (hmS D (d::t) nm).isSome=hm2 at *;cases hm2 with
    | false =>
     simp only [esc,Nat.reduceAdd,Bool.not_true,c0,aL,lL H rb,b1,hRd,E5h,s2,lX,lnm,hAt,l5,wl,s5,aT,w1];exact f1
    | true =>
     by_cases c1:hb=L[i]
     ·by_cases c2:sl=(k:Int)
      ·have hm3:decide (nm∈kl)=false:=by
        have hat:atH D (d::t) (L[i],(k,(nm,ii)))=true:=by rw [<-B9L];simp [c1,c2]
        rw [hat,E5d] at hkE;exact hkE.symm
       rw [hm3] at hIn;simp only [esc,Nat.reduceAdd,Bool.not_true,c0,aL,lL H rb,b1,hRd,E5h,s2,lX,lnm,hAt,lL2,c1,c2,hIn,l5,wl,s5,aT,w1,eq_self];exact f1
      ·simp only [esc,Nat.reduceAdd,Bool.not_true,c0,aL,lL H rb,b1,hRd,E5h,s2,lX,lnm,hAt,lL2,c1,c2,l5,wl,s5,aT,w1,eq_self];exact f1
     ·simp only [esc,Nat.reduceAdd,Bool.not_true,c0,aL,lL H rb,b1,hRd,E5h,s2,lX,lnm,hAt,lL2,c1,l5,wl,s5,aT,w1];exact f1
end
end
end Go.Proofs.YtbnkgnfhgbhblaaGreat
