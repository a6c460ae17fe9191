/- What the proof of this claim leans on, part 6. -/
import Derived.Test.YtbnkgnfhgbhblaaGreatFClaimOfp5
set_option linter.all false
open Bool renaming and_eq_true→E3R,and_false→E4O,false_and→E3W,false_eq_true→E4M,not_eq_true'→E4D,or_eq_true→E4K,true_and→E31
open Int renaming eq_ofNat_of_zero_le→E4v,toNat_natCast→E38
open List renaming all_cons→E4x,all_eq_true→E4H,append_assoc→E3U,append_nil→E4f,cons_append→E4l,drop_eq_getElem_cons→E3V,drop_of_length_le→E32,drop_zero→E39,ext_getElem?→E4I,getD_eq_getElem?_getD→E30,getElem?_append_right→E35,getElem?_eq_getElem→E3P,getElem?_eq_none→E4q,getElem_mem→E4u,length_append→E3S,length_cons→E3Z,length_nil→E4h,length_replicate→E4g,length_set→E4o,mem_cons_of_mem→E4a,mem_cons_self→E4c,mem_of_getElem?→E4e,mem_or_eq_of_mem_set→E4z,nil_append→E37,range→E4m,range'→E4s,replicate→E3Q,take_of_length_le→E3Y
open Nat renaming add_zero→E4U,le_refl→E3T,le_trans→E4t,zero_add→E4b
open Option renaming bind_some→E3X,map_some→E4T
namespace Go.Proofs.YtbnkgnfhgbhblaaGreat
open Go Go.Esc
def C8K (t:List Int) (no:Int) (f b i:Nat):Bool:=decide (toX t i=no)==(i%2 ^ b==f%2 ^ b)
def B8Y (n:Nat) (t:List Int) (no:Int) (f b:Nat):Bool:=(E4s 0 n).all (C8K t no f b)
def yN (n:Nat) (t:List Int) (no:Int) (f b:Nat):Nat->Bool
 | 0=>false
 | e+1=>B8Y n t no f b||yN n t no f (b+1) e
theorem C0v {d no:Int} {t:List Int} {g:A6} {f b q m:Nat} (ht:t.length=32) (hb:b<=5):∀ (e i m2:Nat) (a:Bool),i+e=B9 d->e<m2 ->
  B2a q m m2 (iV no) (pV g.length 0) (iV (f:Int)) (iV (b:Int)) (bV a) (iV (i:Int)) (g++[rT (encI (d::t))]) =
   bif a&&(E4s i e).all (C8K t no f b) then some (.t [.c (.i .i64 (b:Int)),.c (.b true)],g++[rT (encI (d::t))])
   else A3k q m (iV no) (pV g.length 0) (iV (f:Int)) (iV ((b+1:Nat):Int)) (g++[rT (encI (d::t))])
 | e,i,0,a,_,hm=>by omega
 | 0,i,m2+1,a,hi,hm=>by
  have c0:¬ (i:Int)<(B9 d:Nat):=by omega
  have w1:=C6 (show b+1<9223372036854775808 by omega);have hB:=D5 (d:=d) ht;have hD:=λh=>aI (d:=d) (t:=t) (h:=h)
  have hP:=λh=>aJ (d:=d) (h:=h)
  rw [A4i,List.range'_zero,List.all_nil,Bool.and_true];generalize encI (d::t)=y at *;cases a<;>simp only [esc,esh,Nat.reduceAdd,Nat.reduceMul,Nat.reduceLT,hB,hD,hP,c0,w1]
 | e+1,i,m2+1,a,hi,hm=>by
  have ih:=λa=>C0v (d:=d) (no:=no) (g:=g) (f:=f) (q:=q) (m:=m) ht hb e (i+1) m2 a (by omega) (by omega)
  have c0:(i:Int)<(B9 d:Nat):=by omega
  have C5t:=N4 d;have hB:=D5 (d:=d) ht;have hD:=λh=>aI (d:=d) (t:=t) (h:=h)
  have hP:=λh=>aJ (d:=d) (h:=h)
  have hI:=λh=>D2C (i:=i) (p:=f) (b:=b) (h:=h) (by omega)
  have a1:=adX (id:=g.length) (i:=i) (by omega);have x1:=C49 (d:=d) (i:=i) ht (by omega);have w1:=C6 (show i+1<9223372036854775808 by omega);rw [A4i,List.range'_succ,E4x];cases a with
  | false =>
   have ih:=ih false;rw [E3W,cond_false] at ih ⊢;generalize encI (d::t)=y at *;simp only [esc,esh,Nat.reduceAdd,Nat.reduceMul,Nat.reduceLT,hB,hD,hP,c0,w1];exact ih
  | true =>
   rw [E31];have ih:=ih (C8K t no f b i);rw [<-ih];unfold C8K;by_cases ce:toX t i=no
   ·rw [decide_eq_true ce];generalize (i%2 ^ b==f%2 ^ b)=C at *;generalize encI (d::t)=y at *;cases C<;>simp only [esc,esh,Nat.reduceAdd,Nat.reduceMul,Nat.reduceLT,hB,hD,hP,c0,hI,a1,x1,ce,w1]<;>rfl
   ·rw [decide_eq_false ce];generalize (i%2 ^ b==f%2 ^ b)=C at *;generalize encI (d::t)=y at *;cases C<;>simp only [esc,esh,Nat.reduceAdd,Nat.reduceMul,Nat.reduceLT,hB,hD,hP,c0,hI,a1,x1,ce,w1]<;>rfl
theorem C0w {d no:Int} {t:List Int} {g:A6} {f q:Nat} (ht:t.length=32) (hq:32<q):∀ (e b m:Nat),b+e=U8 d+1->e<m ->
  ∃ w:Int,A3k q m (iV no) (pV g.length 0) (iV (f:Int)) (iV (b:Int)) (g++[rT (encI (d::t))])=some (.t [.c (.i .i64 w),.c (.b (yN (B9 d) t no f b e))],g++[rT (encI (d::t))])
 | e,b,0,_,hm=>by omega
 | 0,b,m+1,hb,hm=>by
  have c0:¬ (b:Int)<=(U8 d:Nat):=by omega
  have hB:=D5 (d:=d) ht;have hD:=λh=>aI (d:=d) (t:=t) (h:=h)
  have e0:yN (B9 d) t no f b 0=false:=rfl;rw [A4h,e0];generalize encI (d::t)=y at *;exact ⟨0,by simp only [esc,esh,Nat.reduceAdd,Nat.reduceMul,Nat.reduceLT,hB,hD,c0]⟩
 | e+1,b,m+1,hb,hm=>by
  have hdl:=qD d;have C5t:=N4 d;have c0:(b:Int)<=(U8 d:Nat):=by omega
  have c1:(f:Int)>=0:=by omega
  have hB:=D5 (d:=d) ht;have hD:=λh=>aI (d:=d) (t:=t) (h:=h)
  obtain ⟨w,ih⟩:=C0w (d:=d) (no:=no) (t:=t) (g:=g) (f:=f) (q:=q) ht hq e (b+1) m (by omega) (by omega);have hI:=C0v (d:=d) (no:=no) (g:=g) (f:=f) (b:=b) (q:=q) (m:=m) ht (by omega) (B9 d) 0 q true (by omega) (by omega);rw [E31,show (((0:Nat):Int))=0 from rfl,show (E4s 0 (B9 d)).all (C8K t no f b)=B8Y (B9 d) t no f b from rfl] at hI;rw [yN,A4h];cases ca:B8Y (B9 d) t no f b with
  | true =>
   rw [ca,cond_true] at hI;rw [Bool.true_or];refine ⟨b,?_⟩;generalize encI (d::t)=y at *;simp only [esc,esh,Nat.reduceAdd,Nat.reduceMul,Nat.reduceLT,hB,hD,c0,c1];exact hI
  | false =>
   rw [ca,cond_false] at hI;rw [Bool.false_or];refine ⟨w,?_⟩;rw [<-ih];generalize encI (d::t)=y at *;simp only [esc,esh,Nat.reduceAdd,Nat.reduceMul,Nat.reduceLT,hB,hD,c0,c1];exact hI
theorem A1Y {d no:Int} {t:List Int} {g:A6} {f q:Nat} (ht:t.length=32) (hq:32<q) (hf:f<B9 d) (he:toX t f=no) (hn:∀ k,k<f->toX t k≠no):∀ (e i m:Nat) (x:Int),i+e=B9 d->e<m->x=(if i<=f then -1 else (f:Int)) ->
  ∃ w:Int,B19 q m (iV no) (pV g.length 0) (iV x) (iV (i:Int)) (g++[rT (encI (d::t))])=some (.t [.c (.i .i64 w),.c (.b (yN (B9 d) t no f 0 (U8 d+1)))],g++[rT (encI (d::t))])
 | e,i,0,x,_,hm,_=>by omega
 | 0,i,m+1,x,hi,hm,hx=>by
  have c0:¬ (i:Int)<(B9 d:Nat):=by omega
  rw [if_neg (by omega)] at hx;subst hx;have hB:=D5 (d:=d) ht;have hD:=λh=>aI (d:=d) (t:=t) (h:=h)
  have hP:=λh=>aJ (d:=d) (h:=h)
  have hdl:=qD d;obtain ⟨w,e⟩:=C0w (d:=d) (no:=no) (t:=t) (g:=g) (f:=f) (q:=q) ht hq (U8 d+1) 0 q (by omega) (by omega);rw [A4g];refine ⟨w,?_⟩;generalize encI (d::t)=y at *;simp only [esc,esh,Nat.reduceAdd,Nat.reduceMul,Nat.reduceLT,hB,hD,hP,c0];exact e
 | e+1,i,m+1,x,hi,hm,hx=>by
  have c0:(i:Int)<(B9 d:Nat):=by omega
  have C5t:=N4 d;have hB:=D5 (d:=d) ht;have hD:=λh=>aI (d:=d) (t:=t) (h:=h)
  have hP:=λh=>aJ (d:=d) (h:=h)
  have a1:=adX (id:=g.length) (i:=i) (by omega);have x1:=C49 (d:=d) (i:=i) ht (by omega);have w1:=C6 (show i+1<9223372036854775808 by omega);rw [A4g];by_cases ce:toX t i=no
  ·by_cases cx:i<=f
   ·rw [if_pos cx] at hx;subst hx;have:i=f:=by
     by_cases c:i<f
     ·exact absurd ce (hn i c)
     ·omega
    subst this;have c1:(-1:Int)<0:=by omega
    obtain ⟨w,ih⟩:=A1Y (d:=d) (no:=no) (t:=t) (f:=i) (q:=q) (g:=g) ht hq hf he hn e (i+1) m (i:Int) (by omega) (by omega) (by rw [if_neg (by omega)]);refine ⟨w,?_⟩;generalize encI (d::t)=y at *;simp only [esc,esh,Nat.reduceAdd,Nat.reduceMul,Nat.reduceLT,hB,hD,hP,c0,a1,x1,ce,c1,sZ,w1];exact ih
   ·rw [if_neg cx] at hx;subst hx;have c1:¬ (f:Int)<0:=by omega
    obtain ⟨w,ih⟩:=A1Y (d:=d) (no:=no) (t:=t) (f:=f) (q:=q) (g:=g) ht hq hf he hn e (i+1) m (f:Int) (by omega) (by omega) (by rw [if_neg (by omega)]);refine ⟨w,?_⟩;generalize encI (d::t)=y at *;simp only [esc,esh,Nat.reduceAdd,Nat.reduceMul,Nat.reduceLT,hB,hD,hP,c0,a1,x1,ce,c1,sZ,w1];exact ih
  ·have:(i+1<=f)↔i<=f:=by
    constructor
    ·omega
    ·intro h;by_cases c:i=f
     ·rw [c] at ce;exact absurd he ce
     ·omega
   obtain ⟨w,ih⟩:=A1Y (d:=d) (no:=no) (t:=t) (f:=f) (q:=q) (g:=g) ht hq hf he hn e (i+1) m x (by omega) (by omega) (by rw [hx];by_cases c:i<=f;rw [if_pos c,if_pos (this.2 c)];rw [if_neg c,if_neg (λh=>c (this.1 h))]);refine ⟨w,?_⟩;generalize encI (d::t)=y at *;simp only [esc,esh,Nat.reduceAdd,Nat.reduceMul,Nat.reduceLT,hB,hD,hP,c0,a1,x1,ce,sZ,w1];exact ih
theorem D7j {t:List Int}:∀ i,∃ f,f<=i/\toX t f=toX t i/\∀ k,k<f->toX t k≠toX t i:=by
 intro i
 induction i using Nat.strongRecOn with
 | ind i ih =>
  by_cases c:∃ k,k<i/\toX t k=toX t i
  ·obtain ⟨k,hk,he⟩:=c;obtain ⟨f,h1,h2,h3⟩:=ih k hk;exact ⟨f,by omega,h2.trans he,λj hj=>by rw [<-he];exact h3 j hj⟩
  ·exact ⟨i,E3T _,rfl,λk hk he=>c ⟨k,hk,he⟩⟩
theorem C40 {n:Nat} {t:List Int} {no:Int} {f b:Nat}:B8Y n t no f b=true↔∀ k,k<n->(toX t k=no↔k%2 ^ b=f%2 ^ b):=by
 unfold B8Y C8K;rw [<-List.range_eq_range',E4H];constructor
 ·intro h k hk;have:=h k (List.mem_range.2 hk);rw [beq_iff_eq,Bool.eq_iff_iff,decide_eq_true_eq,beq_iff_eq] at this;exact this
 ·intro h k hk;rw [beq_iff_eq,Bool.eq_iff_iff,decide_eq_true_eq,beq_iff_eq];exact h k (List.mem_range.1 hk)
theorem C0y {n:Nat} {t:List Int} {no:Int} {f:Nat}:∀ e b,yN n t no f b e=true↔∃ c,b<=c/\c<b+e/\B8Y n t no f c=true
 | 0,b=>by
  unfold yN;constructor
  ·intro h;cases h
  ·rintro ⟨c,h1,h2,_⟩;omega
 | e+1,b=>by
  unfold yN;rw [E4K,C0y e (b+1)];constructor
  ·rintro (h | ⟨c,h1,h2,h3⟩)
   ·exact ⟨b,E3T _,by omega,h⟩
   ·exact ⟨c,by omega,by omega,h3⟩
  ·rintro ⟨c,h1,h2,h3⟩;by_cases e:c=b
   ·rw [e] at h3;exact .inl h3
   ·exact .inr ⟨c,by omega,by omega,h3⟩
theorem D1K {d:Int} {t:List Int} {i f:Nat} (hi:i<B9 d) (hz:toX t i≠0) (he:toX t f=toX t i) (hf:f<B9 d):yN (B9 d) t (toX t i) f 0 (U8 d+1)=A2k d t i:=by
 rw [Bool.eq_iff_iff,C0y];constructor
 ·rintro ⟨c,_,hc,h⟩;have h:=C40.1 h;have hif:=(h i hi).1 rfl;refine D8z (c:=c) hi (.inl (D1k.2 ⟨hz,λk hk hm=>(h k hk).2 (hm.trans hif)⟩)) λk hk hs=>((h k hk).1 hs).trans hif.symm
 ·intro h;have h:=(C9x hi).1 h;refine ⟨bE d t i,Nat.zero_le _,by have:=C4F (d:=d) (t:=t) (p:=i);omega,C40.2 λk hk=>?_⟩;have hfi:=h f hf he;constructor
  ·intro hs;exact (h k hk hs).trans hfi.symm
  ·intro hm;exact C41 hi hk (hm.trans hfi)
theorem C6k {d:Int} {t:List Int} {i:Nat} {h:A6} (ht:t.length=32) (hi:i<B9 d) (hz:toX t i≠0):∃ w:Int,A5v [.a (encI (d::t)),iV (toX t i)] h=some (.t [.c (.i .i64 w),.c (.b (A2k d t i))],h):=by
 obtain ⟨f,h1,h2,h3⟩:=D7j (t:=t) i;have hm:=N4 d;obtain ⟨w,e⟩:=A1Y (d:=d) (no:=toX t i) (t:=t) (g:=ro h) (f:=f) (q:=33) ht (by omega) (by omega) h2 h3 (B9 d) 0 33 (-1) (by omega) (by omega) (by rw [if_pos (by omega)]);rw [D1K hi hz h2 (by omega)] at e;refine ⟨w,B5u (n:=33) (h2:=ro h++[rT (encI (d::t))]) ?_ rfl⟩;rw [C1l];exact e
theorem B0r {d:Int} {t:List Int} {g h:A6} {i q m:Nat} {x3:Val} {x6:Bool} (ht:t.length=32) (hi:i<32) (hrd:rd h g.length=rT (encI (d::t))):∀ (e k m2:Nat) (a:Bool),k+e=i->e<m2 ->
  ∃ a2:Bool,a2=(a&&(E4s k e).all λk=>!decide (toX t k=toX t i)) /\
  A13 q m m2 (pV g.length 0) (pV (g.length+1) 0) x3 (iV (i:Int)) (bV x6) (bV a) (iV (k:Int)) h =
   A13 q m 1 (pV g.length 0) (pV (g.length+1) 0) x3 (iV (i:Int)) (bV x6) (bV a2) (iV (i:Int)) h
 | e,k,0,a,_,hm=>by omega
 | 0,k,m2+1,a,hk,hm=>by
  have e0:k=i:=by omega
  subst e0;have c0:¬ (k:Int)<k:=by omega
  refine ⟨a,by rw [List.range'_zero,List.all_nil,Bool.and_true],?_⟩;rw [jX,jX];cases a<;>cases x6<;>simp only [esc,c0]
 | e+1,k,m2+1,a,hk,hm=>by
  have c0:(k:Int)<i:=by omega
  have a1:=adX (id:=g.length) (i:=k) (by omega);have l1:=ldX (h:=h) (id:=g.length) hrd ht (i:=k) (by omega);have a2:=adX (id:=g.length) (i:=i) (by omega);have l2:=ldX (h:=h) (id:=g.length) hrd ht (i:=i) (by omega);have w1:=C6 (show k+1<9223372036854775808 by omega);cases a with
  | false =>
   obtain ⟨b,hb,ih⟩:=B0r (q:=q) (m:=m) (x3:=x3) (x6:=x6) ht hi hrd e (k+1) m2 false (by omega) (by omega);refine ⟨b,by rw [hb,E3W,E3W],?_⟩;rw [<-ih]
   conv=>lhs;rw [jX]
   simp only [esc,c0,w1]
  | true =>
   obtain ⟨b,hb,ih⟩:=B0r (q:=q) (m:=m) (x3:=x3) (x6:=x6) ht hi hrd e (k+1) m2 (!decide (toX t k=toX t i)) (by omega) (by omega);refine ⟨b,by rw [hb,List.range'_succ,E4x,E31],?_⟩;rw [<-ih]
   conv=>lhs;rw [jX]
   by_cases c:toX t k=toX t i
   ·rw [decide_eq_true c];rw [c] at l1;simp only [esc,c0,a1,l1,a2,l2,w1]
   ·rw [decide_eq_false c];simp only [esc,c0,a1,l1,a2,l2,c,w1]
theorem B9e {d:Int} {t:List Int} {g:A6} {q:Nat} (ht:t.length=32) (h0:0<=d) (h5:d<=5) (hq:32<q):∀ (e i m:Nat) (h:A6),i+e=B9 d->e<m->Low (g++[rT (encI (d::t)),rT (encI (0::zI 32))]).length (g++[rT (encI (d::t)),rT (encI (0::zI 32))]) h->rd h (g.length+2)=rT (encI (d::oT d t i)) ->
  ∃ h',A12 q m (pV g.length 0) (pV (g.length+1) 0) (pV (g.length+2) 0) (iV (i:Int)) h=some (.a (encI (d::oT d t (B9 d))),h')
 | e,i,0,h,_,hm,_,_=>by omega
 | 0,i,m+1,h,hi,hm,hlow,hr=>by
  have e0:i=B9 d:=by omega
  subst e0;have c0:¬ ((B9 d:Nat):Int)<(B9 d:Nat):=by omega
  have hF:=D5 (d:=d) (vN (d:=d) (t:=t) (N4 d));have hz:(encI (0::zI 32)).length=33:=D5 (d:=0) G9;have hrd:rd h g.length=rT (encI (d::t)):=hlow.rd (by simp);have hr1:rd h (g.length+1)=rT (encI (0::zI 32)):=hlow.rd (by simp);have ld:B4 h (pV g.length 0)=some (iV d):=B5 (off:=0) (c:=.i .i64 d) hrd rfl (by simp [Cell.isX]);have hP:=λh=>aJ (d:=d) (h:=h)
  rw [B0L h0 h5] at hP;have s1:=B8 (h:=h) (id:=g.length+2) hr hF;have s2:=storeAll (h:=h) (id:=g.length+1) (xs:=encI (d::oT d t (B9 d))) hr1 hz hF;have s3:=B8 (h:=h.set (g.length+1) (rT (encI (d::oT d t (B9 d))))) (id:=g.length+1) (B6 (C4 hr1)) hF;rw [A9I];generalize encI (d::oT d t (B9 d))=z at *;exact ⟨_,by simp only [esc,ld,hP,c0,s1,s2,s3]<;>rfl⟩
 | e+1,i,m+1,h,hi,hm,hlow,hr=>by
  have C5t:=N4 d;have c0:(i:Int)<(B9 d:Nat):=by omega
  have hB:=D5 (d:=d) ht;have hrd:rd h g.length=rT (encI (d::t)):=hlow.rd (by simp);have ld:B4 h (pV g.length 0)=some (iV d):=B5 (off:=0) (c:=.i .i64 d) hrd rfl (by simp [Cell.isX]);have hP:=λh=>aJ (d:=d) (h:=h)
  rw [B0L h0 h5] at hP;have s1:=B8 (h:=h) (id:=g.length) (cs:=encI (d::t)) hrd hB;have a1:=adX (id:=g.length) (i:=i) (by omega);have l1:=ldX (h:=h) (id:=g.length) hrd ht (i:=i) (by omega);have hFi:=λh=>B2A (n:=toX t i) (h:=h)
  have w1:=C6 (show i+1<9223372036854775808 by omega);have hk:i<32:=by omega
  have skip:qU d t i=0 ->
    ∃ h',A12 q m (pV g.length 0) (pV (g.length+1) 0) (pV (g.length+2) 0) (iV ((i+1:Nat):Int)) h=some (.a (encI (d::oT d t (B9 d))),h'):=by
   intro hf;exact B9e (q:=q) ht h0 h5 hq e (i+1) m h (by omega) (by omega) hlow (by rw [C8S hk hf];exact hr)
  have a3:=adX (id:=g.length+2) (i:=i) hk;have put:qU d t i=toX t i ->
    ∃ h3,F9 h (pV (g.length+2) (1+i)) (iV (toX t i))=some h3/\∃ h',A12 q m (pV g.length 0) (pV (g.length+1) 0) (pV (g.length+2) 0) (iV ((i+1:Nat):Int)) h3=some (.a (encI (d::oT d t (B9 d))),h'):=by
   intro hf;have hF:=D5 (d:=d) (vN (d:=d) (t:=t) (k:=i) (by omega));have t1:=E9 (x:=.i .i64 (toX t i)) (off:=1+i) hr (by rw [hF];omega);rw [B6a,<-hf,<-C8T hk,hf] at t1;refine ⟨_,t1,B9e (q:=q) ht h0 h5 hq e (i+1) m _ (by omega) (by omega) (hlow.set (by simp) _) (B6 (C4 hr))⟩
  rw [A9I];by_cases cz:toX t i=0
  ·have hf:qU d t i=0:=by unfold qU A2c;rw [decide_eq_true cz];rfl
   obtain ⟨h',ih⟩:=skip hf;rw [cz] at l1;refine ⟨h',?_⟩;generalize encI (d::t)=z at *;simp only [esc,ld,hP,c0,a1,l1,jW,w1];exact ih
  ·cases cf:tE (toX t i) with
   | false =>
    rw [cf] at hFi;have hf:qU d t i=0:=by unfold qU A2c;rw [cf,E3W,E4O,cond_false]
    obtain ⟨h',ih⟩:=skip hf;refine ⟨h',?_⟩;generalize encI (d::t)=z at *;simp only [esc,ld,hP,c0,a1,l1,cz,hFi,jW,w1];exact ih
   | true =>
    rw [cf] at hFi;obtain ⟨wb,hC⟩:=C6k (d:=d) (t:=t) (i:=i) (h:=h) ht (by omega) cz;have hq2:=U6 (Grows.rfl' (h:=h)) (v:=.t [.c (.i .i64 wb),.c (.b (A2k d t i))]);obtain ⟨a2,ha2,hL⟩:=B0r (d:=d) (t:=t) (g:=g) (h:=h) (i:=i) (q:=q) (m:=m) (x3:=pV (g.length+2) 0) (x6:=A2k d t i) ht hk hrd i 0 q true (by omega) (by omega);rw [E31,<-List.range_eq_range',show (E4m i).all (λk=>!decide (toX t k=toX t i))=mI t i from rfl] at ha2;subst ha2;rw [jX q m 0] at hL;have ci:¬ (i:Int)<i:=by omega
    rw [show (((0:Nat):Int))=0 from rfl] at hL;have fin:∃ h',A13 q m q (pV g.length 0) (pV (g.length+1) 0) (pV (g.length+2) 0) (iV (i:Int)) (bV (A2k d t i)) (bV true) (iV 0) h=some (.a (encI (d::oT d t (B9 d))),h'):=by
     rw [hL];cases cw:A2k d t i with
     | true =>
      have hf:qU d t i=toX t i:=by unfold qU A2c;rw [cf,cw,decide_eq_false cz,Bool.or_true];rfl
      obtain ⟨h3,st,h',ih⟩:=put hf;refine ⟨h',?_⟩;simp only [esc,ci,a1,l1,a3,st,jW,w1];exact ih
     | false =>
      cases cs:mI t i with
      | true =>
       have hf:qU d t i=toX t i:=by unfold qU A2c;rw [cf,cs,decide_eq_false cz];rfl
       obtain ⟨h3,st,h',ih⟩:=put hf;refine ⟨h',?_⟩;simp only [esc,ci,a1,l1,a3,st,jW,w1];exact ih
      | false =>
       have hf:qU d t i=0:=by unfold qU A2c;rw [cf,cs,cw,decide_eq_false cz];rfl
       obtain ⟨h',ih⟩:=skip hf;refine ⟨h',?_⟩;simp only [esc,ci,jW,w1];exact ih
    obtain ⟨h',e⟩:=fin;refine ⟨h',?_⟩;generalize encI (d::t)=z at *;simp only [esc,ld,hP,c0,a1,l1,cz,hFi,s1,hC,hq2];exact e
theorem D0U {d:Int} {t:List Int} {h:A6} (ht:t.length=32):B3q [.a (encI (d::t))] h=some (.a (encI (C7H d t)),h):=by
 have key:∀ N,32<N->∀ g,∃ g',B2T N [.a (encI (d::t))] g=some (.a (encI (C7H d t)),g'):=by
  intro N hN g;have hB:=D5 (d:=d) ht;have hz:(encI (0::zI 32)).length=33:=D5 (d:=0) G9;have l0:(encI (d::t))[0]?=some (.i .i64 d):=rfl;have haf:D9 (encI (0::zI 32)) []=some (encI (0::zI 32)):=rfl;rw [C6W,B0w];unfold C7H;by_cases c1:d<0
  ·rw [if_neg (by omega)];generalize encI (0::zI 32)=z at *;generalize encI (d::t)=y at *;exact ⟨_,by simp only [esc,esh,Nat.reduceAdd,Nat.reduceMul,Nat.reduceLT,hB,hz,l0,c1,haf]<;>rfl⟩
  ·by_cases c2:5<d
   ·rw [if_neg (by omega)];generalize encI (0::zI 32)=z at *;generalize encI (d::t)=y at *;exact ⟨_,by simp only [esc,esh,Nat.reduceAdd,Nat.reduceMul,Nat.reduceLT,hB,hz,l0,c1,c2,haf]<;>rfl⟩
   ·rw [if_pos (by omega)];have es:(encI (0::zI 32)).set 0 (.i .i64 d)=encI (d::zI 32):=rfl;have hz2:(encI (d::zI 32)).length=33:=D5 (d:=d) G9;have V7:0<(encI (0::zI 32)).length:=by rw [hz];omega
    obtain ⟨h',e⟩:=B9e (g:=g) (d:=d) (t:=t) (q:=N) ht (by omega) (by omega) hN (B9 d) 0 N (g++[rT (encI (d::t)),rT (encI (0::zI 32)),rT (encI (d::zI 32))]) (by omega) (by have:=N4 d;omega)
     (by have:=(Low.refl (h:=g++[rT (encI (d::t)),rT (encI (0::zI 32))]) (E3T _)).new [rT (encI (d::zI 32))];simpa using this) (by rw [C8U];simp)
    refine ⟨h',?_⟩;generalize encI (d::zI 32)=z2 at *;generalize encI (0::zI 32)=z at *;generalize encI (d::t)=y at *;simp only [esc,esh,Nat.reduceAdd,Nat.reduceMul,Nat.reduceLT,hB,hz,l0,c1,c2,haf,V7,es,hz2];exact e
 obtain ⟨g',e⟩:=key (h.length+33) (by omega) (ro h);exact C1U e (by simp)
section
section
variable {D:Dev} {n m:Int} {P:Nat->Prop} {h:A6} {c:Cl} {cs:List Cell} {v:Val}
theorem D9r {x4 x6 x8 x9 x11 ino:Nat} {no p0 d:Int} {t:List Int} {Q:Nat->Prop} {H:A6} {Rr B S Lo:Nat} (hv:Has h v 256 D.length (D4 D)) (hD:okD D) (e4:x4=h.length) (e6:x6=h.length+1) (e8:x8=h.length+2) (e9:x9=h.length+3) (e11:h.length+4<x11)
  (hQ0:Q=λid=>(P id/\id<h.length)\/x11+1<=id) (hHl:x11+1<=H.length) (G:Grows h H) (K:IsRC n Q H cs c) (ht:c.taken.length=D.length) (hl:D.length<=1000) (h32:t.length=32) (hn:n<=128)
  (r4:rd H x4=rT cs) (r6:rd H x6=rT (D3 D.length n m)) (r8:rd H x8=rT Z8) (r9:rd H x9=rT (encI (2::1::0::p0::no::zI 6))) (r11:rd H x11=rT (encI (d::t))) (hin:ino<c.ino.length) (R6:∀ x∈c.ino,x.length=11) (hc:c.ino.length<=1000)
  (hR:RowW n c) (sm:Small c Rr B S Lo) (hRr:Rr<=700) (hB:B<=500000) (hSs:S<=50000) (hLo:Lo<=500000) :
  ∃ cs' H',A9N 200 v (iV (ino:Int)) (pV x4 0) (pV x6 0) (pV x8 0) (pV x9 0) (pV x11 0) H=some (.a cs',H')/\Grows h H'/\IsRC n (λid=>P id\/h.length<=id) H' cs'
   (if no=0 then { c with ino:=c.ino.set ino (2::1::0::p0::no::zI 6) } else vF D n { c with ino:=c.ino.set ino (2::1::0::p0::no::zI 6) } ino no d t):=by
 obtain ⟨ii,hii⟩:∃ ii,ii=2::1::0::p0::no::zI 6:=⟨_,rfl⟩;rw [<-hii] at r9 ⊢;have iil:ii.length=11:=by rw [hii];rfl
 have i4:ii.getD 4 0=no:=by rw [hii];rfl
 have hQ:∀ id,H.length<=id->Q id:=λid hid=>by rw [hQ0];exact .inr (by omega)
 have nQ4:¬ Q x4:=by rw [hQ0];intro hh;rcases hh with hh | hh<;>omega
 have nQ8:¬ Q x8:=by rw [hQ0];intro hh;rcases hh with hh | hh<;>omega
 have E2c:¬ Q x11:=by rw [hQ0];intro hh;rcases hh with hh | hh<;>omega
 obtain ⟨v49,p50,H1,cs1,H2,b1,b2,b3,b4,b5,b6,b7,b8,b9,b10,b11⟩:=C9m (g:=h) G (by omega) K r4 hQ nQ4 r9 iil hin R6 hc (by omega);have ef:D9 [] []=some []:=rfl;have q9:rd H2 x9=rT (encI ii):=by rw [b11 _ (C4 r9) (by omega)];exact r9
 have q8:rd H2 x8=rT Z8:=by rw [b11 _ (C4 r8) (by omega)];exact r8
 have q6:rd H2 x6=rT (D3 D.length n m):=by rw [b11 _ (C4 r6) (by omega)];exact r6
 have q11:rd H2 x11=rT (encI (d::t)):=by rw [b11 _ (C4 r11) (by omega)];exact r11
 have l9:B4 H2 (pV x9 4)=some (iV no):=by rw [dY q9 (by omega),i4]
 have l8c:C8 H2 8 (pV x4 0)=some (.a cs1):=B8 b9 b8.length;have ad0:∀ x,J2 6 1 (pV x 4) (iV 0)=some (pV x 4):=λx=>J3 (j:=0) (by omega)
 have toP:∀ id,Q id->P id\/h.length<=id:=λid hid=>by
  rw [hQ0] at hid;rcases hid with hid | hid
  ·exact .inl hid.1
  ·exact .inr (by omega)
 by_cases hz:no=0
 ·rw [if_pos hz];obtain ⟨H3,wX⟩:∃ H3,H3=H2.set x8 (rT cs1):=⟨_,rfl⟩;have s8:E1 H2 8 (pV x8 0) (.a cs1)=some H3:=by rw [storeAll (n:=8) q8 rfl b8.length,wX]
  have l8:C8 H3 8 (pV x8 0)=some (.a cs1):=B8 (by rw [wX];exact B6 (C4 q8)) b8.length;refine ⟨cs1,H3,?_,by rw [wX];exact b7.set (by omega) _,by rw [wX];exact (b8.set (.inr nQ8)).mono toP⟩;rw [hz] at l9;rw [A9O];simp only [esc,Nat.reduceAdd,ef,b1,b2,b3,b4,b5,b6,ad0,l9,l8c,s8,l8]
 ·rw [if_neg hz];have h33:(encI (d::t)).length=33:=by simp [A8,h32]
  have l11:C8 H2 33 (pV x11 0)=some (.a (encI (d::t))):=B8 q11 h33;have hF:=D0U (d:=d) (t:=t) (h:=H2) h32;rw [B4c] at hF;have f32:=vO (d:=d) (t:=t);obtain ⟨d',hd'⟩:∃ d',d'=V3 d t:=⟨_,rfl⟩;obtain ⟨t0,ht0⟩:∃ t0,t0=eG d t:=⟨_,rfl⟩;rw [<-hd',<-ht0] at hF;rw [<-ht0] at f32;have C5s:(encI (d'::t0)).length=33:=by simp [A8,f32]
  obtain ⟨H3,wX⟩:∃ H3,H3=H2.set x11 (rT (encI (d'::t0))):=⟨_,rfl⟩;have s11:E1 H2 33 (pV x11 0) (.a (encI (d'::t0)))=some H3:=by rw [storeAll q11 h33 C5s,wX]
  have q311:rd H3 x11=rT (encI (d'::t0)):=by rw [wX];exact B6 (C4 q11)
  have l311:C8 H3 33 (pV x11 0)=some (.a (encI (d'::t0))):=B8 q311 C5s;have o3:∀ j,j≠x11->rd H3 j=rd H2 j:=λj hj=>by rw [wX,A7 (Ne.symm hj)]
  have lH3:H3.length=H2.length:=by rw [wX];simp
  have hBu:=A4G (d:=d') (t:=t0) (h:=H3) f32;obtain ⟨L,hL⟩:∃ L,L=J4 t0 (B9 d'):=⟨_,rfl⟩;have hLl:L.length<=32:=by rw [hL];exact E4t (eW ..) (N4 d')
  rw [<-hL] at hBu;obtain ⟨H4,hH4⟩:∃ H4,H4=H3++[rT (encI L)]:=⟨_,rfl⟩;rw [<-hH4] at hBu;have lH4:H4.length=H3.length+1:=by rw [hH4];simp
  have G3:Grows h H3:=by rw [wX];exact b7.set (by omega) _
  have G34:Grows H3 H4:=by rw [hH4];exact (Grows.rfl').new _
  obtain ⟨Q2,hQ2⟩:∃ Q2:Nat->Prop,Q2=λid=>(Q id/\id<H2.length)\/H2.length+1<=id:=⟨_,rfl⟩
  have K4:IsRC n Q2 H4 cs1 { c with ino:=c.ino.set ino ii }:=by
   have k2:=b8.low;have k3:IsRC n (λid=>Q id/\id<H2.length) H3 cs1 { c with ino:=c.ino.set ino ii }:=by
    rw [wX];exact k2.set (.inr λhh=>E2c hh.1)
   exact (k3.grows G34).mono λid hid=>by rw [hQ2];exact .inl hid
  have E08:¬ Q2 x4:=by rw [hQ2];intro hh;rcases hh with hh | hh;exact nQ4 hh.1;have:=C4 b9;omega
  have E09:¬ Q2 x8:=by rw [hQ2];intro hh;rcases hh with hh | hh;exact nQ8 hh.1;have:=C4 q8;omega
  have E2d:¬ Q2 x11:=by rw [hQ2];intro hh;rcases hh with hh | hh;exact E2c hh.1;have:=C4 q11;omega
  have to4:∀ {id r},rd H2 id=some r->id≠x11->rd H4 id=some r:=λhr U1=>G34.rd (by rw [o3 _ U1];exact hr)
  have lt8:=C4 q8;have lt9:=C4 q9;have lt11:=C4 q11;have lt4:=C4 b9;have lt6:=C4 q6;obtain ⟨cs2,H5,M5,f1,f2,f3,f4,f5,f6,f7,f8⟩:=D9s (D:=D) (m:=m) (g:=h) (Q:=Q2) (n:=n) (L:=L) (d:=d') (x1:=v) (x3:=iV (ino:Int)) (x4:=x4) (x6:=x6) (x8:=x8) (x9:=x9) (x11:=x11) (bid:=H2.length) (q:=200) hLl (by omega) ⟨by omega,by omega⟩ E08 E2d hl (by omega) (by omega) (by omega) (by omega) (by omega) L.length 0 200 ({ c with ino:=c.ino.set ino ii },t0) cs1 H4 (by omega) (by omega) f32 (G3.trans' G34) (λid hid=>by rw [hQ2];exact .inr (by omega)) K4 ht (to4 b9 (by omega)) (to4 q6 (by omega)) (G34.rd q311) (by rw [hH4,<-lH3,F8];rfl);rw [E39] at f4 f6;obtain ⟨c1,hc1⟩:∃ c1:Cl,c1={ c with ino:=c.ino.set ino ii }:=⟨_,rfl⟩;have eb:lZ D n (c1,t0) L=T5 D n c1 d t:=by unfold T5;rw [hL,ht0,hd']
  rw [<-hc1] at f4 f6 ⊢;rw [eb] at f4 f6;have hbs:SameC c1 (T5 D n c1 d t).1:=fG (D:=D) (n:=n) (L:=J4 (eG d t) (B9 (V3 d t))) (s:=(c1,eG d t));have hbT:(T5 D n c1 d t).2.length=32:=(B0K (D:=D) (n:=n) (L:=J4 (eG d t) (B9 (V3 d t))) (s:=(c1,eG d t))).trans vO;have hok:=D8T (D:=D) (n:=n) (c:=c1) (d:=d) (t:=t);have hdr:=C5g (d:=d) (t:=t);have eC:vF D n c1 ino no d t=L9 D (d'::(T5 D n c1 d t).2) (Z4 D n ino ((T5 D n c1 d t).1,λ_=>none) (mC D (d'::(T5 D n c1 d t).2) (J4 (T5 D n c1 d t).2 (B9 d')))).2 (R3 (Z4 D n ino ((T5 D n c1 d t).1,λ_=>none) (mC D (d'::(T5 D n c1 d t).2) (J4 (T5 D n c1 d t).2 (B9 d')))).1 no (bif okX d' (T5 D n c1 d t).2 then eH d' (T5 D n c1 d t).2 else zeros 256)) (J4 (T5 D n c1 d t).2 (B9 d')):=by
   rw [hd'];rfl
  rw [<-hd'] at hok hdr;have r1:c1.row=c.row:=by rw [hc1]
  have r2:c1.lnk=c.lnk:=by rw [hc1]
  have r3:c1.blocks=c.blocks:=by rw [hc1]
  have r4':c1.made=c.made:=by rw [hc1]
  have r5:c1.lost=c.lost:=by rw [hc1]
  have r6':c1.par=c.par:=by rw [hc1]
  have sm2:Small (T5 D n c1 d t).1 Rr B S Lo:=⟨by rw [hbs.row,r1];exact sm.row,λi=>by rw [hbs.lnk,r2];exact sm.lnk i,by rw [hbs.blocks,r3];exact sm.blocks,by rw [hbs.made,r4'];exact sm.made,by rw [hbs.lost,r5];exact sm.lost0,by rw [hbs.lost,r5];exact sm.lost⟩;have hR2:RowW n (T5 D n c1 d t).1:=hR.same (by rw [hbs.row,r1]) (by rw [hbs.par,r6']);rw [eC];obtain ⟨s2,hs2⟩:∃ s2,s2=T5 D n c1 d t:=⟨_,rfl⟩;rw [<-hs2] at f4 f6 hbT hok sm2 hR2 ⊢;obtain ⟨cs3,H6,g1,g2,g3⟩:=D58 (m:=m) (ino:=ino) (at_:=no) (hv.grows f2) hD f4 hbT hdr.2 hok hn hR2 sm2 hRr hB hSs hLo;have lt5:=f2.len;have k8:rd H5 x8=rT Z8:=by rw [f8 _ (by omega) (by omega) (by omega)];exact to4 q8 (by omega)
  have k9:rd H5 x9=rT (encI ii):=by rw [f8 _ (by omega) (by omega) (by omega)];exact to4 q9 (by omega)
  have k6:rd H5 x6=rT (D3 D.length n m):=by rw [f8 _ (by omega) (by omega) (by omega)];exact to4 q6 (by omega)
  have q86:rd H6 x8=rT Z8:=g2.rd k8;obtain ⟨H7,hH7⟩:∃ H7,H7=H6.set x8 (rT cs3):=⟨_,rfl⟩;have s8:E1 H6 8 (pV x8 0) (.a cs3)=some H7:=by rw [storeAll (n:=8) q86 rfl g3.length,hH7]
  have l8:C8 H7 8 (pV x8 0)=some (.a cs3):=B8 (by rw [hH7];exact B6 (C4 q86)) g3.length;have G6:Grows h H6:=f2.trans' g2;refine ⟨cs3,H7,?_,by rw [hH7];exact G6.set (by omega) _,?_⟩
  ·have l45:C8 H5 8 (pV x4 0)=some (.a cs2):=B8 f5 f4.length;have l65:C8 H5 3 (pV x6 0)=some (.a (D3 D.length n m)):=B8 k6 rfl;have l95:B4 H5 (pV x9 4)=some (iV no):=by rw [dY k9 (by omega),i4]
   have l115:C8 H5 33 (pV x11 0)=some (.a (encI (d'::s2.2))):=B8 f6 (by simp [A8,hbT]);have cL:¬ ((L.length:Nat):Int)<(L.length:Nat):=by omega
   have c00:((0:Nat):Int)=0:=rfl;rw [c00] at f1;rw [lH3] at hBu;rw [A9O];generalize encI (d::t)=X at *;generalize encI (d'::t0)=X0 at *;generalize encI (d'::s2.2)=X2 at *;generalize hLL:D3 D.length n m=LC at *;simp only [esc,Nat.reduceAdd,ef,b1,b2,b3,b4,b5,b6,ad0,l9,hz,l11,hF,s11,l311,hBu];refine f1.trans ?_;rw [A9Q];simp only [esc,Nat.reduceAdd,cL,l45,l65,ad0,l95,l115,g1,s8,l8]
  ·rw [hH7];refine (g3.set (.inr ?_)).mono ?_
   ·intro hh;rcases hh with hh | hh
    ·exact E09 hh
    ·have:=C4 k8;omega
   ·intro id hid;rcases hid with hid | hid
    ·rw [hQ2] at hid;rcases hid with hid | hid
     ·exact toP _ hid.1
     ·exact .inr (by omega)
    ·exact .inr (by omega)
theorem D4V {ino:Int} {Rr B S Lo:Nat} (hv:Has h v 256 D.length (D4 D)) (hD:okD D) (K:IsRC n P h cs c) (ht:c.taken.length=D.length) (hl:D.length<=1000) (hn:n<=128) (i0:0<=ino) (i1:ino.toNat<c.ino.length) (i2:ino<=n) (R6:∀ x∈c.ino,x.length=11) (hc:c.ino.length<=1000)
  (hR:RowW n c) (sm:Small c Rr B S Lo) (hRr:Rr<=700) (hB:B<=500000) (hSs:S<=50000) (hLo:Lo<=500000) :
  ∃ cs' H',B3v [.a cs,v,.a (D3 D.length n m),iV ino] h=some (.a cs',H')/\Grows h H'/\IsRC n (λid=>P id\/h.length<=id) H' cs' (oS D n c ino):=by
 obtain ⟨k,rfl⟩:=E4v i0;rw [E38] at i1;have c8:=K.length;obtain ⟨p0,hp0⟩:∃ p0,p0=(c.par k).getD 0:=⟨_,rfl⟩;obtain ⟨d0,hd0⟩:∃ d0,d0=(drV D n k).getD 0 0:=⟨_,rfl⟩;obtain ⟨b,hb⟩:∃ b,b=blk D d0:=⟨_,rfl⟩;have hbl:b.length=256:=by rw [hb];exact O0 hD
 obtain ⟨was,ew⟩:∃ was,was=D8a D n (k:Int):=⟨_,rfl⟩;have hwl:was.length=11:=by rw [ew];exact C04
 have was0:was.getD 0 0=kdV D n k:=by rw [ew];rfl
 have was4:was.getD 4 0=d0:=by rw [ew,hd0];rfl
 obtain ⟨X0,hX0⟩:∃ X0:List Int,X0=(bif T6 b then getD b::M6 b 32 else 0::zI 32):=⟨_,rfl⟩;have X0l:X0.length=33:=by rw [hX0];cases T6 b<;>simp [jZ,G9]
 obtain ⟨G3,hG3⟩:∃ G3,G3=h++[rT cs,rT (D3 D.length n m),rT Z8]:=⟨_,rfl⟩;obtain ⟨G4,hG4⟩:∃ G4,G4=h++[rT cs,rT (D3 D.length n m),rT Z8,rT (encI (2::1::0::p0::0::zI 6))]:=⟨_,rfl⟩;obtain ⟨G5,hG5⟩:∃ G5,G5=h++[rT cs,rT (D3 D.length n m),rT Z8,rT (encI (2::1::0::p0::0::zI 6)),rT (encI was)]:=⟨_,rfl⟩;have lG3:G3.length=h.length+3:=by rw [hG3];simp
 have lG4:G4.length=h.length+4:=by rw [hG4];simp
 have lG5:G5.length=h.length+5:=by rw [hG5];simp
 have G05:Grows h G5:=by rw [hG5];exact R0 Grows.rfl' rfl
 have hI:=qP (v:=v) (n:=n) (m:=m) (i:=(k:Int)) (h:=G4) (by rw [hG4];exact hv.more _) hD;rw [<-D2J,<-ew] at hI;obtain ⟨u,tb,d1,d2,d3,_⟩:=zQ (no:=d0) (hv.grows G05) hD;rw [<-hb] at d3;have B6n:=D0V hbl d3;rw [<-hX0] at B6n;obtain ⟨H6,hH6⟩:∃ H6,H6=(G5++tb)++[rT (encI X0)]:=⟨_,rfl⟩;obtain ⟨x11,C5w⟩:∃ x11,x11=(G5++tb).length:=⟨_,rfl⟩;have lx11:h.length+5<=x11:=by rw [C5w];simp [lG5]
 have lH6:H6.length=x11+1:=by rw [hH6,C5w,E3S];rfl
 have G06:Grows h H6:=by rw [hH6];exact (G05.trans' (R0 Grows.rfl' d2)).new _
 obtain ⟨Q,hQ0⟩:∃ Q:Nat->Prop,Q=λid=>(P id/\id<h.length)\/x11+1<=id:=⟨_,rfl⟩
 have K6:IsRC n Q H6 cs c:=(K.low.grows G06).mono λid hid=>by rw [hQ0];exact .inl hid
 have lift:∀ {id r},rd G5 id=some r->rd H6 id=some r:=λhr=>by rw [hH6];exact B7 (B7 hr)
 have s4:rd H6 h.length=rT cs:=lift (by rw [hG5,F8];rfl);have s6:rd H6 (h.length+1)=rT (D3 D.length n m):=lift (by rw [hG5,M9];rfl);have s8:rd H6 (h.length+2)=rT Z8:=lift (by rw [hG5,M9];rfl);have s9:rd H6 (h.length+3)=rT (encI (2::1::0::p0::0::zI 6)):=lift (by rw [hG5,M9];rfl);have s10:rd H6 (h.length+4)=rT (encI was):=lift (by rw [hG5,M9];rfl);have s11:rd H6 x11=rT (encI X0):=by rw [hH6,C5w,F8];rfl
 have nQ4:¬ Q h.length:=by rw [hQ0];intro hh;rcases hh with hh | hh<;>omega
 have nQ9:¬ Q (h.length+3):=by rw [hQ0];intro hh;rcases hh with hh | hh<;>omega
 have eO:fM D n c k=(bif decide (kdV D n k=2)&&T6 b then (dA D n c d0,T1 D n c d0) else (c,0)):=by unfold fM;rw [<-hd0,<-hb]
 have eC:∀ s:Cl × Int,fM D n c k=s->(s.2≠0->T6 b=true)->oS D n c k=(if s.2=0 then { s.1 with ino:=s.1.ino.set k (2::1::0::p0::s.2::zI 6) } else vF D n { s.1 with ino:=s.1.ino.set k (2::1::0::p0::s.2::zI 6) } k s.2 (X0.getD 0 0) (X0.drop 1)):=by
  intro s es hg;have eI:W6 D n c k={ s.1 with ino:=s.1.ino.set k (2::1::0::p0::s.2::zI 6) }:=by unfold W6;rw [es,<-hp0];rfl
  unfold oS;rw [es,eI,<-hd0,<-hb];by_cases hz:s.2=0
  ·rw [if_pos hz,if_pos hz]
  ·rw [if_neg hz,if_neg hz,hX0,hg hz];rfl
 have X0c:X0=X0.getD 0 0::X0.drop 1:=by
  cases hx:X0 with
  | nil=>rw [hx] at X0l;cases X0l
  | cons a l=>rfl
 have X0d:(X0.drop 1).length=32:=by rw [List.length_drop,X0l]
 have fin:∀ (s:Cl × Int) (cs2:List Cell) (H7:A6),fM D n c k=s->(s.2≠0->T6 b=true)->SameC c s.1->s.1.taken.length=D.length->Grows h H7->x11+1<=H7.length->IsRC n Q H7 cs2 s.1->rd H7 h.length=rT cs2->rd H7 (h.length+3)=rT (encI (2::1::0::p0::s.2::zI 6))->(∀ j,j<x11+1->j≠h.length->j≠h.length+3->rd H7 j=rd H6 j) ->
   ∃ cs' H',A9N 200 v (iV (k:Int)) (pV h.length 0) (pV (h.length+1) 0) (pV (h.length+2) 0) (pV (h.length+3) 0) (pV x11 0) H7=some (.a cs',H')/\Grows h H'/\IsRC n (λid=>P id\/h.length<=id) H' cs' (oS D n c k):=by
  intro s cs2 H7 es hg ss tl G7 hl7 K7 q4 q9 same;rw [eC s es hg];exact D9r (m:=m) hv hD rfl rfl rfl rfl (by omega) hQ0 hl7 G7 K7 tl hl X0d hn q4 (by rw [same _ (by omega) (by omega) (by omega)];exact s6) (by rw [same _ (by omega) (by omega) (by omega)];exact s8) q9 (by rw [same _ (by omega) (by omega) (by omega),<-X0c];exact s11) (by rw [ss.ino];exact i1) (by rw [ss.ino];exact R6) (by rw [ss.ino];exact hc) (hR.same ss.row ss.par) ⟨by rw [ss.row];exact sm.row,λi=>by rw [ss.lnk];exact sm.lnk i,by rw [ss.blocks];exact sm.blocks,by rw [ss.made];exact sm.made,by rw [ss.lost];exact sm.lost0,by rw [ss.lost];exact sm.lost⟩ hRr hB hSs hLo
 have key:∃ cs' H',B2W 200 [.a cs,v,.a (D3 D.length n m),iV (k:Int)] h=some (.a cs',H')/\Grows h H'/\IsRC n (λid=>P id\/h.length<=id) H' cs' (oS D n c k):=by
  have z11:[o0,o0,o0,o0,o0,o0,o0,o0,o0,o0,o0]=encI (zI 11):=rfl;have cl1:cells? (.a cs)=some cs:=rfl;have cl2:cells? (.a (D3 D.length n m))=some (D3 D.length n m):=rfl;have l3:C8 G4 3 (pV (h.length+1) 0)=some (.a (D3 D.length n m)):=B8 (by rw [hG4,M9];rfl) rfl;have wl:(encI was).length=11:=by rw [A8,hwl]
  have ef:D9 (encI (zI 11)) [(0,1,iV 2),(1,1,iV 1),(3,1,iV p0)]=some (encI (2::1::0::p0::0::zI 6)):=rfl;have st4:E1 (G3++[rT (encI (zI 11))]) 11 (pV (h.length+3) 0) (.a (encI (2::1::0::p0::0::zI 6)))=some G4:=by
   rw [<-lG3,storeAll (by rw [F8];rfl) (by rfl) (by rfl),cH,hG3,hG4];simp
  have st5:E1 (G4++[rT (encI (zI 11))]) 11 (pV (h.length+4) 0) (.a (encI was))=some G5:=by
   rw [<-lG4,storeAll (by rw [F8];rfl) (by rfl) wl,cH,hG4,hG5];simp
  have ad0:∀ x,J2 6 1 (pV x 4) (iV 0)=some (pV x 4):=λx=>J3 (j:=0) (by omega)
  have w5:B4 G5 (pV (h.length+4) 4)=some (iV d0):=by
   have:=dY (h:=G5) (id:=h.length+4) (x:=was) (by rw [hG5,M9];rfl) (k:=4) (by omega);rw [was4] at this;exact this
  have e0:D27 (.t [.a (encI X0),.c (.b (T6 b))]) 0=some (.a (encI X0)):=rfl;have e1:D27 (.t [.a (encI X0),.c (.b (T6 b))]) 1=some (bV (T6 b)):=rfl;have z33:([o0]++E3Q 32 o0).length=33:=rfl;have xl:(encI X0).length=33:=by rw [A8,X0l]
  have st6:E1 ((G5++tb)++[rT ([o0]++E3Q 32 o0)]) 33 (pV (G5++tb).length 0) (.a (encI X0))=some H6:=by
   rw [storeAll (by rw [F8];rfl) z33 xl,cH,hH6];rfl
  have w60:B4 H6 (pV (h.length+4) 0)=some (iV (kdV D n k)):=by rw [dY s10 (by omega),was0]
  have w64:B4 H6 (pV (h.length+4) 4)=some (iV d0):=by rw [dY s10 (by omega),was4]
  obtain ⟨v4,v5,y1,y2,y3⟩:∃ v4 v5,B4 G3 (pV h.length 7)=some v4/\D6 1 v4 (iV (k:Int))=some v5/\B4 G3 v5=some (iV p0):=by
   obtain ⟨xr,xi,xt,xb,xm,xl,xy,ys,rfl,kk⟩:=K;have hk1:k<(dW n c.par).length:=by rw [Q8];omega
   have lky:B4 G3 (pV h.length 7)=some (.c xy):=B5 (cs:=rcC xr xi xt xb xm c.lost xl xy) (by rw [hG3,F8];rfl) rfl rfl;obtain ⟨it,ot,et,_,hA,_⟩:=(kk.par.more [rT (rcC xr xi xt xb xm c.lost xl xy),rT (D3 D.length n m),rT Z8]).sl (by omega);cases et;rw [<-hG3] at hA;exact ⟨_,_,lky,by rw [C5 (by omega),Nat.mul_one],hA k _ (by rw [F0,A4t (by rw [Q8] at hk1;exact hk1),hp0];rfl)⟩
  by_cases ck:kdV D n k=2
  ·cases cg:T6 b with
   | true =>
    rw [ck,cg] at eO;have eO:fM D n c k=(dA D n c d0,T1 D n c d0):=eO;obtain ⟨cs',K1,H7,H8,a1,a2,a3,a4,a5,a6,a7,a8,a9⟩:=D7w (m:=m) (no:=d0) (g:=h) G06 (E3T _) K6 s4 c8 (λid hid=>by rw [hQ0];exact .inr (by omega)) nQ4 ht hl;have q9:rd H8 (h.length+3)=rT (encI (2::1::0::p0::0::zI 6)):=by rw [a9 _ (by omega) (by omega)];exact s9
    have es:(encI (2::1::0::p0::0::zI 6)).set 4 (.i .i64 (T1 D n c d0))=encI (2::1::0::p0::T1 D n c d0::zI 6):=rfl;obtain ⟨H9,hH9⟩:∃ H9,H9=H8.set (h.length+3) (rT (encI (2::1::0::p0::T1 D n c d0::zI 6))):=⟨_,rfl⟩;have st9:F9 H8 (pV (h.length+3) 4) (iV (T1 D n c d0))=some H9:=by rw [E9 q9 (by rw [A8];simp [G9]),es,hH9]
    obtain ⟨cs2,H',j1,j2,j3⟩:=fin (dA D n c d0,T1 D n c d0) cs' H9 eO (λ_=>cg) (oI ..) (by rw [fL];exact ht) (by rw [hH9];exact a5.set (by omega) _) (by rw [hH9];simp;omega) (by rw [hH9];exact a6.set (.inr nQ9)) (by rw [hH9,A7 (by omega)];exact a7) (by rw [hH9];exact B6 (C4 q9)) (λj hj h1 h2=>by rw [hH9,A7 (Ne.symm h2),a9 j (by omega) h1]);refine ⟨cs2,H',?_,j2,j3⟩;have l46:C8 H6 8 (pV h.length 0)=some (.a cs):=B8 s4 c8;have l66:C8 H6 3 (pV (h.length+1) 0)=some (.a (D3 D.length n m)):=B8 s6 rfl;rw [cg] at e0 e1 B6n;rw [ck] at w60;rw [<-C5w,E3U] at st6;rw [A2v,z11,A1Q];generalize encI (zI 11)=Z at *;generalize encI (2::1::0::p0::0::zI 6)=I0 at *;generalize encI was=W at *;generalize encI X0=XX at *;generalize [o0]++E3Q 32 o0=Z33 at *;generalize hLL:D3 D.length n m=LC at *;generalize Z8=E8 at *;simp only [cl1,cl2,Q4,E3U,E4l,E37,E3S,E3Z,E4h,E4b,Nat.reduceAdd,<-hG3];simp only [esc,Nat.reduceAdd,y1,y2,y3,ef,lG3,st4,l3,hI,lG4,st5,ad0,w5,d1,B6n,e0,e1,<-C5w,st6,w60,l46,l66,w64,a1,a2,a3,a4,st9];exact j1
   | false =>
    rw [ck,cg] at eO;have eO:fM D n c k=(c,0):=eO;obtain ⟨cs2,H',j1,j2,j3⟩:=fin (c,0) cs H6 eO (λhh=>absurd rfl hh) (.rfl' _) ht G06 (by omega) K6 s4 s9 (λ_ _ _ _=>rfl);refine ⟨cs2,H',?_,j2,j3⟩;rw [cg] at e0 e1 B6n;rw [ck] at w60;rw [<-C5w,E3U] at st6;rw [A2v,z11,A1Q];generalize encI (zI 11)=Z at *;generalize encI (2::1::0::p0::0::zI 6)=I0 at *;generalize encI was=W at *;generalize encI X0=XX at *;generalize [o0]++E3Q 32 o0=Z33 at *;generalize hLL:D3 D.length n m=LC at *;generalize Z8=E8 at *;simp only [cl1,cl2,Q4,E3U,E4l,E37,E3S,E3Z,E4h,E4b,Nat.reduceAdd,<-hG3];simp only [esc,Nat.reduceAdd,y1,y2,y3,ef,lG3,st4,l3,hI,lG4,st5,ad0,w5,d1,B6n,e0,e1,<-C5w,st6,w60];exact j1
  ·have eO:fM D n c k=(c,0):=by rw [eO];simp [ck]
   obtain ⟨cs2,H',j1,j2,j3⟩:=fin (c,0) cs H6 eO (λhh=>absurd rfl hh) (.rfl' _) ht G06 (by omega) K6 s4 s9 (λ_ _ _ _=>rfl);refine ⟨cs2,H',?_,j2,j3⟩;rw [<-C5w,E3U] at st6;rw [A2v,z11,A1Q];generalize encI (zI 11)=Z at *;generalize encI (2::1::0::p0::0::zI 6)=I0 at *;generalize encI was=W at *;generalize encI X0=XX at *;generalize [o0]++E3Q 32 o0=Z33 at *;generalize hLL:D3 D.length n m=LC at *;generalize Z8=E8 at *;simp only [cl1,cl2,Q4,E3U,E4l,E37,E3S,E3Z,E4h,E4b,Nat.reduceAdd,<-hG3];simp only [esc,Nat.reduceAdd,y1,y2,y3,ef,lG3,st4,l3,hI,lG4,st5,ad0,w5,d1,B6n,e0,e1,<-C5w,st6,w60,ck];exact j1
 obtain ⟨cs',H',e1,e2,e3⟩:=key;exact ⟨cs',H',C7k e1,e2,e3⟩
end
end
section
section
variable {D:Dev} {n:Int}
theorem B38 {d:List Int}:∀ {e k:Nat} {s:Cl × List Int},(A5Y D n d e k s).1.taken.length=s.1.taken.length
 | 0,_,_=>rfl
 | e+1,k,s=>by rw [A5Y,B38];exact fL
theorem D10 {c:Cl} {ino:Int}:(dF D n c ino).1.taken.length=c.taken.length:=by
 unfold dF B6s;split
 ·rw [fL,B38]
 ·rw [B38]
theorem D1Y {c:Cl} {ino:Int}:(gA D n c ino).taken.length=c.taken.length:=by
 have h1:(Y2 D n c ino).taken.length=c.taken.length:=D10;unfold gA;split
 ·exact h1
 ·have hs:=A9S (D:=D) (n:=n) (many:=A3g (szV D n ino)) (e:=128) (k:=0) (s:=(Y2 D n c ino,blk D ((dF D n c ino).2.getD 6 0)));dsimp only at hs;generalize bF D n (A3g (szV D n ino)) 128 0 (Y2 D n c ino,blk D ((dF D n c ino).2.getD 6 0))=s at *;exact hs.trans h1
theorem D5z {c:Cl} {ino:Int}:(gA D n c ino).ino=c.ino.set ino.toNat (1::1::szV D n ino::0::(dF D n c ino).2):=by
 have h1:(Y2 D n c ino).ino=c.ino.set ino.toNat (1::1::szV D n ino::0::(dF D n c ino).2):=by unfold Y2;rw [A0P.1.ino]
 unfold gA;split
 ·exact h1
 ·have hs:=tD (D:=D) (n:=n) (many:=A3g (szV D n ino)) (e:=128) (k:=0) (s:=(Y2 D n c ino,blk D ((dF D n c ino).2.getD 6 0)));dsimp only at hs;generalize bF D n (A3g (szV D n ino)) 128 0 (Y2 D n c ino,blk D ((dF D n c ino).2.getD 6 0))=s at *;exact hs.ino.trans h1
theorem C07 {ino:Int}:∀ {L:List Ent} {s:Cl × (List UInt8->Option Int)} {B:Int},BndL s.1 B->SameT s.1 (Z4 D n ino s L).1/\BndL (Z4 D n ino s L).1 (B+L.length)/\(Z4 D n ino s L).1.row.length<=s.1.row.length+L.length
 | [],s,B,hb=>⟨⟨rfl,rfl,rfl,rfl,rfl⟩,by have h2:BndL s.1 (B+(([]:List Ent).length:Int)):=hb.mono (by simp);exact h2,E3T _⟩
 | x::L,s,B,hb=>by
  obtain ⟨a1,a2,a3⟩:=A2j (D:=D) (n:=n) (ino:=ino) (e:=x) hb;obtain ⟨b1,b2,b3⟩:=C07 (L:=L) (s:=Y3 D n ino s x) a2;refine ⟨⟨b1.ino.trans a1.ino,b1.blocks.trans a1.blocks,b1.made.trans a1.made,b1.taken.trans a1.taken,b1.lost.trans a1.lost⟩,?_,?_⟩
  ·rw [E3Z];exact b2.mono (by omega)
  ·rw [E3Z];show (Z4 D n ino (Y3 D n ino s x) L).1.row.length<=_;omega
theorem uM {X:List Int} {K:List UInt8->Option Int}:∀ {L:List Int} {c:Cl},(L9 D X K c L).row=c.row/\(L9 D X K c L).lnk=c.lnk/\(L9 D X K c L).taken=c.taken/\(L9 D X K c L).ino=c.ino/\(L9 D X K c L).blocks.length=c.blocks.length+L.length/\(L9 D X K c L).made.length=c.made.length+L.length/\c.lost<=(L9 D X K c L).lost/\(L9 D X K c L).lost<=c.lost+7*L.length
 | [],c=>⟨rfl,rfl,rfl,rfl,rfl,rfl,Int.le_refl _,by show c.lost<=_;simp⟩
 | no::L,c=>by
  have hs:=oH (D:=D) (X:=X) (no:=no) (K:=K) (l:=M7 (blk D no)) (s:=(c,aQ []));have hl:=A1Z (D:=D) (X:=X) (no:=no) (K:=K) (l:=M7 (blk D no)) (s:=(c,aQ []));have h7:=dC (blk D no);obtain ⟨a1,a2,a3,a4,a5,a6,a7,a8⟩:=uM (X:=X) (K:=K) (L:=L) (c:=tL D X K c no);have e1:(tL D X K c no).blocks.length=c.blocks.length+1:=by show (_++[no]).length=_;rw [E3S,hs.blocks];rfl
  have e2:(tL D X K c no).made.length=c.made.length+1:=by show (_++[_]).length=_;rw [E3S,hs.made];rfl
  have e3:(tL D X K c no).lost=(T4 D X no K (c,aQ []) (M7 (blk D no))).1.lost:=rfl;dsimp only at hl;refine ⟨a1.trans hs.row,a2.trans hs.lnk,a3.trans hs.taken,a4.trans hs.ino,?_,?_,?_,?_⟩
  ·rw [E3Z];show (L9 D X K (tL D X K c no) L).blocks.length=_;omega
  ·rw [E3Z];show (L9 D X K (tL D X K c no) L).made.length=_;omega
  ·show _<=(L9 D X K (tL D X K c no) L).lost;omega
  ·rw [E3Z];show (L9 D X K (tL D X K c no) L).lost<=_;omega
theorem C46 {c:Cl} {ino:Int}:(fM D n c ino).1.taken.length=c.taken.length:=by
 unfold fM;cases (decide (kdV D n ino=2)&&T6 (blk D ((drV D n ino).getD 0 0))) with
 | true=>exact fL
 | false=>rfl
theorem D2W {ino:Int}:∀ {L:List Ent} {s:Cl × (List UInt8->Option Int)},(Z4 D n ino s L).1.ino=s.1.ino/\(Z4 D n ino s L).1.taken=s.1.taken
 | [],_=>⟨rfl,rfl⟩
 | x::L,s=>by
  have ih:=D2W (ino:=ino) (L:=L) (s:=Y3 D n ino s x);have h1:(Y3 D n ino s x).1.ino=s.1.ino/\(Y3 D n ino s x).1.taken=s.1.taken:=by
   unfold Y3 cK;cases gG D n s.1 x.2 with
   | false=>exact ⟨rfl,rfl⟩
   | true =>
    simp only [cond_true];cases (s.1.par x.2).isSome with
    | true=>exact ⟨rfl,rfl⟩
    | false=>exact ⟨rfl,rfl⟩
  exact ⟨ih.1.trans h1.1,ih.2.trans h1.2⟩
theorem D66 {c:Cl} {ino:Int}:(oS D n c ino).ino=c.ino.set ino.toNat (2::1::0::(c.par ino).getD 0::(fM D n c ino).2::zI 6)/\(oS D n c ino).taken.length=c.taken.length:=by
 have hs:=zL (D:=D) (n:=n) (ino:=ino) (c:=c);have eI:(W6 D n c ino).ino=c.ino.set ino.toNat (2::1::0::(c.par ino).getD 0::(fM D n c ino).2::zI 6):=by unfold W6;rw [hs.ino]
 have tI:(W6 D n c ino).taken.length=c.taken.length:=C46;unfold oS;split
 ·exact ⟨eI,tI⟩
 ·obtain ⟨d,hd⟩:∃ d,d=getD (blk D ((drV D n ino).getD 0 0)):=⟨_,rfl⟩;obtain ⟨t,ht⟩:∃ t,t=M6 (blk D ((drV D n ino).getD 0 0)) 32:=⟨_,rfl⟩;rw [<-hd,<-ht];unfold vF;have hb:SameC (W6 D n c ino) (T5 D n (W6 D n c ino) d t).1:=fG (D:=D) (n:=n) (L:=J4 (eG d t) (B9 (V3 d t))) (s:=(W6 D n c ino,eG d t));have tb:(T5 D n (W6 D n c ino) d t).1.taken.length=(W6 D n c ino).taken.length:=A9i (D:=D) (n:=n) (L:=J4 (eG d t) (B9 (V3 d t))) (s:=(W6 D n c ino,eG d t));obtain ⟨s1,hs1⟩:∃ s1,s1=T5 D n (W6 D n c ino) d t:=⟨_,rfl⟩;have eT:bodyT D n (W6 D n c ino) ino d t=Z4 D n ino (s1.1,λ_=>none) (mC D (V3 d t::s1.2) (J4 s1.2 (B9 (V3 d t)))):=by rw [hs1];rfl
  rw [eT];rw [<-hs1] at hb tb ⊢;have q:=D2W (D:=D) (n:=n) (ino:=ino) (L:=mC D (V3 d t::s1.2) (J4 s1.2 (B9 (V3 d t)))) (s:=(s1.1,λ_=>none));dsimp only at q;generalize Z4 D n ino (s1.1,λ_=>none) (mC D (V3 d t::s1.2) (J4 s1.2 (B9 (V3 d t))))=s2 at *;generalize (bif okX (V3 d t) s1.2 then eH (V3 d t) s1.2 else zeros 256)=ib;obtain ⟨a1,a2,a3,a4,a5,a6,a7,a8⟩:=uM (D:=D) (X:=V3 d t::s1.2) (K:=s2.2) (L:=J4 s1.2 (B9 (V3 d t))) (c:=R3 s2.1 (fM D n c ino).2 ib);generalize L9 D (V3 d t::s1.2) s2.2 (R3 s2.1 (fM D n c ino).2 ib) (J4 s1.2 (B9 (V3 d t)))=z at *;have m3:(R3 s2.1 (fM D n c ino).2 ib).taken=s2.1.taken:=rfl;have m4:(R3 s2.1 (fM D n c ino).2 ib).ino=s2.1.ino:=rfl;exact ⟨by rw [a4,m4,q.1,hb.ino,eI],by rw [a3,m3,q.2,tb,tI]⟩
theorem D3l {c:Cl} {ino:Int} {R B S Lo:Nat} (sm:Small c R B S Lo):Small (oS D n c ino) (R+224) (B+224) (S+33) (Lo+224)/\(oS D n c ino).ino=c.ino.set ino.toNat (2::1::0::(c.par ino).getD 0::(fM D n c ino).2::zI 6)/\(oS D n c ino).taken.length=c.taken.length:=by
 have hs:=zL (D:=D) (n:=n) (ino:=ino) (c:=c);have eI:(W6 D n c ino).ino=c.ino.set ino.toNat (2::1::0::(c.par ino).getD 0::(fM D n c ino).2::zI 6):=by unfold W6;rw [hs.ino]
 have tI:(W6 D n c ino).taken.length=c.taken.length:=C46;have i1:(W6 D n c ino).row=c.row:=hs.row;have i2:(W6 D n c ino).lnk=c.lnk:=hs.lnk;have i3:(W6 D n c ino).blocks=c.blocks:=hs.blocks;have i4:(W6 D n c ino).made=c.made:=hs.made;have i5:(W6 D n c ino).lost=c.lost:=hs.lost;have b1:=sm.row;have b2:=sm.blocks;have b3:=sm.made;have b4:=sm.lost0;have b5:=sm.lost;unfold oS;split
 ·exact ⟨⟨by rw [i1];omega,by intro i;rw [i2];have:=sm.lnk i;omega,by rw [i3];omega,by rw [i4];omega,by rw [i5];omega,by rw [i5];omega⟩,eI,tI⟩
 ·obtain ⟨d,hd⟩:∃ d,d=getD (blk D ((drV D n ino).getD 0 0)):=⟨_,rfl⟩;obtain ⟨t,ht⟩:∃ t,t=M6 (blk D ((drV D n ino).getD 0 0)) 32:=⟨_,rfl⟩;rw [<-hd,<-ht];unfold vF;have hb:SameC (W6 D n c ino) (T5 D n (W6 D n c ino) d t).1:=fG (D:=D) (n:=n) (L:=J4 (eG d t) (B9 (V3 d t))) (s:=(W6 D n c ino,eG d t));have tb:(T5 D n (W6 D n c ino) d t).1.taken.length=(W6 D n c ino).taken.length:=A9i (D:=D) (n:=n) (L:=J4 (eG d t) (B9 (V3 d t))) (s:=(W6 D n c ino,eG d t));obtain ⟨s1,hs1⟩:∃ s1,s1=T5 D n (W6 D n c ino) d t:=⟨_,rfl⟩;have eT:bodyT D n (W6 D n c ino) ino d t=Z4 D n ino (s1.1,λ_=>none) (mC D (V3 d t::s1.2) (J4 s1.2 (B9 (V3 d t)))):=by rw [hs1];rfl
  rw [eT];rw [<-hs1] at hb tb ⊢;obtain ⟨L,hL⟩:∃ L,L=J4 s1.2 (B9 (V3 d t)):=⟨_,rfl⟩;have hLl:L.length<=32:=by rw [hL];exact E4t (eW ..) (N4 _)
  rw [<-hL];have hNl:=B6G (D:=D) (X:=V3 d t::s1.2) (L:=L);generalize mC D (V3 d t::s1.2) L=N at *;obtain ⟨t1,t2,t3⟩:=C07 (D:=D) (n:=n) (ino:=ino) (L:=N) (s:=(s1.1,λ_=>none)) (B:=B) (by intro i;show 0<=(s1.1.lnk i).getD 0/\(s1.1.lnk i).getD 0<=_;rw [hb.lnk,i2];exact sm.lnk i);dsimp only at t1 t2 t3;generalize Z4 D n ino (s1.1,λ_=>none) N=s2 at *;generalize (bif okX (V3 d t) s1.2 then eH (V3 d t) s1.2 else zeros 256)=ib;obtain ⟨a1,a2,a3,a4,a5,a6,a7,a8⟩:=uM (D:=D) (X:=V3 d t::s1.2) (K:=s2.2) (L:=L) (c:=R3 s2.1 (fM D n c ino).2 ib);generalize L9 D (V3 d t::s1.2) s2.2 (R3 s2.1 (fM D n c ino).2 ib) L=z at *;have m1:(R3 s2.1 (fM D n c ino).2 ib).row=s2.1.row:=rfl;have m2:(R3 s2.1 (fM D n c ino).2 ib).lnk=s2.1.lnk:=rfl;have m3:(R3 s2.1 (fM D n c ino).2 ib).taken=s2.1.taken:=rfl;have m4:(R3 s2.1 (fM D n c ino).2 ib).ino=s2.1.ino:=rfl;have m5:(R3 s2.1 (fM D n c ino).2 ib).blocks.length=s2.1.blocks.length+1:=by show (_++[_]).length=_;simp
  have m6:(R3 s2.1 (fM D n c ino).2 ib).made.length=s2.1.made.length+1:=by show (_++[_]).length=_;simp
  have m7:(R3 s2.1 (fM D n c ino).2 ib).lost=s2.1.lost:=rfl;have u1:s2.1.blocks.length=c.blocks.length:=by rw [t1.blocks,hb.blocks,i3]
  have u2:s2.1.made.length=c.made.length:=by rw [t1.made,hb.made,i4]
  have u3:s2.1.lost=c.lost:=by rw [t1.lost,hb.lost,i5]
  have u4:s1.1.row.length=c.row.length:=by rw [hb.row,i1]
  refine ⟨⟨by rw [a1,m1];omega,λi=>?_,by omega,by omega,by omega,by omega⟩,by rw [a4,m4,t1.ino,hb.ino,eI],by rw [a3,m3,t1.taken,tb,tI]⟩;rw [a2,m2];have:=t2 i;omega
structure InoW (D:Dev) (n:Int) (c:Cl):Prop where
 il:∀ x∈c.ino,x.length=11
 ilen:c.ino.length=(n+1).toNat
 tlen:c.taken.length=D.length
 kd:∀ k:Nat,(k:Int) ∉ c.row\/k=1->(c.ino.getD k []).getD 0 0≠1
theorem C5n {α:Type} {l:List α} {i k:Nat} {x d:α}:(l.set i x).getD k d=if i=k/\i<l.length then x else l.getD k d:=by
 simp only [E30,List.getElem?_set];by_cases e:i=k
 ·subst e;by_cases hl:i<l.length
  ·simp [hl]
  ·simp [hl]
 ·simp [e]
theorem D0c {c:Cl} {ino:Int}:∀ {x:Int},x∈c.row->x∈(oS D n c ino).row:=by
 have tsub:∀ (L:List Ent) (s:Cl × (List UInt8->Option Int)) (x:Int),x∈s.1.row->x∈(Z4 D n ino s L).1.row:=by
  intro L
  induction L with
  | nil=>intro s x hx;exact hx
  | cons e L ih =>
   intro s x hx;refine ih (Y3 D n ino s e) x ?_;unfold Y3 cK;cases gG D n s.1 e.2 with
   | false=>exact hx
   | true =>
    simp only [cond_true];cases (s.1.par e.2).isSome with
    | true=>exact hx
    | false=>exact List.mem_append_left _ hx
 intro x hx;have i1:(W6 D n c ino).row=c.row:=(zL (D:=D) (n:=n) (ino:=ino) (c:=c)).row;unfold oS;split
 ·rw [i1];exact hx
 ·obtain ⟨d,hd⟩:∃ d,d=getD (blk D ((drV D n ino).getD 0 0)):=⟨_,rfl⟩;obtain ⟨t,ht⟩:∃ t,t=M6 (blk D ((drV D n ino).getD 0 0)) 32:=⟨_,rfl⟩;rw [<-hd,<-ht];have hb:SameC (W6 D n c ino) (T5 D n (W6 D n c ino) d t).1:=fG (D:=D) (n:=n) (L:=J4 (eG d t) (B9 (V3 d t))) (s:=(W6 D n c ino,eG d t));unfold vF;rw [uM.1,C86];unfold bodyT;refine tsub _ _ x ?_;show x∈(T5 D n (W6 D n c ino) d t).1.row;rw [hb.row,i1];exact hx
theorem D3J {c:Cl} {ino:Int} (i0:0<=ino) (hi:ino∈c.row) (w:InoW D n c):InoW D n (gE D n c ino):=by
 by_cases hf:ino≠1/\kdV D n ino=1
 ·have e:gE D n c ino=gA D n c ino:=by unfold gE;rw [if_pos hf]
  rw [e];have e1:=D5z (D:=D) (n:=n) (c:=c) (ino:=ino);have l7:=(A0P (D:=D) (n:=n) (ino:=ino) (c:=c)).2;refine ⟨λx hx=>?_,by rw [e1,E4o];exact w.ilen,by rw [D1Y];exact w.tlen,λk hk=>?_⟩
  ·rw [e1] at hx;rcases E4z hx with h1 | h1
   ·exact w.il x h1
   ·rw [h1];simp [l7]
  ·rw [tC.1] at hk;rw [e1,C5n];split
   ·rename_i h2;exfalso;have:(k:Int)=ino:=by omega
    rcases hk with hk | hk
    ·exact hk (by rw [this];exact hi)
    ·exact hf.1 (by omega)
   ·exact w.kd k hk
 ·have e:gE D n c ino=oS D n c ino:=by unfold gE;rw [if_neg hf]
  rw [e];have e1:=D66 (D:=D) (n:=n) (c:=c) (ino:=ino);refine ⟨λx hx=>?_,by rw [e1.1,E4o];exact w.ilen,by rw [e1.2];exact w.tlen,λk hk=>?_⟩
  ·rw [e1.1] at hx;rcases E4z hx with h1 | h1
   ·exact w.il x h1
   ·rw [h1];simp [G9]
  ·rw [e1.1,C5n];split
   ·show (2:Int)≠1;decide
   ·refine w.kd k (hk.imp (λhh hx=>hh (D0c hx)) id)
theorem D3K {c:Cl} {ino:Int} {R B S Lo:Nat} (sm:Small c R B S Lo):Small (gE D n c ino) (R+224) (B+224) (S+33) (Lo+224):=by
 unfold gE;split
 ·have hs:=tC (D:=D) (n:=n) (ino:=ino) (c:=c);have b1:=sm.row;have b2:=sm.blocks;have b3:=sm.made;have b4:=sm.lost0;have b5:=sm.lost;exact ⟨by rw [hs.1];omega,λj=>by rw [hs.2.2.1];have:=sm.lnk j;omega,by have:=hs.2.2.2.2.2.1;omega,by have:=hs.2.2.2.2.2.2;omega,by rw [hs.2.2.2.1];omega,by rw [hs.2.2.2.1];omega⟩
 ·exact (D3l sm).1
def lk1 (c:Cl) (k:Nat) (x:List Int):List Int:=if x.getD 0 0=1 then x.set 1 ((c.lnk (k:Int)).getD 0) else x
theorem D5R {c:Cl} {k:Nat} {x:List Int}:lk1 c k (lk1 c k x)=lk1 c k x:=by
 unfold lk1;by_cases h:x.getD 0 0=1
 ·rw [if_pos h];have:(x.set 1 ((c.lnk (k:Int)).getD 0)).getD 0 0=1:=by rw [C5n,if_neg (by omega)];exact h
  rw [if_pos this,List.set_set]
 ·rw [if_neg h,if_neg h]
theorem B4g:∀ {L:List Int} {c:Cl},(∀ a∈L,0<=a)->∀ k:Nat,(Q6 c L).ino[k]?=(c.ino[k]?).map λx=>if (k:Int)∈L then lk1 c k x else x
 | [],c,_,k=>by simp [Q6]
 | a::L,c,h0,k=>by
  have ih:=B4g (L:=L) (c:=Z3 c a) (λb hb=>h0 b (E4a _ hb)) k;have ha:=h0 a (E4c ..);have elk:(Z3 c a).lnk=c.lnk:=A6b.2.2.2.2.2.1;have lke:∀ x,lk1 (Z3 c a) k x=lk1 c k x:=λx=>by unfold lk1;rw [elk]
  show (Q6 (Z3 c a) L).ino[k]?=_;rw [ih];have eL:(Z3 c a).ino[k]?=(c.ino[k]?).map λx=>if (k:Int)=a then lk1 c k x else x:=by
   unfold Z3;by_cases hk:(k:Int)=a
   ·have hk2:a.toNat=k:=by omega
    rw [hk2];cases hx:c.ino[k]? with
    | none =>
     have hg:c.ino.getD k []=[]:=by rw [E30,hx];rfl
     have:(c.ino.getD k []).getD 0 0≠1:=by rw [hg];decide
     rw [if_neg this,hx];rfl
    | some x =>
     have hg:c.ino.getD k []=x:=by rw [E30,hx];rfl
     have hkl:=(List.getElem?_eq_some_iff.1 hx).1;rw [hg,E4T,if_pos hk];unfold lk1;by_cases h1:x.getD 0 0=1
     ·rw [if_pos h1,if_pos h1];show (c.ino.set k _)[k]?=_;rw [List.getElem?_set_self hkl,hk]
     ·rw [if_neg h1,if_neg h1,hx]
   ·have:∀ y,(c.ino.set a.toNat y)[k]?=c.ino[k]? := λy=>by rw [List.getElem?_set];rw [if_neg (by omega)]
    split
    ·rw [this];cases c.ino[k]?<;>simp [hk]
    ·cases c.ino[k]?<;>simp [hk]
  rw [eL,Option.map_map];cases c.ino[k]? with
  | none=>rfl
  | some x =>
   simp only [E4T,Function.comp]
   congr 1
   by_cases h1:(k:Int)=a
   ·rw [if_pos h1,lke,D5R];have:(k:Int)∈a::L:=by rw [h1];exact E4c ..
    rw [if_pos this];split<;>rfl
   ·rw [if_neg h1,lke];simp [h1]
theorem D3A {c:Cl} (w:InoW D n c) (hr:∀ i∈c.row,1<=i/\i<=n) {L:List Int} (hL:∀ a,a∈L↔2<=a/\a<=n):Q6 c L=Q6 c c.row:=by
 obtain ⟨a1,a2,a3,a4,a5,a6,a7⟩:=oL (L:=L) (c:=c);obtain ⟨b1,b2,b3,b4,b5,b6,b7⟩:=oL (L:=c.row) (c:=c);have e:(Q6 c L).ino=(Q6 c c.row).ino:=by
  refine E4I λk=>?_
  rw [B4g (λa ha=>by have:=(hL a).1 ha;omega),B4g (λa ha=>by have:=hr a ha;omega)];cases hx:c.ino[k]? with
  | none=>rfl
  | some x =>
   have hg:c.ino.getD k []=x:=by rw [E30,hx];rfl
   have hkl:=(List.getElem?_eq_some_iff.1 hx).1;simp only [E4T]
   congr 1
   by_cases h1:x.getD 0 0=1
   ·have hk:(k:Int)∈c.row/\k≠1:=by
     refine ⟨Classical.byContradiction λhh=>?_,λhh=>?_⟩
     ·exact w.kd k (.inl hh) (by rw [hg];exact h1)
     ·exact w.kd k (.inr hh) (by rw [hg];exact h1)
    have h2:=hr _ hk.1;rw [if_pos hk.1,if_pos ((hL _).2 (by omega))]
   ·have:lk1 c k x=x:=by unfold lk1;rw [if_neg h1]
    rw [this];simp
 cases h1:Q6 c L;cases h2:Q6 c c.row;rw [h1] at a1 a2 a3 a4 a5 a6 a7 e;rw [h2] at b1 b2 b3 b4 b5 b6 b7 e
 simp_all
theorem D2t {c:Cl}:∀ {k i:Nat},(oV c k).taken[i]?=if i<k then (c.taken[i]?).map λ_=>true else c.taken[i]?
 | 0,i=>by simp [oV]
 | k+1,i=>by
  have ih:=D2t (c:=c) (k:=k) (i:=i);show ((oV c k).taken.set k true)[i]?=_;rw [List.getElem?_set];have hl:(oV c k).taken.length=c.taken.length:=by
   have:∀ j:Nat,(oV c j).taken.length=c.taken.length:=by
    intro j;induction j with
    | zero=>rfl
    | succ j ih=>show ((oV c j).taken.set j true).length=_;rw [E4o];exact ih
   exact this k
  by_cases e:k=i
  ·subst e;rw [if_pos rfl,hl,if_pos (show k<k+1 by omega)];by_cases h:k<c.taken.length
   ·rw [if_pos h,E3P h];rfl
   ·rw [if_neg h,E4q (by omega)];rfl
  ·rw [if_neg e,ih];by_cases h:i<k
   ·rw [if_pos h,if_pos (by omega)]
   ·rw [if_neg h,if_neg (by omega)]
end
end
section
def B0f (D:Dev) (n:Int) (i:Nat):List Bool:=(E4m i).map λk:Nat=>!decide (A9g D.length n (k:Int)=4)
theorem vV {D:Dev} {n:Int} {i:Nat}:(B0f D n i).length=i:=by simp [B0f]
theorem D51 {D:Dev} {n:Int} {i:Nat}:B0f D n (i+1)=B0f D n i++[!decide (A9g D.length n (i:Int)=4)]:=by simp [B0f,List.range_succ]
theorem B53 {l:List Bool}:(N6 l).length=l.length:=by simp [N6]
theorem D7W {D:Dev} {n:Int} (hm:R9 D.length n=true):(oV (G8 D n) (jU D.length n).toNat).taken=B0f D n D.length:=by
 have hr:=A0I (b:=(D.length:Int)) (n:=n);refine E4I λi=>?_
 rw [D2t];have e0:(G8 D n).taken=E3Q D.length false:=rfl;rw [e0];by_cases hi:i<D.length
 ·have e1:(E3Q D.length false)[i]?=some false:=by simp [hi]
  have e2:(B0f D n D.length)[i]?=some (!decide (A9g D.length n (i:Int)=4)):=by simp [B0f,hi]
  rw [e1,e2,D1s];unfold hJ;rw [hm];by_cases hk:i<(jU D.length n).toNat
  ·rw [if_pos hk,decide_eq_false (show ¬ jU D.length n<=(i:Int) by omega)];rfl
  ·rw [if_neg hk,decide_eq_true (show jU D.length n<=(i:Int) by omega),decide_eq_true (show (i:Int)<(D.length:Int) by omega)];rfl
 ·rw [E4q (l:=E3Q D.length false) (by simp;omega),E4q (l:=B0f D n D.length) (by rw [vV];omega)];split<;>rfl
theorem E1c {K:A6} {id n sz:Nat} {ys:List Cell} (hy:ys.length=sz) (hsz:0<sz) :
  iY (K++[rT ys]) sz (.c .ns) (sV K.length 0 1 sz)=some (sV (K.length+1) 0 1 sz,K++[rT ys,rT ys]):=by
 have h2:O4 (K++[rT ys]) sz (sV K.length 0 1 sz)=some ys:=by
  simp [O4,fV,hy,E3Y (Nat.le_of_eq hy)]
 simp only [iY,h2,E3X,hy,Nat.div_self hsz];simp
section
variable {D:Dev} {n m:Int} {P Q:Nat->Prop} {g h:A6} {v:Val}
theorem D59 {x3 x5 q lo:Nat} {xr xi xb xm xl xy:Cell} {lost:Int} {x4:Val} (hg:g.length<=x5) (h3:x3<lo) (h5:x5<lo) (n35:x3≠x5) (E3J:g.length<=lo) (hl:D.length<=1000) :
  ∀ (e i M:Nat) (xt:Cell) (H:A6),i+e=D.length->e<M->Grows g H->lo<=H.length->rd H x5=rT (rcC xr xi xt xb xm lost xl xy)->rd H x3=rT (D3 D.length n m)->((i=0/\xt=.ns)\/∃ tid,xt=.sl tid 0 i 1/\lo<=tid/\rd H tid=rT (N6 (B0f D n i))) ->
  ∃ xt' H',C5e q M v (pV x3 0) x4 (pV x5 0) (iV (i:Int)) H=tB q q v (pV x3 0) x4 (pV x5 0) (iV 0) H'/\Grows g H'/\lo<=H'.length/\rd H' x5=rT (rcC xr xi xt' xb xm lost xl xy) /\
   ((D.length=0/\xt'=.ns)\/∃ tid,xt'=.sl tid 0 D.length 1/\lo<=tid/\rd H' tid=rT (N6 (B0f D n D.length)))/\(∀ j,j<lo->j≠x5->rd H' j=rd H j):=by
 intro e
 induction e with
 | zero =>
  intro i M xt H hi hM G hlo r5 r3 hx;obtain ⟨M,rfl⟩:∃ M',M=M'+1:=⟨M-1,by omega⟩;have ei:i=D.length:=by omega
  subst ei;have l3:B4 H (pV x3 0)=some (iV (D.length:Nat)):=B5 r3 rfl rfl;have cL:¬ ((D.length:Nat):Int)<(D.length:Nat):=by omega
  refine ⟨xt,H,?_,G,hlo,r5,hx,λ_ _ _=>rfl⟩;rw [B2f];simp only [esc,l3,cL]
 | succ e ih =>
  intro i M xt H hi hM G hlo r5 r3 hx;obtain ⟨M,rfl⟩:∃ M',M=M'+1:=⟨M-1,by omega⟩;have l3:B4 H (pV x3 0)=some (iV (D.length:Nat)):=B5 r3 rfl rfl;have l3N:C8 H 3 (pV x3 0)=some (.a (D3 D.length n m)):=B8 r3 rfl;have c0:(i:Int)<(D.length:Nat):=by omega
  have w1:=C6 (show i+1<9223372036854775808 by omega);have l5:B4 H (pV x5 2)=some (.c xt):=B5 r5 rfl rfl;have hA:=B2z (b:=(D.length:Int)) (n:=n) (m:=m) (no:=(i:Int)) (h:=H++[none]);have hq:=U6 (h:=H++[none]) (h':=H++[none]) (v:=iV (A9g D.length n (i:Int))) Grows.rfl';obtain ⟨w,hw⟩:∃ w,w = !decide (A9g D.length n (i:Int)=4):=⟨_,rfl⟩;have st0:(H++[none]).set H.length (rT [.b w])=H++[rT [.b w]]:=by rw [cH];rfl
  have ew:N9 .neq (iV (A9g D.length n (i:Int))) (iV 4)=some (bV w):=by rw [hw];rfl
  have ef:D9 [.b false] [(0,1,bV w)]=some [.b w]:=rfl;have hbo:N6 (B0f D n (i+1))=N6 (B0f D n i)++[.b w]:=by rw [D51,hw];simp [N6]
  have h5l:=C4 r5;obtain ⟨tid,K2,a1,a2,a3,a4,a5⟩:∃ tid K2,iY (H++[rT [.b w]]) 1 (.c xt) (sV H.length 0 1 1)=some (sV tid 0 (i+1) 1,K2)/\lo<=tid/\rd K2 tid=rT (N6 (B0f D n (i+1)))/\Grows g K2/\(lo<=K2.length/\∀ j,j<lo->rd K2 j=rd H j):=by
   rcases hx with ⟨hi0,rfl⟩ | ⟨tid,rfl,t1,t2⟩
   ·subst hi0;refine ⟨H.length+1,_,E1c (id:=0) (n:=0) rfl (by omega),by omega,?_,R0 G rfl,by simp;omega,λj hj=>D1 (by omega)⟩;rw [M9,hbo];rfl
   ·have o:=one_app (ys:=[Cell.b w]) t2 (n:=i) (sz:=1) (by rw [B53,vV];omega) rfl (by omega) (by omega);refine ⟨H.length+1,_,o,by omega,?_,(B6m (G.new _) (by omega)).new _,by simp;omega,λj hj=>?_⟩
    ·have:rd ((H++[rT [Cell.b w]]).set tid none++[rT (N6 (B0f D n i)++[Cell.b w])]) ((H++[rT [Cell.b w]]).set tid none).length=rT (N6 (B0f D n i)++[Cell.b w]):=S9;rw [E4o,E3S] at this;rw [hbo];exact this
    ·rw [D1 (by simp;omega),A7 (by omega),D1 (by omega)]
  have r52:rd K2 x5=rT (rcC xr xi xt xb xm lost xl xy):=by rw [a5.2 _ h5];exact r5
  obtain ⟨K3,hK3⟩:∃ K3,K3=K2.set x5 (rT (rcC xr xi (.sl tid 0 (i+1) 1) xb xm lost xl xy)):=⟨_,rfl⟩;have s3:F9 K2 (pV x5 2) (sV tid 0 (i+1) 1)=some K3:=by rw [E9 r52 (by simp [rcC]),hK3];rfl
  have o3:∀ j,j≠x5->rd K3 j=rd K2 j:=λj hj=>by rw [hK3,A7 (Ne.symm hj)]
  obtain ⟨xt',H',f1,f2,f3,f4,f5,f6⟩:=ih (i+1) M (.sl tid 0 (i+1) 1) K3 (by omega) (by omega) (by rw [hK3];exact a4.set hg _) (by rw [hK3];simp;exact a5.1) (by rw [hK3];exact B6 (C4 r52)) (by rw [o3 _ n35,a5.2 _ h3];exact r3) (.inr ⟨tid,rfl,a2,by rw [o3 _ (by omega)];exact a3⟩);refine ⟨xt',H',?_,f2,f3,f4,f5,λj hj U1=>by rw [f6 j hj U1,o3 j U1,a5.2 j hj]⟩;rw [B2f];simp only [esc,Nat.reduceAdd,l3,c0,l5,l3N,hA,hq,ew,ef,st0,a1,s3,w1];exact f1
theorem D79 {x3 x5 q:Nat} {x4:Val} (hv:Has g v 256 D.length (D4 D)) (hD:okD D) (hn:n<=128) (n8:1<=n) (hl:D.length<=1000) (hg:g.length<=x5) (n35:x3≠x5) (nQ:¬ Q x5) :
  ∀ (e i M:Nat) (c:Cl) (cs:List Cell) (H:A6),i+e=129->e<M->i<=c.row.length->RowW n c->Small c 128 (224*i) (33*i) (224*i)->InoW D n c->Grows g H->IsRC n Q H cs c->(∀ id,H.length<=id->Q id)->rd H x5=rT cs->rd H x3=rT (D3 D.length n m) ->
  ∃ cs' H' M',tB q M v (pV x3 0) x4 (pV x5 0) (iV (i:Int)) H=tB q (M'+1) v (pV x3 0) x4 (pV x5 0) (iV ((ofR D n e i c).row.length:Nat)) H' /\
   Grows g H'/\IsRC n Q H' cs' (ofR D n e i c)/\(∀ id,H'.length<=id->Q id)/\rd H' x5=rT cs'/\InoW D n (ofR D n e i c)/\H.length<=H'.length/\(∀ j,j<H.length->j≠x5->rd H' j=rd H j):=by
 intro e
 induction e with
 | zero =>
  intro i M c cs H hi hM bJ hR;have:=B65 hR.nd λa ha=>⟨(hR.rg a ha).1,by have:=(hR.rg a ha).2;omega⟩
  omega
 | succ e ih =>
  intro i M c cs H hi hM bJ hR sm w G K hQ r5 r3;obtain ⟨M,rfl⟩:∃ M',M=M'+1:=⟨M-1,by omega⟩;unfold ofR;cases hc:c.row[i]? with
  | none =>
   have hlen:=List.getElem?_eq_none_iff.1 hc;have ei:i=c.row.length:=by omega
   dsimp only;rw [<-ei];exact ⟨cs,H,M,rfl,G,K,hQ,r5,w,E3T _,λ_ _ _=>rfl⟩
  | some a =>
   dsimp only;have R6:i<c.row.length:=(List.getElem?_eq_some_iff.1 hc).1;have ha:a∈c.row:=E4e hc;obtain ⟨ra1,ra2⟩:=hR.rg a ha;have w1:=C6 (show i+1<9223372036854775808 by omega);have c0:((i:Int)<(c.row.length:Nat)):=by omega
   have hvH:=hv.grows G;have hR':=C53 (D:=D) (ino:=a) hR;have r128:=B65 hR'.nd λa ha=>⟨(hR'.rg a ha).1,by have:=(hR'.rg a ha).2;omega⟩
   have sm':=D3K (D:=D) (n:=n) (ino:=a) sm;have sm2:Small (gE D n c a) 128 (224*(i+1)) (33*(i+1)) (224*(i+1)):=⟨r128,sm'.lnk.mono (by omega),by have:=sm'.blocks;omega,by have:=sm'.made;omega,sm'.lost0,by have:=sm'.lost;omega⟩;have w2:=D3J (D:=D) (n:=n) (c:=c) (ino:=a) (by omega) ha w;have il:c.ino.length<=1000:=by rw [w.ilen];omega
   have i1:a.toNat<c.ino.length:=by rw [w.ilen];omega
   have sb:=sm.blocks;have sd:=sm.made;have K8:=K.length;obtain ⟨v35,v40,y1,y2,y3,y4⟩:∃ v35 v40,B4 H (pV x5 0)=some v35/\C95 v35=some (iV (c.row.length:Nat))/\D6 1 v35 (iV (i:Int))=some v40/\B4 H v40=some (iV a):=by
    obtain ⟨xr,xi,xt,xb,xm,xl,xy,ys,rfl,kk⟩:=id K;have l0:B4 H (pV x5 0)=some (.c xr):=B5 r5 rfl rfl;have hlen:=kk.row.len;obtain ⟨it,ot,et,_,hA,_⟩:=kk.row.sl (by omega);cases et;exact ⟨_,_,l0,hlen,by rw [C5 R6,Nat.mul_one],hA i _ (by rw [F0,hc];rfl)⟩
   have l3N:C8 H 3 (pV x3 0)=some (.a (D3 D.length n m)):=B8 r3 rfl;have l5N:C8 H 8 (pV x5 0)=some (.a cs):=B8 r5 K8;have hI:=qP (v:=v) (n:=n) (m:=m) (i:=a) (h:=H) hvH hD;rw [A57] at hI;have f0:∀ k l s p d,B5Y (.a (E6 k l s p d)) 0=some (iV k):=λ_ _ _ _ _=>rfl
   have step:∃ cs1 H1 H2,Grows H H1/\IsRC n (λid=>Q id\/H.length<=id) H1 cs1 (gE D n c a)/\E1 H1 8 (pV x5 0) (.a cs1)=some H2/\H2=H1.set x5 (rT cs1) /\
     tB q (M+1) v (pV x3 0) x4 (pV x5 0) (iV (i:Int)) H=tB q M v (pV x3 0) x4 (pV x5 0) (iV ((i+1:Nat):Int)) H2:=by
    rw [B2g];by_cases c1:a=1
    ·obtain ⟨cs1,H1,f1,f2,f3⟩:=D4V (m:=m) (ino:=a) hvH hD K w.tlen hl hn (by omega) i1 ra2 w.il il hR sm (by omega) (by omega) (by omega) (by omega);have eo:gE D n c a=oS D n c a:=by unfold gE;rw [if_neg (by simp [c1])]
     have s5:E1 H1 8 (pV x5 0) (.a cs1)=some (H1.set x5 (rT cs1)):=storeAll (f2.rd r5) K8 f3.length;refine ⟨cs1,H1,_,f2,by rw [eo];exact f3,s5,rfl,?_⟩;rw [c1] at y4 f1;generalize D3 D.length n m=LC at *;simp only [esc,Nat.reduceAdd,y1,y2,c0,y3,y4,eq_self,l5N,l3N,f1,s5,A3o,w1]
    ·by_cases c2:kdV D n a=1
     ·obtain ⟨cs1,H1,f1,f2,f3⟩:=D75 (m:=m) (ino:=a) hvH hD K w.tlen hl (by omega) i1 w.il il (by omega) (by omega);have eo:gE D n c a=gA D n c a:=by unfold gE;rw [if_pos ⟨c1,c2⟩]
      have s5:E1 H1 8 (pV x5 0) (.a cs1)=some (H1.set x5 (rT cs1)):=storeAll (f2.rd r5) K8 f3.length;refine ⟨cs1,H1,_,f2,by rw [eo];exact f3,s5,rfl,?_⟩;generalize D3 D.length n m=LC at *;simp only [esc,Nat.reduceAdd,y1,y2,c0,y3,y4,c1,hI,f0,c2,l5N,l3N,f1,s5,A3o,w1]
     ·obtain ⟨cs1,H1,f1,f2,f3⟩:=D4V (m:=m) (ino:=a) hvH hD K w.tlen hl hn (by omega) i1 ra2 w.il il hR sm (by omega) (by omega) (by omega) (by omega);have eo:gE D n c a=oS D n c a:=by unfold gE;rw [if_neg (by simp [c2])]
      have s5:E1 H1 8 (pV x5 0) (.a cs1)=some (H1.set x5 (rT cs1)):=storeAll (f2.rd r5) K8 f3.length;refine ⟨cs1,H1,_,f2,by rw [eo];exact f3,s5,rfl,?_⟩;generalize D3 D.length n m=LC at *;simp only [esc,Nat.reduceAdd,y1,y2,c0,y3,y4,c1,hI,f0,c2,l5N,l3N,f1,s5,A3o,w1]
   obtain ⟨cs1,H1,H2,s1,s2,s3,s4,s5⟩:=step;have lH1:=s1.len;have h5l:=C4 r5;have lH2:H2.length=H1.length:=by rw [s4];simp
   have same:∀ j,j<H.length->j≠x5->rd H2 j=rd H j:=λj hj U1=>by
    rw [s4,A7 (Ne.symm U1)];obtain ⟨tt,hh⟩:=s1.1;rw [<-hh,D1 hj]
   have K2:IsRC n Q H2 cs1 (gE D n c a):=by
    have:IsRC n Q H1 cs1 (gE D n c a):=s2.mono λid hid=>hid.elim (λx=>x) (hQ id)
    rw [s4];exact this.set (.inr nQ)
   have hlen:i+1<=(gE D n c a).row.length:=by
    have:c.row.length<=(gE D n c a).row.length:=C54;omega
   obtain ⟨cs',H',M',e1,e2,e3,e4,e5,e6,e7,e8⟩:=ih (i+1) M (gE D n c a) cs1 H2 (by omega) (by omega) hlen hR' sm2 w2 (by rw [s4];exact (G.trans' s1).set hg _) K2 (λid hid=>hQ id (by omega)) (by rw [s4];exact B6 (by omega)) (by rw [same _ (C4 r3) n35];exact r3);exact ⟨cs',H',M',s5.trans e1,e2,e3,e4,e5,e6,by omega,λj hj U1=>by rw [e8 j (by omega) U1,same j hj U1]⟩
theorem D3Y {x3 x5 nid q:Nat} {x4:Val} {c:Cl} {xr xi xt xb xm xl xy:Cell} {lost:Int} {N:Nat} (eN:(n+1)=(N:Int)) (hN:N<=1000) (n3:nid≠x3) (n5:nid≠x5) :
  ∀ (e k M:Nat) (c:Cl) (H:A6),k+e=N->e<M->(∀ x∈c.ino,x.length=11)->c.ino.length=N->rd H x5=rT (rcC xr xi xt xb xm lost xl xy)->rd H x3=rT (D3 D.length n m)->rd H nid=rT (S6 c.ino)->Has H (.c xl) 1 N (encI (dW n c.lnk))->nmC xl≠some nid ->
  ∃ H' M',B4a q M (pV x3 0) x4 (pV x5 0) (sV nid 0 N 11) (iV (k:Int)) H=B4a q (M'+1) (pV x3 0) x4 (pV x5 0) (sV nid 0 N 11) (iV (N:Int)) H' /\
   rd H' nid=rT (S6 (Q6 c ((E4s k e).map λi:Nat=>(i:Int))).ino)/\((∀ x∈(Q6 c ((E4s k e).map λi:Nat=>(i:Int))).ino,x.length=11)/\(Q6 c ((E4s k e).map λi:Nat=>(i:Int))).ino.length=N)/\∃ y:List Cell,H'=H.set nid (rT y):=by
 intro e
 induction e with
 | zero =>
  intro k M c H hk hM il ilen r5 r3 rn hx hnx;obtain ⟨M,rfl⟩:∃ M',M=M'+1:=⟨M-1,by omega⟩;have ek:k=N:=by omega
  subst ek;exact ⟨H,M,rfl,rn,⟨il,ilen⟩,_,(set_self rn).symm⟩
 | succ e ih =>
  intro k M c H hk hM il ilen r5 r3 rn hx hnx;obtain ⟨M,rfl⟩:∃ M',M=M'+1:=⟨M-1,by omega⟩;have hkN:k<N:=by omega
  have c0:(k:Int)<=n:=by omega
  have w1:=C6 (show k+1<9223372036854775808 by omega);have l3:B4 H (pV x3 1)=some (iV n):=B5 r3 rfl rfl;have ad:D6 11 (sV nid 0 N 11) (iV (k:Int))=some (pV nid (k*11)):=by rw [C5 hkN];simp
  have gi:=C5p (l:=c.ino) (i:=k) (k:=0) il (by omega) (by omega);have lk:B4 H (pV nid (k*11))=some (iV ((c.ino.getD k []).getD 0 0)):=B5 rn gi rfl;have l6:B4 H (pV x5 6)=some (.c xl):=B5 r5 rfl rfl;obtain ⟨it,ot,et,_,hA,_⟩:=hx.sl (by omega);cases et;have aL:D6 1 (sV it ot N 1) (iV (k:Int))=some (pV it (ot+k)):=by rw [C5 hkN,Nat.mul_one]
  have lL:B4 H (pV it (ot+k))=some (iV ((c.lnk (k:Int)).getD 0)):=hA k _ (by rw [F0,A4t (by omega)];rfl);have er:(E4s k (e+1)).map (λi:Nat=>(i:Int))=(k:Int)::(E4s (k+1) e).map (λi:Nat=>(i:Int)):=rfl;rw [er];have el:Q6 c ((k:Int)::(E4s (k+1) e).map (λi:Nat=>(i:Int)))=Q6 (Z3 c (k:Int)) ((E4s (k+1) e).map (λi:Nat=>(i:Int))):=rfl;rw [el];have elk:(Z3 c (k:Int)).lnk=c.lnk:=A6b.2.2.2.2.2.1;by_cases h1:(c.ino.getD k []).getD 0 0=1
  ·have ec:(Z3 c (k:Int)).ino=c.ino.set k ((c.ino.getD k []).set 1 ((c.lnk (k:Int)).getD 0)):=by unfold Z3;rw [E38,if_pos h1]
   obtain ⟨H1,hH1⟩:∃ H1,H1=H.set nid (rT (S6 (Z3 c (k:Int)).ino)):=⟨_,rfl⟩;have s1:F9 H (pV nid (k*11+1)) (iV ((c.lnk (k:Int)).getD 0))=some H1:=by
    rw [E9 rn (by rw [U2 il];omega),C6q il (by omega) (by omega),hH1,ec]
   have il2:∀ x∈(Z3 c (k:Int)).ino,x.length=11:=λx hx=>by
    rw [ec] at hx;rcases E4z hx with h2 | h2
    ·exact il x h2
    ·rw [h2,E4o,E30,E3P (by omega)];exact il _ (E4u _)
   obtain ⟨H',M',f1,f2,f3,y,f4⟩:=ih (k+1) M (Z3 c (k:Int)) H1 (by omega) (by omega) il2 (by rw [ec,E4o];exact ilen) (by rw [hH1,A7 n5];exact r5) (by rw [hH1,A7 n3];exact r3) (by rw [hH1];exact B6 (C4 rn)) (by rw [hH1,elk];exact has_set hx (.inr hnx)) hnx;refine ⟨H',M',?_,f2,f3,y,by rw [f4,hH1,List.set_set]⟩;rw [h1] at lk;rw [A3p];simp only [esc,Nat.reduceAdd,l3,c0,ad,lk,l6,aL,lL,s1,B2e,w1];exact f1
  ·have ec:Z3 c (k:Int)=c:=by unfold Z3;rw [E38,if_neg h1]
   rw [ec];obtain ⟨H',M',f1,f2,f3,y,f4⟩:=ih (k+1) M c H (by omega) (by omega) il ilen r5 r3 rn hx hnx;refine ⟨H',M',?_,f2,f3,y,f4⟩;rw [A3p];simp only [esc,Nat.reduceAdd,l3,c0,ad,lk,h1,B2e,w1];exact f1
end
end
section
section
variable {D:Dev} {n m:Int} {h:A6} {v:Val}
theorem E1n (hv:Has h v 256 D.length (D4 D)) (hD:okD D) (hm:R9 D.length n=true) :
  ∃ cs' H',B0G [v,.a (D3 D.length n m)] h=some (.a cs',H')/\Grows h H'/\IsRC n (λid=>h.length<=id) H' cs' (P6 D n):=by
 obtain ⟨b16,b512,n8,n128,_,_⟩:=N8.1 hm;obtain ⟨N,hN⟩:∃ N:Nat,n+1=(N:Int):=E4v (by omega);have hNn:(n+1).toNat=N:=by omega
 obtain ⟨xl,hxl⟩:∃ xl,xl=Cell.sl (h.length+4) 0 N 1:=⟨_,rfl⟩;obtain ⟨xy,hxy⟩:∃ xy,xy=Cell.sl (h.length+5) 0 N 1:=⟨_,rfl⟩;obtain ⟨xr,hxr⟩:∃ xr,xr=Cell.sl (h.length+2) 0 1 1:=⟨_,rfl⟩;obtain ⟨xi,hxi⟩:∃ xi,xi=Cell.sl (h.length+3) 0 N 11:=⟨_,rfl⟩;obtain ⟨C0,hC0⟩:∃ C0,C0=rcC xr xi .ns .ns .ns 0 xl xy:=⟨_,rfl⟩;obtain ⟨H0,hH0⟩:∃ H0,H0=h++[rT (D3 D.length n m),rT Z8,rT [.i .i64 1],rT (S6 (E3Q N (zI 11))),rT (encI (dW n λ_=>none)),rT (encI (dW n λ_=>none)),rT C0]:=⟨_,rfl⟩;obtain ⟨H1,hH1⟩:∃ H1,H1=h++[rT (D3 D.length n m),rT Z8,rT [.i .i64 1],rT (S6 (E3Q N (zI 11))),rT (encI (dW n λ_=>none)),rT (encI (dW n (G8 D n).par)),rT C0]:=⟨_,rfl⟩;have lH1:H1.length=h.length+7:=by rw [hH1];simp
 have G1:Grows h H1:=by rw [hH1];exact R0 Grows.rfl' rfl
 have at1:∀ (k:Nat) (x:Option Row),[rT (D3 D.length n m),rT Z8,rT [.i .i64 1],rT (S6 (E3Q N (zI 11))),rT (encI (dW n λ_=>none)),rT (encI (dW n (G8 D n).par)),rT C0][k]?=some x->rd H1 (h.length+k)=x:=λk x hk=>by
  rw [hH1];unfold rd;rw [E35 (by omega),show h.length+k-h.length=k by omega,hk];rfl
 have r3:rd H1 h.length=rT (D3 D.length n m):=at1 0 _ rfl;have r4:rd H1 (h.length+1)=rT Z8:=at1 1 _ rfl;have rr:rd H1 (h.length+2)=rT [.i .i64 1]:=at1 2 _ rfl;have ri:rd H1 (h.length+3)=rT (S6 (E3Q N (zI 11))):=at1 3 _ rfl;have rl:rd H1 (h.length+4)=rT (encI (dW n λ_=>none)):=at1 4 _ rfl;have ry:rd H1 (h.length+5)=rT (encI (dW n (G8 D n).par)):=at1 5 _ rfl;have r5:rd H1 (h.length+6)=rT C0:=at1 6 _ rfl;have R6:∀ x∈E3Q N (zI 11),x.length=11:=λx hx=>by rw [List.eq_of_mem_replicate hx];simp [zI]
 obtain ⟨Q,hQ⟩:∃ Q:Nat->Prop,Q=λid=>h.length<=id/\id≠h.length/\id≠h.length+1/\id≠h.length+6:=⟨_,rfl⟩
 have nQ5:¬ Q (h.length+6):=by rw [hQ];intro hh;omega
 have nQ3:¬ Q h.length:=by rw [hQ];intro hh;omega
 have nQ4:¬ Q (h.length+1):=by rw [hQ];intro hh;omega
 have Qhi:∀ id,h.length+7<=id->Q id:=λid hid=>by rw [hQ];exact ⟨by omega,by omega,by omega,by omega⟩
 rw [hC0] at r5;obtain ⟨xt,H2,f1,f2,f3,f4,f5,f6⟩:=D59 (D:=D) (n:=n) (m:=m) (v:=v) (g:=h) (x3:=h.length) (x5:=h.length+6) (q:=1200) (lo:=h.length+7) (xr:=xr) (xi:=xi) (xb:=.ns) (xm:=.ns) (xl:=xl) (xy:=xy) (lost:=0) (x4:=pV (h.length+1) 0) (by omega) (by omega) (by omega) (by omega) (by omega) (by omega) D.length 0 1200 .ns H1 (by omega) (by omega) G1 (by omega) r5 r3 (.inl ⟨rfl,rfl⟩);obtain ⟨tid,rfl,t1,t2⟩:∃ tid,xt=.sl tid 0 D.length 1/\h.length+7<=tid/\rd H2 tid=rT (N6 (B0f D n D.length)):=by
  rcases f5 with ⟨h0,_⟩ | hh
  ·omega
  ·exact hh
 obtain ⟨K,hK⟩:∃ K,K=(jU D.length n).toNat:=⟨_,rfl⟩;have hsO:=ownR_same (c:=G8 D n) (k:=K);have tG:=D7W hm;rw [<-hK] at tG;have low:∀ j,j<h.length+7->j≠h.length+6->rd H2 j=rd H1 j:=f6;have lz:(E3Q N (zI 11)).length=N:=by simp
 have K2:IsRC n Q H2 (rcC xr xi (.sl tid 0 D.length 1) .ns .ns 0 xl xy) (oV (G8 D n) K):=by
  refine ⟨xr,xi,.sl tid 0 D.length 1,.ns,.ns,xl,xy,[],by rw [hsO.lost];rfl,⟨?_,?_,?_,?_,?_,⟨by rw [hsO.made];rfl,rfl,λi y hy=>by simp at hy⟩,?_,?_,?_,?_,?_,?_,?_,?_,?_⟩⟩
  ·rw [hsO.row,hxr];exact Has.row (rw:=true) (by rw [low _ (by omega) (by omega)];exact rr) rfl rfl
  ·have e:(oV (G8 D n) K).ino=E3Q N (zI 11):=by rw [hsO.ino];show E3Q (n+1).toNat (zI 11)=_;rw [hNn]
   rw [e,hxi,lz];exact Has.row (rw:=true) (by rw [low _ (by omega) (by omega)];exact ri) (by rw [U2 R6,lz]) (B0V _)
  ·rw [tG,vV];refine Has.row (rw:=true) t2 (by rw [B53,vV];omega) ?_;exact List.all_eq_true.2 λx hx=>by obtain ⟨y,_,rfl⟩:=List.mem_map.1 hx;rfl
  ·rw [hsO.blocks];exact .inl ⟨rfl,rfl,rfl⟩
  ·rw [hsO.made];exact .inl ⟨rfl,rfl,rfl⟩
  ·rw [hsO.lnk,hNn,hxl];exact Has.row (rw:=true) (by rw [low _ (by omega) (by omega)];exact rl) (by rw [A8,Q8];omega) (cG _)
  ·rw [hsO.par,hNn,hxy];exact Has.row (rw:=true) (by rw [low _ (by omega) (by omega)];exact ry) (by rw [A8,Q8];omega) (cG _)
  ·intro id hi;rw [hxr] at hi;cases hi;rw [hQ];exact ⟨by omega,by omega,by omega,by omega⟩
  ·intro id hi;rw [hxi] at hi;cases hi;rw [hQ];exact ⟨by omega,by omega,by omega,by omega⟩
  ·intro id hi;cases hi;exact Qhi _ t1
  ·intro id hi;cases hi
  ·intro id hi;cases hi
  ·intro id hi;rw [hxl] at hi;cases hi;rw [hQ];exact ⟨by omega,by omega,by omega,by omega⟩
  ·intro id hi;rw [hxy] at hi;cases hi;rw [hQ];exact ⟨by omega,by omega,by omega,by omega⟩
 have rI:RowW n (oV (G8 D n) K):=by
  refine RowW.same (c:=G8 D n) ⟨by simp [G8],λi=>?_,λi hi=>?_⟩ hsO.row hsO.par
  ·by_cases c1:i=1
   ·subst c1;simp [G8,tP]
   ·simp [G8,tP,c1]
  ·simp [G8] at hi;omega
 have smI:Small (oV (G8 D n) K) 128 (224*0) (33*0) (224*0):=⟨by rw [hsO.row];simp [G8],λi=>by rw [hsO.lnk];simp [G8],by rw [hsO.blocks];simp [G8],by rw [hsO.made];simp [G8],by rw [hsO.lost];simp [G8],by rw [hsO.lost];simp [G8]⟩;have wI:InoW D n (oV (G8 D n) K):=by
  have e:(oV (G8 D n) K).ino=E3Q N (zI 11):=by rw [hsO.ino];show E3Q (n+1).toNat (zI 11)=_;rw [hNn]
  refine ⟨by rw [e];exact R6,by rw [e,lz,hNn],by rw [tG,vV],λk _=>?_⟩;rw [e];cases hx:(E3Q N (zI 11))[k]? with
  | none=>rw [show (E3Q N (zI 11)).getD k []=[] by rw [E30,hx];rfl];decide
  | some x=>rw [show (E3Q N (zI 11)).getD k []=x by rw [E30,hx];rfl,List.eq_of_mem_replicate (E4e hx)];decide
 obtain ⟨cs3,H3,M3,g1,g2,g3,g4,g5,g6,g7,g8⟩:=D79 (D:=D) (n:=n) (m:=m) (v:=v) (g:=h) (Q:=Q) (x3:=h.length) (x5:=h.length+6) (q:=1200) (x4:=pV (h.length+1) 0) hv hD n128 (by omega) (by omega) (by omega) (by omega) nQ5 129 0 1200 (oV (G8 D n) K) _ H2 (by omega) (by omega) (by omega) rI smI wI f2 K2 (λid hid=>Qhi id (by omega)) f4 (by rw [low _ (by omega) (by omega)];exact r3);have ecO:ofR D n 129 0 (oV (G8 D n) K)=W5 D n:=by unfold W5;rw [<-hK]
 rw [ecO] at g1 g3 g6;obtain ⟨c,hc⟩:∃ c,c=W5 D n:=⟨_,rfl⟩;have hcr:=(yM hD hm).1;rw [<-hc] at g1 g3 g6 hcr;have q3:rd H3 h.length=rT (D3 D.length n m):=by rw [g8 _ (by omega) (by omega),low _ (by omega) (by omega)];exact r3
 have q4:rd H3 (h.length+1)=rT Z8:=by rw [g8 _ (by omega) (by omega),low _ (by omega) (by omega)];exact r4
 obtain ⟨yr,yi,yt,yb,ym,yl,yy,ys,rfl,k3⟩:=id g3;have ilen:c.ino.length=N:=by rw [g6.ilen,hNn]
 have cp:=B37 (H:=H3) k3.ino (by omega) (by omega);obtain ⟨H4,hH4⟩:∃ H4,H4=H3++[none,rT (S6 c.ino)]:=⟨_,rfl⟩;rw [<-hH4,ilen] at cp;have lH4:H4.length=H3.length+2:=by rw [hH4];simp
 have G34:Grows H3 H4:=by rw [hH4];exact R0 Grows.rfl' rfl
 have rn:rd H4 (H3.length+1)=rT (S6 c.ino):=by rw [hH4,M9];rfl
 have hl3:=g2.len;have h73:h.length+7<=H3.length:=by omega
 have k4:=k3.low.grows G34;have lL:Has H4 (.c yl) 1 N (encI (dW n c.lnk)):=by have:=k4.tol;rw [hNn] at this;exact this
 obtain ⟨L,hL⟩:∃ L,L=(E4s 2 (N-2)).map λi:Nat=>(i:Int):=⟨_,rfl⟩
 obtain ⟨H5,M5,o1,o2,o3,y,o4⟩:=D3Y (D:=D) (n:=n) (m:=m) (x3:=h.length) (x5:=h.length+6) (nid:=H3.length+1) (q:=1200) (x4:=pV (h.length+1) 0) (c:=c) (xr:=yr) (xi:=yi) (xt:=yt) (xb:=yb) (xm:=ym) (xl:=yl) (xy:=yy) (lost:=c.lost) (N:=N) hN (by omega) (by omega) (by omega) (N-2) 2 1200 c H4 (by omega) (by omega) g6.il ilen (G34.rd g5) (G34.rd q3) rn lL (λhh=>by have:=k4.pl _ hh;omega);rw [<-hL] at o2 o3;have eF:Q6 c L=P6 D n:=by
  have h1:Q6 c L=Q6 c c.row:=D3A g6 hcr.rg λa=>by
   rw [hL,List.mem_map];constructor
   ·rintro ⟨i,hi,rfl⟩;have:=List.mem_range'_1.1 hi;omega
   ·intro ha;exact ⟨a.toNat,List.mem_range'_1.2 (by omega),by omega⟩
  rw [h1,hc];rfl
 have q55:rd H5 (h.length+6)=rT (rcC yr yi yt yb ym c.lost yl yy):=by rw [o4,A7 (by omega)];exact G34.rd g5
 obtain ⟨C',hC'⟩:∃ C',C'=rcC yr (.sl (H3.length+1) 0 N 11) yt yb ym c.lost yl yy:=⟨_,rfl⟩;obtain ⟨H6,hH6⟩:∃ H6,H6=H5.set (h.length+6) (rT C'):=⟨_,rfl⟩;have s6:F9 H5 (pV (h.length+6) 1) (sV (H3.length+1) 0 N 11)=some H6:=by rw [E9 q55 (by simp [rcC]),hH6,hC'];rfl
 have l6:C8 H6 8 (pV (h.length+6) 0)=some (.a C'):=B8 (by rw [hH6];exact B6 (C4 q55)) (by rw [hC'];rfl);have q46:rd H6 (h.length+1)=rT Z8:=by rw [hH6,A7 (by omega),o4,A7 (by omega)];exact G34.rd q4
 obtain ⟨H7,hH7⟩:∃ H7,H7=H6.set (h.length+1) (rT C'):=⟨_,rfl⟩;have s7:E1 H6 8 (pV (h.length+1) 0) (.a C')=some H7:=by rw [storeAll (n:=8) q46 rfl (by rw [hC'];rfl),hH7]
 have l7:C8 H7 8 (pV (h.length+1) 0)=some (.a C'):=B8 (by rw [hH7];exact B6 (C4 q46)) (by rw [hC'];rfl);have G4:Grows h H4:=g2.trans' G34;have G7:Grows h H7:=by rw [hH7,hH6,o4];exact ((G4.set (show h.length<=H3.length+1 by omega) _).set (show h.length<=h.length+6 by omega) _).set (show h.length<=h.length+1 by omega) _
 obtain ⟨a1,a2,a3,a4,a5,a6,a7⟩:=oL (L:=L) (c:=c);rw [eF] at a1 a2 a3 a4 a5 a6 a7 o2 o3;have k7:RCF n (λid=>h.length<=id) H7 c yr yi yt yb ym yl yy ys:=by
  rw [hH7,hH6,o4];have nn:∀ j,¬ Q j->¬ (Q j/\j<H3.length):=λj hj hh=>hj hh.1
  exact (((k4.set (.inr (by omega))).set (.inr (nn _ nQ5))).set (.inr (nn _ nQ4))).mono λid hid=>by have:=hid.1;rw [hQ] at this;exact this.1
 have rn7:rd H7 (H3.length+1)=rT (S6 (P6 D n).ino):=by rw [hH7,A7 (by omega),hH6,A7 (by omega)];exact o2
 refine ⟨C',H7,C9W (n:=1200) ?_,G7,yr,.sl (H3.length+1) 0 N 11,yt,yb,ym,yl,yy,ys,by rw [hC',a5],
  ⟨by rw [a1];exact k7.row,?_,by rw [a2];exact k7.tak,by rw [a3];exact k7.blk,by rw [a4];exact k7.mad,by rw [a4];exact k7.mds,by rw [a6];exact k7.tol,by rw [a7];exact k7.par,k7.pr,λid hi=>by cases hi;omega,k7.pt,k7.pb,k7.pm,k7.pl,k7.py⟩⟩
 rotate_left
 ·rw [o3.2];exact Has.row (rw:=true) rn7 (by rw [U2 o3.1,o3.2]) (B0V _)
 have z11:[o0,o0,o0,o0,o0,o0,o0,o0,o0,o0,o0]=encI (zI 11):=rfl;have cl1:cells? (.a (D3 D.length n m))=some (D3 D.length n m):=rfl;have ef1:D9 [o0] [(0,1,iV 1)]=some [.i .i64 1]:=rfl;have wn:IntKind.wrap .i64 (n+1)=(N:Int):=by rw [wrap_i64 (by omega) (by omega),hN]
 have nt:∀ k:Nat,k<=1000->A4y (iV (k:Int))=some k:=λk hk=>by
  simp only [A4y];rw [if_pos (by omega)];simp
 have am1:A5P (iV (N:Int)) (iV (N:Int))=some N:=by simp only [A5P,nt N (by omega),E3X];rw [if_pos (E3T _)]
 have rz1:rows (encI (zI 11)) N=S6 (E3Q N (zI 11)):=by unfold rows S6;rw [List.map_replicate]
 have rz2:rows [o0] N=encI (dW n λ_=>none):=by
  have e:dW n (λ_=>none)=zI N:=by
   unfold dW;rw [hNn];refine E4I λi=>?_
   simp [zI,List.getElem?_replicate];split<;>simp_all
  rw [e];unfold rows;rw [List.flatten_replicate_singleton];simp [encI,zI]
 have ef2:D9 Z8 [(0,1,sV (h.length+2) 0 1 1),(1,1,sV (h.length+3) 0 N 11),(6,1,sV (h.length+4) 0 N 1),(7,1,sV (h.length+5) 0 N 1)]=some C0:=by rw [hC0,hxr,hxi,hxl,hxy];rfl
 have lay1:B4 (h++[rT (D3 D.length n m),rT Z8]) (pV h.length 1)=some (iV n):=B5 (cs:=D3 D.length n m) (by rw [F8];rfl) rfl rfl;obtain ⟨Hs,hHs⟩:∃ Hs,Hs=h++[rT (D3 D.length n m),rT Z8,rT [.i .i64 1],rT (S6 (E3Q N (zI 11))),rT (encI (dW n λ_=>none)),rT (encI (dW n λ_=>none)),rT Z8]:=⟨_,rfl⟩;have sH0:E1 Hs 8 (pV (h.length+6) 0) (.a C0)=some H0:=by
  rw [storeAll (cs:=Z8) (n:=8) (by rw [hHs,M9];rfl) rfl (by rw [hC0];rfl),hHs,qQ,hH0];rfl
 have lY:B4 H0 (pV (h.length+6) 7)=some (sV (h.length+5) 0 N 1):=B5 (cs:=C0) (by rw [hH0,M9];rfl) (by rw [hC0,hxy];rfl) rfl;have aY:D6 1 (sV (h.length+5) 0 N 1) (iV 1)=some (pV (h.length+5) 1):=C5 (j:=1) (by omega);have sY:F9 H0 (pV (h.length+5) 1) (iV 1)=some H1:=by
  rw [E9 (cs:=encI (dW n λ_=>none)) (by rw [hH0,M9];rfl) (by rw [A8,Q8];omega),aX,C5M,hH0,qQ,hH1];rfl
 have c00:((0:Nat):Int)=0:=rfl;rw [c00] at f1 g1;have c2:((2:Nat):Int)=2:=rfl;rw [c2] at o1;have l35:B4 H3 (pV (h.length+6) 0)=some (.c yr):=B5 g5 rfl rfl;have alr:=k3.row.len;have cR:¬ ((c.row.length:Nat):Int)<(c.row.length:Nat):=by omega
 have l63:B4 (H3++[rT []]) (pV (h.length+6) 1)=some (.c yi):=B5 (B7 g5) rfl rfl;have efN:D9 [] []=some []:=rfl;have l25:B4 H5 (pV h.length 1)=some (iV n):=B5 (cs:=D3 D.length n m) (by rw [o4,A7 (by omega)];exact G34.rd q3) rfl rfl;have cN:¬ ((N:Int)<=n):=by omega
 rw [C9J,z11,A1Q];generalize encI (zI 11)=Z at *;generalize hLL:D3 D.length n m=LC at *;generalize hZ8:Z8=E8 at *;simp only [cl1,Q4,E3U,E4l,E37,E3S,E3Z,E4h,E4b,Nat.reduceAdd];simp only [esc,Nat.reduceAdd,lay1,wn,am1,ef1,rz1,rz2,ef2,Nat.add_assoc,<-hHs];simp only [esc,sH0,lY,aY,sY];refine f1.trans (g1.trans ?_);rw [B2g];simp only [esc,l35,alr,cR,efN,l63,cp];refine o1.trans ?_;rw [A3p];simp only [esc,l25,cN,s6,l6,s7,l7]
end
end
end Go.Proofs.YtbnkgnfhgbhblaaGreat
namespace Go.Proofs.YtbnkgnfhgbhblaaGreat
open Go Go.Esc
set_option maxRecDepth 100000
noncomputable section
variable (n m m2:Nat) (a0 a1 a2:Val) (h:A6)
def A4I:FD Tryz.prog:=⟨px 0X14c2162ec2688664881c5bc06152122c01168806880040123211012,[.c .np],[.min (.t 3) (.v (.c (.i .i64 512))),.max (.v (.c (.i .i64 16))) (.t 4),.build ([.ns,o0,.b false,.b false,o0,o0]) [(0,1,(.t 7))]],[.tmp 2],[]⟩
def C2Y:=A4I.R
def C6I:=mR C2Y A4I (tT []) n [a0] h
def C2x:=A4I.K Tryz.func154
def B28:=A4I.Q
theorem C66:SOk Tryz.prog 154 B28:=C2x.ok
theorem C65:OfT C2Y B28:=C2x.of
def kQ:FD Tryz.prog:=⟨px 0X14c2161c861c064c639c051621201121121224068800240220131211012,[],[.eqN false false (.t 3)],[.tmp 2],[]⟩
def sJ:=kQ.R
def B07:=mR sJ kQ (tT []) n [a0] h
def A3I:=kQ.K Tryz.func204
def sP:=kQ.S
theorem xI:SOk Tryz.prog 204 sP:=A3I.sok
theorem A7q:E5 sJ sP:=A3I.flat
def mY:FD Tryz.prog:=⟨px 0X114114120119411412241c81d1634a2a863a4487f6481cb6481f06484f64839f04834483601617c41e11c1d12169411412246818161c364c639c0191518103215411412243c510688061351032050314111022,[.c (.b true)],[.eqN false false (.t 6)],[.tmp 4],[]⟩
def wF:=mY.R
def B2I:=mR wF mY (tT []) n [a0,a1] h
def A6w:=mY.K Tryz.func238
def Y6:=mY.S
theorem A0k:SOk Tryz.prog 238 Y6:=A6w.sok
theorem A8m:E5 wF Y6:=A6w.flat
def dI:FD Tryz.prog:=⟨px 0X1a21fa464c2e39c5607c61c464c639c41c1818241627c021d23122,[],[],[],[]⟩
def xH:=dI.R
def A4Z:=mR xH dI (tT []) n [a0,a1] h
def B03:=dI.K Tryz.func239
def O7:=dI.Q
theorem A3U:D6x Tryz.prog 239 O7:=D4M (D4x _) Tryz.func239 (by kernel_rfl)
theorem A5n:OfT xH O7:=B03.of
def B4v:DFn:=⟨[([1,3,5,6],(.ops [aB 3 0,aB 5 2,aO 6 (.alloc ([o0]))])),([1,3,5,6],(sO [1,3,5,6] [aL 7 3,aM 8 1,aO 9 (.call 238 [(.t 7),(.t 8)]),aN (.store1 (.t 6) (.t 9))] (sO [1,3,5,6,11] [aL 10 6,aO 11 (.bin .neq (.t 10) (.v (iV 0)))] (.cond (.t 11) (sO [6] [aL 12 6,aN (.store1 (.t 6) (.t 12))] .ret) .skip))))],[1,3,5,6],13,239,[(.t 6),(.t 3)],(.seq [1,3,5,6] (sO [1,3,5,6,24] [aL 14 3,aO 15 (.nilc (.t 14)),aF 16 15 2,aL 17 16,aM 18 17,aG 19 18 true (.load1 (.t 3)),aG 20 18 true (.nilc (.t 19)),aG 21 18 true (.fAddr (.t 20) 1),aG 22 18 true (.load1 (.t 21)),aG 23 18 true (.bin .eql (.t 22) (.v (iV 0))),aO 24 (.pick (.t 18) (.t 23) (.v (bV false)))] (.cond (.t 24) (sO [6] [aL 25 3,aO 26 (.nilc (.t 25)),aF 27 26 3,aN (.store1 (.t 27) (.v (bV true)))] (sO [6] [aN (.store1 (.t 6) (.v (iV 12)))] .ret)) .skip)) (.seq [1,3,5,6] (sO [1,3,5,6,31] [aL 28 3,aO 29 (.nilc (.t 28)),aF 30 29 2,aL 31 30] (.cond (.t 31) (.ops [aL 32 3,aO 33 (.nilc (.t 32)),aF 34 33 1,aL 35 34,aO 36 (.bin .sub (.t 35) (.v (iV 1))),aO 37 (.nilc (.t 32)),aF 38 37 1,aN (.store1 (.t 38) (.t 36))]) .skip)) (.seq [6] (.draw 0 [aL 39 3,aO 40 (.nilc (.t 39)),aF 41 40 0,aL 42 41,aM 43 1,aL' 44 256 5] [aO 45 (.iAddrL 256 (.t 42) (.t 43)),aN (.storeN 256 (.t 45) (.t 44))]) (sO [6] [aN (.store1 (.t 6) (.v (iV 0)))] .ret)))),[.cell1 6]⟩
def B4w:N1:=D7e 238 Y6 D1S
def pM:Fun:=B4v.run B4w O7 0
theorem A8l:SOk Tryz.prog 205 pM:=D65 (D37 A0k D36) A3U Tryz.func205 (by kernel_rfl)
theorem A8k:pM [a0,a1,a2] h=bnd (cells? a0) λc1=>bnd (cells? a2) λc2=>bnd (B4 (((h++[rT (c1)])++[rT (c2)])++[rT ([o0])]) (pV h.length 0)) λv3=>bnd (Y6 [v3,a1] (((h++[rT (c1)])++[rT (c2)])++[rT ([o0])])) λp4=>bnd (F9 p4.2 (pV ((h++[rT (c1)])++[rT (c2)]).length 0) p4.1) λh5=>bnd (B4 h5 (pV ((h++[rT (c1)])++[rT (c2)]).length 0)) λv6=>bnd (N9 .neq v6 (iV 0)) λv7=>cnd v7 (bnd (B4 h5 (pV ((h++[rT (c1)])++[rT (c2)]).length 0)) λv8=>bnd (F9 h5 (pV ((h++[rT (c1)])++[rT (c2)]).length 0) v8) λh9=>mp (B4 h9 (pV ((h++[rT (c1)])++[rT (c2)]).length 0)) λv=>(v,h9)) (bnd (B3V 239 [(pV ((h++[rT (c1)])++[rT (c2)]).length 0),(pV h.length 0)]) λv10=>bnd (B4 h5 (pV h.length 0)) λv11=>bnd (A3Z v11) λv12=>bnd (pW v12 2) λv13=>bnd (B4 h5 v13) λv14=>bnd (gd v14 true (bnd (B4 h5 (pV h.length 0)) λv15=>some (v15,h5)) (some (.no,h5))) λp16=>bnd (gd v14 true (bnd (A3Z p16.1) λv17=>some (v17,p16.2)) (some (.no,p16.2))) λp18=>bnd (gd v14 true (bnd (pW p18.1 1) λv19=>some (v19,p18.2)) (some (.no,p18.2))) λp20=>bnd (gd v14 true (bnd (B4 p20.2 p20.1) λv21=>some (v21,p20.2)) (some (.no,p20.2))) λp22=>bnd (gd v14 true (bnd (N9 .eql p22.1 (iV 0)) λv23=>some (v23,p22.2)) (some (.no,p22.2))) λp24=>bnd (D1r v14 p24.1 (bV false)) λv25=>cnd v25 (bnd (B4 p24.2 (pV h.length 0)) λv26=>bnd (A3Z v26) λv27=>bnd (pW v27 3) λv28=>bnd (F9 p24.2 v28 (bV true)) λh29=>bnd (F9 h29 (pV ((h++[rT (c1)])++[rT (c2)]).length 0) (iV 12)) λh30=>bnd (B54 O7 v10 h30) λp31=>mp (B4 p31.2 (pV ((h++[rT (c1)])++[rT (c2)]).length 0)) λv=>(v,p31.2)) (bnd (B4 p24.2 (pV h.length 0)) λv32=>bnd (A3Z v32) λv33=>bnd (pW v33 2) λv34=>bnd (B4 p24.2 v34) λv35=>cnd v35 (bnd (B4 p24.2 (pV h.length 0)) λv36=>bnd (A3Z v36) λv37=>bnd (pW v37 1) λv38=>bnd (B4 p24.2 v38) λv39=>bnd (N9 .sub v39 (iV 1)) λv40=>bnd (A3Z v36) λv41=>bnd (pW v41 1) λv42=>bnd (F9 p24.2 v42 v40) λh43=>bnd (B4 h43 (pV h.length 0)) λv44=>bnd (A3Z v44) λv45=>bnd (pW v45 0) λv46=>bnd (B4 h43 v46) λv47=>bnd (C8 h43 256 (pV (h++[rT (c1)]).length 0)) λv48=>bnd (D6 256 v47 a1) λv49=>bnd (E1 (h43++[]) 256 v49 v48) λh50=>bnd (F9 h50 (pV ((h++[rT (c1)])++[rT (c2)]).length 0) (iV 0)) λh51=>bnd (B54 O7 v10 h51) λp52=>mp (B4 p52.2 (pV ((h++[rT (c1)])++[rT (c2)]).length 0)) λv=>(v,p52.2)) (bnd (B4 p24.2 (pV h.length 0)) λv53=>bnd (A3Z v53) λv54=>bnd (pW v54 0) λv55=>bnd (B4 p24.2 v55) λv56=>bnd (C8 p24.2 256 (pV (h++[rT (c1)]).length 0)) λv57=>bnd (D6 256 v56 a1) λv58=>bnd (E1 (p24.2++[]) 256 v58 v57) λh59=>bnd (F9 h59 (pV ((h++[rT (c1)])++[rT (c2)]).length 0) (iV 0)) λh60=>bnd (B54 O7 v10 h60) λp61=>mp (B4 p61.2 (pV ((h++[rT (c1)])++[rT (c2)]).length 0)) λv=>(v,p61.2)))):=by kernel_rfl
def fD:FD Tryz.prog:=⟨px 0X1a21fa564c439c5607c61c564c639c61c1818,[],[],[],[]⟩
def zX:=fD.R
def A7m:=mR zX fD (tT []) n [a0] h
def B2G:=fD.K Tryz.func240
def V1:=fD.Q
theorem A5m:D6x Tryz.prog 240 V1:=D4M (D4x _) Tryz.func240 (by kernel_rfl)
theorem A7p:OfT zX V1:=B2G.of
def B7c:DFn:=⟨[([1,2,4],(.ops [aB 2 0,aO 4 (.alloc (E3Q 256 (.i .u8 0))),aO 5 (.mv (.v (iV 0)))])),([1,2,4],(sO [1,2,4,5] [aL 6 2,aM 7 1,aO 8 (.call 238 [(.t 6),(.t 7)]),aM 5 8] (sO [1,2,4,5,10] [aM 9 5,aO 10 (.bin .neq (.t 9) (.v (iV 0)))] (.cond (.t 10) (sO [4,5] [aL' 11 256 4,aM 12 5,aN (.storeN 256 (.t 4) (.t 11)),aM 5 12] .ret) .skip))))],[1,2,4],13,240,[(.t 2)],(sO [4,5] [aL 14 2,aO 15 (.nilc (.t 14)),aF 16 15 0,aL 17 16,aM 18 1,aO 19 (.iAddrL 256 (.t 17) (.t 18)),aL' 20 256 19,aN (.storeN 256 (.t 4) (.t 20)),aO 5 (.mv (.v (iV 0)))] .ret),[.cellN 4 256,.tmp 5]⟩
def B7d:N1:=D7e 238 Y6 D1S
def sN:Fun:=B7c.run B7d V1 0
theorem B1d:SOk Tryz.prog 206 sN:=D65 (D37 A0k D36) A5m Tryz.func206 (by kernel_rfl)
theorem B1c:sN [a0,a1] h=bnd (cells? a0) λc1=>bnd (B4 ((h++[rT (c1)])++[rT (E3Q 256 (.i .u8 0))]) (pV h.length 0)) λv2=>bnd (Y6 [v2,a1] ((h++[rT (c1)])++[rT (E3Q 256 (.i .u8 0))])) λp3=>bnd (N9 .neq p3.1 (iV 0)) λv4=>cnd v4 (bnd (C8 p3.2 256 (pV (h++[rT (c1)]).length 0)) λv5=>bnd (E1 p3.2 256 (pV (h++[rT (c1)]).length 0) v5) λh6=>C6D [C8 h6 256 (pV (h++[rT (c1)]).length 0),some p3.1] h6) (bnd (B3V 240 [(pV h.length 0)]) λv7=>bnd (B4 p3.2 (pV h.length 0)) λv8=>bnd (A3Z v8) λv9=>bnd (pW v9 0) λv10=>bnd (B4 p3.2 v10) λv11=>bnd (D6 256 v11 a1) λv12=>bnd (C8 p3.2 256 v12) λv13=>bnd (E1 p3.2 256 (pV (h++[rT (c1)]).length 0) v13) λh14=>bnd (B54 V1 v7 h14) λp15=>C6D [C8 p15.2 256 (pV (h++[rT (c1)]).length 0),some (iV 0)] p15.2):=by kernel_rfl
def iJ:FD Tryz.prog:=⟨px 0X1582162e4883cc61c064c639c0000048853fd72120148823b91212240688002402201348823b91012,[],[.eqN false false (.t 3)],[.tmp 2],[]⟩
def pE:=iJ.R
def A7N:=mR pE iJ (tT []) n [a0] h
def A1w:=iJ.K Tryz.func84
def pL:=iJ.S
theorem A8j:SOk Tryz.prog 84 pL:=A1w.sok
theorem A7o:qT pE pL:=A1w.out
end
end Go.Proofs.YtbnkgnfhgbhblaaGreat
namespace Go.Proofs.YtbnkgnfhgbhblaaGreat
open Go Go.Esc
section
def dkC (q len:Nat) (w r:Int):List Cell:=[.sl q 0 len 256,o0,.b false,.b false,.i .i64 w,.i .i64 r]
structure IsDk (h:A6) (p q:Nat) (D:Dev) (w r:Int):Prop where
 ne:p≠q
 row:rd h p=rT (dkC q D.length w r)
 blk:rd h q=rT (D4 D)
def But (p q:Nat) (h h':A6):Prop:=h.length<=h'.length/\∀ id,id<h.length->id≠p->id≠q->rd h' id=rd h id
theorem But.refl (p q:Nat) (h:A6):But p q h h:=⟨E3T _,λ_ _ _ _=>rfl⟩
theorem But.trans {p q:Nat} {h h' h'':A6} (a:But p q h h') (b:But p q h' h''):But p q h h'' :=
 ⟨E4t a.1 b.1,λid hid h1 h2=>(b.2 id (by have:=a.1;omega) h1 h2).trans (a.2 id hid h1 h2)⟩
theorem But.more {p q:Nat} {h h':A6} (a:But p q h h') (t:A6):But p q h (h'++t) :=
 ⟨by have:=a.1;simp;omega,λid hid h1 h2=>by rw [D1 (by have:=a.1;omega)];exact a.2 id hid h1 h2⟩
theorem But.set {p q id:Nat} {h h':A6} {x:Option Row} (a:But p q h h') (hid:h.length<=id\/id=p\/id=q):But p q h (h'.set id x) :=
 ⟨by simpa using a.1,λj hj h1 h2=>by rw [A7 (by omega)];exact a.2 j hj h1 h2⟩
theorem IsDk.more {h:A6} {p q:Nat} {D:Dev} {w r:Int} (k:IsDk h p q D w r) (t:A6):IsDk (h++t) p q D w r:=⟨k.ne,B7 k.row,B7 k.blk⟩
theorem IsDk.setO {h:A6} {p q id:Nat} {D:Dev} {w r:Int} {x:Option Row} (k:IsDk h p q D w r) (h1:id≠p) (h2:id≠q):IsDk (h.set id x) p q D w r :=
 ⟨k.ne,by rw [A7 h1];exact k.row,by rw [A7 h2];exact k.blk⟩
theorem IsDk.ro {h:A6} {p q:Nat} {D:Dev} {w r:Int} (k:IsDk h p q D w r):rd (ro h) p=some ⟨dkC q D.length w r,false⟩/\rd (ro h) q=some ⟨D4 D,false⟩:=by
 have e1:(Row.mk (dkC q D.length w r) true).head=false:=rfl;refine ⟨B60 k.row e1,B60 k.blk ?_⟩;cases hD:D4 D with
 | nil=>rfl
 | cons c l =>
  have:=fS D;rw [hD] at this;cases c<;>first | rfl | (simp [noX,Cell.isX] at this)
theorem D1R {N:Nat} {h:A6} (h1:16<=N) (h2:N<=512):B28 [iV (N:Int)] h=some (pV (h.length+1) 0,h++[rT (D4 (E3Q N (zeros 256))),rT (dkC h.length N 0 0)]):=by
 refine C65 (n:=0) ?_;have m1:B5Z (iV (N:Int)) (iV 512)=some (iV (N:Int)):=by simp only [B5Z];simp;omega
 have m2:C4C (iV 16) (iV (N:Int))=some (iV (N:Int)):=by simp only [C4C];simp;omega
 have mk:=D6H (N:=N) (by omega);have ef:D9 [.ns,o0,.b false,.b false,o0,o0] [(0,1,sV h.length 0 N 256)]=some (dkC h.length N 0 0):=rfl;rw [C6I];simp only [esc,m1,m2,mk,ef,D2K]
section
variable {h:A6} {p q:Nat} {D:Dev} {w r:Int}
theorem B59 (k:IsDk h p q D w r):sP [pV p 0] h=some (iV (D.length:Nat),h):=by
 have l0:B4 (ro h) (pV p 0)=some (sV q 0 D.length 256):=B5 k.ro.1 rfl rfl;have key:sJ 0 [pV p 0] (ro h)=some (iV (D.length:Nat),ro h):=by
  rw [B07];simp only [esc,l0]
 exact A7q key rfl
theorem C0B {no:Nat} (k:IsDk h p q D w r) (bH:no<D.length):Y6 [pV p 0,iV (no:Int)] h=some (iV 0,h):=by
 have l0:B4 (ro h) (pV p 0)=some (sV q 0 D.length 256):=B5 k.ro.1 rfl rfl;have l3:B4 (ro h) (pV p 3)=some (bV false):=B5 k.ro.1 rfl rfl;have c0:¬ (no:Int)<0:=by omega
 have c1:¬ (no:Int)>=(D.length:Nat):=by omega
 have key:wF 0 [pV p 0,iV (no:Int)] (ro h)=some (iV 0,ro h):=by
  rw [B2I];simp only [esc,Nat.reduceAdd,l0,l3,c0,c1]
 exact A8m key rfl
theorem C2a {a b:Nat} (k:IsDk h p q D w r) (ha:rd h a=rT [o0]) (hb:rd h b=rT [.p p 0]) (hw:0<=w/\w<1000) :
  O7 [pV a 0,pV b 0] h=some (.t [],h.set p (rT (dkC q D.length (w+1) r))):=by
 refine A5n (n:=0) ?_;have l1:B4 h (pV a 0)=some (iV 0):=B5 ha rfl rfl;have l2:B4 h (pV b 0)=some (pV p 0):=B5 hb rfl rfl;have l3:B4 h (pV p 4)=some (iV w):=B5 k.row rfl rfl;have s1:F9 h (pV p 4) (iV (w+1))=some (h.set p (rT (dkC q D.length (w+1) r))):=by rw [E9 k.row (by simp [dkC])];rfl
 have ww:IntKind.wrap .i64 (w+1)=w+1:=wrap_i64 (by omega) (by omega);rw [A4Z];simp only [esc,Nat.reduceAdd,l1,l2,l3,ww,s1];rfl
theorem A3j {no:Nat} {b:List UInt8} (k:IsDk h p q D w r) (hD:okD D) (hb:b.length=256) (bH:no<D.length) (hw:0<=w/\w<1000) :
  ∃ h',pM [pV p 0,iV (no:Int),.a (A5 b)] h=some (iV 0,h')/\IsDk h' p q (D.set no b) (w+1) r/\But p q h h':=by
 have kp:=C4 k.row;have kq:=C4 k.blk;obtain ⟨G,hG⟩:∃ G,G=h++[rT [.p p 0],rT (A5 b),rT [o0]]:=⟨_,rfl⟩;have kG:IsDk G p q D w r:=by rw [hG];exact k.more _
 have lG:G.length=h.length+3:=by rw [hG];simp
 have r0:rd G h.length=rT [.p p 0]:=by rw [hG,F8];rfl
 have r1:rd G (h.length+1)=rT (A5 b):=by rw [hG,M9];rfl
 have r2:rd G (h.length+2)=rT [o0]:=by rw [hG,M9];rfl
 have hm:=C0B kG bH;have l0:B4 G (pV h.length 0)=some (pV p 0):=B5 r0 rfl rfl;have lb:C8 G 256 (pV (h.length+1) 0)=some (.a (A5 b)):=B8 r1 (by rw [A4,hb]);have l2:B4 G (pV (h.length+2) 0)=some (iV 0):=B5 r2 rfl rfl;have s2:F9 G (pV (h.length+2) 0) (iV 0)=some G:=by
  rw [E9 r2 (by simp),hG];simp
 have d0:B4 G (pV p 0)=some (sV q 0 D.length 256):=B5 kG.row rfl rfl;have d2:B4 G (pV p 2)=some (bV false):=B5 kG.row rfl rfl;have ad:D6 256 (sV q 0 D.length 256) (iV (no:Int))=some (pV q (no*256)):=by rw [C5 bH];simp
 have sd:E1 G 256 (pV q (no*256)) (.a (A5 b))=some (G.set q (rT (D4 (D.set no b)))):=B02 kG.blk hD hb bH;have n2:h.length+2≠q:=by omega
 have n2p:h.length+2≠p:=by omega
 obtain ⟨H,hH⟩:∃ H,H=G.set q (rT (D4 (D.set no b))):=⟨_,rfl⟩;have kH:IsDk H p q (D.set no b) w r:=by
  rw [hH];refine ⟨k.ne,?_,?_⟩
  ·rw [A7 (Ne.symm k.ne),E4o];exact kG.row
  ·rw [B6 (by omega)]
 have q0:rd H h.length=rT [.p p 0]:=by rw [hH,A7 (by omega)];exact r0
 have q2:rd H (h.length+2)=rT [o0]:=by rw [hH,A7 (by omega)];exact r2
 have s3:F9 H (pV (h.length+2) 0) (iV 0)=some H:=by
  rw [E9 q2 (by simp)];have:H.set (h.length+2) (rT ([o0].set 0 o0))=H:=by
   rw [rd_some] at q2;refine E4I λi=>?_
   rw [List.getElem?_set];split
   ·rename_i e;subst e;have hl:=(List.getElem?_eq_some_iff.1 q2).1;rw [if_pos hl,q2];rfl
   ·rfl
  rw [this]
 have hW:=C2a kH q2 q0 hw;have hcd:B54 O7 (.c (.f 239 [(h.length+2,0),(h.length,0)])) H=some (.t [],H.set p (rT (dkC q (D.set no b).length (w+1) r))):=hW;have l4:B4 (H.set p (rT (dkC q (D.set no b).length (w+1) r))) (pV (h.length+2) 0)=some (iV 0):=B5 (by rw [A7 (by omega)];exact q2) rfl rfl;refine ⟨H.set p (rT (dkC q (D.set no b).length (w+1) r)),?_,⟨k.ne,?_,?_⟩,?_⟩
 ·rw [A8k];have e1:cells? (pV p 0)=some [.p p 0]:=rfl;have e2:cells? (.a (A5 b))=some (A5 b):=rfl;have mf:B3V 239 [pV (h.length+2) 0,pV h.length 0]=some (.c (.f 239 [(h.length+2,0),(h.length,0)])):=rfl;simp only [e1,e2,Q4,E3U,E4l,E37,E3S,E3Z,E4h,E4b,Nat.reduceAdd,<-hG];simp only [esc,Nat.reduceAdd,l0,hm,s2,l2,mf,d0,d2,lb,ad,sd,<-hH,s3,hcd,l4]
 ·rw [B6 (by rw [hH];simp;omega)]
 ·rw [A7 k.ne];exact kH.blk
 ·refine But.set ?_ (.inr (.inl rfl));rw [hH];refine But.set ?_ (.inr (.inr rfl));rw [hG];exact (But.refl p q h).more _
theorem D0d {no:Nat} (k:IsDk h p q D w r) (hD:okD D) (bH:no<D.length) (hr:0<=r/\r<1000) :
  ∃ h',sN [pV p 0,iV (no:Int)] h=some (.t [.a (A5 D[no]),.c o0],h')/\IsDk h' p q D w (r+1)/\But p q h h':=by
 have kp:=C4 k.row;have kq:=C4 k.blk;obtain ⟨G,hG⟩:∃ G,G=h++[rT [.p p 0],rT (A5 (zeros 256))]:=⟨_,rfl⟩;have kG:IsDk G p q D w r:=by rw [hG];exact k.more _
 have lG:G.length=h.length+2:=by rw [hG];simp
 have r0:rd G h.length=rT [.p p 0]:=by rw [hG,F8];rfl
 have r1:rd G (h.length+1)=rT (A5 (zeros 256)):=by rw [hG,M9];rfl
 have hm:=C0B kG bH;have l0:B4 G (pV h.length 0)=some (pV p 0):=B5 r0 rfl rfl;have d0:B4 G (pV p 0)=some (sV q 0 D.length 256):=B5 kG.row rfl rfl;have ad:D6 256 (sV q 0 D.length 256) (iV (no:Int))=some (pV q (no*256)):=by rw [C5 bH];simp
 have ld:C8 G 256 (pV q (no*256))=some (.a (A5 D[no])):=by
  rw [cF kG.blk (by rw [I5 hD];omega) rfl,dR hD bH]
 have sb:E1 G 256 (pV (h.length+1) 0) (.a (A5 D[no]))=some (G.set (h.length+1) (rT (A5 D[no]))):=storeAll r1 (by rw [A4,zeros_length]) (by rw [A4,hD.at bH]);obtain ⟨H,hH⟩:∃ H,H=G.set (h.length+1) (rT (A5 D[no])):=⟨_,rfl⟩;have kH:IsDk H p q D w r:=by rw [hH];exact kG.setO (by omega) (by omega)
 have q0:rd H h.length=rT [.p p 0]:=by rw [hH,A7 (by omega)];exact r0
 have q1:rd H (h.length+1)=rT (A5 D[no]):=by rw [hH,B6 (by omega)]
 have ww:IntKind.wrap .i64 (r+1)=r+1:=wrap_i64 (by omega) (by omega);have h1:V1 [pV h.length 0] H=some (.t [],H.set p (rT (dkC q D.length w (r+1)))):=by
  refine A7p (n:=0) ?_;have l1:B4 H (pV h.length 0)=some (pV p 0):=B5 q0 rfl rfl;have l3:B4 H (pV p 5)=some (iV r):=B5 kH.row rfl rfl;have s1:F9 H (pV p 5) (iV (r+1))=some (H.set p (rT (dkC q D.length w (r+1)))):=by rw [E9 kH.row (by simp [dkC])];rfl
  rw [A7m];simp only [esc,Nat.reduceAdd,l1,l3,ww,s1];rfl
 have hcd:B54 V1 (.c (.f 240 [(h.length,0)])) H=some (.t [],H.set p (rT (dkC q D.length w (r+1)))):=h1;have l4:C8 (H.set p (rT (dkC q D.length w (r+1)))) 256 (pV (h.length+1) 0)=some (.a (A5 D[no])):=B8 (by rw [A7 (by omega)];exact q1) (by rw [A4,hD.at bH]);refine ⟨H.set p (rT (dkC q D.length w (r+1))),?_,⟨k.ne,?_,?_⟩,?_⟩
 ·rw [B1c];have e1:cells? (pV p 0)=some [.p p 0]:=rfl;have mf:B3V 240 [pV h.length 0]=some (.c (.f 240 [(h.length,0)])):=rfl;have ez:E3Q 256 (Cell.i .u8 0)=A5 (zeros 256):=I3 256;simp only [e1,ez,Q4,E3U,E4l,E37,E3S,E3Z,E4h,E4b,Nat.reduceAdd,<-hG];simp only [esc,Nat.reduceAdd,l0,hm,mf,d0,ad,ld,sb,<-hH,hcd,l4,D4S]
 ·rw [B6 (by rw [hH];simp;omega)]
 ·rw [A7 k.ne];exact kH.blk
 ·refine But.set ?_ (.inr (.inl rfl));rw [hH];refine But.set ?_ (.inl (by omega));rw [hG];exact (But.refl p q h).more _
theorem C7z (k:IsDk h p q D w r) (hD:okD D) (hl:D.length<=512):pL [pV p 0] h=some (sV h.length 0 D.length 256,h++[rT (D4 D)]):=by
 obtain ⟨G,hG⟩:∃ G,G=ro h++[rT [],rT []]:=⟨_,rfl⟩;have d0:B4 G (pV p 0)=some (sV q 0 D.length 256):=by rw [hG];exact B5 (B7 k.ro.1) rfl rfl
 have hQ:Has G (sV q 0 D.length 256) 256 D.length (D4 D):=by
  rw [hG];exact Has.row (B7 k.ro.2) (I5 hD) (fS D)
 have rI:rd G ((ro h).length+1)=rT []:=by rw [hG,M9];rfl
 have ho:Out (ro h).length G (sV ((ro h).length+1) 0 0 256) 256 0 []:=⟨rfl,(ro h).length+1,rfl,by omega,rI⟩;obtain ⟨id,v',h',e1,e2,e3,_⟩:=ho.app (m:=D.length) (by omega) hQ.add (by rw [I5 hD]) (by omega);have key:pE 0 [pV p 0] (ro h)=some (v',h'):=by
  rw [A7N];have ef:D9 [] []=some []:=rfl;simp only [E3U,E4l,E37,E3S,E3Z,E4h,E4b,Nat.reduceAdd,ef,Q4,<-hG];simp only [esc,Nat.reduceAdd,d0,e2]
 rw [E4b,E37] at e3;exact A7o key (by rw [E7] at e3;exact e3) fN
end
end
end Go.Proofs.YtbnkgnfhgbhblaaGreat
namespace Go.Proofs.YtbnkgnfhgbhblaaGreat
open Go Go.Esc
set_option maxRecDepth 100000
noncomputable section
variable (n m m2:Nat) (a0:Val) (h:A6)
def A1b:FD Tryz.prog:=⟨px 0X1482162ec26881688051521201321121224068800240220133211012,[.c .np],[.eqN false false (.t 3),.mkMap,.build ([.np,.nm,.ns,o0]) [(0,1,(.t 5)),(1,1,(.t 6))]],[.tmp 2],[]⟩
def B9U:=A1b.R
def C2X:=mR B9U A1b (tT []) n [a0] h
def B9m:=A1b.K Tryz.func207
def A8e:=A1b.Q
theorem C3E:SOk Tryz.prog 207 A8e:=B9m.ok
theorem C3D:OfT B9U A8e:=B9m.of
end
noncomputable section
variable (n m m2:Nat) (a0 a1 x0 x3 x5 x7 x8:Val) (h:A6)
def W1:FD Tryz.prog:=⟨px 0X13fc41611a351ac2c4883807d14412013e8415802412241637c587a127b1a50423cc1a162a2e351ac26171ac6161ac1c338021ac06c150191a50335023298715607c3c4913180139c414c02412241637c4c69126a1975306238819161a1e351ac48488383c00051975305206484881de12e6802a5b692d84f1611a341ac513511191033b3e84848858397182461e27c5607c021ac3c4b144e18753062187530511a1c182d9118753052157530430702461e17c6131ac1c3383c3d14487530527530437530406051e8715607c023b1ad37530425303301194114122461e37c161c01c4c6111ac02e140193a530435303301541141224631e2a81634c7f6e4c3600688028162d53042530337c07824881de1c52d912a6801e1e696c1b16101ac4e31c391865304210432ed23022,[.c (.b true)],[.eqN false false (.t 16)],[.tmp 4],[cal A82,cal xI,cal A2X,cal A0q,cal A6L,cal A8l,cal B1S,cal A6D]⟩
def A75:=W1.R
def C2n:AtH:=W1.lj 0 n [m] [x0,x3,x5,x7]
def C2m:AtH:=W1.lj 1 n [m] [x0,x3,x5,x7,x8]
def A0z:=tT [⟨2,4,C2n⟩,⟨2,5,C2m⟩]
def B5e:=mR A75 W1 A0z n [a0,a1] h
def A01:=mL W1 A0z 0 n [m] [x0,x3,x5,x7] h
def B4t:=mJ W1 A0z 1 n [m] [x0,x3,x5,x7,x8] h
def A7J:=W1.K Tryz.func155
def A0w:=W1.Q
theorem B5K:SOk Tryz.prog 155 A0w:=A7J.ok
theorem B5J:OfT A75 A0w:=A7J.of
def uF:FD Tryz.prog:=⟨px 0X1102a82162ec268841068e383386131ac03f141193223016d03212322224673a2a861e3687f2612681af06836681f038684f601637c2c2e170193e603360231ac511a8231de2a62d912a6801e2c6919c2916111ac7a4882a3918650320118803215e033222241637c4e1e121f5404240236c06824881de1c42d912a6801e1c695c19116201ac01a11854032015032123222240688071218022013103212012,[.c .np,.c (.b true)],[.eqN false false (.t 7),.mkMap,.build ([.np,o0,o0,.i .u64 0,o0,.nm]) [(0,1,(.t 32)),(1,3,(.t 33)),(5,1,(.t 34))]],[.tmp 2,.tmp 3],[cal B1d,cal A80,cal xI,cal C3E]⟩
def B1N:=uF.R
def B7I:=mR B1N uF (tT []) n [a0] h
def B1G:=uF.K Tryz.func156
def A3a:=uF.Q
theorem B8E:SOk Tryz.prog 156 A3a:=B1G.ok
theorem B8D:OfT B1N A3a:=B1G.of
end
noncomputable section
variable (n m m2:Nat) (a0:Val) (h:A6)
def xS:FD Tryz.prog:=⟨px 0X11ac01a8212c0282c14322219c01985112a6801e2a6918c1f16121ac6a28175422013078215a033222241637c61a211ac43383a1a141d4224134c416101ac61c0474d44122303062ec3112,[.c .np],[],[.tmp 2,.tmp 3],[cal C66,cal B5K,cal B8E]⟩
def B40:=xS.R
def C1e:=mR B40 xS (tT []) n [a0] h
def B4F:=xS.K Tryz.func83
def A5o:=xS.Q
theorem A6F:SOk Tryz.prog 83 A5o:=B4F.ok
theorem C1D:OfT B40 A5o:=B4F.of
end
noncomputable section
variable (n m m2:Nat) (h:A6)
def A4J:FD Tryz.prog:=⟨px 0X12631de49111891022a3e820122a02d91012,[],[],[.cellN 0 3],[]⟩
def B2J:=A4J.R
def C6J:=mR B2J A4J (tT []) n [] h
def C2y:=A4J.K Tryz.func39
def B29:=A4J.S
theorem C68:SOk Tryz.prog 39 B29:=C2y.sok
theorem C1E:E5 B2J B29:=C2y.flat
end
noncomputable section
variable (n m m2:Nat) (a0:Val) (h:A6)
def kR:FD Tryz.prog:=⟨px 0X15c216111ac3e1a132124c0483112a6801e18693c516101ac4363973124883b862ec2112,[],[],[.tmp 2],[cal A6F,cal A8j]⟩
def sK:=kR.R
def B08:=mR sK kR (tT []) n [a0] h
def A3J:=kR.K Tryz.func38
def sQ:=kR.S
theorem B1e:SOk Tryz.prog 38 sQ:=A3J.sok
theorem A8n:qT sK sQ:=A3J.out
end
end Go.Proofs.YtbnkgnfhgbhblaaGreat
namespace Go.Proofs.YtbnkgnfhgbhblaaGreat
open Go Go.Esc
def map40:List UInt8:=oM [0,1,2]
def tab40:List UInt8:=I6 (zeros 256) (32*0) (fO 2 1 0 1 (zI 7))
def D40a:Dev:=(E3Q 16 (zeros 256)).set 2 tab40
def D40b:Dev:=D40a.set 1 map40
def D40:Dev:=D40b.set 0 (iE 16 8 0)
theorem B6H:map40.length=256:=by unfold map40 oM;rw [lM,zeros_length]
theorem yX:tab40.length=256:=by decide +kernel
theorem okD40a:okD D40a:=(B9b 16).set yX
theorem okD40b:okD D40b:=okD40a.set B6H
theorem okD40:okD D40:=okD40b.set T2
theorem D9f:D40a.length=16:=by unfold D40a;rw [E4o,E4g]
theorem D9g:D40b.length=16:=by unfold D40b;rw [E4o,D9f]
theorem fQ:D40.length=16:=by unfold D40;rw [E4o,D9g]
theorem C9h {h t:A6} {v:Val} (hn:t.all B2q=true):quiet h (some (v,h++t))=some (v,h++t):=by
 have:=C9i (g:=h) (l:=[]) (l':=t) (v:=v) (List.nil_prefix) (by simpa using hn);simpa using this
theorem D7y (h:A6):B29 [] h=some (.a (D3 16 8 0),h):=by
 have key:∀ g,∃ g',B2J 0 [] g=some (.a (D3 16 8 0),g'):=λg=>by
  have ef:D9 [o0,o0,.i .u64 0] [(0,1,iV 16),(1,1,iV 8)]=some (D3 16 8 0):=rfl;have st:E1 (g++[rT [o0,o0,.i .u64 0]]) 3 (pV g.length 0) (.a (D3 16 8 0))=some (g++[rT (D3 16 8 0)]):=by rw [J0];rfl
  have ll:ldN (rT (D3 16 8 0)) 0 3=some (.a (D3 16 8 0)):=rfl;rw [C6J];generalize D3 16 8 0=L at *;exact ⟨_,by simp only [esc,ef,st,N2,ll]<;>rfl⟩
 obtain ⟨g',e⟩:=key (ro h);exact C1E e rfl
theorem C2l {p q:Nat} {h:A6} (k:IsDk h p q (E3Q 16 (zeros 256)) 0 0) :
  ∃ h',A0w [pV p 0,.a (D3 16 8 0)] h=some (iV 0,h')/\IsDk h' p q D40 3 0/\But p q h h':=by
 have kp:=C4 k.row;have kq:=C4 k.blk;have hm:R9 16 8=true:=by decide
 have hp:=λh=>B68 (b:=16) (n:=8) (m:=0) (h:=h) (by omega) (by omega)
 simp only [hm,cond_true] at hp;have E1Q:∀ h,A1J [.a (D3 16 8 0)] h=some (iV 3,h):=λh=>yT
 have tG:=λh=>C0O (b:=16) (n:=8) (m:=0) (h:=h)
 have ed:(jU 16 8).toNat=3:=by decide
 rw [ed] at tG;have hT:∀ h,yI [.a (A5 (zeros 256)),iV 0,.a (E6 2 1 0 1 (zI 7))] h=some (.t [.a (A5 tab40),.c o0],h):=λh=>B2E (j:=0) (k:=2) (l:=1) (s:=0) (p:=1) (d:=zI 7) (b:=zeros 256) (h:=h) zeros_length rfl (by omega) (by decide)
 obtain ⟨G,hG⟩:∃ G,G=h++[rT (D3 16 8 0),rT (A5 (iE 16 8 0))]:=⟨_,rfl⟩;have lG:G.length=h.length+2:=by rw [hG];simp
 have kG:IsDk G p q (E3Q 16 (zeros 256)) 0 0:=by rw [hG];exact k.more _
 have r0:rd G h.length=rT (D3 16 8 0):=by rw [hG,F8];rfl
 have r1:rd G (h.length+1)=rT (A5 (iE 16 8 0)):=by rw [hG,M9];rfl
 obtain ⟨h1,w1,k1,b1⟩:=A3j (no:=2) (b:=tab40) (kG.more [rT (A5 tab40)]) (B9b 16) yX (by simp) (by omega);have x1:rd h1 h.length=rT (D3 16 8 0):=by rw [b1.2 _ (by simp;omega) (by omega) (by omega)];exact B7 r0
 have y1:rd h1 (h.length+1)=rT (A5 (iE 16 8 0)):=by rw [b1.2 _ (by simp;omega) (by omega) (by omega)];exact B7 r1
 have lh1:=b1.1;rw [E3S] at lh1;have kO:=k1.more [rT (encI (upto 3))];obtain ⟨h2,w2,k2,b2⟩:=A3j (no:=1) (b:=map40) kO okD40a B6H (by simp) (by omega);have y2:rd h2 (h.length+1)=rT (A5 (iE 16 8 0)):=by rw [b2.2 _ (by simp;omega) (by omega) (by omega)];exact B7 y1
 have lh2:=b2.1;rw [E3S] at lh2;obtain ⟨h3,w3,k3,b3⟩:=A3j (no:=0) (b:=iE 16 8 0) k2 okD40b T2 (by simp) (by omega);have hC:=B11 (v:=sV h1.length 0 3 1) (nv:=3) (l:=[0,1,2]) (h:=h1++[rT (encI (upto 3))]) (by decide) (by decide) (Has.tr (cs:=encI (upto 3)) (by simp) rfl rfl);have eC:oM [0,1,2]=map40:=rfl;rw [eC] at hC;refine ⟨h3,?_,k3,?_⟩
 ·refine B5J (n:=9) ?_;have hSz:=B59 kG;have lR:((E3Q 16 (zeros 256)).length:Int)=16:=rfl;rw [lR] at hSz;have eS:E1 (h++[rT (D3 16 8 0),rT (A5 (zeros 256))]) 256 (pV (h.length+1) 0) (.a (A5 (iE 16 8 0)))=some G:=by
   rw [storeAll (cs:=A5 (zeros 256)) (by rw [M9];rfl) (by rw [A4,zeros_length]) (by rw [A4,T2]),hG,qQ];rfl
  have l3:C8 (h++[rT (D3 16 8 0)]) 3 (pV h.length 0)=some (.a (D3 16 8 0)):=by rw [N2];rfl
  have g0:B4 G (pV h.length 0)=some (iV 16):=B5 r0 rfl rfl;have g3:C8 G 3 (pV h.length 0)=some (.a (D3 16 8 0)):=B8 r0 rfl;have ef:D9 [o0,o0,o0,o0,o0,o0,o0,o0,o0,o0,o0] [(0,1,iV 2),(1,1,iV 1),(3,1,iV 1)]=some (E6 2 1 0 1 (zI 7)):=rfl;have lz:C8 (G++[rT (A5 (zeros 256))]) 256 (pV G.length 0)=some (.a (A5 (zeros 256))):=B8 (by rw [F8];rfl) (by rw [A4,zeros_length]);have sz:E1 (G++[rT (A5 (zeros 256))]) 256 (pV G.length 0) (.a (A5 tab40))=some (G++[rT (A5 tab40)]):=by
   rw [storeAll (cs:=A5 (zeros 256)) (by rw [F8];rfl) (by rw [A4,zeros_length]) (by rw [A4,yX]),cH];rfl
  have lt:C8 (G++[rT (A5 tab40)]) 256 (pV G.length 0)=some (.a (A5 tab40)):=B8 (by rw [F8];rfl) (by rw [A4,yX]);have h13:C8 h1 3 (pV h.length 0)=some (.a (D3 16 8 0)):=B8 x1 rfl;have h26:C8 h2 256 (pV (h.length+1) 0)=some (.a (A5 (iE 16 8 0))):=B8 y2 (by rw [A4,T2]);have cl:cells? (.a (D3 16 8 0))=some (D3 16 8 0):=rfl;have c2:((2:Nat):Int)=2:=rfl;have c1:((1:Nat):Int)=1:=rfl;have c0:((0:Nat):Int)=0:=rfl;rw [c2] at w1;rw [c1] at w2;rw [c0] at w3;have wr2:IntKind.wrap .i64 (1+1)=2:=rfl;have wr3:IntKind.wrap .i64 (2+1)=3:=rfl;have n1:¬ (1:Int)=0:=by decide
  have l23:(2:Int)<3:=by decide
  have l33:¬ (3:Int)<3:=by decide
  have e4:G++[rT (A5 (zeros 256))]=G++[rT (A5 (zeros 256))]:=rfl;rw [B5e,I3];generalize A5 tab40=T at *;generalize A5 map40=M at *;generalize A5 (iE 16 8 0)=S at *;generalize hZ:A5 (zeros 256)=Z at *;generalize encI (upto 3)=U at *;generalize E6 2 1 0 1 (zI 7)=I at *;generalize D3 16 8 0=L at *;simp only [esc,Nat.reduceAdd,cl,l3,hp,eS,hSz,g0,vP,wr2];rw [A01,I3,hZ];simp only [esc,Nat.reduceAdd,g3,E1Q,l23,vP,wr2,lz,ef,hT,sz,lt,B4t,w1,wr3];rw [A01,I3,hZ];have hq:=C9h (h:=h1) (t:=[rT U]) (v:=sV h1.length 0 3 1) rfl;simp only [esc,Nat.reduceAdd,h13,E1Q,l33,vP,tG,hq,hC,w2,h26,w3]
 ·refine But.trans (h':=h1) ?_ (But.trans (h':=h2) ?_ b3)
  ·refine But.trans (h':=G++[rT (A5 tab40)]) ?_ b1;rw [hG];exact ((But.refl p q h).more _).more _
  ·refine But.trans (h':=h1++[rT (encI (upto 3))]) ((But.refl p q h1).more _) b2
theorem E2e:okS (iE 16 8 0)=true:=by decide +kernel
theorem E07:B88 (iE 16 8 0)=D3 16 8 0:=by decide +kernel
theorem C6u {p q:Nat} {h:A6} (k:IsDk h p q D40 3 0) :
  ∃ v h',A3a [.c (.p p 0)] h=some (.t [.c v,.c o0],h')/\IsDk h' p q D40 3 1:=by
 obtain ⟨h1,e1,k1,b1⟩:=D0d (no:=0) k okD40 (by rw [fQ];omega) (by omega);have kp:=C4 k1.row;have kq:=C4 k1.blk;have e0:D40[0]'(by rw [fQ];omega)=iE 16 8 0:=by unfold D40;rw [List.getElem_set_self]
 rw [e0] at e1;have hG:=λh=>A6p (b:=iE 16 8 0) (h:=h) T2
 rw [E2e,cond_true,E07] at hG;have c0:((0:Nat):Int)=0:=rfl;rw [c0] at e1;obtain ⟨T,hT⟩:∃ T:A6,T=[rT (A5 (iE 16 8 0)),rT (D3 16 8 0)]:=⟨_,rfl⟩;obtain ⟨H,hH⟩:∃ H,H=h1++T:=⟨_,rfl⟩;have kH:IsDk H p q D40 3 (0+1):=by rw [hH];exact k1.more _
 have lH:H.length=h1.length+2:=by rw [hH,hT];simp
 have hS:=B59 kH;have e16:(D40.length:Int)=16:=by rw [fQ];rfl
 rw [e16] at hS;have hN:∀ g,A8e [.c (.p p 0)] g=some (.c (.p (g.length+1) 0),g++[some (S3 []),rT [.p p 0,.m g.length,.ns,o0]]):=λg=>by
  refine C3D (n:=0) ?_;have ef:D9 [Cell.np,.nm,.ns,o0] [(0,1,.c (.p p 0)),(1,1,.c (.m g.length))]=some [.p p 0,.m g.length,.ns,o0]:=rfl;rw [C2X];simp only [esc,ef]
 have s1:E1 (h1++[rT (A5 (zeros 256))]) 256 (.c (.p h1.length 0)) (.a (A5 (iE 16 8 0)))=some (h1++[rT (A5 (iE 16 8 0))]):=by
  rw [storeAll (cs:=A5 (zeros 256)) (by rw [F8];rfl) (by rw [A4,zeros_length]) (by rw [A4,T2]),cH];rfl
 have l1:C8 (h1++[rT (A5 (iE 16 8 0))]) 256 (.c (.p h1.length 0))=some (.a (A5 (iE 16 8 0))):=B8 (by rw [F8];rfl) (by rw [A4,T2]);have s2:E1 (h1++[rT (A5 (iE 16 8 0)),rT [o0,o0,.i .u64 0]]) 3 (.c (.p (h1.length+1) 0)) (.a (D3 16 8 0))=some H:=by
  rw [storeAll (n:=3) (cs:=[o0,o0,.i .u64 0]) (by rw [M9];rfl) rfl rfl,qQ,hH,hT];rfl
 have l2:B4 H (.c (.p (h1.length+1) 0))=some (.c (.i .i64 16)):=B5 (cs:=D3 16 8 0) (rw:=true) (by rw [hH,hT,M9];rfl) rfl rfl;have l3:C8 H 3 (.c (.p (h1.length+1) 0))=some (.a (D3 16 8 0)):=B8 (by rw [hH,hT,M9];rfl) rfl;obtain ⟨H2,hH2⟩:∃ H2,H2=(H++[some (S3 []),some (S3 []),rT [.p p 0,.m (H.length+1),.ns,o0]])++[rT [.p (H.length+2) 0,.i .i64 16,.i .i64 8,.i .u64 0,o0,.m H.length]]:=⟨_,rfl⟩;refine ⟨.p (H.length+3) 0,H2,?_,by rw [hH2];exact (kH.more _).more _⟩
 ·refine B8D (n:=0) ?_;have hNH:=hN (H++[none]);have qs:(H++[none]).length+1=H.length+2:=by simp
  rw [qs] at hNH;have n1:¬ (0:Int)≠0:=by decide
  have ef:D9 [Cell.np,o0,o0,.i .u64 0,o0,.nm] [(0,1,.c (.p (H.length+2) 0)),(1,3,.a (D3 16 8 0)),(5,1,.c (.m H.length))]=some [.p (H.length+2) 0,.i .i64 16,.i .i64 8,.i .u64 0,o0,.m H.length]:=rfl;rw [B7I,I3];generalize A5 (iE 16 8 0)=S at *;generalize hZ:A5 (zeros 256)=Z at *;generalize D3 16 8 0=L at *;simp only [esc,Nat.reduceAdd,e1,s1,l1,hG,s2,l2,hS,eq_self];have hq:=C9h (h:=H++[none]) (t:=[some (S3 []),rT [.p p 0,.m (H++[none]).length,.ns,o0]]) (v:=.c (.p (H.length+2) 0)) (by simp [C5S,D5Y]);simp only [E3S,E3Z,E4h,E4b] at hq hNH;simp only [esc,Nat.reduceAdd] at hq hNH;simp only [esc,Nat.reduceAdd,hNH,hq,l3,ef,cH,qQ,hH2]
theorem D3b {h:A6}:∃ p q v h',A5o [.a (D3 16 8 0)] h=some (.t [.c (.p p 0),.c v],h')/\IsDk h' p q D40 3 1/\h.length<=q/\h.length<=p:=by
 obtain ⟨G,hG⟩:∃ G,G=h++[rT (D3 16 8 0)]:=⟨_,rfl⟩;have lG:G.length=h.length+1:=by rw [hG];simp
 have hN:=D1R (N:=16) (h:=G) (by omega) (by omega);obtain ⟨H,hH⟩:∃ H,H=G++[rT (D4 (E3Q 16 (zeros 256))),rT (dkC G.length 16 0 0)]:=⟨_,rfl⟩;rw [<-hH] at hN;have kH:IsDk H (G.length+1) G.length (E3Q 16 (zeros 256)) 0 0:=by
  refine ⟨by omega,?_,?_⟩
  ·rw [hH,M9];rfl
  ·rw [hH,F8];rfl
 obtain ⟨h1,e1,k1,b1⟩:=C2l kH;obtain ⟨v,h2,e2,k2⟩:=C6u k1;refine ⟨G.length+1,G.length,v,h2,?_,k2,by omega,by omega⟩;refine C1D (n:=0) ?_;have l0:B4 G (pV h.length 0)=some (iV 16):=B5 (cs:=D3 16 8 0) (rw:=true) (by rw [hG,F8];rfl) rfl rfl;have l3:C8 H 3 (pV h.length 0)=some (.a (D3 16 8 0)):=B8 (by rw [hH];refine B7 ?_;rw [hG,F8];rfl) rfl;have cl:cells? (.a (D3 16 8 0))=some (D3 16 8 0):=rfl;have c16:((16:Nat):Int)=16:=rfl;rw [c16] at hN;rw [C1e];generalize D3 16 8 0=L at *;simp only [esc,cl,<-hG,l0,hN,l3,e1,eq_self,e2]
theorem D0j (h:A6):sQ [.a (D3 16 8 0)] h=some (sV h.length 0 16 256,h++[rT (D4 D40)]):=by
 have key:∀ g,∃ v g',sK 0 [.a (D3 16 8 0)] g=some (v,g')/\Out g.length g' v 256 16 (D4 D40):=λg=>by
  obtain ⟨G,hG⟩:∃ G,G=g++[rT (D3 16 8 0),rT []]:=⟨_,rfl⟩;have lG:G.length=g.length+2:=by rw [hG];simp
  obtain ⟨p,q,v,h',e1,k,_,_⟩:=D3b (h:=G);have hI:=C7z k okD40 (by rw [fQ];omega);have l3:C8 G 3 (pV g.length 0)=some (.a (D3 16 8 0)):=B8 (by rw [hG,F8];rfl) rfl;have cl:cells? (.a (D3 16 8 0))=some (D3 16 8 0):=rfl;have hl:G.length<=h'.length:=(A6F _ _ _ _ e1).2.2;refine ⟨sV h'.length 0 16 256,h'++[rT (D4 D40)],?_,by rw [I5 okD40,fQ],h'.length,rfl,by omega,S9⟩;have ll:D40.length=16:=fQ;rw [ll] at hI;rw [B08];generalize D3 16 8 0=L at *;simp only [esc,cl,<-hG,l3,e1,hI]
 obtain ⟨v,g',e,ho⟩:=key (ro h);exact A8n e (by rw [E7] at ho;exact ho) fN
theorem C80 {v u:Val} {nv nu:Nat} {l r:List Int} {h:A6} (hv:Has h v 1 nv (encI l)) (hu:Has h u 1 nu (encI r)) (hlr:l.length=r.length) (hl:l.length<9223372036854775807) {k:Nat}:∀ d i m,i+d=l.length->d<m ->
  B6j k m v u (iV i) h=some (bV (decide (l.drop i=r.drop i)),h)
 | d,i,0,_,hm=>by omega
 | 0,i,m+1,hi,hm=>by
  have hnv:l.length=nv:=by simpa [A8] using hv.length
  have e1:l.drop i=[]:=E32 (by omega);have e2:r.drop i=[]:=E32 (by omega);have h1':¬ (i:Int)<l.length:=by omega
  rw [A6W];simp only [esc,hv.len,<-hnv,h1',e1,e2]
 | d+1,i,m+1,hi,hm=>by
  have ih:=C80 hv hu hlr hl (k:=k) d (i+1) m (by omega) (by omega);have hnv:l.length=nv:=by simpa [A8] using hv.length
  have hnu:r.length=nu:=by simpa [A8] using hu.length
  have hlen:=hv.len;obtain ⟨id,off,rfl,hid,h1,h2⟩:=hv.sl (by omega);obtain ⟨fX,off',rfl,E2W,h1',h2'⟩:=hu.sl (by omega);have hx:=h1 i (.i .i64 l[i]) (by rw [F0,E3P (by omega)];rfl);have hy:=h1' i (.i .i64 r[i]) (by rw [F0,E3P (by omega)];rfl);have ea:D6 1 (sV id off nv 1) (iV (i:Int))=some (pV id (off+i)):=by rw [C5 (by omega)];simp
  have eb:D6 1 (sV fX off' nu 1) (iV (i:Int))=some (pV fX (off'+i)):=by rw [C5 (by omega)];simp
  have c1:(i:Int)<nv:=by omega
  rw [A6W,E3V (by omega:i<l.length),E3V (by omega:i<r.length)];by_cases c:l[i]=r[i]
  ·simp only [esc,c1,ea,eb,hx,hy,c,C6 (show i+1<9223372036854775808 by omega),List.cons.injEq,true_and];exact ih
  ·simp only [esc,c1,ea,eb,hx,hy,c,List.cons.injEq,false_and]
theorem A3z {v u:Val} {nv nu:Nat} {l r:List Int} {h:A6} (hv:Has h v 1 nv (encI l)) (hu:Has h u 1 nu (encI r)) (hl:l.length<9223372036854775807) :
  A8v [v,u] h=some (bV (decide (l=r)),h):=by
 refine B7V (n:=l.length+1) (h2:=ro h) ?_ (by simp);have hnv:l.length=nv:=by simpa [A8] using hv.length
 have hnu:r.length=nu:=by simpa [A8] using hu.length
 rw [C28];by_cases c:l.length=r.length
 ·have:=C80 hv.ro hu.ro c hl (k:=l.length+1) l.length 0 (l.length+1) (by omega) (by omega);simp only [E39] at this;have c':(nv:Int)=nu:=by omega
  simp only [esc,hv.len,hu.len,c'];exact this
 ·have c':¬ (nv:Int)=nu:=by omega
  have c2:¬ l=r:=λe=>c (by rw [e])
  simp only [esc,hv.len,hu.len,c',c2]
end Go.Proofs.YtbnkgnfhgbhblaaGreat
namespace Go.Proofs.YtbnkgnfhgbhblaaGreat
open Go Go.Esc
set_option maxRecDepth 100000
noncomputable section
variable (n m m2:Nat) (h:A6)
def xT:FD Tryz.prog:=⟨px 0X13c801364a2a811c968b364881c93b1964881c919b41c9364881c93b1964881c919b2c1c936006886488385648819840648838564881982c5911e01901301301101224671e2a81962619a1af28619a3b60672a2a861882bf56261881af2861883b60673a2a866a2bf61a256a1af51011116a3ff66a1f0286a4f60672a2a818963587f6581cb2c583601637c7e2a12f585132512318c5161a241ac6a6386e41f39454314278261de3e42d96131ac5e41d3944321426805c241de2e22d912a6801e1b69581816121ac419118321323c116111ac0061ad3112301102,[.c (.b false),.c (.b true)],[.eqA false (E3Q 256 (.i .u8)) (.t 43) (.t 46),.eqA false (E3Q 256 (.i .u8)) (.t 51) (.t 54)],[.tmp 0],[cal C68,cal B1e,cal B5M,cal B1O,cal A07,cal A8w,cal A6E]⟩
def A40:=xT.R
def C1f:=mR A40 xT (tT []) n [] h
def B4G:=xT.K Tryz.func11
def A5p:=xT.S
theorem C1F:SOk Tryz.prog 11 A5p:=B4G.sok
theorem B5p:E5 A40 A5p:=B4G.flat
end
end Go.Proofs.YtbnkgnfhgbhblaaGreat
namespace Go.Proofs.YtbnkgnfhgbhblaaGreat
open Go Go.Esc
theorem E0x:A9y D40=true:=by decide +kernel
theorem E0z:D0b D40=8:=by decide +kernel
theorem E0y:D1Q D40=0:=by decide +kernel
theorem D4Y:(P6 D40 8).row=[1]:=by decide +kernel
theorem E19:D3w D40 8 (P6 D40 8)=D40:=by decide +kernel
theorem B4u (h:A6):A5p [] h=some (bV true,h):=by
 have key:∀ g,∃ g',A40 0 [] g=some (bV true,g'):=λg=>by
  have hm:R9 D40.length 8=true:=by rw [fQ];decide
  have hF:=D0j g;obtain ⟨G,hG⟩:∃ G,G=g++[rT (D4 D40)]:=⟨_,rfl⟩;rw [<-hG] at hF;have hH:Has G (sV g.length 0 D40.length 256) 256 D40.length (D4 D40):=by rw [hG];exact Has.tr (by simp) (I5 okD40) (fS _)
  obtain ⟨f,t,hO,hV⟩:=C6F hH okD40 E0x (by rw [fQ];omega);obtain ⟨H,hHe⟩:∃ H,H=G++t:=⟨_,rfl⟩;rw [<-hHe,E0z,E0y] at hO;rw [<-hHe] at hV;have hH1:Has H (sV g.length 0 D40.length 256) 256 D40.length (D4 D40):=by rw [hHe];exact hH.more _
  have hS5:E1 (H++[rT [o0,o0,.i .u64 0,.nf]]) 4 (pV H.length 0) (.a (vwC D40.length 8 0 f))=some (H++[rT (vwC D40.length 8 0 f)]):=by rw [J0];rfl
  obtain ⟨K,hK⟩:∃ K,K=H++[rT (vwC D40.length 8 0 f)]:=⟨_,rfl⟩;rw [<-hK] at hS5;have l4:C8 K 4 (pV H.length 0)=some (.a (vwC D40.length 8 0 f)):=B8 (by rw [hK,F8];rfl) rfl;have rv:rd K H.length=rT (vwC D40.length 8 0 f):=by rw [hK,F8];rfl
  obtain ⟨cs,t2,hC,hI,_⟩:=C0t (h:=K) okD40 (by rw [hK];exact hV.more _) hm;obtain ⟨L,hL⟩:∃ L,L=K++t2:=⟨_,rfl⟩;rw [<-hL] at hC hI;have vQ:cs.length=6:=by obtain ⟨_,_,_,_,_,rfl,_⟩:=hI.form;rfl
  obtain ⟨M,hM⟩:∃ M,M=L++[rT cs]:=⟨_,rfl⟩;have hS6:E1 (L++[rT [.ns,.ns,.ns,.ns,.ns,o0]]) 6 (pV L.length 0) (.a cs)=some M:=by
   rw [storeAll (n:=6) (cs:=[.ns,.ns,.ns,.ns,.ns,o0]) (by rw [F8];rfl) rfl vQ,cH,hM];rfl
  have hIM:IsCl M cs (P6 D40 8):=by
   obtain ⟨xr,xi,xt,xb,xm,e,h1,h2,h3,h4,h5⟩:=hI.form;rw [hM];exact ⟨xr,xi,xt,xb,xm,e,h1.more _,h2.more _,h3.more _,h4.more _,h5.more _⟩
  have hVM:IsView M f D40:=by rw [hM,hL,hK];exact ((hV.more _).more _).more _
  have m4:C8 M 4 (pV H.length 0)=some (.a (vwC D40.length 8 0 f)):=B8 (by rw [hM,hL];exact B7 (B7 rv)) rfl;have m6:C8 M 6 (pV L.length 0)=some (.a cs):=B8 (by rw [hM,F8];rfl) vQ;have hIm:=C7x (m:=0) okD40 hVM hm hIM;rw [E19] at hIm;obtain ⟨N,hN⟩:∃ N,N=M++[rT (D4 D40)]:=⟨_,rfl⟩;rw [<-hN] at hIm;obtain ⟨xr,xi,xt,xb,xm,e,h1,_⟩:=hIM.form;rw [D4Y] at h1;have ef:D9 [o0] [(0,1,iV 1)]=some (encI [1]):=rfl;have n0:B4 N (pV L.length 0)=some (.c xr):=B5 (cs:=cs) (rw:=true) (by rw [hN,hM];refine B7 ?_;rw [F8];rfl) (by rw [e];rfl) rfl;have hQ:=A3z (h:=N++[rT (encI [1])]) (v:=.c xr) (nv:=1) (u:=sV N.length 0 1 1) (nu:=1) (l:=[1]) (r:=[1]) (by rw [hN];exact (h1.more _).more _) (Has.tr (by simp) rfl rfl) (by decide);obtain ⟨Q,hQe⟩:∃ Q,Q=N++[rT (encI [1])]:=⟨_,rfl⟩;rw [<-hQe] at hQ;have hIQ:IsCl Q cs (P6 D40 8):=by
   obtain ⟨xr,xi,xt,xb,xm,e,h1,h2,h3,h4,h5⟩:=hIM.form;rw [hQe,hN];exact ⟨xr,xi,xt,xb,xm,e,(h1.more _).more _,(h2.more _).more _,(h3.more _).more _,(h4.more _).more _,(h5.more _).more _⟩
  have q6:C8 Q 6 (pV L.length 0)=some (.a cs):=B8 (by rw [hQe,hN,hM];refine B7 (B7 ?_);rw [F8];rfl) vQ;have k1:=A3i (a:=1) hIQ (by rw [D4Y];decide);have k2:=A3i (a:=2) hIQ (by rw [D4Y];decide);rw [D4Y] at k1 k2;have d1:decide ((1:Int)∈[(1:Int)])=true:=by decide
  have d2:decide ((2:Int)∈[(1:Int)])=false:=by decide
  rw [d1] at k1;rw [d2] at k2;have hHQ:Has Q (sV g.length 0 D40.length 256) 256 D40.length (D4 D40):=by rw [hQe,hN,hM,hL,hK];exact ((((hH1.more _).more _).more _).more _).more _
  have hIH:Has Q (sV M.length 0 D40.length 256) 256 D40.length (D4 D40):=by rw [hQe,hN];exact (Has.tr (h:=M++[rT (D4 D40)]) (by simp) (I5 okD40) (fS _)).more _
  obtain ⟨_,_,e1,_,a1,b1⟩:=B6o (i:=1) hHQ okD40 (by rw [fQ];omega);cases e1;obtain ⟨_,_,e2,_,a2,b2⟩:=B6o (i:=2) hHQ okD40 (by rw [fQ];omega);cases e2;obtain ⟨_,_,e3,_,a3,b3⟩:=B6o (i:=1) hIH okD40 (by rw [fQ];omega);cases e3;obtain ⟨_,_,e4,_,a4,b4⟩:=B6o (i:=2) hIH okD40 (by rw [fQ];omega);cases e4;have q1:=D9Y (l:=D40[1]'(by rw [fQ];omega)) (m:=D40[1]'(by rw [fQ];omega)) (n:=256) (okD40.at _) (okD40.at _);have q2:=D9Y (l:=D40[2]'(by rw [fQ];omega)) (m:=D40[2]'(by rw [fQ];omega)) (n:=256) (okD40.at _) (okD40.at _);rw [decide_eq_true rfl] at q1 q2;rw [fQ] at hO a1 a2 a3 a4 hIm hS5 l4 hC m4;have c1:((1:Nat):Int)=1:=rfl;have c2:((2:Nat):Int)=2:=rfl;have c16:((16:Nat):Int)=16:=rfl;rw [c1] at a1 a3;rw [c2] at a2 a4;rw [c16] at hO hIm hS5 l4 hC m4;have dd:decide ([(1:Int)]=[1])=true:=by decide
  rw [dd] at hQ;rw [C1f];generalize A5 (D40[1]'(by rw [fQ];omega))=X1 at *;generalize A5 (D40[2]'(by rw [fQ];omega))=X2 at *;generalize vwC 16 8 0 f=V at *;exact ⟨Q,by simp only [esc,D7y,hF,hO,hS5,l4,hC,hS6,m4,m6,hIm,eq_self,c16,n0,ef,<-hQe,hQ,q6,k1,k2,a1,a2,a3,a4,b1,b2,b3,b4,q1,q2]⟩
 obtain ⟨g',e⟩:=key (ro h);exact B5p e rfl
end Go.Proofs.YtbnkgnfhgbhblaaGreat
namespace Go.Proofs.YtbnkgnfhgbhblaaGreat
open Go Go.Esc
set_option maxRecDepth 100000
noncomputable section
variable (n m m2:Nat) (a0 x7 x8 x9 x10 x11 x99:Val) (h:A6)
def O3:FD Tryz.prog:=⟨px 0X11aac21002cd1ad221219c81b15607c5c2af13180132112122462bc63a2191ac261c61a11985c061c4484c468861a4881985c061c43c2b94d1a0192cc1b18743551b187334702462a17c61c861c43c4c5c2aa152ae1b187421b187331b187336451011b187320318b81a15607c5828d1318013211212243688161c61a119858061c2484c61c61a119858061c23c28f4d1a0192a91a18743351a187332702462a17c61c861c23c4c582881528c1a187421a187331a187326251011a18732187236d81915607c4c1d9131801321121224674e2a823dc68b61a2183dc1af34c3dc363dc1f0483dc4f61a273dc1af4c3dc33c63dc3b60168861b3861a1b1984c061c1484c61b3861a1b1984c061c13c1db4d2a0191ff19187431519187330702462a17c61c861c13c4c4c1cc151d81918742191873319187316051191119187321872301321121224673a2a861e32fa7f62fa1f5482fa4f62fa1f53c2fa4f60674a2a862a32d87f62d81cb62d81f4482d84f62d81cb62d81f43c2d84f60673e2a862b82bf61e262b81af62b81f3482b84f62b81f33c2b84f60674a2a862a328e7f628e1cb628e1f24828e4f628e1cb628e1f23c28e4f60674a2a862a31ec7f61ec1cb61ec1f1481ec4f61ec1cb61ec1f13c1ec4f6062bc61e261ac61c0484c61c03c6c4d68181cb187301a1872339c2181de388661de23d12de3e072df61a251ac2c338006141ac1c45f39721918723012f821361a2a8001b91af60363a2a816219b7f619b1cb0619b58f61419b1af1c419b3b6006881627c2803801f21224671e2a81637a7f287a36062bc383b16486543062530331d801cc231de2a52d912a6801e39691c82e16131ac02f11865430521ac01a8241de2e32d912e6802a2c6919c2816121ac6111ac02911943032017c21001ac2212243e9657c61c801c131e0220133211012,[.c (.b false),.c (.b true)],[.eqB false (.t 33) (.t 35),.eqA true ([.i .i64,.i .i64,.i .i64,.i .i64,.i .i64,.i .i64,.i .i64,.i .i64,.i .i64,.i .i64,.i .i64]) (.t 111) (.t 116),.eqB true (.t 121) (.t 125),.eqB true (.t 139) (.t 144),.slA 256 1 (.t 156) none none],[.tmp 2],[cal C1F,cal C9Q,cal B5M,cal B79,cal B1O,cal C9X,cal A8w,cal A6E,cal A5r,cal dO]⟩
def zY:=O3.R
def C2b:AtH:=O3.lj 0 n [] [x7,x8,x99]
def A6Q:AtH:=O3.lj 1 n [m] [x7,x8,x9]
def wR:AtH:=O3.lj 2 n [m] [x7,x8,x10]
def wS:AtH:=O3.lj 3 n [m] [x7,x8,x11]
def jI:=tT [⟨1,3,C2b⟩,⟨2,3,A6Q⟩,⟨2,3,wR⟩,⟨2,3,wS⟩]
def B41:=mR zY O3 jI n [a0] h
def B39:=mJ O3 jI 0 n [] [x7,x8,x99] h
def A0J:=mL O3 jI 1 n [m] [x7,x8,x9] h
def A0K:=mL O3 jI 2 n [m] [x7,x8,x10] h
def A0L:=mL O3 jI 3 n [m] [x7,x8,x11] h
def A7C:=O3.K Tryz.func3
def A0l:=O3.S
theorem B5o:SOk Tryz.prog 3 A0l:=A7C.sok
theorem B1f:E5 zY A0l:=A7C.flat
end
end Go.Proofs.YtbnkgnfhgbhblaaGreat
namespace Go.Proofs.YtbnkgnfhgbhblaaGreat
open Go Go.Esc
section
section
variable {D:Dev} {n:Int} {P:Nat->Prop} {G:A6} {c:Cl} {cs cs':List Cell} {a b q:Nat}
theorem E0u (ra:rd G a=rT cs) (rb:rd G b=rT cs') (K1:IsCl G cs c) (K2:IsRC n P G cs' c) (R6:∀ x∈c.ino,x.length=11) (hlen:c.ino.length<=1000) (hrow:c.row.length<=1000) :
  ∀ e i M:Nat,i+e=c.ino.length->e<M->A6Q q M (pV a 0) (pV b 0) (iV (i:Int)) G=wR q q (pV a 0) (pV b 0) (iV 0) G:=by
 intro e
 induction e with
 | zero =>
  intro i M hi hM;obtain ⟨M,rfl⟩:∃ M',M=M'+1:=⟨M-1,by omega⟩;have ei:i=c.ino.length:=by omega
  subst ei;obtain ⟨xr,xi,xt,xb,xm,rfl,h1,h2,h3,h4,h5⟩:=K1.form;have l1:B4 G (pV a 1)=some (.c xi):=B5 ra rfl rfl;have al:=h2.len;have cL:¬ ((c.ino.length:Nat):Int)<(c.ino.length:Nat):=by omega
  rw [A0J];simp only [esc,l1,al,cL]
 | succ e ih =>
  intro i M hi hM;obtain ⟨M,rfl⟩:∃ M',M=M'+1:=⟨M-1,by omega⟩;have B85:i<c.ino.length:=by omega
  have E1N:=A3i (a:=(i:Int)) K1 hrow;obtain ⟨xr,xi,xt,xb,xm,rfl,h1,h2,h3,h4,h5⟩:=K1.form;obtain ⟨yr,yi,yt,yb,ym,yl,yy,ys,rfl,k⟩:=id K2;have l1:B4 G (pV a 1)=some (.c xi):=B5 ra rfl rfl;have m1:B4 G (pV b 1)=some (.c yi):=B5 rb rfl rfl;have m0:B4 G (pV b 0)=some (.c yr):=B5 rb rfl rfl;have l6:C8 G 6 (pV a 0)=some (.a [xr,xi,xt,xb,xm,.i .i64 c.lost]):=B8 ra rfl;have al:=h2.len;have c0:(i:Int)<(c.ino.length:Nat):=by omega
  have w1:=C6 (show i+1<9223372036854775808 by omega);obtain ⟨i1,o1,e1,_,_,hN1⟩:=h2.sl (by omega);cases e1;obtain ⟨i2,o2,e2,_,_,hN2⟩:=k.ino.sl (by omega);cases e2;have a1:D6 11 (sV i1 o1 c.ino.length 11) (iV (i:Int))=some (pV i1 (o1+i*11)):=C5 B85;have a2:D6 11 (sV i2 o2 c.ino.length 11) (iV (i:Int))=some (pV i2 (o2+i*11)):=C5 B85;have bJ:i*11+11<=(S6 c.ino).length:=by rw [U2 R6];omega
  have b1:=hN1 (i*11) 11 bJ;have b2:=hN2 (i*11) 11 bJ;rw [C5D R6 B85] at b1 b2;have l11:=R6 _ (E4u B85);have hq:aeq true [Sh.i .i64,.i .i64,.i .i64,.i .i64,.i .i64,.i .i64,.i .i64,.i .i64,.i .i64,.i .i64,.i .i64] (.a (encI c.ino[i])) (.a (encI c.ino[i]))=some (bV false):=by
   have:=D6F (l:=c.ino[i]) (m:=c.ino[i]) (n:=11) l11 l11;rw [decide_eq_true rfl] at this;exact this
  have qK:=U6 (h:=G) (h':=G) (v:=bV (decide ((i:Int)∈c.row))) Grows.rfl';have hIn:=B0m (x:=(i:Int)) k.row (by omega);have beq:∀ b:Bool,(b==b)=true:=by decide
  rw [A0J];generalize decide ((i:Int)∈c.row)=w at *;simp only [esc,E4f,l1,al,c0,a1,m1,a2,b1,b2,hq,l6,E1N,qK,m0,hIn,beq,w1];exact ih (i+1) M (by omega) (by omega)
theorem E0v (ra:rd G a=rT cs) (rb:rd G b=rT cs') (K1:IsCl G cs c) (K2:IsRC n P G cs' c) (hlen:c.taken.length<=1000) :
  ∀ e i M:Nat,i+e=c.taken.length->e<M->wR q M (pV a 0) (pV b 0) (iV (i:Int)) G=wS q q (pV a 0) (pV b 0) (iV 0) G:=by
 intro e
 induction e with
 | zero =>
  intro i M hi hM;obtain ⟨M,rfl⟩:∃ M',M=M'+1:=⟨M-1,by omega⟩;have ei:i=c.taken.length:=by omega
  subst ei;obtain ⟨xr,xi,xt,xb,xm,rfl,h1,h2,h3,h4,h5⟩:=K1.form;have l1:B4 G (pV a 2)=some (.c xt):=B5 ra rfl rfl;have al:=h3.len;have cL:¬ ((c.taken.length:Nat):Int)<(c.taken.length:Nat):=by omega
  rw [A0K];simp only [esc,l1,al,cL]
 | succ e ih =>
  intro i M hi hM;obtain ⟨M,rfl⟩:∃ M',M=M'+1:=⟨M-1,by omega⟩;have B85:i<c.taken.length:=by omega
  obtain ⟨xr,xi,xt,xb,xm,rfl,h1,h2,h3,h4,h5⟩:=K1.form;obtain ⟨yr,yi,yt,yb,ym,yl,yy,ys,rfl,k⟩:=id K2;have l1:B4 G (pV a 2)=some (.c xt):=B5 ra rfl rfl;have m1:B4 G (pV b 2)=some (.c yt):=B5 rb rfl rfl;have al:=h3.len;have c0:(i:Int)<(c.taken.length:Nat):=by omega
  have w1:=C6 (show i+1<9223372036854775808 by omega);obtain ⟨i1,o1,e1,_,hA1,_⟩:=h3.sl (by omega);cases e1;obtain ⟨i2,o2,e2,_,hA2,_⟩:=k.tak.sl (by omega);cases e2;have a1:D6 1 (sV i1 o1 c.taken.length 1) (iV (i:Int))=some (pV i1 (o1+i)):=by rw [C5 B85,Nat.mul_one]
  have a2:D6 1 (sV i2 o2 c.taken.length 1) (iV (i:Int))=some (pV i2 (o2+i)):=by rw [C5 B85,Nat.mul_one]
  have hg:(N6 c.taken)[i]?=some (.b c.taken[i]):=by simp [N6,B85]
  have b1:=hA1 i _ hg;have b2:=hA2 i _ hg;have beq:∀ b:Bool,(b==b)=true:=by decide
  rw [A0K];simp only [esc,E4f,l1,al,c0,a1,m1,a2,b1,b2,beq,w1];exact ih (i+1) M (by omega) (by omega)
theorem E0w (ra:rd G a=rT cs) (rb:rd G b=rT cs') (K1:IsCl G cs c) (K2:IsRC n P G cs' c) (hmd:okD c.made) (hlen:c.made.length<=100000) :
  ∀ e i M:Nat,i+e=c.made.length->e<M->wS q M (pV a 0) (pV b 0) (iV (i:Int)) G=some (bV true,G):=by
 intro e
 induction e with
 | zero =>
  intro i M hi hM;obtain ⟨M,rfl⟩:∃ M',M=M'+1:=⟨M-1,by omega⟩;have ei:i=c.made.length:=by omega
  subst ei;obtain ⟨xr,xi,xt,xb,xm,rfl,h1,h2,h3,h4,h5⟩:=K1.form;have l1:B4 G (pV a 4)=some (.c xm):=B5 ra rfl rfl;have al:=h5.len;have cL:¬ ((c.made.length:Nat):Int)<(c.made.length:Nat):=by omega
  rw [A0L];simp only [esc,l1,al,cL,B4u]
 | succ e ih =>
  intro i M hi hM;obtain ⟨M,rfl⟩:∃ M',M=M'+1:=⟨M-1,by omega⟩;have B85:i<c.made.length:=by omega
  obtain ⟨xr,xi,xt,xb,xm,rfl,h1,h2,h3,h4,h5⟩:=K1.form;obtain ⟨yr,yi,yt,yb,ym,yl,yy,ys,rfl,k⟩:=id K2;have l1:B4 G (pV a 4)=some (.c xm):=B5 ra rfl rfl;have m1:B4 G (pV b 4)=some (.c ym):=B5 rb rfl rfl;have al:=h5.len;have c0:(i:Int)<(c.made.length:Nat):=by omega
  have w1:=C6 (show i+1<9223372036854775808 by omega);obtain ⟨ad,u,d1,d2,d3⟩:=D0k h5 hmd B85;obtain ⟨i2,o2,e2,_,hA2,_⟩:=k.mad.sl (by omega);cases e2;have a2:D6 1 (sV i2 o2 c.made.length 1) (iV (i:Int))=some (pV i2 (o2+i)):=by rw [C5 B85,Nat.mul_one]
  have hyl:=k.mds.1;have hy:ys[i]?=some (ys[i]'(by omega)):=E3P _;obtain ⟨_,bb,y1,y2,y3⟩:=k.mds.2.2 i _ hy;rw [E3P B85] at y1;cases y1;have b2:=hA2 i _ hy;have hS:=gP d3 y3 (by omega);rw [decide_eq_true rfl] at hS;rw [A0L];simp only [esc,E4f,l1,al,c0,d1,d2,a2,m1,b2,hS,w1];exact ih (i+1) M (by omega) (by omega)
theorem IsCl.set {j:Nat} {y:Option Row} (hj:rd G j=none) (k:IsCl G cs c):IsCl (G.set j y) cs c:=by
 obtain ⟨xr,xi,xt,xb,xm,e,h1,h2,h3,h4,h5⟩:=k.form;exact ⟨xr,xi,xt,xb,xm,e,has_set h1 (.inl hj),has_set h2 (.inl hj),has_set h3 (.inl hj),has_set h4 (.inl hj),has_set h5 (.inl hj)⟩
theorem IsCl.grows {G':A6} (hg:Grows G G') (k:IsCl G cs c):IsCl G' cs c:=by
 obtain ⟨xr,xi,xt,xb,xm,e,h1,h2,h3,h4,h5⟩:=k.form;exact ⟨xr,xi,xt,xb,xm,e,h1.grows hg,h2.grows hg,h3.grows hg,h4.grows hg,h5.grows hg⟩
end
theorem D3h {v:Val} {D:Dev} {h:A6} (hv:Has h v 256 D.length (D4 D)) (hD:okD D):A0l [v] h=some (bV true,h):=by
 have key:∀ g,Has g v 256 D.length (D4 D)->∃ g',zY 40000 [v] g=some (bV true,g'):=by
  intro g hv;have hl:=hv.len;have n13:¬ (13:Int)=0:=by decide
  rw [B41];by_cases c0:(60:Int)<(D.length:Nat)
  ·exact ⟨_,by simp only [esc,hl,c0,B4u]<;>rfl⟩
  ·have hT:=E2r hv hD (by omega);have hH:Has (g++[rT (D4 D)]) (sV g.length 0 D.length 256) 256 D.length (D4 D):=Has.tr (by simp) (I5 hD) (fS D);have z3:[o0,o0,.i .u64 0].length=3:=rfl;cases cd:A9y D with
   | false =>
    obtain ⟨t,hO⟩:=D2X hH hD cd;obtain ⟨H,hHe⟩:∃ H,H=g++[rT (D4 D)]++t:=⟨_,rfl⟩;have hvH:Has H v 256 D.length (D4 D):=by rw [hHe];exact (hv.more _).more _
    rw [<-hHe] at hO;have hS5:E1 (H++[rT [o0,o0,.i .u64 0,.nf]]) 4 (pV H.length 0) (.a (vwC 0 0 0 .nf))=some (H++[rT (vwC 0 0 0 .nf)]):=by rw [J0];rfl
    have hLy:=A7j (h:=H++[rT (vwC 0 0 0 .nf)]) (hvH.more _) hD;rw [cd,cond_false] at hLy;have hLl:(D3 0 0 0).length=3:=rfl;have hVl:(vwC 0 0 0 .nf).length=4:=rfl;have hm0:R9 0 0=false:=by decide
    have hCb:=λh=>D0a (b:=0) (n:=0) (m:=0) (f:=.nf) (h:=h) hm0
    have f0:B5Y (.a [Cell.ns,.ns,.ns,.ns,.ns,o0]) 0=some (.c .ns):=rfl;have y0:∀ t,C8 (H++rT (vwC 0 0 0 .nf)::t) 4 (pV H.length 0)=some (.a (vwC 0 0 0 .nf)):=λt=>by rw [N2];exact fP rfl
    generalize vwC 0 0 0 .nf=V at *;generalize hL0:D3 0 0 0=L at *;exact ⟨_,by simp only [esc,esh,Nat.reduceAdd,Nat.reduceMul,Nat.reduceLT,eq_self,hl,c0,hT,hO,hS5,hLy,hLl,z3,n13,y0,hVl,hCb,f0,D4l,beq_self_eq_true,B4u]<;>rfl⟩
   | true =>
    obtain ⟨f,t,hO,hV⟩:=C6F hH hD cd (by omega);obtain ⟨H,hHe⟩:∃ H,H=g++[rT (D4 D)]++t:=⟨_,rfl⟩;have hvH:Has H v 256 D.length (D4 D):=by rw [hHe];exact (hv.more _).more _
    rw [<-hHe] at hO hV;have hm:=D63 cd;obtain ⟨_,_,_,n128,_⟩:=N8.1 hm;have hLy:=A7j (h:=H++[rT (vwC D.length (D0b D) (D1Q D) f)]) (hvH.more _) hD;rw [cd,cond_true] at hLy;generalize D0b D=n at *;generalize D1Q D=m at *;have hS5:E1 (H++[rT [o0,o0,.i .u64 0,.nf]]) 4 (pV H.length 0) (.a (vwC D.length n m f))=some (H++[rT (vwC D.length n m f)]):=by rw [J0];rfl
    obtain ⟨B,hB⟩:∃ B,B=H++[rT (vwC D.length n m f),rT (D3 D.length n m)]:=⟨_,rfl⟩;have lB:B.length=H.length+2:=by rw [hB];simp
    have hs3:E1 (H++[rT (vwC D.length n m f),rT [o0,o0,.i .u64 0]]) 3 (pV (H.length+1) 0) (.a (D3 D.length n m))=some B:=by
     rw [R4,hB];change mp (stN (rT [o0,o0,.i .u64 0]) 0 3 (D3 D.length n m)) _=_;rw [iX (by rfl) (by rfl)];rfl
    have y4:C8 B 4 (pV H.length 0)=some (.a (vwC D.length n m f)):=B8 (by rw [hB,F8];rfl) rfl;have y3:C8 B 3 (pV (H.length+1) 0)=some (.a (D3 D.length n m)):=B8 (by rw [hB,M9];rfl) rfl;obtain ⟨cs,tc,p1,p2,p3⟩:=C0t (n:=n) (m:=m) (f:=f) (h:=B++[none,none]) hD (by rw [hB,E3U];exact hV.more _) hm;have q1:=D3U (h:=B++[none,none]) (v:=.a cs) p3;rw [<-p1] at q1;have q1':quiet (B++[none,none]) (sM [.a (vwC D.length n m f)] (B++[none,none]))=some (.a cs,B++[none,none]++tc):=by rw [q1,p1]
    obtain ⟨E,hE⟩:∃ E,E=B++[none,none]++tc:=⟨_,rfl⟩;rw [<-hE] at p2 q1';have GBE:Grows B E:=by rw [hE,E3U];refine R0 Grows.rfl' ?_;rw [List.all_append,p3];rfl
    have hvE:Has E v 256 D.length (D4 D):=by
     refine Has.grows ?_ GBE;rw [hB];exact hvH.more _
    obtain ⟨cs',F,r1,r2,r3⟩:=E1n (n:=n) (m:=m) hvE hD hm;have q2:=U6 (v:=.a cs') r2;rw [<-r1] at q2;have q2':quiet E (B0G [v,.a (D3 D.length n m)] E)=some (.a cs',F):=by rw [q2,r1]
    have nE:∀ k,k<2->rd F (B.length+k)=none:=by
     intro k hk;obtain ⟨tf,hf⟩:=r2.1;rw [<-hf,hE,E3U,E3U,M9];rcases (by omega:k=0\/k=1) with rfl | rfl<;>rfl
    have lF:=r2.len;have lE:B.length+2<=E.length:=by rw [hE];simp
    have n0:=nE 0 (by omega);have n1:=nE 1 (by omega);rw [E4U] at n0;have cl6:cs.length=6:=by obtain ⟨_,_,_,_,_,rfl,_⟩:=p2.form;rfl
    have cl8:=r3.length;obtain ⟨X,hX⟩:∃ X,X=(F.set B.length (rT [Cell.ns,.ns,.ns,.ns,.ns,o0])).set (B.length+1) (rT Z8):=⟨_,rfl⟩;obtain ⟨X1,hX1⟩:∃ X1,X1=X.set B.length (rT cs):=⟨_,rfl⟩;obtain ⟨X2,hX2⟩:∃ X2,X2=X1.set (B.length+1) (rT cs'):=⟨_,rfl⟩;have s1:E1 X 6 (pV B.length 0) (.a cs)=some X1:=by
     rw [storeAll (n:=6) (cs:=[Cell.ns,.ns,.ns,.ns,.ns,o0]) (by rw [hX,A7 (by omega)];exact B6 (by omega)) rfl cl6,hX1]
    have s2:E1 X1 8 (pV (B.length+1) 0) (.a cs')=some X2:=by
     rw [storeAll (n:=8) (cs:=Z8) (by rw [hX1,A7 (by omega),hX];exact B6 (by simp;omega)) rfl cl8,hX2]
    have eX2:X2=(F.set B.length (rT cs)).set (B.length+1) (rT cs'):=by
     rw [hX2,hX1,hX];refine E4I λi=>?_
     simp only [List.getElem?_set,E4o];by_cases e1:B.length+1=i<;>by_cases e2:B.length=i<;>simp [e1,e2]
    have ra:rd X2 B.length=rT cs:=by rw [eX2,A7 (by omega)];exact B6 (by omega)
    have rb:rd X2 (B.length+1)=rT cs':=by rw [eX2];exact B6 (by simp;omega)
    have n1':rd (F.set B.length (rT cs)) (B.length+1)=none:=by rw [A7 (by omega)];exact n1
    have K1:IsCl X2 cs (P6 D n):=by rw [eX2];exact ((p2.grows r2).set n0).set n1'
    have K2:IsRC n (λid=>E.length<=id) X2 cs' (P6 D n):=by rw [eX2];exact (r3.set (.inl n0)).set (.inl n1')
    obtain ⟨cO,sO,fil,filen,ftl⟩:=yM hD hm;obtain ⟨z1,z2,z3',z4,z5,z6,z7⟩:=oL (c:=W5 D n) (L:=(W5 D n).row);have fm:=C4X hD hm;have hrow:(P6 D n).row.length<=1000:=by
     have:=sO.row;show (Q6 (W5 D n) (W5 D n).row).row.length<=1000;rw [z1];omega
    have E3x:(P6 D n).made.length<=5000:=by
     have:=sO.made;show (Q6 (W5 D n) (W5 D n).row).made.length<=5000;rw [z4];omega
    have E3G:(P6 D n).blocks.length<=5000:=by
     have:=sO.blocks;show (Q6 (W5 D n) (W5 D n).row).blocks.length<=5000;rw [z3'];omega
    have hmd:okD (P6 D n).made:=λb hb=>fm.md b hb
    have e0:=E0u (q:=40000) ra rb K1 K2 fil (by omega) hrow (P6 D n).ino.length 0 40000 (by omega) (by omega);have e1:=E0v (q:=40000) ra rb K1 K2 (by omega) (P6 D n).taken.length 0 40000 (by omega) (by omega);have e2:=E0w (q:=40000) ra rb K1 K2 hmd (by omega) (P6 D n).made.length 0 40000 (by omega) (by omega);have z0:((0:Nat):Int)=0:=rfl;rw [z0] at e0 e1 e2;refine ⟨X2,?_⟩;obtain ⟨xr,xi,xt,xb,xm,rfl,h1,h2,h3,h4,h5⟩:=K1.form;obtain ⟨yr,yi,yt,yb,ym,yl,yy,ys,rfl,k⟩:=id K2;have u0:B4 X2 (pV B.length 0)=some (.c xr):=B5 ra rfl rfl;have u1:B4 X2 (pV B.length 1)=some (.c xi):=B5 ra rfl rfl;have u2:B4 X2 (pV B.length 2)=some (.c xt):=B5 ra rfl rfl;have u3:B4 X2 (pV B.length 3)=some (.c xb):=B5 ra rfl rfl;have u4:B4 X2 (pV B.length 4)=some (.c xm):=B5 ra rfl rfl;have u5:B4 X2 (pV B.length 5)=some (iV (P6 D n).lost):=B5 ra rfl rfl;have v0:B4 X2 (pV (B.length+1) 0)=some (.c yr):=B5 rb rfl rfl;have v1:B4 X2 (pV (B.length+1) 1)=some (.c yi):=B5 rb rfl rfl;have v2:B4 X2 (pV (B.length+1) 2)=some (.c yt):=B5 rb rfl rfl;have v3:B4 X2 (pV (B.length+1) 3)=some (.c yb):=B5 rb rfl rfl;have v4:B4 X2 (pV (B.length+1) 4)=some (.c ym):=B5 rb rfl rfl;have v5:B4 X2 (pV (B.length+1) 5)=some (iV (P6 D n).lost):=B5 rb rfl rfl;have i0:=A3z h1 k.row (by omega);have i3:=A3z h4 k.blk (by omega);rw [decide_eq_true rfl] at i0 i3;have a1:=h2.len;have a2:=h3.len;have a4:=h5.len;have b1:=k.ino.len;have b2:=k.tak.len;have b4:=k.mad.len;have nn:∀ x:Int,¬ ¬ x=x:=λx h=>h rfl
    have j0:=B39 40000 (pV B.length 0) (pV (B.length+1) 0) (bV false) X2;rw [C0z,e0,e1,e2] at j0;generalize [xr,xi,xt,xb,xm,Cell.i .i64 (P6 D n).lost]=C1 at *;generalize rcC yr yi yt yb ym (P6 D n).lost yl yy=C2 at *;generalize hVV:vwC D.length n m f=V at *;generalize hLL:D3 D.length n m=Ly at *;rw [A1Q];generalize hZ:Z8=E8 at *;simp only [esc,Nat.reduceAdd,hl,c0,hT,hO,hS5,hLy];simp only [esc,Nat.reduceAdd,hs3,y4,q1',y3,q2',<-hX,s1,s2,u0,u1,u2,u3,u4,u5,v0,v1,v2,v3,v4,v5,i0,i3,a1,a2,a4,b1,b2,b4,nn];exact j0
 obtain ⟨g',e⟩:=key (ro h) hv.ro;exact B1f e rfl
end
end Go.Proofs.YtbnkgnfhgbhblaaGreat
namespace Go.Proofs.YtbnkgnfhgbhblaaGreat
open Go
section
def A6o:List Char:=(([104,97,114,110,101,115,115,32,56,100,99,52,54,56,52,49,50,50,98,56,100,56,57,54,55,55,57,56,55,57,56,97,56,55,97,99,49,97,56,54,53,57,102,48,52,55,97,57,97,50,51,49,56,55,101,102,53,55,49,51,51,97,53,52,102,98,56,99,49,101,56,100,32,99,117,116,32,97,116,32,101,115,99,104,101,97,116,47,101,115,99,104,101,97,116,108,97,119,52,49,46,67,108,97,105,109,79,102,32,101,115,99,104,101,97,116,47,101,115,99,104,101,97,116,108,97,119,52,49,46,67,108,97,105,109,73,109,97,103,101,32,101,115,99,104,101,97,116,47,101,115,99,104,101,97,116,108,97,119,52,50,46,77,101,110,100,80,108,97,110,115,32,101,115,99,104,101,97,116,47,101,115,99,104,101,97,116,108,97,119,52,50,46,77,101,110,100,67,111,117,110,116,115,32,101,115,99,104,101,97,116,47,101,115,99,104,101,97,116,108,97,119,52,50,46,77,101,110,100,67,117,116,115,32,101,115,99,104,101,97,116,47,101,115,99,104,101,97,116,108,97,119,52,49,46,67,108,97,105,109,82,105,103,104,116,32,101,115,99,104,101,97,116,47,101,115,99,104,101,97,116,108,97,119,52,49,46,67,108,97,105,109,75,101,101,112,115,32,101,115,99,104,101,97,116,47,101,115,99,104,101,97,116,108,97,119,52,50,46,77,101,110,100,87,104,111,108,101]:List Nat).map Char.ofNat)
set_option maxRecDepth 100000
theorem E1i:ownKnob Tryz.prog.godebug=none:=by kernel_rfl
theorem D9e:laidOutB Tryz.prog=true:=by kernel_rfl
theorem start_eq:Tryz.prog.initOrder=String.ofList A6o:=by kernel_rfl
theorem D38:Tryz.prog.initOrder.toList=A6o:=by rw [start_eq,String.toList_ofList]
def startRest:List (List Char):=(([[99,117,116],[97,116],[101,115,99,104,101,97,116,47,101,115,99,104,101,97,116,108,97,119,52,49,46,67,108,97,105,109,79,102],[101,115,99,104,101,97,116,47,101,115,99,104,101,97,116,108,97,119,52,49,46,67,108,97,105,109,73,109,97,103,101],[101,115,99,104,101,97,116,47,101,115,99,104,101,97,116,108,97,119,52,50,46,77,101,110,100,80,108,97,110,115],[101,115,99,104,101,97,116,47,101,115,99,104,101,97,116,108,97,119,52,50,46,77,101,110,100,67,111,117,110,116,115],[101,115,99,104,101,97,116,47,101,115,99,104,101,97,116,108,97,119,52,50,46,77,101,110,100,67,117,116,115],[101,115,99,104,101,97,116,47,101,115,99,104,101,97,116,108,97,119,52,49,46,67,108,97,105,109,82,105,103,104,116],[101,115,99,104,101,97,116,47,101,115,99,104,101,97,116,108,97,119,52,49,46,67,108,97,105,109,75,101,101,112,115],[101,115,99,104,101,97,116,47,101,115,99,104,101,97,116,108,97,119,52,50,46,77,101,110,100,87,104,111,108,101]]:List (List Nat)).map (λl=>l.map Char.ofNat))
theorem D8w:wordsSigns A6o=(([104,97,114,110,101,115,115]:List Nat).map Char.ofNat)::(([56,100,99,52,54,56,52,49,50,50,98,56,100,56,57,54,55,55,57,56,55,57,56,97,56,55,97,99,49,97,56,54,53,57,102,48,52,55,97,57,97,50,51,49,56,55,101,102,53,55,49,51,51,97,53,52,102,98,56,99,49,101,56,100]:List Nat).map Char.ofNat)::startRest:=by kernel_rfl
theorem E1v:isSumSigns ((([56,100,99,52,54,56,52,49,50,50,98,56,100,56,57,54,55,55,57,56,55,57,56,97,56,55,97,99,49,97,56,54,53,57,102,48,52,55,97,57,97,50,51,49,56,55,101,102,53,55,49,51,51,97,53,52,102,98,56,99,49,101,56,100]:List Nat).map Char.ofNat))=true:=by decide +kernel
theorem D3s : ((([104, 97, 114, 110, 101, 115, 115] : List Nat).map Char.ofNat) == "harness".toList) = true := by decide +kernel
theorem D3c (h s : List Char) (r : List (List Char)) (h1 : (h == "harness".toList) = true) (h2 : isSumSigns s = true) : behindMainWord (h :: s :: r) = r := by
 unfold behindMainWord;simp only [h1,h2,Bool.true_or,E31,if_true]
theorem D5k:behindMainWord (wordsSigns A6o)=startRest:=by rw [D8w];exact D3c _ _ _ D3s E1v
theorem start_words:behindMainWord (wordsSigns Tryz.prog.initOrder.toList)=startRest:=by rw [D38];exact D5k
def D6l:List (List Char):=startRest.drop 1
theorem D0X : startRest = "cut".toList :: D6l := by decide +kernel
theorem D7H {P : Program} {rest : List (List Char)} (h : behindMainWord (wordsSigns P.initOrder.toList) = "cut".toList :: rest) : P.make = some .cut := by
 have e1 : ("cut".toList == "gc".toList) = false := by decide +kernel
 have e2 : ("cut".toList == "spec".toList) = false := by decide +kernel
 have e3 : ("cut".toList == "cut".toList) = true := by decide +kernel
 unfold Program.make;rw [h];simp only [e1,e2,e3,Bool.or_self,Bool.true_or,E4M,if_false,if_true]
theorem D9h:Tryz.prog.make=some .cut:=D7H (start_words.trans D0X)
theorem C6w {w:List Char} {ws:List (List Char)}:∀ os:List String,(os.all λo=>!(w==o.toList))=true->stripLifts os (w::ws)=([],w::ws)
 | [],_=>rfl
 | o::os,h=>by
  simp only [E4x,E3R,E4D] at h;unfold stripLifts;rw [h.1,if_neg (by simp)];exact C6w os h.2
theorem C9u (rest : List (List Char)) : stripLifts liftWords ("cut".toList :: rest) = ([], "cut".toList :: rest) := C6w _ (by decide +kernel)
theorem D7x:Tryz.prog.laysLater=false:=by kernel_rfl
theorem D3W:Tryz.prog.bearsReflect=false:=by kernel_rfl
theorem D80:Tryz.prog.doorFits []=true:=by kernel_rfl
theorem D5w {P : Program} {rest : List (List Char)} (h : behindMainWord (wordsSigns P.initOrder.toList) = "cut".toList :: rest) (h1 : P.laysLater = false) (h2 : P.bearsReflect = false) (h3 : P.doorFits [] = true) : P.mayEnter = true := by
 unfold Program.mayEnter;rw [h];simp only [C9u,h1,h2,h3];simp
theorem D2i:Tryz.prog.mayEnter=true:=D5w (start_words.trans D0X) D7x D3W D80
theorem D5O {P : Program} {rest : List (List Char)} (h : behindMainWord (wordsSigns P.initOrder.toList) = "cut".toList :: rest) : P.liftsFinal = false := by
 unfold Program.liftsFinal Program.headLifts;rw [h];simp only [C9u];simp
theorem D7E:Tryz.prog.liftsFinal=false:=D5O (start_words.trans D0X)
end
end Go.Proofs.YtbnkgnfhgbhblaaGreat
