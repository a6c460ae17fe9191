/- What the proof of this claim leans on, part 5. -/
import Derived.Test.YtbipebfdappanaaGreatFClaimKeepsp4
set_option linter.all false
set_option maxRecDepth 100000
open Go Go.Esc
noncomputable section
open List renaming length->l_,all_eq_true->E7D,append_assoc->E7i,append_nil->E7q,cons_append->E8a,drop_drop->E8t,drop_eq_getElem_cons->E7g,drop_of_length_le->E7j,drop_zero->E7n,ext_getElem?->E8h,foldl_cons->E8f,getD_eq_getElem?_getD->E67,getElem?_append_left->E7T,getElem?_append_right->E7x,getElem?_cons_succ->E7u,getElem?_drop->E8j,getElem?_eq_getElem->E64,getElem?_eq_none->E7z,getElem?_eq_some_iff->E7b,getElem?_set->E76,getElem?_set_ne->E8c,getElem_mem->E7y,length_append->E7c,length_cons->E7k,length_map->E8s,length_nil->E7Q,length_replicate->E7F,length_set->E7R,length_take->E7L,map_cons->E7X,mem_append->E7J,mem_append_left->E7I,mem_append_right->E7C,mem_cons->E7m,mem_cons_of_mem->E7d,mem_cons_self->E7e,mem_filter->E7N,mem_iff_getElem?->E7O,mem_map->E7B,mem_of_getElem?->E7p,mem_singleton->E7K,prefix_refl->E77,range->E7H,replicate->E68,take_zero->E75
open Bool renaming and_eq_true->E66,not_eq_true'->E7Y,or_eq_false_iff->E78,true_and->E7w,false->A6,true->A5
open Int renaming eq_ofNat_of_zero_le->E8d,toNat_natCast->E7s
open IntKind renaming wrap->E7f
open Nat renaming add_zero->E8m,le_refl->E69,le_trans->E7V,zero_add->E7o
open Option renaming bind_some->E7l,isSome_none->E8b,isSome_some->E7S,map_some->E7U,none->A7,some->A4
open Option.some renaming inj->E8n,injEq->E7a
open Go.Proofs.Tryz renaming prog->A8
namespace Go.Proofs.YtbipebfdappanaaGreat
variable {no a n x d many l p v:Int}{c c':Cl}{D O W:Dev}{b s cur w:List UInt8}{t X:List Int}{i k j q mk:Nat}{h h0 g:A9}{es:W3}{cs:List Cell}{L:List Ent}{e:Ent}
def B1b(b:List UInt8)(k:Nat)(x:Ent):Bool:=decide (slC (U9 b x.1)=slC (A4 (k,x)))
def C2b(b:List UInt8)(k:Nat)(cur:List UInt8):List UInt8:=match O7 b k with
 | some x=>bif B1b b k x then H5 cur (H9 k) (U6 x.1 x.2) else cur
 | none=>cur
def fixF(b:List UInt8):Nat->Nat->List UInt8->List UInt8
 | 0,_,cur=>cur
 | e+1,k,cur=>fixF b e (k+1) (C2b b k cur)
def B1N(b:List UInt8):List UInt8:=fixF b 7 0 hdB
def A3O(hk:k<7)(hc:cur.length=256):(H5 cur (H9 k) (U6 s n)).length=256:=by
 rw [O1 (by rw [hc,V4];unfold H9;omega)];exact hc
def C3C(hk:k<7)(hc:cur.length=256):(C2b b k cur).length=256:=by
 unfold C2b;split
 ·rename_i x _;cases B1b b k x
  ·exact hc
  ·exact A3O hk hc
 ·exact hc
def C3B:∀ (e k:Nat) (cur:List UInt8),k+e<=7->cur.length=256->(fixF b e k cur).length=256
 | 0,_,_,_,hc=>hc
 | e+1,k,cur,h,hc=>C3B e (k+1) _ (by omega) (C3C (by omega) hc)
def B9J:(B1N b).length=256:=C3B 7 0 hdB (by omega) pA
def D8n(hk:k<7):B1d cur (H9 k:Nat) (U6 s n)=H5 cur (H9 k) (U6 s n):=by
 unfold B1d;have:H9 k<256:=by unfold H9;omega
 rw [C4 ⟨by omega,by omega⟩,E7s,List.take_of_length_le (by rw [V4];unfold H9;omega)]
def E3U{c:Int}{t:List UInt8}{m:Int}:aeq A6 [.i .i64,.s,.i .i64] (.a [cI a,.s s,cI m]) (.a [cI c,.s t,cI n])=A4 (bV (decide ([cI a,.s s,cI m]=[cI c,.s t,cI n]))):=by
 simp only [aeq];rw [C4 ⟨rfl,rfl⟩];simp
def E12{o p:Option Slt}:aeq A6 [.i .i64,.s,.i .i64] (.a (slC o)) (.a (slC p))=A4 (bV (decide (slC o=slC p))):=by
 cases o<;>cases p<;>exact E3U
def E2v{rb ro:Nat}{B:A9}(hk:k<7)(hs:l_ s<=24)(hb:l_ b=256)(hc:cur.length=256)(hlow:Low (l_ B) B h)(hB:l_ B<=ro)
  (h1:rd h rb=rT (B4 b)) (h2:rd h ro=rT (B4 cur)) :
  ∃ h',xN [.a [cI (k:Int),.s s,cI n],pV rb 0,pV ro 0] h=A4 (bV A5,h')/\Low (l_ B) B h'/\(∀ id,id≠ro->id<l_ h->rd h' id=rd h id)/\(l_ h)<=(l_ h') /\
   rd h' ro=rT (B4 (bif B1b b k (s,n) then H5 cur (H9 k) (U6 s n) else cur)):=by
 have hbl:(B4 b).length=256:=by rw [B5,hb]
 have nF:(B4 cur).length=256:=by rw [B5,hc]
 have s1:=λt=>C8 (h:=h++t) (B6 h1) hbl
 have s2:=λt=>C8 (h:=h++t) (B6 h2) nF
 have hF:=λh=>yO (b:=b) (nm:=s) (h:=h) hb
 have hSl:=kD (o:=U9 b s);have hq:aeq A6 [.i .i64,.s,.i .i64] (.a (slC (U9 b s))) (.a [cI (k:Int),.s s,cI n])=A4 (bV (B1b b k (s,n))):=E12 (p:=A4 (k,(s,n)));have X4:=E5 h2;cases ck:B1b b k (s,n) with
 | false =>
  rw [ck] at hq;refine ⟨h++[rT [cI (k:Int),.s s,cI n],rT (slC (U9 b s))],A6r (n:=0) ?_,hlow.new _,λid hid hl=>D5 hl,by simp,B6 h2⟩;rw [A6k];generalize slC (U9 b s)=S at *;generalize B4 b=y at *;simp only [esc,esh,Nat.reduceAdd,Nat.reduceMul,Nat.reduceLT,s1,hF,hSl,hq,A49]
 | true =>
  rw [ck] at hq;have hfi:=λh=>kJ (h:=h) hk
  have E6l:ldN (rT [cI (k:Int),.s s,cI n]) 1 2=A4 (.a [.s s,cI n]):=rfl;have hW:=λh=>nB (s:=s) (n:=n) (h:=h) (by omega)
  have hLy:=B1f (v:=sV (l_ h+2) 0 32 1) (nv:=32) (data:=U6 s n) (l:=cur) (h:=h++[rT [cI (k:Int),.s s,cI n],rT (slC (U9 b s)),rT (B4 (U6 s n))]) (Has.row (rw:=A5) (by simp) (by rw [B5,V4]) (W1 _)) hc (by rw [V4];omega) (a:=(H9 k:Nat));rw [D8n hk] at hLy;have hn1:(B4 (H5 cur (H9 k) (U6 s n))).length=256:=by rw [B5];exact A3O hk hc
  have s3:=λt=>storeAll (h:=h++t) (xs:=B4 (H5 cur (H9 k) (U6 s n))) (B6 h2) nF hn1
  refine ⟨(h++[rT [cI (k:Int),.s s,cI n],rT (slC (U9 b s)),rT (B4 (U6 s n))]).set ro (rT (B4 (H5 cur (H9 k) (U6 s n)))),A6r (n:=0) ?_,(hlow.new _).set hB _,λid hid hl=>by rw [B7 (Ne.symm hid)];exact D5 hl,by simp,E1 (by simp;omega)⟩;rw [A6k];generalize H5 cur (H9 k) (U6 s n)=N at *;generalize U6 s n=E at *;generalize slC (U9 b s)=S at *;generalize B4 b=y at *;simp only [esc,esh,Nat.reduceAdd,Nat.reduceMul,Nat.reduceLT,s1,s2,hF,hSl,hq,hfi,E6l,hW,E4O,hLy,s3,A49]
def C6J{r0 rb ro q:Nat}{B:A9}(hb:l_ b=256)(h0o:r0≠ro)(hbo:rb≠ro)(hBo:l_ B<=ro):∀ (e k m:Nat) (h:A9) (cur:List UInt8),k+e=7->e<m->cur.length=256->Low (l_ B) B h ->
  rd h rb=rT (B4 b)->rd h ro=rT (B4 cur)->rd h r0=rT (B4 b) ->
  ∃ h',A0o q m (.c (.f 174 [(rb,0),(ro,0)])) (pV r0 0) (iV (k:Int)) h=A4 (.t [],h')/\Low (l_ B) B h'/\rd h' ro=rT (B4 (fixF b e k cur))
 | e,k,0,h,cur,_,hm,_,_,_,_,_=>by omega
 | 0,k,m+1,h,cur,hk,hm,hc,hlow,h1,h2,h0=>by
  have e0:k=7:=by omega
  subst e0;have c0:¬ ((7:Nat):Int)<7:=by omega
  refine ⟨h,?_,hlow,h2⟩;rw [sS];simp only [esc,c0]<;>rfl
 | e+1,k,m+1,h,cur,hk,hm,hc,hlow,h1,h2,h0=>by
  have c0:(k:Int)<7:=by omega
  have hbl:(B4 b).length=256:=by rw [B5,hb]
  have s1:=C8 (h:=h) (id:=r0) h0 hbl;have hR:=A5a (h:=h) (k:=k) hb (by omega);have w1:=E3 (a:=k) (by omega);have hcv:∀ (x:Val) (h:A9),aV A1K (.c (.f 174 [(rb,0),(ro,0)])) [x] h=xN [x,pV rb 0,pV ro 0] h:=λ_ _=>Eq.trans rfl rfl
  rw [sS,fixF];cases hx:O7 b k with
  | none =>
   have ef:C2b b k cur=cur:=by unfold C2b;rw [hx]
   rw [hx] at hR;rw [ef];obtain ⟨h',f1,f2⟩:=C6J (q:=q) hb h0o hbo hBo e (k+1) m (h++[rT ([.s [],o0])]) cur (by omega) (by omega) hc (hlow.new _) (B6 h1) (B6 h2) (B6 h0);refine ⟨h',?_,f2⟩;generalize B4 b=y at *;simp only [esc,esh,Nat.reduceAdd,Nat.reduceMul,Nat.reduceLT,c0,s1,hR,W5,E8b,w1];exact f1
  | some en =>
   obtain ⟨s,n⟩:=en;have ef:C2b b k cur=bif B1b b k (s,n) then H5 cur (H9 k) (U6 s n) else cur:=by unfold C2b;rw [hx]
   rw [hx] at hR;have hs:l_ s<=24:=by
    unfold O7 at hx;cases hu:gZ (nameB b k) with
    | none=>rw [hu] at hx;cases hx
    | some s' =>
     rw [hu,E7l] at hx;split at hx
     ·cases hx;exact (bP (A30 hu)).2
     ·cases hx
   have eaf:F9 [o0,.s [],o0] [(0,1,iV (k:Int)),(1,2,.a [.s s,cI n])]=A4 [cI (k:Int),.s s,cI n]:=rfl;obtain ⟨hh,g1,g2,g3,g4,g5⟩:=E2v (n:=n) (show k<7 by omega) hs hb hc (hlow.new [rT [.s s,cI n]]) hBo (B6 h1) (B6 h2);rw [<-ef] at g5;have E61:=E5 h1;have E6p:=E5 h0;obtain ⟨h',f1,f2⟩:=C6J (q:=q) hb h0o hbo hBo e (k+1) m hh (C2b b k cur) (by omega) (by omega) (C3C (by omega) hc) g2 (by rw [g3 rb hbo (by simp;omega)];exact B6 h1) g5 (by rw [g3 r0 h0o (by simp;omega)];exact B6 h0);refine ⟨h',?_,f2⟩;generalize B4 b=y at *;simp only [esc,esh,Nat.reduceAdd,Nat.reduceMul,Nat.reduceLT,c0,s1,hR,W5,E7S,eaf,hcv,g1,w1];exact f1
def C8R(hb:l_ b=256):B0t [.a (B4 b)] h=A4 (.a (B4 (B1N b)),h):=by
 have key:∀ g,∃ g',A94 0 [.a (B4 b)] g=A4 (.a (B4 (B1N b)),g'):=by
  intro g;have hbl:(B4 b).length=256:=by rw [B5,hb]
  have hz:(B4 (zeros 256)).length=256:=by rw [B5];exact zeros_length
  have hd:(B4 hdB).length=256:=by rw [B5];exact pA
  have hxl:(B4 (B1N b)).length=256:=by rw [B5];exact B9J
  have hH:=λh=>B3N (h:=h)
  have emk:A3N 174 [pV (l_ g) 0,pV (l_ g+2) 0]=A4 (.c (.f 174 [(l_ g,0),(l_ g+2,0)])):=rfl;obtain ⟨h',f1,f2,f3⟩:=C6J (b:=b) (r0:=l_ g+3) (rb:=l_ g) (ro:=l_ g+2) (q:=8) (B:=g++[rT (B4 b),rT (B4 (zeros 256))]) hb (by omega) (by omega) (by simp) 7 0 8 (g++[rT (B4 b),rT (B4 (zeros 256)),rT (B4 hdB),rT (B4 b)]) hdB (by omega) (by omega) pA
   (by have:=(Low.refl (h:=g++[rT (B4 b),rT (B4 (zeros 256))]) (E69 _)).new [rT (B4 hdB),rT (B4 b)];simpa using this) (by simp) (by simp) (by simp)
  have hS:nW [.a (B4 b),.c (.f 174 [(l_ g,0),(l_ g+2,0)])] (g++[rT (B4 b),rT (B4 (zeros 256)),rT (B4 hdB)])=A4 (.t [],h'):=by
   refine A8I (n:=8) ?_;rw [A8z];simp only [esc,esh,Nat.reduceAdd,Nat.reduceMul,Nat.reduceLT];exact f1
  have hr:rd h' (l_ g+1)=rT (B4 (zeros 256)):=by rw [f2.2.2 _ (by simp)];simp
  change rd h' (l_ g+2)=rT (B4 (B1N b)) at f3;have t1:=C8 (n:=256) f3 hxl;have t2:=storeAll (n:=256) (xs:=B4 (B1N b)) hr hz hxl;have t3:=C8 (n:=256) (E1 (x:=rT (B4 (B1N b))) (E5 hr)) hxl;rw [C31,J4];generalize B1N b=X at *;generalize hdB=H at *;generalize zeros 256=z at *;generalize B4 b=y at *;exact ⟨_,by simp only [esc,esh,Nat.reduceAdd,Nat.reduceMul,Nat.reduceLT,hbl,hH,hz,hd,emk,hS,t1,t2,t3]<;>rfl⟩
 obtain ⟨g',e⟩:=key (ro h);exact B8Q e (by simp)
def A8l(b:List UInt8):Bool:=decide (B1N b=b)
def C4I(hb:l_ b=256):xO [.a (B4 b)] h=A4 (bV (A8l b),h):=by
 have key:∀ g,∃ g',A4x 0 [.a (B4 b)] g=A4 (bV (A8l b),g'):=by
  intro g;have hbl:(B4 b).length=256:=by rw [B5,hb]
  have hF:=λh=>C8R (h:=h) hb
  have hE:aeq A6 (E68 256 (.i .u8)) (.a (B4 (B1N b))) (.a (B4 b))=A4 (bV (A8l b)):=by
   have hxl:=B9J (b:=b);simp only [aeq];rw [C4 ⟨by rw [B5o,hxl],by rw [B5o,hb]⟩];unfold A8l;simp [C6M]
  rw [B8C];generalize A8l b=D at *;generalize B4 (B1N b)=x at *;generalize B4 b=y at *;exact ⟨_,by simp only [esc,esh,Nat.reduceAdd,Nat.reduceMul,Nat.reduceLT,hbl,hF,hE]<;>rfl⟩
 obtain ⟨g',e⟩:=key (ro h);exact B5N e rfl
def D0o{l xs:List UInt8}{a c n:Nat}(h:a+l_ xs<=l_ l)(hd:c+n<=a\/a+l_ xs<=c):((H5 l a xs).drop c).take n=(l.drop c).take n:=by
 apply E8h;intro j;rw [List.getElem?_take,List.getElem?_take];split
 ·rename_i hj;rw [E8j,E8j,C7n h,C5 (by omega)]
 ·rfl
def D0M{e:List UInt8}(hc:cur.length=256)(he:e.length=32)(hj:j<7)(hk:k<7):iX (H5 cur (H9 j) e) k=if k=j then e else iX cur k:=by
 have mE:H9 j+e.length<=cur.length:=by rw [hc,he];unfold H9;omega
 unfold iX;by_cases c:k=j
 ·subst c;rw [C4 rfl,<-he];exact D3J mE
 ·rw [C5 c];exact D0o mE (by rw [he];unfold H9;omega)
def D4q(sl:List UInt8):Option Ent:=(gZ ((sl.drop 2).take 25)).bind λs=>if (B52 s ((le (sl.take 2):Nat):Int)&&decide (U6 s ((le (sl.take 2):Nat):Int)=sl))=A5 then A4 (s,((le (sl.take 2):Nat):Int)) else A7
def D6f:O7 b k=D4q (iX b k):=by
 have e1:((iX b k).drop 2).take 25=nameB b k:=by
  unfold iX nameB;rw [List.drop_take,E8t,List.take_take];rfl
 have e2:(((le ((iX b k).take 2):Nat)):Int)=yM b k:=by
  unfold iX yM fieldN;rw [List.take_take];rfl
 unfold O7 D4q isE;rw [e1,e2]
def unpack_pack(hf:aY s=A5):gZ (iU s)=A4 s:=by
 have hl:=(bP hf).2;have hp:iU s=UInt8.ofNat (l_ s)::(s++zeros (24-l_ s)):=by unfold iU A5D;rw [hf,R8,List.take_length]
 have hn:((iU s).headD 0).toNat=(l_ s):=by
  rw [hp,List.headD_cons,UInt8.toNat_ofNat'];omega
 have hd:((iU s).drop 1).take (l_ s)=s:=by
  rw [hp,List.drop_succ_cons,E7n,List.take_left]
 unfold gZ;rw [hn,C4 hl,hd,C4 ⟨hf,rfl⟩]
def D8T(hm:B52 s n=A5):D4q (U6 s n)=A4 (s,n):=by
 have hm2:=hm;unfold B52 at hm2;simp only [E66,decide_eq_true_eq] at hm2;obtain ⟨hf,h1,h2⟩:=hm2;have e1:((U6 s n).drop 2).take 25=iU s:=by
  unfold U6;rw [E7i,List.drop_left' R7,List.take_left' qR]
 have e2:(((le ((U6 s n).take 2):Nat)):Int)=n:=by
  unfold U6;rw [E7i,List.take_left' R7];have:=B5r 2 n;rw [this];omega
 unfold D4q;rw [e1,e2,unpack_pack hf,E7l,hm,R9 rfl];rfl
def C3R:D4q (zeros 32)=A7:=by decide +kernel
def D87:∀ k,k<7->iX hdB k=zeros 32:=by decide +kernel
def C3A{nm:List UInt8}{x:Ent}(hi:O7 b i=A4 x)(hx:x.1=nm):∀ (e k:Nat),k<=i->i<k+e->(∀ j y,k<=j->j<i->O7 b j=A4 y->y.1≠nm)->Y2 b nm e k=A4 (i,x)
 | 0,k,h1,h2,_=>by omega
 | e+1,k,h1,h2,E2C=>by
  by_cases c:k=i
  ·subst c;obtain ⟨s,n⟩:=x;simp only at hx;subst hx;exact yY hi
  ·have ih:=C3A hi hx e (k+1) (by omega) (by omega) (λj y h3 h4=>E2C j y (by omega) h4);cases hr:O7 b k with
   | none=>rw [lF hr];exact ih
   | some y =>
    obtain ⟨s,n⟩:=y;rw [lE hr (E2C k (s,n) (E69 _) (by omega) hr)];exact ih
def E3J(o:Option Ent)(d:List UInt8):List UInt8:=match o with
 | some x=>U6 x.1 x.2
 | none=>d
def C2C{x:Ent}(hx:O7 b k=A4 x):B52 x.1 x.2=A5:=by
 unfold O7 at hx;cases hu:gZ (nameB b k) with
 | none=>rw [hu] at hx;cases hx
 | some s' =>
  rw [hu,E7l] at hx;split at hx
  ·rename_i hc;cases hx;unfold isE at hc;rw [E66] at hc;exact hc.1
  ·cases hx
def A3R{nm:List UInt8}:∀ (e k:Nat) {x:Slt},Y2 b nm e k=A4 x->O7 b x.1=A4 x.2/\x.2.1=nm/\k<=x.1/\x.1<k+e/\∀ j y,k<=j->j<x.1->O7 b j=A4 y->y.1≠nm
 | 0,k,x,h=>by cases h
 | e+1,k,x,h=>by
  cases hx:O7 b k with
  | none =>
   rw [lF hx] at h;obtain ⟨h1,h2,h3,h4,h5⟩:=A3R e (k+1) h;refine ⟨h1,h2,by omega,by omega,λj y hj hj2 hy=>?_⟩;by_cases c:j=k
   ·subst c;rw [hx] at hy;cases hy
   ·exact h5 j y (by omega) hj2 hy
  | some z =>
   obtain ⟨s,n⟩:=z;by_cases c:s=nm
   ·subst c;rw [yY hx] at h;cases h;exact ⟨hx,rfl,E69 _,by show k<_;omega,λj y hj hj2=>by have:j<k:=hj2;omega⟩
   ·rw [lE hx c] at h;obtain ⟨h1,h2,h3,h4,h5⟩:=A3R e (k+1) h;refine ⟨h1,h2,by omega,by omega,λj y hj hj2 hy=>?_⟩;by_cases c2:j=k
    ·subst c2;rw [hx] at hy;cases hy;exact c
    ·exact h5 j y (by omega) hj2 hy
def B39{nm:List UInt8}:∀ (e k:Nat),Y2 b nm e k=A7->∀ j y,k<=j->j<k+e->O7 b j=A4 y->y.1≠nm
 | 0,k,h,j,y,h1,h2,_=>by omega
 | e+1,k,h,j,y,h1,h2,hy=>by
  cases hx:O7 b k with
  | none =>
   rw [lF hx] at h;by_cases c:j=k
   ·subst c;rw [hx] at hy;cases hy
   ·exact B39 e (k+1) h j y (by omega) (by omega) hy
  | some z =>
   obtain ⟨s,n⟩:=z;by_cases c:s=nm
   ·subst c;rw [yY hx] at h;cases h
   ·rw [lE hx c] at h;by_cases c2:j=k
    ·subst c2;rw [hx] at hy;cases hy;exact c
    ·exact B39 e (k+1) h j y (by omega) (by omega) hy
def A5m{nm:List UInt8}:∀ (e k:Nat),(∀ j y,k<=j->j<k+e->O7 b j=A4 y->y.1≠nm)->Y2 b nm e k=A7
 | 0,k,_=>rfl
 | e+1,k,h=>by
  have ih:=A5m e (k+1) λj y h1 h2 hy=>h j y (by omega) (by omega) hy
  cases hx:O7 b k with
  | none=>rw [lF hx];exact ih
  | some z =>
   obtain ⟨s,n⟩:=z;rw [lE hx (h k (s,n) (E69 _) (by omega) hx)];exact ih
def D7T{b id n:Nat}(hb:b<=id)(hr:rd h id=rT cs)(hf:O5 cs=A5) :
  Z1 h b (.t [.a [cI a,.sl id 0 n 1],.c o0])=A4 (.t [.a [cI a,.sl b 0 n 1],.c o0],[id]):=by
 have h1:¬ id<b:=by omega
 have hc1:Q8 h b [] [cI a,.sl id 0 n 1]=A4 ([cI a,.sl b 0 n 1],[id]):=by
  simp [Q8,Cell.low,Cell.flat,qP hr hf,h1,hb]
 have hc2:Q8 h b [id] [o0]=A4 ([o0],[id]):=jH (by simp);simp only [Z1,jV,hc1,hc2,E7l,E7U]
def E33{x:Cell}:F9 [o0,.ns] [(0,1,iV a),(1,1,.c x)]=A4 [cI a,x]:=rfl
def C6g{id n:Nat}(hk:k<7)(hid:id<l_ h):A7L [iV (k:Int),iV 0,sV id 0 n 1] h=A4 (.t [.a [cI (H9 k:Nat),.sl id 0 n 1],.c o0],h):=by
 have key:∀ g,∃ g',A7p 0 [iV (k:Int),iV 0,sV id 0 n 1] g=A4 (.t [.a [cI (H9 k:Nat),.sl id 0 n 1],.c o0],g'):=by
  intro g;have c1:¬ (k:Int)<0:=by omega
  have c2:¬ 7<=(k:Int):=by omega
  have hF:=λh=>kJ (h:=h) hk
  have w1:E7f .i64 (((H9 k:Nat):Int)+0)=((H9 k:Nat):Int):=by unfold H9;rw [wrap_i64 (by omega) (by omega)];omega
  rw [C0R];exact ⟨_,by simp only [esc,esh,Nat.reduceAdd,c1,c2,hF,w1,E33]<;>rfl⟩
 obtain ⟨g',e⟩:=key (ro h);exact B8V e (by simp [Val.low,Cell.low,Cell.flat,hid])
def C8T(hs:l_ s<9223372036854775807)(hk:k<7)(hm:B52 s n=A5):B0v [iV (k:Int),.a [.s s,cI n]] h=A4 (.t [.a [cI (H9 k:Nat),.sl (l_ h) 0 32 1],.c o0],h++[rT (B4 (U6 s n))]):=by
 have key:∀ g,∃ g',A96 0 [iV (k:Int),.a [.s s,cI n]] g=A4 (.t [.a [cI (H9 k:Nat),.sl (l_ g+2) 0 32 1],.c o0],g')/\rd g' (l_ g+2)=rT (B4 (U6 s n)):=by
  intro g;have c1:0<=(k:Int):=by omega
  have c2:(k:Int)<7:=by omega
  have hM:=λh=>A78 (s:=s) (n:=n) (h:=h) hs
  rw [hm] at hM;have hW:=λh=>nB (s:=s) (n:=n) (h:=h) hs
  have hL:=C6g (k:=k) (id:=l_ g+2) (n:=32) (h:=g++[rT [.s s,cI n],rT [o0,.ns],rT (B4 (U6 s n))]) hk (by simp);rw [C33];generalize U6 s n=E at *;exact ⟨_,by simp only [esc,esh,Nat.reduceAdd,c1,c2,hM,hW,hL]<;>rfl,by simp⟩
 obtain ⟨g',e,hr⟩:=key (ro h);rw [H8] at hr;have:=B8U e (D7T (b:=l_ h) (by rw [H8];omega) (by rw [H8];exact hr) (by simp));rw [this,H8];simp [hr]
def MapK(es:W3)(K:List UInt8->Option Int):Prop:=(∀ e∈es,∃ s,e.1=Cell.s s)/\∀ s,(A9D (.s s) es).map (·.2)=(K s).map λv=>Part.c (cI v)
def B40(K:List UInt8->Option Int)(a:List UInt8)(v:Int):List UInt8->Option Int:=λs=>if s=a then A4 v else K s
def MapK.nil:MapK [] λ_=>A7:=⟨λe he=>by simp at he,λs=>rfl⟩
def MapK.put{K:List UInt8->Option Int}(hm:MapK es K)(a:List UInt8)(v:Int):MapK (A9E (.s a) (.c (cI v)) es) (B40 K a v):=by
 refine ⟨C2n (Q:=λc=>∃ s,c=.s s) ⟨a,rfl⟩ hm.1,λs=>?_⟩;unfold B40;by_cases c:s=a
 ·subst c;rw [C4 rfl,(A4f (k':=.mh)).1];rfl
 ·rw [C5 c,(A4f (k:=.s a) (k':=.s s)).2 (by simpa using c)];exact hm.2 s
def E5y{mid:Nat}{K:List UInt8->Option Int}{a:List UInt8}(hr:rd h mid=A4 (Q1 es))(hm:MapK es K):yK h A7 (.c o0) A6 (.c (.m mid)) (.c (.s a))=A4 (.c (cI ((K a).getD 0))):=by
 simp only [yK,B96,D1Q,hr,E7l,qO];rw [C4 (D7a hm.1)];have h2:=hm.2 a;cases hg:A9D (.s a) es with
 | none =>
  rw [hg] at h2;cases hF:K a with
  | none=>rfl
  | some v=>rw [hF] at h2;cases h2
 | some ip =>
  obtain ⟨i,p⟩:=ip;rw [hg] at h2;cases hF:K a with
  | none=>rw [hF] at h2;cases h2
  | some v=>rw [hF] at h2;simp at h2;subst h2;rfl
def E6G{mid:Nat}{K:List UInt8->Option Int}{a:List UInt8}(hr:rd h mid=A4 (Q1 es))(hm:MapK es K):A29 h A7 (.c (.m mid)) (.c (.s a)) (.c (cI x))=A4 (h.set mid (A4 (Q1 (A9E (.s a) (.c (cI x)) es)))):=by
 simp only [A29,B96,C3Q,hr,E7l,qO];rw [C4 (D7a hm.1)]
def V5(D:Dev)(X:List Int)(no:Int)(K:List UInt8->Option Int)(x:Slt):Bool:=atH D X (no,x)&&decide ((K x.2.1).getD 0=x.2.2)
def fL(D:Dev)(X:List Int)(no:Int)(K:List UInt8->Option Int)(s:Cl × List UInt8)(x:Slt):Cl × List UInt8 :=
 bif V5 D X no K x then (s.1,H5 s.2 (H9 x.1) (U6 x.2.1 x.2.2)) else ({ s.1 with lost:=s.1.lost+1 },s.2)
def W0(D:Dev)(X:List Int)(no:Int)(K:List UInt8->Option Int)(s:Cl × List UInt8)(l:List Slt):Cl × List UInt8:=l.foldl (fL D X no K) s
def C92{K:List UInt8->Option Int}{s:Cl × List UInt8}{x:Slt}(hs:s.2.length=256)(hk:x.1<7):(fL D X no K s x).2.length=256:=by
 unfold fL;cases V5 D X no K x with
 | false=>exact hs
 | true=>rw [R8];dsimp only;rw [O1 (by rw [hs,V4];unfold H9;omega)];exact hs
def C6B{K:List UInt8->Option Int}{s:Cl × List UInt8}{x:Slt}:s.1.lost<=(fL D X no K s x).1.lost/\(fL D X no K s x).1.lost<=s.1.lost+1:=by
 unfold fL;cases V5 D X no K x<;>simp<;>omega
section
variable {D:Dev} {n m:Int} {f:Cell} {g:A9} {r:Nat} {h:A9}
def LocV.more{t:A9}{id:Nat}(hr:r<l_ h)(a:LocV h r id cs):LocV (h++t) r id cs :=
 a.fr (Fr.low ((Low.refl (E69 _)).new _) hr)
def LocM(h:A9)(r id:Nat)(es:W3):Prop:=Loc h r id/\rd h id=A4 (Q1 es)
def LocM.fr{h':A9}{id:Nat}(a:LocM h r id es)(b:Fr r h h'):LocM h' r id es:=by
 obtain ⟨h1,h2⟩:=b.loc a.1;exact ⟨h1,by rw [h2];exact a.2⟩
def LocM.set{id:Nat}{x:Option Row}(a:LocM h r id es)(hj:j≠id)(hl:j≠r):LocM (h.set j x) r id es:=by
 refine ⟨⟨by simpa using a.1.1,a.1.2.1,λhn=>a.1.2.2 ((Nam.same (B7 hl)).1 hn)⟩,by rw [B7 hj];exact a.2⟩
def D5p{K:List UInt8->Option Int}{l:List Slt}{px p8 p9 lst:Nat}(hD:okD D)(hv:IsView g f D)(ht:l_ t=32)(hK:MapK es K)(h0g:l_ g<=h0.length)(a8:h0.length<=p8)(a9:h0.length<=p9)
  (n1:p9≠mk) (n2:p9≠px) (n3:p9≠p8) (n4:p9≠lst) (hl7:l_ l<=7) (hsl:∀ x∈l,x.1<7/\x.2.1.length<=24/\B52 x.2.1 x.2.2=A5) :
  ∀ (e j M:Nat) (s:Cl × List UInt8) (h:A9),j+e=l_ l->e<M->s.2.length=256->0<=s.1.lost->s.1.lost+e<=1000000->WP D n m f g r s.1 h->Fr r h0 h->LocM h r mk es->LocV h r px (encI (d::t))->(∃ z,z.length=256/\LocV h r p8 z)->LocV h r p9 (B4 s.2)->LocV h r lst (qV l) ->
  ∃ h',dU q M (.c (.p r 0)) (.c (cI no)) (.c (.m mk)) (.c (.p px 0)) (.c (.p p8 0)) (.c (.p p9 0)) (.c (.sl lst 0 (l_ l) 3)) (.c (cI (l_ l:Nat))) (.c (cI (j:Int))) h=A4 (.a (B4 (W0 D (d::t) no K s (l.drop j)).2),h')/\WP D n m f g r (W0 D (d::t) no K s (l.drop j)).1 h'/\Fr r h0 h':=by
 intro e
 induction e with
 | zero =>
  intro j M s h hj hM hs l0 l1 P F hm hx hz hb hl;obtain ⟨M,rfl⟩:=Z3 M (by omega);have c0:¬ ((j:Int)<(l_ l:Nat)):=by omega
  obtain ⟨z,hzl,hz⟩:=hz;have hbl:(B4 s.2).length=256:=by rw [B5,hs]
  have q1:=C8 (n:=256) hb.2 hbl;have s1:=storeAll (n:=256) (xs:=B4 s.2) hz.2 hzl hbl;have hz2:=hz.self (cs':=B4 s.2);have q2:=C8 (n:=256) hz2.2 hbl;rw [E7j (by omega)];refine ⟨h.set p8 (rT (B4 s.2)),?_,P.set hz.1 (by omega),F.set hz.1 a8⟩;rw [gK];show _=A4 (Val.a (B4 s.2),_);generalize B4 s.2=B at *;simp only [esc,c0,q1,s1,q2]
 | succ e ih =>
  intro j M s h hj hM hs l0 l1 P F hm hx hz hb hl;obtain ⟨M,rfl⟩:=Z3 M (by omega);have hjl:j<(l_ l):=by omega
  have c0:((j:Int)<(l_ l:Nat)):=by omega
  have hv2:=hv.get;have ad:F5 3 (.c (.sl lst 0 (l_ l) 3)) (.c (cI (j:Int)))=A4 (.c (.p lst (j*3))):=by rw [E4 hjl];simp
  have hlen:=vT (l:=l);have w1:=E3 (a:=j) (by omega);obtain ⟨x,hxe⟩:=xEq (l[j]);have hxj:l[j]?=A4 x:=by rw [hxe];exact E64 hjl
  obtain ⟨x7,x24,xm⟩:=hsl x (by rw [hxe];exact E7y hjl);have l3:D3 h 3 (.c (.p lst (j*3)))=A4 (.a (slC (A4 x))):=by rw [U2 hl.2 (by rw [hlen];omega) rfl,D2e hxj]
  have nF:=C92 (D:=D) (X:=d::t) (no:=no) (K:=K) (s:=s) (x:=x) hs x7;have hlo:=C6B (D:=D) (X:=d::t) (no:=no) (K:=K) (s:=s) (x:=x);rw [E7g hjl,<-hxe];have er:∀ T,W0 D (d::t) no K s (x::T)=W0 D (d::t) no K (fL D (d::t) no K s x) T:=λT=>rfl
  rw [er];obtain ⟨k,nm,i⟩:=x;dsimp only at x7 x24 xm;obtain ⟨h1,e1⟩:=xEq (h++[rT (slC (A4 (k,nm,i)))]);have s3:G0 (h++[rT [o0,.s [],o0]]) 3 (.c (.p (l_ h) 0)) (.a (slC (A4 (k,nm,i))))=A4 h1:=by rw [H6,e1];rfl
  have P1:WP D n m f g r s.1 h1:=e1 ▸ P.more hv2 _;have hx1:LocV h1 r px (encI (d::t)):=e1 ▸ hx.more P.rlt;have lX:D3 h1 33 (.c (.p px 0))=A4 (.a (encI (d::t))):=C8 hx1.2 (by simp [B9,ht]);have lN:B8 h1 (.c (.p (l_ h) 1))=A4 (.c (.s nm)):=by rw [e1,I6];rfl
  have hH:=D66 (n:=n) (m:=m) (f:=f) (r:=r) (d:=d) (t:=t) (nm:=nm) (h:=h1) hD (hv.since P1.lo) (P1.vw hv2) ht (by omega);obtain ⟨h2,e2⟩:=xEq (h1++[rT (C2J (R3 (d::t) nm) (hmS D (d::t) nm))]);have s4:G0 (h1++[rT [o0,o0,.s [],o0]]) 4 (.c (.p h1.length 0)) (.a (C2J (R3 (d::t) nm) (hmS D (d::t) nm)))=A4 h2:=by
   rw [H6,e2];cases hmS D (d::t) nm<;>rfl
  have e12:h2=h++[rT (slC (A4 (k,nm,i))),rT (C2J (R3 (d::t) nm) (hmS D (d::t) nm))]:=by rw [e2,e1];simp
  have F2:Fr r h h2:=by rw [e12];exact Fr.low ((Low.refl (E69 _)).new _) P.rlt
  have P2:WP D n m f g r s.1 h2:=by rw [e12];exact P.more hv2 _
  have m2:=hm.fr F2;have x2:=hx.fr F2;have b2:=hb.fr F2;have ls2:=hl.fr F2;obtain ⟨z,hzl,hz⟩:=hz;have z2:=hz.fr F2;have lB:B8 h2 (.c (.p h1.length 0))=A4 (.c (cI (R3 (d::t) nm))):=by rw [e2,I6];rfl
  have lS:D3 h2 3 (.c (.p h1.length 1))=A4 (.a (slC (hmS D (d::t) nm))):=by rw [e2,G9];cases hmS D (d::t) nm<;>rfl
  have rp:rd h2 (l_ h)=rT (slC (A4 (k,nm,i))):=by rw [e2,e1];simp
  have lP:D3 h2 3 (.c (.p (l_ h) 0))=A4 (.a (slC (A4 (k,nm,i)))):=C8 rp rfl;have lP0:B8 h2 (.c (.p (l_ h) 0))=A4 (.c (cI (k:Int))):=C1 rp rfl rfl;have lP1:B8 h2 (.c (.p (l_ h) 1))=A4 (.c (.s nm)):=C1 rp rfl rfl;have lP2:B8 h2 (.c (.p (l_ h) 2))=A4 (.c (cI i)):=C1 rp rfl rfl;have lPE:D3 h2 2 (.c (.p (l_ h) 1))=A4 (.a [.s nm,cI i]):=by rw [U2 rp (by simp [slC]) rfl];rfl
  have lk:=E5y (a:=nm) m2.2 hK;have lose:V5 D (d::t) no K (k,nm,i)=A6->∃ h3 h',B8 h2 (.c (.p r 9))=A4 (.c (cI s.1.lost))/\E7f .i64 (s.1.lost+1)=s.1.lost+1/\I7 h2 (.c (.p r 9)) (.c (cI (s.1.lost+1)))=A4 h3 /\
    dU q M (.c (.p r 0)) (.c (cI no)) (.c (.m mk)) (.c (.p px 0)) (.c (.p p8 0)) (.c (.p p9 0)) (.c (.sl lst 0 (l_ l) 3)) (.c (cI (l_ l:Nat))) (.c (cI ((j+1:Nat):Int))) h3=A4 (.a (B4 (W0 D (d::t) no K (fL D (d::t) no K s (k,nm,i)) (l.drop (j+1))).2),h')/\WP D n m f g r (W0 D (d::t) no K (fL D (d::t) no K s (k,nm,i)) (l.drop (j+1))).1 h'/\Fr r h0 h':=by
   intro hk;have ec:fL D (d::t) no K s (k,nm,i)=({ s.1 with lost:=s.1.lost+1 },s.2):=by unfold fL;rw [hk];rfl
   obtain ⟨h3,f1,f2,f3,f4⟩:=P2.setLost hv2 (s.1.lost+1);have Fa:=F2.trans f4;obtain ⟨h',g1,g2⟩:=ih (j+1) M ({ s.1 with lost:=s.1.lost+1 },s.2) h3 (by omega) (by omega) hs (by dsimp only;omega) (by dsimp only;omega) f3 (F.trans Fa) (m2.fr f4) (x2.fr f4) ⟨z,hzl,z2.fr f4⟩ (b2.fr f4) (ls2.fr f4);rw [ec];exact ⟨h3,h',f1,wrap_i64 (by omega) (by omega),f2,g1,g2⟩
  rw [gK];cases ho:hmS D (d::t) nm with
  | none =>
   obtain ⟨h3,h',f1,f2,f3,f4,f5⟩:=lose (by unfold V5 atH;simp only [ho];simp);refine ⟨h',?_,f5⟩;rw [ho] at hH s4 lS;generalize encI (d::t)=X at *;simp only [esc,Nat.reduceAdd,c0,ad,l3,s3,lX,lN,hH,E8b,s4,f1,f2,f3,V9,w1];exact f4
  | some p =>
   rw [ho] at hH s4 lS;have ea:=D7z (neg:=A5) p (k,nm,i);by_cases c1:R3 (d::t) nm=no
   ·rw [c1] at hH s4 lB;by_cases c2:p=(k,nm,i)
    ·have ea2:aeq A5 [.i .i64,.s,.i .i64] (.a (slC (A4 p))) (.a (slC (A4 (k,nm,i))))=A4 (.c (.b A6)):=by rw [ea,c2];simp
     by_cases c3:(K nm).getD 0=i
     ·have hk:V5 D (d::t) no K (k,nm,i)=A5:=by unfold V5 atH;simp only [ho,c1,c2,c3];simp
      have ec:fL D (d::t) no K s (k,nm,i)=(s.1,H5 s.2 (H9 k) (U6 nm i)):=by unfold fL;rw [hk];rfl
      rw [ec] at nF ⊢;have E2y:=C8T (k:=k) (s:=nm) (n:=i) (h:=h2) (by omega) x7 xm;obtain ⟨h3,e3⟩:=xEq (h2++[rT (B4 (U6 nm i)),rT [cI (H9 k:Nat),.sl h2.length 0 32 1]]);have s5:G0 (h2++[rT (B4 (U6 nm i)),rT [o0,.ns]]) 2 (.c (.p (h2.length+1) 0)) (.a [cI (H9 k:Nat),.sl h2.length 0 32 1])=A4 h3:=by rw [T1,e3];rfl
      have F3:Fr r h2 h3:=by rw [e3];exact Fr.low ((Low.refl (E69 _)).new _) P2.rlt
      have P3:WP D n m f g r s.1 h3:=by rw [e3];exact P2.more hv2 _
      have b3:=b2.fr F3;have hbl:(B4 s.2).length=256:=by rw [B5,hs]
      have q1:=C8 (n:=256) b3.2 hbl;have q2:D3 h3 2 (.c (.p (h2.length+1) 0))=A4 (.a [cI (H9 k:Nat),.sl h2.length 0 32 1]):=by rw [e3,P8];rfl
      have E37:Has h3 (.c (.sl h2.length 0 32 1)) 1 32 (B4 (U6 nm i)):=Has.row (rw:=A5) (by rw [e3];simp) (by rw [B5,V4]) (W1 _);have E52:=C0s (a:=H9 k) (l:=s.2) E37 (by omega) (by unfold H9;omega) hs;have hl2:(B4 (H5 s.2 (H9 k) (U6 nm i))).length=256:=by rw [B5];exact nF
      have sb:=storeAll (n:=256) (xs:=B4 (H5 s.2 (H9 k) (U6 nm i))) b3.2 hbl hl2;have Fa:=F2.trans F3;obtain ⟨h',g1,g2⟩:=ih (j+1) M (s.1,H5 s.2 (H9 k) (U6 nm i)) _ (by omega) (by omega) nF l0 (by dsimp only;omega) (P3.set b3.1 (by omega)) ((F.trans Fa).set b3.1 a9) ((m2.fr F3).set n1 b3.1.2.1) ((x2.fr F3).set n2 b3.1.2.1) ⟨z,hzl,(z2.fr F3).set n3 b3.1.2.1⟩ b3.self ((ls2.fr F3).set n4 b3.1.2.1);refine ⟨h',?_,g2⟩
      try dsimp only at g1
      generalize B4 (H5 s.2 (H9 k) (U6 nm i))=B2 at *;generalize B4 s.2=B at *;generalize encI (d::t)=X at *;generalize B4 (U6 nm i)=E at *;simp only [esc,Nat.reduceAdd,c0,ad,l3,s3,lX,lN,hH,E7S,s4,lB,eq_self,lS,lP,ea2,lP0,lP1,lP2,lPE,lk,c3,E2y,s5,q1,q2,E52,sb,V9,w1];exact g1
     ·obtain ⟨h3,h',f1,f2,f3,f4,f5⟩:=lose (by unfold V5;simp [c3]);refine ⟨h',?_,f5⟩;generalize encI (d::t)=X at *;simp only [esc,Nat.reduceAdd,c0,ad,l3,s3,lX,lN,hH,E7S,s4,lB,eq_self,lS,lP,ea2,lP1,lP2,lk,c3,f1,f2,f3,V9,w1];exact f4
    ·have ea2:aeq A5 [.i .i64,.s,.i .i64] (.a (slC (A4 p))) (.a (slC (A4 (k,nm,i))))=A4 (.c (.b A5)):=by rw [ea];simp [c2]
     obtain ⟨h3,h',f1,f2,f3,f4,f5⟩:=lose (by unfold V5 atH;simp only [ho];simp [c2]);refine ⟨h',?_,f5⟩;generalize encI (d::t)=X at *;simp only [esc,Nat.reduceAdd,c0,ad,l3,s3,lX,lN,hH,E7S,s4,lB,eq_self,lS,lP,ea2,f1,f2,f3,V9,w1];exact f4
   ·obtain ⟨h3,h',f1,f2,f3,f4,f5⟩:=lose (by unfold V5 atH;simp only [ho];simp [c1]);refine ⟨h',?_,f5⟩;generalize encI (d::t)=X at *;simp only [esc,Nat.reduceAdd,c0,ad,l3,s3,lX,lN,hH,E7S,s4,lB,c1,f1,f2,f3,V9,w1];exact f4
end
def B7U{K:List UInt8->Option Int}:∀ {l:List Slt} {s:Cl × List UInt8},s.2.length=256->(∀ x∈l,x.1<7)->(W0 D X no K s l).2.length=256
 | [],_,hs,_=>hs
 | x::l,s,hs,h=>B7U (l:=l) (s:=fL D X no K s x) (C92 hs (h x (E7e ..))) λy hy=>h y (E7d _ hy)
def C3s{D:Dev}{X:List Int}{no:Int}{K:List UInt8->Option Int}:∀ {l:List Slt} {s:Cl × List UInt8},s.1.lost<=(W0 D X no K s l).1.lost/\(W0 D X no K s l).1.lost<=s.1.lost+(l_ l)
 | [],s=>⟨Int.le_refl _,by show s.1.lost<=_;simp⟩
 | x::l,s=>by
  have h1:=C6B (D:=D) (X:=X) (no:=no) (K:=K) (s:=s) (x:=x);have h2:=C3s (D:=D) (X:=X) (no:=no) (K:=K) (l:=l) (s:=fL D X no K s x);show s.1.lost<=(W0 D X no K (fL D X no K s x) l).1.lost/\_<=_;rw [E7k];refine ⟨by omega,?_⟩;show (W0 D X no K (fL D X no K s x) l).1.lost<=_;omega
structure SameL(c c':Cl):Prop where
 row:c'.row=c.row
 ino:c'.ino=c.ino
 blocks:c'.blocks=c.blocks
 made:c'.made=c.made
 taken:c'.taken=c.taken
 lnk:c'.lnk=c.lnk
 par:c'.par=c.par
def A2c{D:Dev}{X:List Int}{no:Int}{K:List UInt8->Option Int}:∀ {l:List Slt} {s:Cl × List UInt8},SameL s.1 (W0 D X no K s l).1
 | [],_=>⟨rfl,rfl,rfl,rfl,rfl,rfl,rfl⟩
 | x::l,s=>by
  have h2:=A2c (D:=D) (X:=X) (no:=no) (K:=K) (l:=l) (s:=fL D X no K s x);have h1:SameL s.1 (fL D X no K s x).1:=by
   unfold fL;cases V5 D X no K x<;>exact ⟨rfl,rfl,rfl,rfl,rfl,rfl,rfl⟩
  show SameL s.1 (W0 D X no K (fL D X no K s x) l).1;exact ⟨h2.row.trans h1.row,h2.ino.trans h1.ino,h2.blocks.trans h1.blocks,h2.made.trans h1.made,h2.taken.trans h1.taken,h2.lnk.trans h1.lnk,h2.par.trans h1.par⟩
def C0z:∀ x∈J3 b,x.1<7/\x.2.1.length<=24/\B52 x.2.1 x.2.2=A5:=λx hx=>by
 have h1:=A9B hx;exact ⟨h1.2,B5A h1.1,C2C h1.1⟩
section
variable {D:Dev} {n m:Int} {f:Cell} {g:A9} {r:Nat} {c:Cl} {h:A9}
def D5q{K:List UInt8->Option Int}(hD:okD D)(hv:IsView g f D)(P:WP D n m f g r c h)(ht:l_ t=32)(hK:MapK es K)(hm:LocM h r mk es)(l0:0<=c.lost)(l1:c.lost<=900000) :
  ∃ h',nX [.c (.p r 0),.a (encI (d::t)),.c (cI no),.c (.m mk)] h=A4 (.a (B4 (W0 D (d::t) no K (c,dY []) (J3 (blk D no))).2),h')/\WP D n m f g r (W0 D (d::t) no K (c,dY []) (J3 (blk D no))).1 h'/\Fr r h h':=by
 have hv2:=hv.get;have h33:(encI (d::t)).length=33:=by simp [B9,ht]
 have E53:=λh=>C8S (v:=.c .ns) (nv:=0) (l:=[]) (h:=h) (.inl ⟨rfl,rfl,rfl⟩) (by simp)
 have hNl:(B4 (dY [])).length=256:=by rw [B5];exact A66
 have hZl:(B4 (zeros 256)).length=256:=by rw [B5];exact zeros_length
 obtain ⟨T,hT⟩:=xEq ([rT (encI (d::t)),rT (B4 (zeros 256)),rT (B4 (dY []))]);have F1:Fr r h (h++T):=Fr.low ((Low.refl (E69 _)).new _) P.rlt;have P1:=P.more hv2 T;have lV:=P1.view;have hB:=N2 (n:=n) (m:=m) (no:=no) hD (hv.since P1.lo);obtain ⟨v,tt,b1,b2,b3⟩:=A2O (b:=blk D no) (h:=h++T) (J8 hD);have hlen:=b2.len;have h7:=lJ (blk D no);have F2:Fr r (h++T) (h++T++tt):=Fr.low ((Low.refl (E69 _)).new _) P1.rlt;have P2:=P1.more hv2 tt;have L0:LocV (h++T) r (l_ h) (encI (d::t)):=LocV.new (k:=0) hv2 P (by rw [hT];rfl);have L1:LocV (h++T) r (l_ h+1) (B4 (zeros 256)):=LocV.new (k:=1) hv2 P (by rw [hT];rfl);have L2:LocV (h++T) r (l_ h+2) (B4 (dY [])):=LocV.new (k:=2) hv2 P (by rw [hT];rfl);have main:∃ h',dU 100 100 (.c (.p r 0)) (.c (cI no)) (.c (.m mk)) (.c (.p (l_ h) 0)) (.c (.p (l_ h+1) 0)) (.c (.p (l_ h+2) 0)) v (.c (cI ((J3 (blk D no)).length:Nat))) (.c o0) (h++T++tt)=A4 (.a (B4 (W0 D (d::t) no K (c,dY []) (J3 (blk D no))).2),h')/\WP D n m f g r (W0 D (d::t) no K (c,dY []) (J3 (blk D no))).1 h'/\Fr r h h':=by
  rcases b3 with ⟨rfl,rfl,b3⟩ | ⟨rfl,rfl⟩
  ·rw [b3,E7q];have c00:decide ((0:Int)<((0:Nat):Int))=A6:=by decide
   have q1:=C8 (n:=256) L2.2 hNl;have s1:=storeAll (n:=256) (xs:=B4 (dY [])) L1.2 hZl hNl;have z2:=L1.self (cs':=B4 (dY []));have q2:=C8 (n:=256) z2.2 hNl;refine ⟨(h++T).set (l_ h+1) (rT (B4 (dY []))),?_,P1.set L1.1 (by have:=P.lo.2.1;omega),F1.set L1.1 (by omega)⟩;rw [gK];show _=A4 (Val.a (B4 (dY [])),_);generalize B4 (dY [])=B at *;generalize h++T=G at *;simp only [esc,c00,q1,s1,q2]
  ·have hT3:(h++T).length=l_ h+3:=by rw [hT];simp
   have L3:LocV (h++T++[rT (qV (J3 (blk D no)))]) r ((h++T).length+0) (qV (J3 (blk D no))):=LocV.new (k:=0) hv2 P1 rfl;rw [E8m] at L3;have hml:=hm.1.1;obtain ⟨h',e1,e2,e3⟩:=D5p (n:=n) (m:=m) (q:=100) (no:=no) (h0:=h) (mk:=mk) (px:=l_ h) (p8:=l_ h+1) (p9:=l_ h+2) (lst:=(h++T).length) (l:=J3 (blk D no)) hD hv ht hK P.lo.2.1 (by omega) (by omega) (by omega) (by omega) (by omega) (by omega) h7 C0z (J3 (blk D no)).length 0 100 (c,dY []) _ (by omega) (by omega) (A66 (l:=[])) l0 (by dsimp only;omega) P2 (F1.trans F2) (hm.fr (F1.trans F2)) (L0.fr F2) ⟨_,hZl,L1.fr F2⟩ (L2.fr F2) L3;rw [E7n] at e1 e2;exact ⟨h',e1,e2,e3⟩
 obtain ⟨h',e1,e2,e3⟩:=main;refine ⟨h',A8K (n:=100) ?_,e2,e3⟩;rw [A8B,J4];rw [hT] at e1 lV hB b1;have sB:stN (rT (B4 (zeros 256))) 0 256 (B4 (dY []))=rT (B4 (dY [])):=fZ hZl hNl;generalize B4 (W0 D (d::t) no K (c,dY []) (J3 (blk D no))).2=BR at *;generalize B4 (dY [])=B at *;generalize B4 (zeros 256)=Z at *;generalize encI (d::t)=X at *;generalize vwC (l_ D) n m f=V at *;generalize B4 (blk D no)=Y at *;simp only [esc,E53,T1,Nat.reduceAdd,sB,lV,hB,b1,hlen];simp only [esc] at e1;exact e1
end
def K4(D:Dev)(n ino:Int)(s:Cl × (List UInt8->Option Int))(e:Ent):Cl × (List UInt8->Option Int):=bif Q6 D n s.1 e.2 then (U4 D n s.1 ino e.2,B40 s.2 e.1 e.2) else s
def O9(D:Dev)(n ino:Int)(s:Cl × (List UInt8->Option Int))(L:List Ent):Cl × (List UInt8->Option Int):=L.foldl (K4 D n ino) s
def dP(D:Dev)(X:List Int)(K:List UInt8->Option Int)(c:Cl)(no:Int):Cl:=dO (W0 D X no K (c,dY []) (J3 (blk D no))).1 no (W0 D X no K (c,dY []) (J3 (blk D no))).2
def P7(D:Dev)(X:List Int)(K:List UInt8->Option Int)(c:Cl)(L:List Int):Cl:=L.foldl (dP D X K) c
def BndL(c:Cl)(B:Int):Prop:=∀ i,0<=(c.lnk i).getD 0/\(c.lnk i).getD 0<=B
def BndL.mono{B B':Int}(h:BndL c B)(hb:B<=B'):BndL c B':=λi=>⟨(h i).1,Int.le_trans (h i).2 hb⟩
structure SameT(c c':Cl):Prop where
 ino:c'.ino=c.ino
 blocks:c'.blocks=c.blocks
 made:c'.made=c.made
 taken:c'.taken=c.taken
 lost:c'.lost=c.lost
def D4V{ino B:Int}{s:Cl × (List UInt8->Option Int)}(hb:BndL s.1 B):SameT s.1 (K4 D n ino s e).1/\BndL (K4 D n ino s e).1 (B+1)/\(K4 D n ino s e).1.row.length<=s.1.row.length+1:=by
 have hl:BndL (A2u s.1 e.2) (B+1):=by
  intro i;have h1:=hb i;have h2:=hb e.2;unfold A2u A1f;dsimp only;by_cases c:i=e.2
  ·rw [C4 c];simp;omega
  ·rw [C5 c];omega
 unfold K4 U4;cases Q6 D n s.1 e.2 with
 | false=>exact ⟨⟨rfl,rfl,rfl,rfl,rfl⟩,hb.mono (by omega),by simp⟩
 | true =>
  simp only [R8];cases (s.1.par e.2).isSome with
  | true=>exact ⟨⟨rfl,rfl,rfl,rfl,rfl⟩,hl,by simp [A2u]⟩
  | false=>exact ⟨⟨rfl,rfl,rfl,rfl,rfl⟩,λi=>hl i,by simp [C4O,A2u]⟩
section
variable {D:Dev} {n m:Int} {f:Cell} {g:A9} {r:Nat} {h:A9}
def LocM.self{id:Nat}{es':W3}(a:LocM h r id es):LocM (h.set id (A4 (Q1 es'))) r id es' :=
 ⟨⟨by simpa using a.1.1,a.1.2.1,λhn=>a.1.2.2 ((Nam.same (B7 a.1.2.1)).1 hn)⟩,E1 a.1.1⟩
def D6G{ino:Int}{pi px lst:Nat}{ci cx:List Cell}(hD:okD D)(hv:IsView g f D)(h0g:l_ g<=h0.length)(am:h0.length<=mk)(n1:mk≠pi)(n2:mk≠px)(n3:mk≠lst)(hL:l_ L<=10000) :
  ∀ (e j M:Nat) (B:Int) (s:Cl × (List UInt8->Option Int)) (es:W3) (h:A9),j+e=l_ L->e<M->s.1.row.length+e<=100000->B+e<900000->BndL s.1 B->WP D n m f g r s.1 h->Fr r h0 h->LocM h r mk es->MapK es s.2->LocV h r pi ci->LocV h r px cx->LocV h r lst (J7 L) ->
  ∃ M' es' h',nE q M (.c (.p r 0)) (.c (cI ino)) (.c (.p pi 0)) (.c (.p px 0)) (.c (.m mk)) (.c (.sl lst 0 (l_ L) 2)) (.c (cI (l_ L:Nat))) (.c (cI (j:Int))) h =
   nE q (M'+1) (.c (.p r 0)) (.c (cI ino)) (.c (.p pi 0)) (.c (.p px 0)) (.c (.m mk)) (.c (.sl lst 0 (l_ L) 2)) (.c (cI (l_ L:Nat))) (.c (cI (l_ L:Nat))) h' /\
   WP D n m f g r (O9 D n ino s (L.drop j)).1 h'/\Fr r h0 h'/\LocM h' r mk es'/\MapK es' (O9 D n ino s (L.drop j)).2/\LocV h' r pi ci/\LocV h' r px cx/\BndL (O9 D n ino s (L.drop j)).1 (B+e)/\(O9 D n ino s (L.drop j)).1.row.length<=s.1.row.length+e/\SameT s.1 (O9 D n ino s (L.drop j)).1:=by
 intro e
 induction e with
 | zero =>
  intro j M B s es h hj hM hr hB hb P F hm hK hi hx hl;obtain ⟨M,rfl⟩:=Z3 M (by omega);have ej:j=(l_ L):=by omega
  subst ej;rw [List.drop_length];exact ⟨M,es,h,rfl,P,F,hm,hK,hi,hx,hb.mono (by omega),by show s.1.row.length<=_;omega,⟨rfl,rfl,rfl,rfl,rfl⟩⟩
 | succ e ih =>
  intro j M B s es h hj hM hr hB hb P F hm hK hi hx hl;obtain ⟨M,rfl⟩:=Z3 M (by omega);have hjl:j<(l_ L):=by omega
  have c0:((j:Int)<(l_ L:Nat)):=by omega
  have hv2:=hv.get;have w1:=E3 (a:=j) (by omega);have E37:Has h (.c (.sl lst 0 (l_ L) 2)) 2 (l_ L) (J7 L):=Has.row hl.2 iP A9n;obtain ⟨ad,a1,a2⟩:=A4d E37 hjl;rw [E7g hjl];obtain ⟨x,hxe⟩:=xEq (L[j]);rw [<-hxe] at a2 ⊢;have er:∀ T,O9 D n ino s (x::T)=O9 D n ino (K4 D n ino s x) T:=λT=>rfl
  rw [er];obtain ⟨tf1,tf2,tf3⟩:=D4V (D:=D) (n:=n) (ino:=ino) (s:=s) (e:=x) hb;obtain ⟨hh,hhe⟩:=xEq (h++[rT (W5 (A4 x))]);have se:G0 (h++[rT [.s [],o0]]) 2 (.c (.p (l_ h) 0)) (.a (W5 (A4 x)))=A4 hh:=by rw [hhe];exact B4U
  have F1:Fr r h hh:=by rw [hhe];exact Fr.low ((Low.refl (E69 _)).new _) P.rlt
  have P1:WP D n m f g r s.1 hh:=by rw [hhe];exact P.more hv2 _
  have L1:LocV hh r (l_ h+0) (W5 (A4 x)):=by rw [hhe];exact LocV.new (k:=0) hv2 P rfl
  rw [E8m] at L1;have e1:B8 hh (.c (.p (l_ h) 1))=A4 (.c (cI x.2)):=C1 L1.2 rfl rfl;have hkl:=hb x.2;obtain ⟨h2,f1,f2,f3⟩:=E3n (dir:=ino) (ino:=x.2) hD hv P1 (by omega) (by omega);have Fa:=F1.trans f3;have m2:=hm.fr Fa;have i2:=hi.fr Fa;have x2:=hx.fr Fa;have l2:=hl.fr Fa;have L2:=L1.fr f3;have e2:B8 h2 (.c (.p (l_ h) 0))=A4 (.c (.s x.1)):=C1 L2.2 rfl rfl;have e3:B8 h2 (.c (.p (l_ h) 1))=A4 (.c (cI x.2)):=C1 L2.2 rfl rfl;cases hb2:Q6 D n s.1 x.2 with
  | true =>
   have et:K4 D n ino s x=(U4 D n s.1 ino x.2,B40 s.2 x.1 x.2):=by unfold K4;rw [hb2];rfl
   have mp:=E6G (a:=x.1) (x:=x.2) m2.2 hK;have X4:=hm.1.1;rw [et] at tf1 tf2 tf3 ⊢;obtain ⟨M',es',h',g1,g2,g3,g4,g5,g6,g7,g8,g9,g10⟩:=ih (j+1) M (B+1) (U4 D n s.1 ino x.2,B40 s.2 x.1 x.2) (A9E (.s x.1) (.c (cI x.2)) es) _ (by omega) (by omega) (by dsimp only at tf3 ⊢;omega) (by omega) tf2 (f2.set m2.1 (by omega)) ((F.trans Fa).set m2.1 am) m2.self (hK.put x.1 x.2) (i2.set n1 m2.1.2.1) (x2.set n2 m2.1.2.1) (l2.set n3 m2.1.2.1);refine ⟨M',es',h',?_,g2,g3,g4,g5,g6,g7,g8.mono (by omega),by dsimp only at tf3 g9;omega,⟨g10.ino.trans tf1.ino,g10.blocks.trans tf1.blocks,g10.made.trans tf1.made,g10.taken.trans tf1.taken,g10.lost.trans tf1.lost⟩⟩;rw [oS];rw [hb2] at f1;simp only [esc,c0,a1,a2,se,e1,f1,e2,e3,mp,A2a,w1];exact g1
  | false =>
   have et:K4 D n ino s x=s:=by unfold K4;rw [hb2];rfl
   have ec:U4 D n s.1 ino x.2=s.1:=by unfold U4;rw [hb2];rfl
   rw [ec] at f2;rw [et];obtain ⟨M',es',h',g1,g2,g3,g4,g5,g6,g7,g8,g9,g10⟩:=ih (j+1) M B s es h2 (by omega) (by omega) (by omega) (by omega) hb f2 (F.trans Fa) m2 hK i2 x2 l2;refine ⟨M',es',h',?_,g2,g3,g4,g5,g6,g7,g8.mono (by omega),by omega,g10⟩;rw [oS];rw [hb2] at f1;simp only [esc,c0,a1,a2,se,e1,f1,A2a,w1];exact g1
def D20{L:List Int}{K:List UInt8->Option Int}{px sid:Nat}(hD:okD D)(hv:IsView g f D)(ht:l_ t=32)(hK:MapK es K)(hL:l_ L<=100) :
  ∀ (e j M:Nat) (c:Cl) (h:A9),j+e=l_ L->e<M->0<=c.lost->c.lost+7*e<=900000->c.blocks.length+e<=100000->c.made.length+e<=100000->WP D n m f g r c h->Fr r h0 h->LocM h r mk es->LocV h r px (encI (d::t))->LocV h r sid (encI L) ->
  ∃ h',A6Q q M (.c (.p r 0)) (.c (.p px 0)) (.c (.m mk)) (.c (.sl sid 0 (l_ L) 1)) (.c (cI (l_ L:Nat))) (.c (cI (j:Int))) h=A4 (.t [],h')/\WP D n m f g r (P7 D (d::t) K c (L.drop j)) h'/\Fr r h0 h' /\
   0<=(P7 D (d::t) K c (L.drop j)).lost/\(P7 D (d::t) K c (L.drop j)).lost<=c.lost+7*e/\(P7 D (d::t) K c (L.drop j)).blocks.length=c.blocks.length+e/\(P7 D (d::t) K c (L.drop j)).made.length=c.made.length+e/\(P7 D (d::t) K c (L.drop j)).row=c.row/\(P7 D (d::t) K c (L.drop j)).lnk=c.lnk/\(P7 D (d::t) K c (L.drop j)).ino=c.ino:=by
 intro e
 induction e with
 | zero =>
  intro j M c h hj hM l0 l1 b0 b1 P F hm hx hl;obtain ⟨M,rfl⟩:=Z3 M (by omega);have c0:¬ ((j:Int)<(l_ L:Nat)):=by omega
  rw [E7j (by omega)];refine ⟨h,?_,P,F,l0,by show c.lost<=_;omega,rfl,rfl,rfl,rfl,rfl⟩;rw [A2b];simp only [esc,c0];rfl
 | succ e ih =>
  intro j M c h hj hM l0 l1 b0 b1 P F hm hx hl;obtain ⟨M,rfl⟩:=Z3 M (by omega);have hjl:j<(l_ L):=by omega
  have c0:((j:Int)<(l_ L:Nat)):=by omega
  have hv2:=hv.get;have w1:=E3 (a:=j) (by omega);have ad:F5 1 (.c (.sl sid 0 (l_ L) 1)) (.c (cI (j:Int)))=A4 (.c (.p sid j)):=by rw [E4 hjl];simp
  have a1:B8 h (.c (.p sid j))=A4 (.c (cI L[j])):=C1 hl.2 (by rw [G7,E64 hjl];rfl) rfl;have lX:D3 h 33 (.c (.p px 0))=A4 (.a (encI (d::t))):=C8 hx.2 (by simp [B9,ht]);obtain ⟨h1,f1,f2,f3⟩:=D5q (no:=L[j]) hD hv P ht hK hm l0 (by omega);have hlen:=B7U (D:=D) (X:=d::t) (no:=L[j]) (K:=K) (l:=J3 (blk D L[j])) (s:=(c,dY [])) (A66 (l:=[])) λx hx=>(C0z x hx).1
  have hlo:=C3s (D:=D) (X:=d::t) (no:=L[j]) (K:=K) (l:=J3 (blk D L[j])) (s:=(c,dY []));have hsa:=A2c (D:=D) (X:=d::t) (no:=L[j]) (K:=K) (l:=J3 (blk D L[j])) (s:=(c,dY []));have h7:=lJ (blk D L[j]);have em:dP D (d::t) K c L[j]=dO (W0 D (d::t) L[j] K (c,dY []) (J3 (blk D L[j]))).1 L[j] (W0 D (d::t) L[j] K (c,dY []) (J3 (blk D L[j]))).2:=rfl;obtain ⟨s,hs⟩:=xEq (W0 D (d::t) L[j] K (c,dY []) (J3 (blk D L[j])));rw [<-hs] at f1 f2 hlen hlo hsa em;dsimp only at hlo hsa;have eb:=hsa.blocks;have emd:=hsa.made;obtain ⟨h2,g1,g2,g3⟩:=D1O (no:=L[j]) hv2 f2 hlen (by rw [eb];omega) (by rw [emd];omega);have Fa:=f3.trans g3;rw [E7g hjl];have er:∀ T,P7 D (d::t) K c (L[j]::T)=P7 D (d::t) K (dP D (d::t) K c L[j]) T:=λT=>rfl
  rw [er,em];have k1:(dO s.1 L[j] s.2).blocks.length=c.blocks.length+1:=by show (s.1.blocks++[L[j]]).length=_;rw [eb];simp
  have k2:(dO s.1 L[j] s.2).made.length=c.made.length+1:=by show (s.1.made++[s.2]).length=_;rw [emd];simp
  have k3:(dO s.1 L[j] s.2).lost=s.1.lost:=rfl;obtain ⟨h',p1,p2,p3,p4,p5,p6,p7,p8,p9,p10⟩:=ih (j+1) M (dO s.1 L[j] s.2) h2 (by omega) (by omega) (by rw [k3];omega) (by rw [k3];omega) (by omega) (by omega) g2 (F.trans Fa) (hm.fr Fa) (hx.fr Fa) (hl.fr Fa);refine ⟨h',?_,p2,p3,p4,by rw [k3] at p5;omega,by omega,by omega,p8.trans hsa.row,p9.trans hsa.lnk,p10.trans hsa.ino⟩;rw [A2b];generalize B4 s.2=B2 at *;generalize encI (d::t)=X at *;simp only [esc,c0,ad,a1,lX,f1,g1,w1];exact p1
end
def K5(D:Dev)(n:Int)(c:Cl)(ino:Int):Cl × Int :=
 bif decide (kdV D n ino=2)&&Q4 (blk D ((drV D n ino).getD 0 0)) then (K0 D n c ((drV D n ino).getD 0 0),K3 D n c ((drV D n ino).getD 0 0)) else (c,0)
def T3(D:Dev)(n:Int)(c:Cl)(ino:Int):Cl:={ (K5 D n c ino).1 with ino:=(K5 D n c ino).1.ino.set ino.toNat (2::1::0::(c.par ino).getD 0::(K5 D n c ino).2::zI 6) }
def G6(D:Dev)(n:Int)(c:Cl)(d:Int)(t:List Int):Cl × List Int:=V8 D n (c,bD d t) (J5 (bD d t) (C6 (O3 d t)))
def bodyT(D:Dev)(n:Int)(c:Cl)(ino d:Int)(t:List Int):Cl × (List UInt8->Option Int) :=
 O9 D n ino ((G6 D n c d t).1,λ_=>A7) (S7 D (O3 d t::(G6 D n c d t).2) (J5 (G6 D n c d t).2 (C6 (O3 d t))))
def bJ(D:Dev)(n:Int)(c:Cl)(ino no d:Int)(t:List Int):Cl :=
 P7 D (O3 d t::(G6 D n c d t).2) (bodyT D n c ino d t).2 (dO (bodyT D n c ino d t).1 no (bif okX (O3 d t) (G6 D n c d t).2 then nJ (O3 d t) (G6 D n c d t).2 else zeros 256)) (J5 (G6 D n c d t).2 (C6 (O3 d t)))
def mD(D:Dev)(n:Int)(c:Cl)(ino:Int):Cl:=
 if (K5 D n c ino).2=0 then T3 D n c ino else
  bJ D n (T3 D n c ino) ino (K5 D n c ino).2 (getD (blk D ((drV D n ino).getD 0 0))) (O8 (blk D ((drV D n ino).getD 0 0)) 32)
def C3g{D:Dev}:∀ {L:List Int},(yJ D L).length<=7*(l_ L)
 | []=>by simp [yJ]
 | no::L=>by
  have h1:=C3g (D:=D) (L:=L);have h2:=lJ (blk D no);rw [C9H,E7c,E8s,E7k];omega
def D1M{L:List Int}:(S7 D X L).length<=7*(l_ L):=by
 have h1:=C3g (D:=D) (L:=L);have h2:=C2s (D:=D) (X:=X) (s:=yJ D L);unfold S7;rw [E8s];have h3:=B1p (Q0 D X (yJ D L));omega
structure Small(c:Cl)(R B S L:Nat):Prop where
 row:c.row.length<=R
 lnk:BndL c B
 blocks:c.blocks.length<=S
 made:c.made.length<=S
 lost0:0<=c.lost
 lost:c.lost<=(L:Int)
section
variable {D:Dev} {n m:Int} {f:Cell} {g:A9} {r:Nat} {c:Cl} {h:A9}
def E0a{ino:Int}{pi px R B S Lo:Nat}{k s:Int}{tl:List Int}(hD:okD D)(hv:IsView g f D)(ht:l_ t=32)(hq:300<=q)(h0g:l_ g<=h0.length)(ax:h0.length<=px)(npx:px≠pi)
  (hR:R<=50000) (hB:B<=500000) (hS:S<=50000) (hLo:Lo<=500000) (sm:Small c R B S Lo) (P:WP D n m f g r c h) (F:Fr r h0 h) (hi:LocV h r pi (C9 k l s p (no::tl))) (htl:tl.length=6) (hx:LocV h r px (encI (d::t))) :
  ∃ h',(bnd (D3 h 33 (.c (.p px 0))) λv48=>bnd (fE [.c (.p r 0),v48] h) λp49=>bnd (G0 p49.2 33 (.c (.p px 0)) p49.1) λh50=>bnd (D3 (h50++[A4 (Q1 [])]) 33 (.c (.p px 0))) λv51=>bnd (jR [.c (.p r 0),v51] (h50++[A4 (Q1 [])])) λp52=>bnd (B5X p52.1) λv53=>nE q q (.c (.p r 0)) (.c (cI ino)) (.c (.p pi 0)) (.c (.p px 0)) (.c (.m h50.length)) p52.1 v53 (.c o0) p52.2)=A4 (.t [],h') /\
   WP D n m f g r (bJ D n c ino no d t) h'/\Fr r h0 h'/\Small (bJ D n c ino no d t) (R+224) (B+224) (S+33) (Lo+224)/\(bJ D n c ino no d t).ino=c.ino:=by
 have hv2:=hv.get;have h33:(encI (d::t)).length=33:=by simp [B9,ht]
 have l33:=C8 (n:=33) hx.2 h33;obtain ⟨hA,a1,a2,a3⟩:=D5j (d:=d) (t:=t) hv2 P ht;have hbs:=bO (D:=D) (n:=n) (L:=J5 (bD d t) (C6 (O3 d t))) (s:=(c,bD d t));have hbl:=C1T (D:=D) (n:=n) (L:=J5 (bD d t) (C6 (O3 d t))) (s:=(c,bD d t));have eb:V8 D n (c,bD d t) (J5 (bD d t) (C6 (O3 d t)))=G6 D n c d t:=rfl;rw [eb] at a1 a2 hbs hbl;have hbT:(G6 D n c d t).2.length=32:=hbl.trans B4a;obtain ⟨d',hd'⟩:=xEq (O3 d t);unfold bJ bodyT;rw [<-hd'] at a1 ⊢;obtain ⟨s1,hs1⟩:=xEq (G6 D n c d t);rw [<-hs1] at a1 a2 hbs hbT ⊢;dsimp only at hbs;have xA:=hx.fr a3;have iA:=hi.fr a3;have D3u:(encI (d'::s1.2)).length=33:=by simp [B9,hbT]
 have st:=storeAll (n:=33) (xs:=encI (d'::s1.2)) xA.2 h33 D3u;obtain ⟨hB',hBe⟩:=xEq (hA.set px (rT (encI (d'::s1.2))));rw [<-hBe] at st;have PB:WP D n m f g r s1.1 hB':=by rw [hBe];exact a2.set xA.1 (by omega)
 have FB:Fr r h0 hB':=by rw [hBe];exact (F.trans a3).set xA.1 ax
 have xB:LocV hB' r px (encI (d'::s1.2)):=by rw [hBe];exact xA.self
 have iB:LocV hB' r pi (C9 k l s p (no::tl)):=by rw [hBe];exact iA.set npx xA.1.2.1
 obtain ⟨L,hL⟩:=xEq (J5 s1.2 (C6 d'));have hLl:l_ L<=32:=by rw [hL];exact E7V (jG _ _) (U3 _)
 obtain ⟨N,hN⟩:=xEq (S7 D (d'::s1.2) L);have hNl:N.length<=224:=by
  have:=D1M (D:=D) (X:=d'::s1.2) (L:=L);rw [hN];omega
 have PC:=PB.more hv2 [A4 (Q1 [])];have FC:Fr r hB' (hB'++[A4 (Q1 [])]):=Fr.low ((Low.refl (E69 _)).new _) PB.rlt;have nmE:=E0Y (n:=n) (m:=m) (f:=f) (r:=r) (d:=d') (t:=s1.2) (h:=hB'++[A4 (Q1 [])]) hD (hv.since PC.lo) (PC.vw hv2) hbT;rw [<-hL,<-hN] at nmE;have PD:=PC.more hv2 [rT (J7 N)];have FD:Fr r (hB'++[A4 (Q1 [])]) (hB'++[A4 (Q1 [])]++[rT (J7 N)]):=Fr.low ((Low.refl (E69 _)).new _) PC.rlt;have hCl:(hB'++[A4 (Q1 [])]).length=hB'.length+1:=by simp
 have LD:LocV (hB'++[A4 (Q1 [])]++[rT (J7 N)]) r (hB'.length+1) (J7 N):=by
  have:=LocV.new (h:=hB'++[A4 (Q1 [])]) (t:=[rT (J7 N)]) (k:=0) (cs:=J7 N) hv2 PC rfl;rw [hCl] at this;exact this
 have mkD:LocM (hB'++[A4 (Q1 [])]++[rT (J7 N)]) r hB'.length []:=by
  refine LocM.fr (h:=hB'++[A4 (Q1 [])]) ⟨⟨by simp,by have:=PB.rlt;omega,λhn=>?_⟩,by simp⟩ FD;have:=C2q hv2 PB ((Nam.same (D5 PB.rlt)).1 hn);omega
 have hpx:=xB.1.1;have hpi:=iB.1.1;have bl0:BndL s1.1 B:=λi=>by rw [hbs.lnk];exact sm.lnk i
 have r0:s1.1.row.length<=R:=by rw [hbs.row];exact sm.row
 have hh0:=FB.size;obtain ⟨M',es',hE,e1,e2,e3,e4,e5,e6,e7,e8,e9,e10⟩:=D6G (q:=q) (ino:=ino) (L:=N) (pi:=pi) (px:=px) (mk:=hB'.length) (lst:=hB'.length+1) (h0:=h0) hD hv h0g hh0 (by omega) (by omega) (by omega) (by omega) N.length 0 q B (s1.1,λ_=>A7) [] _ (by omega) (by omega) (by dsimp only;omega) (by omega) bl0 PD (FB.trans (FC.trans FD)) mkD MapK.nil (iB.fr (FC.trans FD)) (xB.fr (FC.trans FD)) LD;rw [E7n] at e2 e5 e8 e9 e10;rw [<-hL,<-hN];obtain ⟨s2,hs2⟩:=xEq (O9 D n ino (s1.1,λ_=>A7) N);rw [<-hs2] at e2 e5 e8 e9 e10 ⊢;dsimp only at e9 e10;have E2y:=B9X (d:=d') (t:=s1.2) (h:=hE) hbT;obtain ⟨ib,hib⟩:=xEq ((bif okX d' s1.2 then nJ d' s1.2 else zeros 256));have E5h:ib.length=256:=by
  rw [hib];cases okX d' s1.2 with
  | true=>exact A6X hbT
  | false=>exact zeros_length
 rw [<-hib] at E2y ⊢;have hIl:(B4 ib).length=256:=by rw [B5,E5h]
 have PF:=e2.more hv2 [rT (B4 ib)];have FF:Fr r hE (hE++[rT (B4 ib)]):=Fr.low ((Low.refl (E69 _)).new _) e2.rlt;have iF:=e6.fr FF;have xF:=e7.fr FF;have mF:=e4.fr FF;have lXE:D3 hE 33 (.c (.p px 0))=A4 (.a (encI (d'::s1.2))):=C8 e7.2 D3u;have li:B8 (hE++[rT (B4 ib)]) (.c (.p pi 4))=A4 (.c (cI no)):=C1 iF.2 rfl rfl;have lib:D3 (hE++[rT (B4 ib)]) 256 (.c (.p hE.length 0))=A4 (.a (B4 ib)):=by rw [G9];exact L9 hIl
 have sib:G0 (hE++[rT (E68 256 (Cell.i .u8 0))]) 256 (.c (.p hE.length 0)) (.a (B4 ib))=A4 (hE++[rT (B4 ib)]):=by
  rw [H6];show mp (stN (rT (E68 256 (Cell.i .u8 0))) 0 256 (B4 ib)) _=_;rw [fZ E7F hIl];rfl
 obtain ⟨hG,g1,g2,g3⟩:=D1O (no:=no) hv2 PF E5h (by rw [e10.blocks,hbs.blocks];have:=sm.blocks;omega) (by rw [e10.made,hbs.made];have:=sm.made;omega);have xG:=xF.fr g3;have mG:=mF.fr g3;have lXG:D3 hG 33 (.c (.p px 0))=A4 (.a (encI (d'::s1.2))):=C8 xG.2 D3u;have hBu:=iR (d:=d') (t:=s1.2) (h:=hG) hbT;rw [<-hL] at hBu;have PH:=g2.more hv2 [rT (encI L)];have FH:Fr r hG (hG++[rT (encI L)]):=Fr.low ((Low.refl (E69 _)).new _) g2.rlt;have lH:LocV (hG++[rT (encI L)]) r (hG.length+0) (encI L):=LocV.new (k:=0) hv2 g2 rfl;rw [E8m] at lH;have cb:(dO s2.1 no ib).blocks.length=c.blocks.length+1:=by show (s2.1.blocks++[no]).length=_;rw [e10.blocks,hbs.blocks];simp
 have cm:(dO s2.1 no ib).made.length=c.made.length+1:=by show (s2.1.made++[ib]).length=_;rw [e10.made,hbs.made];simp
 have cl:(dO s2.1 no ib).lost=c.lost:=by show s2.1.lost=_;rw [e10.lost,hbs.lost]
 have sb:=sm.blocks;have smd:=sm.made;have sl0:=sm.lost0;have sl1:=sm.lost;obtain ⟨hZ,z1,z2,z3,z4,z5,z6,z7,z8,z9,z10⟩:=D20 (q:=q) (d:=d') (t:=s1.2) (L:=L) (K:=s2.2) (es:=es') (mk:=hB'.length) (px:=px) (sid:=hG.length) (h0:=h0) hD hv hbT e5 (by omega) (l_ L) 0 q (dO s2.1 no ib) _ (by omega) (by omega) (by rw [cl];omega) (by rw [cl];omega) (by omega) (by omega) PH (e3.trans (FF.trans (g3.trans FH))) (mG.fr FH) (xG.fr FH) lH;rw [E7n] at z2 z4 z5 z6 z7 z8 z9 z10;refine ⟨hZ,?_,z2,z3,⟨?_,?_,by omega,by omega,z4,by omega⟩,?_⟩
 ·have lXB:D3 (hB'++[A4 (Q1 [])]) 33 (.c (.p px 0))=A4 (.a (encI (d'::s1.2))):=C8 (B6 xB.2) D3u;have e00:((0:Nat):Int)=0:=rfl;rw [e00] at e1 z1;have cN:¬ ((N.length:Nat):Int)<(N.length:Nat):=by omega
  rw [hCl] at nmE;rw [oS q M'] at e1;generalize encI (d::t)=X at *;generalize encI (d'::s1.2)=X' at *;generalize B4 ib=IB at *;generalize E68 256 (Cell.i .u8 0)=Z at *;simp only [C7,l33,a1,st,lXB,nmE,B0R];refine e1.trans ?_;simp only [esc,cN,lXE,E2y,sib,lib];have ad0:∀ j,L6 6 1 (.c (.p j 4)) (.c o0)=A4 (.c (.p j 4)):=λj=>Q7 (j:=0) (by omega)
  simp only [esc,ad0,li,g1,lXG,hBu];exact z1
 ·rw [z8];show s2.1.row.length<=_;omega
 ·intro i;have:=e8 i;rw [z9];show 0<=(s2.1.lnk i).getD 0/\(s2.1.lnk i).getD 0<=_;omega
 ·rw [z10];show s2.1.ino=_;rw [e10.ino,hbs.ino]
end
section
variable {D:Dev} {n m:Int} {f:Cell} {g:A9} {r:Nat} {c:Cl} {h:A9}
def D99{ino:Nat}{p0:Int}{R B S Lo:Nat}(hD:okD D)(hv:IsView g f D)(ht:l_ t=32)(hq:300<=q)(h0g:l_ g<=h0.length)(i1:ino<c.ino.length)
  (hR:R<=50000) (hB:B<=500000) (hS:S<=50000) (hLo:Lo<=500000) (sm:Small c R B S Lo) (P:WP D n m f g r c h) (F:Fr r h0 h) (hi:LocV h r h0.length (C9 2 1 0 p0 (no::zI 6))) (hx:LocV h r (h0.length+2) (encI (d::t))) :
  ∃ h',nD q (pV r 0) (iV (ino:Int)) (pV h0.length 0) (pV (h0.length+2) 0) h=A4 (.t [],h') /\
   WP D n m f g r (if no=0 then { c with ino:=c.ino.set ino (2::1::0::p0::no::zI 6) } else bJ D n { c with ino:=c.ino.set ino (2::1::0::p0::no::zI 6) } ino no d t) h'/\Fr r h0 h' /\
   Small (if no=0 then { c with ino:=c.ino.set ino (2::1::0::p0::no::zI 6) } else bJ D n { c with ino:=c.ino.set ino (2::1::0::p0::no::zI 6) } ino no d t) (R+224) (B+224) (S+33) (Lo+224):=by
 have hv2:=hv.get;obtain ⟨id,hC,c1,c2,c3,PC,FC⟩:=P.setIno hv2 (k:=ino) (l:=2::1::0::p0::no::zI 6) i1 rfl;have iC:=hi.fr FC;have xC:=hx.fr FC;have lI:D3 h 11 (pV h0.length 0)=A4 (.a (encI (2::1::0::p0::no::zI 6))):=C8 hi.2 rfl;have adI:F5 11 (sV id 0 c.ino.length 11) (iV (ino:Int))=A4 (pV id (ino*11)):=by rw [E4 i1];simp
 have lC4:B8 hC (pV h0.length 4)=A4 (iV no):=C1 iC.2 rfl rfl;have ad0:∀ j,L6 6 1 (pV j 4) (iV 0)=A4 (pV j 4):=λj=>Q7 (j:=0) (by omega)
 have sm':Small { c with ino:=c.ino.set ino (2::1::0::p0::no::zI 6) } R B S Lo:=⟨sm.row,sm.lnk,sm.blocks,sm.made,sm.lost0,sm.lost⟩;rw [B32];by_cases cz:no=0
 ·rw [C4 cz];refine ⟨hC,?_,PC,F.trans FC,⟨E7V sm.row (by omega),sm'.lnk.mono (by omega),E7V sm.blocks (by omega),E7V sm.made (by omega),sm.lost0,by have:=sm.lost;show c.lost<=_;omega⟩⟩;rw [cz] at lC4;simp only [esc,Nat.reduceAdd,c1,lI,adI,c3,ad0,lC4];rfl
 ·rw [C5 cz];obtain ⟨h',e1,e2,e3,e4,e5⟩:=E0a (ino:=(ino:Int)) (no:=no) (pi:=h0.length) (px:=h0.length+2) (q:=q) (h0:=h0) hD hv ht hq h0g (by omega) (by omega) hR hB hS hLo sm' PC (F.trans FC) iC (tl:=zI 6) rfl xC;refine ⟨h',?_,e2,e3,e4⟩;simp only [esc,Nat.reduceAdd,c1,lI,adI,c3,ad0,lC4,cz];exact e1
def D98{ino:Int}{R B S Lo:Nat}(hD:okD D)(hv:IsView g f D)(P:WP D n m f g r c h)(i0:0<=ino)(i1:ino.toNat<c.ino.length)(hR:R<=50000)(hB:B<=500000)(hS:S<=50000)(hLo:Lo<=500000)(sm:Small c R B S Lo) :
  ∃ h',pZ [pV r 0,iV ino] h=A4 (.t [],h')/\WP D n m f g r (mD D n c ino) h'/\Fr r h h'/\Small (mD D n c ino) (R+224) (B+224) (S+33) (Lo+224):=by
 have hv2:=hv.get;obtain ⟨k,rfl⟩:=E8d i0;rw [E7s] at i1;obtain ⟨mp,hq9,q1,q2,_⟩:=P.setPar hv2 0 0;have q2':=q2 A6 k;obtain ⟨p0,hp0⟩:=xEq ((c.par k).getD 0);rw [<-hp0] at q2';obtain ⟨d0,hd0⟩:=xEq ((drV D n k).getD 0 0);obtain ⟨b,hb⟩:=xEq (blk D d0);have hbl:l_ b=256:=by rw [hb];exact J8 hD
 obtain ⟨I,hI⟩:=xEq (C9 (kdV D n k) (lnV D n k) (szV D n k) (paV D n k) (drV D n k));have hIl:l_ I=11:=by rw [hI];simp [C9,B9,J9]
 have I0:I[0]?=A4 (cI (kdV D n k)):=by rw [hI];rfl
 have I4:I[4]?=A4 (cI d0):=by
  rw [hI];simp only [C9,E7u];rw [G7,hd0,E67,E64 (by rw [J9];omega)];rfl
 have hVI:=λt=>U5 (n:=n) (m:=m) (i:=(k:Int)) (h:=h++t) hD ((hv.since P.lo).more t)
 rw [dV,<-hI] at hVI;have lV:=λt=>(P.more hv2 t).view
 have hBk:=λt=>N2 (n:=n) (m:=m) (no:=d0) (h:=h++t) hD ((hv.since P.lo).more t)
 rw [<-hb] at hBk;have D5H:=λh=>B9U (b:=b) (h:=h) hbl
 obtain ⟨X,hX⟩:=xEq ((bif Q4 b then getD b::O8 b 32 else 0::zI 32));rw [<-hX] at D5H;obtain ⟨dd,tt,hXt,htt⟩:∃ dd tt,X=dd::tt/\tt.length=32:=by
  rw [hX];cases Q4 b with
  | true=>exact ⟨_,_,rfl,sW b⟩
  | false=>exact ⟨_,_,rfl,N7⟩
 have hXl:(encI X).length=33:=by rw [hXt];simp [B9,htt]
 obtain ⟨z,hz⟩:=xEq (C9 2 1 0 p0 (0::zI 6));have hzl:z.length=11:=by rw [hz];rfl
 have z11:[o0,o0,o0,o0,o0,o0,o0,o0,o0,o0,o0].length=11:=rfl;have ef:F9 [o0,o0,o0,o0,o0,o0,o0,o0,o0,o0,o0] [(0,1,iV 2),(1,1,iV 1),(3,1,iV p0)]=A4 z:=by rw [hz];rfl
 obtain ⟨T,hT⟩:=xEq ([rT z,rT I,rT (encI X)]);have P1:=P.more hv2 T;have F1:Fr r h (h++T):=Fr.low ((Low.refl (E69 _)).new _) P.rlt;have L0:LocV (h++T) r (l_ h+0) z:=LocV.new (k:=0) hv2 P (by rw [hT];rfl);have L1:LocV (h++T) r (l_ h+1) I:=LocV.new (k:=1) hv2 P (by rw [hT];rfl);have L2:LocV (h++T) r (l_ h+2) (encI X):=LocV.new (k:=2) hv2 P (by rw [hT];rfl);rw [E8m] at L0;have ad0:∀ j,L6 6 1 (pV j 4) (iV 0)=A4 (pV j 4):=λj=>Q7 (j:=0) (by omega)
 have eO:K5 D n c k=(bif decide (kdV D n k=2)&&Q4 b then (K0 D n c d0,K3 D n c d0) else (c,0)):=by unfold K5;rw [<-hd0,<-hb]
 have eI:∀ s:Cl × Int,K5 D n c k=s->T3 D n c k={ s.1 with ino:=s.1.ino.set k (2::1::0::p0::s.2::zI 6) }:=by
  intro s hs;unfold T3;rw [hs,<-hp0,E7s]
 have eC:∀ s:Cl × Int,K5 D n c k=s->(s.2≠0->Q4 b=A5)->mD D n c k=(if s.2=0 then { s.1 with ino:=s.1.ino.set k (2::1::0::p0::s.2::zI 6) } else bJ D n { s.1 with ino:=s.1.ino.set k (2::1::0::p0::s.2::zI 6) } k s.2 dd tt):=by
  intro s hs hg;unfold mD;rw [hs,eI s hs,<-hd0,<-hb];split
  ·rfl
  ·rename_i Z2;have h1:=hg Z2;rw [h1,R8,hXt] at hX;cases hX;rfl
 have pre:∀ {v:Val} {h':A9},(cnd (bV (decide (kdV D n k=2)&&Q4 b)) (bnd (X7 [pV r 0,iV d0] (h++T)) λp33=>bnd (I7 p33.2 (pV (l_ h) 4) p33.1) λh36=>nD 300 (pV r 0) (iV (k:Int)) (pV (l_ h) 0) (pV (l_ h+2) 0) h36)
   (nD 300 (pV r 0) (iV (k:Int)) (pV (l_ h) 0) (pV (l_ h+2) 0) (h++T)))=A4 (v,h')->pZ [pV r 0,iV (k:Int)] h=A4 (v,h'):=by
  intro v h' hj;refine B5P (n:=300) ?_;rw [B5J];rw [hT] at hj;have l0:ld1 (rT I) 0=A4 (iV (kdV D n k)):=by rw [zF,I0];rfl
  have l4:ld1 (rT I) 4=A4 (iV d0):=by rw [zF,I4];rfl
  have E4q:(o0::E68 32 o0).length=33:=by simp
  have s33:stN (rT (o0::E68 32 o0)) 0 33 (encI X)=rT (encI X):=fZ E4q hXl;generalize [o0,o0,o0,o0,o0,o0,o0,o0,o0,o0,o0]=zz at *;generalize E68 32 o0=z32 at *;generalize B4 b=BB at *;generalize encI X=XX at *;generalize vwC (l_ D) n m f=V at *;cases hgd:Q4 b with
  | true =>
   rw [hgd] at hj;simp only [hgd,R8] at D5H;by_cases ck:kdV D n k=2
   ·simp only [esc,P8,G9,aA,I6,T1,H6,L9,fZ,Nat.reduceAdd,q1,q2',wC,ef,hzl,z11,lV,hVI,hIl,ad0,l4,hBk,D5H,s33,l0,ck] at hj ⊢;exact hj
   ·simp only [esc,P8,G9,aA,I6,T1,H6,L9,fZ,Nat.reduceAdd,q1,q2',wC,ef,hzl,z11,lV,hVI,hIl,ad0,l4,hBk,D5H,s33,l0,ck] at hj ⊢;exact hj
  | false =>
   rw [hgd,Bool.and_false] at hj;simp only [hgd,bZ] at D5H;have n14:¬ (14:Int)=0:=by decide
   by_cases ck:kdV D n k=2
   ·simp only [esc,P8,G9,aA,I6,T1,H6,L9,fZ,Nat.reduceAdd,q1,q2',wC,ef,hzl,z11,lV,hVI,hIl,ad0,l4,hBk,D5H,s33,l0,ck,n14] at hj ⊢;exact hj
   ·simp only [esc,P8,G9,aA,I6,T1,H6,L9,fZ,Nat.reduceAdd,q1,q2',wC,ef,hzl,z11,lV,hVI,hIl,ad0,l4,hBk,D5H,s33,l0,ck] at hj ⊢;exact hj
 cases sF:(decide (kdV D n k=2)&&Q4 b) with
 | true =>
  rw [sF] at pre eO;rw [R8] at eO;obtain ⟨h1,f1,f2,f3⟩:=B95 (no:=d0) P1;have A0:=L0.fr f3;have A2:=L2.fr f3;have s1:=I8 (x:=cI (K3 D n c d0)) (off:=4) A0.2 (by rw [hzl];omega);have es:z.set 4 (cI (K3 D n c d0))=C9 2 1 0 p0 (K3 D n c d0::zI 6):=by rw [hz];rfl
  rw [es] at s1;have hsame:=A0X D n c d0;rw [hXt] at A2;have sm':Small (K0 D n c d0) R B S Lo:=⟨by rw [hsame.row];exact sm.row,λi=>by rw [hsame.lnk];exact sm.lnk i,by rw [hsame.blocks];exact sm.blocks,by rw [hsame.made];exact sm.made,by rw [hsame.lost];exact sm.lost0,by rw [hsame.lost];exact sm.lost⟩;obtain ⟨h',e1,e2,e3,e4⟩:=D99 (ino:=k) (no:=K3 D n c d0) (q:=300) (h0:=h) hD hv htt (by omega) P.lo.2.1 (by rw [hsame.ino];exact i1) hR hB hS hLo sm' (f2.set A0.1 (by have:=P.lo.2.1;omega)) ((F1.trans f3).set A0.1 (E69 _)) A0.self (A2.set (by omega) A0.1.2.1);rw [eC _ eO (λ_=>by
   simp only [E66] at sF;exact sF.2)]
  refine ⟨h',pre ?_,e2,e3,e4⟩;simp only [Y1,f1,C7,s1];exact e1
 | false =>
  rw [sF] at pre eO;rw [bZ] at eO;rw [hz] at L0;rw [hXt] at L2;obtain ⟨h',e1,e2,e3,e4⟩:=D99 (ino:=k) (no:=0) (q:=300) (h0:=h) hD hv htt (by omega) P.lo.2.1 i1 hR hB hS hLo sm P1 F1 L0 L2;rw [eC _ eO (λZ2=>absurd rfl Z2)];refine ⟨h',pre ?_,e2,e3,e4⟩;simp only [Y0];exact e1
end
structure RowW(n:Int)(c:Cl):Prop where
 nd:c.row.Nodup
 par:∀ i,(c.par i).isSome=A5↔i∈c.row
 rg:∀ i∈c.row,1<=i/\i<=n
def RowW.same(h:RowW n c)(h1:c'.row=c.row)(h2:c'.par=c.par):RowW n c' :=
 ⟨by rw [h1];exact h.nd,λi=>by rw [h1,h2];exact h.par i,by rw [h1];exact h.rg⟩
def D0T{dir ino:Int}(h:RowW n c):RowW n (U4 D n c dir ino):=by
 unfold U4;cases ht:Q6 D n c ino with
 | false=>exact h
 | true =>
  rw [R8];cases hs:(c.par ino).isSome with
  | true=>exact h.same rfl rfl
  | false =>
   rw [bZ];have X5:ino ∉ c.row:=λhm=>by
    rw [(h.par ino).2 hm] at hs;cases hs
   have hk:kdV D n ino≠0:=by
    intro e;unfold Q6 at ht;rw [e] at ht;simp at ht
   have hr:=(E0K hk).2;refine ⟨?_,λi=>?_,λi hi=>?_⟩
   ·show (c.row++[ino]).Nodup;rw [List.nodup_append];exact ⟨h.nd,by simp,λa ha b hb e=>by simp at hb;subst hb;subst e;exact X5 ha⟩
   ·show (A1f c.par ino dir i).isSome=A5↔i∈c.row++[ino];unfold A1f;by_cases e:i=ino
    ·subst e;simp
    ·rw [C5 e,h.par i];simp [e]
   ·have hi:i∈c.row++[ino]:=hi;rcases E7J.1 hi with h1 | h1
    ·exact h.rg i h1
    ·simp at h1;subst h1;exact hr
def D0W{ino:Int}:∀ {L:List Ent} {s:Cl × (List UInt8->Option Int)},RowW n s.1->RowW n (O9 D n ino s L).1
 | [],_,h=>h
 | x::L,s,h=>by
  have h1:RowW n (K4 D n ino s x).1:=by
   unfold K4;cases Q6 D n s.1 x.2 with
   | false=>exact h
   | true=>exact D0T h
  exact D0W (L:=L) (s:=K4 D n ino s x) h1
def oU{D:Dev}{X:List Int}{K:List UInt8->Option Int}:∀ {L:List Int} {c:Cl},(P7 D X K c L).row=c.row/\(P7 D X K c L).par=c.par
 | [],_=>⟨rfl,rfl⟩
 | no::L,c=>by
  have h1:=oU (D:=D) (X:=X) (K:=K) (L:=L) (c:=dP D X K c no);have h2:=A2c (D:=D) (X:=X) (no:=no) (K:=K) (l:=J3 (blk D no)) (s:=(c,dY []));exact ⟨h1.1.trans h2.row,h1.2.trans h2.par⟩
def qM{ino:Int}:SameC c (K5 D n c ino).1:=by
 unfold K5;cases (decide (kdV D n ino=2)&&Q4 (blk D ((drV D n ino).getD 0 0))) with
 | true=>exact A0X ..
 | false=>exact .rfl' _
def D93{ino:Int}(h:RowW n c):RowW n (mD D n c ino):=by
 have hs:=qM (D:=D) (n:=n) (ino:=ino) (c:=c);have hI:RowW n (T3 D n c ino):=h.same hs.row hs.par;unfold mD;split
 ·exact hI
 ·unfold bJ;have hb:=bO (D:=D) (n:=n) (L:=J5 (bD (getD (blk D ((drV D n ino).getD 0 0))) (O8 (blk D ((drV D n ino).getD 0 0)) 32)) (C6 (O3 (getD (blk D ((drV D n ino).getD 0 0))) (O8 (blk D ((drV D n ino).getD 0 0)) 32)))) (s:=(T3 D n c ino,bD (getD (blk D ((drV D n ino).getD 0 0))) (O8 (blk D ((drV D n ino).getD 0 0)) 32)));have h1:RowW n (G6 D n (T3 D n c ino) (getD (blk D ((drV D n ino).getD 0 0))) (O8 (blk D ((drV D n ino).getD 0 0)) 32)).1:=hI.same hb.row hb.par;have h2:RowW n (bodyT D n (T3 D n c ino) ino (getD (blk D ((drV D n ino).getD 0 0))) (O8 (blk D ((drV D n ino).getD 0 0)) 32)).1:=D0W (by exact h1);generalize bodyT D n (T3 D n c ino) ino (getD (blk D ((drV D n ino).getD 0 0))) (O8 (blk D ((drV D n ino).getD 0 0)) 32)=s2 at *;refine h2.same (oU.1.trans rfl) (oU.2.trans rfl)
def A0Z{ino:Int}:(U0 D n c ino).row=c.row/\(U0 D n c ino).par=c.par/\(U0 D n c ino).lnk=c.lnk/\(U0 D n c ino).lost=c.lost/\(U0 D n c ino).ino.length=c.ino.length/\(U0 D n c ino).blocks.length<=c.blocks.length+1/\(U0 D n c ino).made.length<=c.made.length+1:=by
 have hf:=jZ (D:=D) (n:=n) (ino:=ino) (c:=c);have e1:(L5 D n c ino).row=c.row:=hf.1.row;have e2:(L5 D n c ino).par=c.par:=hf.1.par;have e3:(L5 D n c ino).lnk=c.lnk:=hf.1.lnk;have e4:(L5 D n c ino).lost=c.lost:=hf.1.lost;have e5:(L5 D n c ino).ino.length=c.ino.length:=by unfold L5;simp [hf.1.ino]
 have e6:(L5 D n c ino).blocks=c.blocks:=hf.1.blocks;have e7:(L5 D n c ino).made=c.made:=hf.1.made;unfold U0;split
 ·exact ⟨e1,e2,e3,e4,e5,by rw [e6];omega,by rw [e7];omega⟩
 ·have hs:=gM (D:=D) (n:=n) (many:=T2 (szV D n ino)) (e:=128) (k:=0) (s:=(L5 D n c ino,blk D ((H7 D n c ino).2.getD 6 0)));dsimp only at hs;generalize K7 D n (T2 (szV D n ino)) 128 0 (L5 D n c ino,blk D ((H7 D n c ino).2.getD 6 0))=s at *;refine ⟨hs.row.trans e1,hs.par.trans e2,hs.lnk.trans e3,hs.lost.trans e4,?_,?_,?_⟩
  ·show s.1.ino.length=_;rw [hs.ino];exact e5
  ·show (s.1.blocks++[_]).length<=_;rw [E7c,hs.blocks,e6];simp
  ·show (s.1.made++[_]).length<=_;rw [E7c,hs.made,e7];simp
def S4(D:Dev)(n:Int)(c:Cl)(ino:Int):Cl:=if ino≠1/\kdV D n ino=1 then U0 D n c ino else mD D n c ino
def ofR(D:Dev)(n:Int):Nat->Nat->Cl->Cl
 | 0,_,c=>c
 | e+1,i,c=>match c.row[i]? with
  | none=>c
  | some a=>ofR D n e (i+1) (S4 D n c a)
def D0X{ino:Int}:∀ {L:List Ent} {s:Cl × (List UInt8->Option Int)},s.1.row.length<=(O9 D n ino s L).1.row.length
 | [],_=>E69 _
 | x::L,s=>by
  have h1:s.1.row.length<=(K4 D n ino s x).1.row.length:=by
   unfold K4 U4;cases Q6 D n s.1 x.2 with
   | false=>exact E69 _
   | true =>
    simp only [R8];cases (s.1.par x.2).isSome with
    | true=>exact E69 _
    | false=>simp [C4O,A2u]
  exact E7V h1 (D0X (L:=L) (s:=K4 D n ino s x))
def C2m:(dO c no b).row=c.row:=rfl
def D94{ino:Int}:c.row.length<=(mD D n c ino).row.length:=by
 have hs:=qM (D:=D) (n:=n) (ino:=ino) (c:=c);have e1:(T3 D n c ino).row=c.row:=hs.row;unfold mD;split
 ·rw [e1];exact E69 _
 ·unfold bJ;rw [oU.1,C2m,<-e1];unfold bodyT;refine E7V (Nat.le_of_eq ?_) D0X;unfold G6;exact congrArg List.length (bO (D:=D) (n:=n) (s:=(T3 D n c ino,_)) (L:=_)).row.symm
def D37{ino:Int}:c.row.length<=(S4 D n c ino).row.length:=by
 unfold S4;split
 ·rw [A0Z.1];exact E69 _
 ·exact D94
section
variable {D:Dev} {n m:Int} {f:Cell} {g:A9} {r:Nat} {h:A9}
def C3t{D:Dev}{X:List Int}{K:List UInt8->Option Int}:∀ {L:List Int} {c:Cl},(P7 D X K c L).ino=c.ino
 | [],_=>rfl
 | no::L,c=>by
  have h1:=C3t (D:=D) (X:=X) (K:=K) (L:=L) (c:=dP D X K c no);have h2:=A2c (D:=D) (X:=X) (no:=no) (K:=K) (l:=J3 (blk D no)) (s:=(c,dY []));exact h1.trans h2.ino
def bY{D:Dev}{n ino:Int}(h:RowW n c):RowW n (S4 D n c ino):=by
 unfold S4;split
 ·exact h.same A0Z.1 A0Z.2.1
 ·exact D93 h
def E2P{pv pr:Nat}{zr:List Cell}(hD:okD D)(hv:IsView g f D)(hn:n<=128) :
  ∀ (e i M:Nat) (c:Cl) (h:A9),i+e=129->e<M->i<=c.row.length->RowW n c->Small c 128 (224*i) (33*i) (224*i)->WP D n m f g r c h->Fr r h0 h->LocV h r pv (vwC (l_ D) n m f)->LocV h r pr zr ->
  ∃ M' h',vI q M (pV pv 0) (pV pr 0) (pV r 0) (iV (i:Int)) h=vI q (M'+1) (pV pv 0) (pV pr 0) (pV r 0) (iV ((ofR D n e i c).row.length:Nat)) h' /\
   WP D n m f g r (ofR D n e i c) h'/\Fr r h0 h'/\LocV h' r pv (vwC (l_ D) n m f)/\LocV h' r pr zr/\RowW n (ofR D n e i c)/\Small (ofR D n e i c) 128 (224*129) (33*129) (224*129):=by
 intro e
 induction e with
 | zero =>
  intro i M c h hi hM mE hR sm;have:=A3Y hR.nd λa ha=>⟨(hR.rg a ha).1,by have:=(hR.rg a ha).2;omega⟩
  omega
 | succ e ih =>
  intro i M c h hi hM mE hR sm P F hpv hpr;obtain ⟨M,rfl⟩:=Z3 M (by omega);unfold ofR;cases hc:c.row[i]? with
  | none =>
   have hlen:=List.getElem?_eq_none_iff.1 hc;have ei:i=c.row.length:=by omega
   dsimp only;rw [<-ei];exact ⟨M,h,rfl,P,F,hpv,hpr,hR,⟨sm.row,sm.lnk.mono (by omega),E7V sm.blocks (by omega),E7V sm.made (by omega),sm.lost0,by have:=sm.lost;omega⟩⟩
  | some a =>
   dsimp only;have K6:i<c.row.length:=(E7b.1 hc).1;have ha:a∈c.row:=E7p hc;obtain ⟨ra1,ra2⟩:=hR.rg a ha;obtain ⟨xr,xi,xt,xb,xm,ml,mp,es1,es2,g1,g2,g3,g4,g5,g6,g7,g8,g9,g10,g11⟩:=id P.row;have w1:=E3 (a:=i) (by omega);have c0:((i:Int)<(c.row.length:Nat)):=by omega
   rcases g3 with ⟨e0,_,_⟩ | ⟨rid,rfl,r1,r2,r3⟩
   ·omega
   ·have l4:B8 h (pV r 4)=A4 (sV rid 0 c.row.length 1):=C1 g1 rfl rfl;have ad:F5 1 (sV rid 0 c.row.length 1) (iV (i:Int))=A4 (pV rid i):=by rw [E4 K6];simp
    have la:B8 h (pV rid i)=A4 (iV a):=C1 r1 (by rw [G7,hc];rfl) rfl;have lV:D3 h 4 (pV pv 0)=A4 (.a (vwC (l_ D) n m f)):=C8 hpv.2 rfl;have hI:=U5 (n:=n) (m:=m) (i:=a) hD (hv.since P.lo);rw [dV] at hI;have f0:∀ k l s p d,B6A (.a (C9 k l s p d)) 0=A4 (iV k):=λ_ _ _ _ _=>rfl
    have hin:a.toNat<c.ino.length:=by rw [P.ilen];omega
    have hR':=bY (D:=D) (ino:=a) hR;have r128:=A3Y hR'.nd λa ha=>⟨(hR'.rg a ha).1,by have:=(hR'.rg a ha).2;omega⟩
    have step:∃ h1,WP D n m f g r (S4 D n c a) h1/\Fr r h h1/\Small (S4 D n c a) 128 (224*(i+1)) (33*(i+1)) (224*(i+1)) /\
      vI q (M+1) (pV pv 0) (pV pr 0) (pV r 0) (iV (i:Int)) h=vI q M (pV pv 0) (pV pr 0) (pV r 0) (iV ((i+1:Nat):Int)) h1:=by
     rw [B3Z];have hs:=A0Z (D:=D) (n:=n) (ino:=a) (c:=c);have sb:=sm.blocks;have smd:=sm.made;have sl:=sm.lost;by_cases c1:a=1
     ·obtain ⟨h1,f1,f2,f3,f4⟩:=D98 hD hv P (by omega) hin (by omega) (by omega) (by omega) (by omega) sm;have eo:S4 D n c a=mD D n c a:=by unfold S4;rw [C5 (by simp [c1])]
      rw [eo] at r128 ⊢;refine ⟨h1,f2,f3,⟨r128,f4.lnk.mono (by omega),by have:=f4.blocks;omega,by have:=f4.made;omega,f4.lost0,by have:=f4.lost;omega⟩,?_⟩;rw [c1] at la f1;generalize vwC (l_ D) n m f=V at *;simp only [esc,l4,c0,ad,la,eq_self,f1,A5f,w1]
     ·by_cases c2:kdV D n a=1
      ·obtain ⟨h1,f1,f2,f3⟩:=E2u hD hv P (by omega) (by omega) (by omega) hin;have eo:S4 D n c a=U0 D n c a:=by unfold S4;rw [C4 ⟨c1,c2⟩]
       rw [eo] at r128 ⊢;refine ⟨h1,f2,f3,⟨r128,λj=>by rw [hs.2.2.1];have:=sm.lnk j;omega,by have:=hs.2.2.2.2.2.1;omega,by have:=hs.2.2.2.2.2.2;omega,by rw [hs.2.2.2.1];exact sm.lost0,by rw [hs.2.2.2.1];omega⟩,?_⟩;generalize vwC (l_ D) n m f=V at *;simp only [esc,l4,c0,ad,la,c1,lV,hI,f0,c2,f1,A5f,w1]
      ·obtain ⟨h1,f1,f2,f3,f4⟩:=D98 hD hv P (by omega) hin (by omega) (by omega) (by omega) (by omega) sm;have eo:S4 D n c a=mD D n c a:=by unfold S4;rw [C5 (by simp [c2])]
       rw [eo] at r128 ⊢;refine ⟨h1,f2,f3,⟨r128,f4.lnk.mono (by omega),by have:=f4.blocks;omega,by have:=f4.made;omega,f4.lost0,by have:=f4.lost;omega⟩,?_⟩;generalize vwC (l_ D) n m f=V at *;simp only [esc,l4,c0,ad,la,c1,lV,hI,f0,c2,f1,A5f,w1]
    obtain ⟨h1,s1,s2,s3,s4⟩:=step;have hlen:i+1<=(S4 D n c a).row.length:=by
     have:c.row.length<=(S4 D n c a).row.length:=D37;omega
    obtain ⟨M',h',e1,e2⟩:=ih (i+1) M (S4 D n c a) h1 (by omega) (by omega) hlen hR' s3 s1 (F.trans s2) (hpv.fr s2) (hpr.fr s2);exact ⟨M',h',s4.trans e1,e2⟩
end
def D4H:∀ {l:List (List Int)} {i k:Nat} {v:Int} (h:∀ x∈l,x.length=11) (hi:i<l_ l) (hk:k<11),(pD l).set (i*11+k) (cI v)=pD (l.set i ((l.getD i []).set k v))
 | x::l,0,k,v,h,_,hk=>by
  have hx:=h x (E7e ..);rw [bQ,Nat.zero_mul,E7o,List.set_append_left _ _ (by rw [B9];omega),A2d];rfl
 | x::l,i+1,k,v,h,hi,hk=>by
  have hx:=h x (E7e ..);have ih:=D4H (l:=l) (i:=i) (k:=k) (v:=v) (λy hy=>h y (E7d _ hy)) (by simpa using hi) hk;rw [bQ,List.set_append_right _ _ (by rw [B9,hx];omega),B9,hx,show (i+1)*11+k-11=i*11+k by omega,ih];rfl
def D3t:∀ {l:List (List Int)} {i k:Nat} (h:∀ x∈l,x.length=11) (hi:i<l_ l) (hk:k<11),(pD l)[i*11+k]?=A4 (cI ((l.getD i []).getD k 0))
 | x::l,0,k,h,_,hk=>by
  have hx:=h x (E7e ..);rw [bQ,Nat.zero_mul,E7o,E7T (by rw [B9];omega),G7,E64 (by omega)];simp [List.getD,show k<x.length by omega]
 | x::l,i+1,k,h,hi,hk=>by
  have hx:=h x (E7e ..);have ih:=D3t (l:=l) (i:=i) (k:=k) (λy hy=>h y (E7d _ hy)) (by simpa using hi) hk;rw [bQ,E7x (by rw [B9,hx];omega),B9,hx,show (i+1)*11+k-11=i*11+k by omega,ih];rfl
def bB(c:Cl)(a:Int):Cl:=if (c.ino.getD a.toNat []).getD 0 0=1 then { c with ino:=c.ino.set a.toNat ((c.ino.getD a.toNat []).set 1 ((c.lnk a).getD 0)) } else c
def cG(c:Cl)(L:List Int):Cl:=L.foldl bB c
section
variable {D:Dev} {n m:Int} {f:Cell} {g:A9} {r:Nat} {c:Cl} {h:A9}
def WP.setLink(hv:∃ id cs,f=.f id cs)(P:WP D n m f g r c h)(hk:k<c.ino.length)(v:Int) :
  ∃ id h',B8 h (pV r 5)=A4 (sV id 0 c.ino.length 11)/\rd h id=rT (pD c.ino)/\I7 h (pV id (k*11+1)) (iV v)=A4 h'/\WP D n m f g r { c with ino:=c.ino.set k ((c.ino.getD k []).set 1 v) } h'/\Fr r h h' /\
   ∀ rid nn,rd h r≠A7->(∃ cs,rd h r=rT cs/\cs[4]?=A4 (.sl rid 0 nn 1))->rd h' r=rd h r/\rd h' rid=rd h rid:=by
 obtain ⟨xr,xi,xt,xb,xm,ml,mp,es1,es2,g1,g2,g3,g4,g5,g6,g7,g8,g9,g10,g11⟩:=id P.row;rcases g4 with ⟨e,_,_⟩ | ⟨t,rfl,t1,t2,t3⟩
 ·omega
 ·have l1:B8 h (pV r 5)=A4 (sV t 0 c.ino.length 11):=C1 g1 rfl rfl;have st:=I8 (x:=cI v) (off:=k*11+1) t1 (by rw [t2];omega);rw [D4H P.il hk (by omega)] at st;obtain ⟨q1,q2,q3,q4,q5⟩:=P.mod (off:=5) (x:=.sl t 0 c.ino.length 11) hv g1 rfl rfl (rT (pD (c.ino.set k ((c.ino.getD k []).set 1 v))));have hkl:(c.ino.getD k []).length=11:=by
   rw [E67,E64 hk];exact P.il _ (E7y hk)
  have K6:∀ x∈c.ino.set k ((c.ino.getD k []).set 1 v),x.length=11:=λx hx=>by
   rcases List.mem_or_eq_of_mem_set hx with h1 | h1
   ·exact P.il x h1
   ·rw [h1,E7R];exact hkl
  refine ⟨t,_,l1,t1,st,⟨q2,P.ge,λid hn=>P.low id ((Nam.same q3).1 hn),K6,by simpa using P.ilen,P.tlen,xr,_,xt,xb,xm,ml,mp,es1,es2,by rw [q3];exact g1,g2,g3.kept λid e=>q4 4 _ _ (by decide) rfl e,.inr ⟨t,by simp,q5,by rw [zA K6],t3⟩,g5.kept λid e=>q4 6 _ _ (by decide) rfl e,g6.kept λid e=>q4 7 _ _ (by decide) rfl e,g7.kept λid e=>q4 8 _ _ (by decide) rfl e,?_,g9,?_,g11⟩,q1,λrid nn _ hc=>⟨q3,?_⟩⟩
  ·rw [q4 10 (.m ml) ml (by decide) rfl rfl];exact g8
  ·rw [q4 11 (.m mp) mp (by decide) rfl rfl];exact g10
  ·obtain ⟨cs,hc1,hc2⟩:=hc;rw [g1] at hc1;cases hc1;exact q4 4 _ rid (by decide) hc2 rfl
def D8s{pr rid:Nat}{R:List Int}(hv:IsView g f D)(hR:l_ R<=1000)(hrg:∀ a∈R,1<=a/\a<=n) :
  ∀ (e i M:Nat) (c:Cl) (h:A9),i+e=l_ R->e<M->WP D n m f g r c h->Fr r h0 h->(∃ z,z.length=6/\LocV h r pr z)->(∃ cs,rd h r=rT cs/\cs[4]?=A4 (.sl rid 0 (l_ R) 1))->rd h rid=rT (encI R) ->
  ∃ M' h',B30 q M (pV pr 0) (pV r 0) (sV rid 0 (l_ R) 1) (iV (l_ R:Nat)) (iV (i:Int)) h=B30 q (M'+1) (pV pr 0) (pV r 0) (sV rid 0 (l_ R) 1) (iV (l_ R:Nat)) (iV (l_ R:Nat)) h' /\
   WP D n m f g r (cG c (R.drop i)) h'/\Fr r h0 h'/\(∃ z,z.length=6/\LocV h' r pr z):=by
 intro e
 induction e with
 | zero =>
  intro i M c h hi hM P F hz hc hr;obtain ⟨M,rfl⟩:=Z3 M (by omega);have ei:i=(l_ R):=by omega
  subst ei;rw [List.drop_length];exact ⟨M,h,rfl,P,F,hz⟩
 | succ e ih =>
  intro i M c h hi hM P F hz hc hr;obtain ⟨M,rfl⟩:=Z3 M (by omega);have K6:i<(l_ R):=by omega
  have hv2:=hv.get;have c0:((i:Int)<(l_ R:Nat)):=by omega
  have w1:=E3 (a:=i) (by omega);have ad:F5 1 (sV rid 0 (l_ R) 1) (iV (i:Int))=A4 (pV rid i):=by rw [E4 K6];simp
  have la:B8 h (pV rid i)=A4 (iV R[i]):=C1 hr (by rw [G7,E64 K6];rfl) rfl;obtain ⟨ra1,ra2⟩:=hrg _ (E7y K6);rw [E7g K6];have er:∀ T,cG c (R[i]::T)=cG (bB c R[i]) T:=λT=>rfl
  rw [er];obtain ⟨k,hk⟩:=E8d (show 0<=R[i] by omega);rw [hk] at la ra1 ra2 ⊢;have hin:k<c.ino.length:=by rw [P.ilen];omega
  obtain ⟨id,h1,a1,a2,a3,a4,a5,a6⟩:=P.setLink hv2 hin ((c.lnk k).getD 0);obtain ⟨ml,hx,b1,b2,_⟩:=P.setLnk hv2 0 0;have b2':=b2 A6 k;have adI:F5 11 (sV id 0 c.ino.length 11) (iV (k:Int))=A4 (pV id (k*11)):=by rw [E4 hin];simp
  have lk:B8 h (pV id (k*11))=A4 (iV ((c.ino.getD k []).getD 0 0)):=C1 a2 (by have:=D3t (l:=c.ino) (i:=k) (k:=0) P.il hin (by omega);simpa using this) rfl;rw [B31];by_cases c1:(c.ino.getD k []).getD 0 0=1
  ·have ec:bB c (k:Int)={ c with ino:=c.ino.set k ((c.ino.getD k []).set 1 ((c.lnk k).getD 0)) }:=by unfold bB;rw [E7s,C4 c1]
   rw [ec];have Z2:rd h r≠A7:=by obtain ⟨cs,h1,_⟩:=hc;rw [h1];simp
   obtain ⟨k1,k2⟩:=a6 rid (l_ R) Z2 hc;obtain ⟨z,hzl,hz⟩:=hz;obtain ⟨M',h',e1,e2⟩:=ih (i+1) M _ h1 (by omega) (by omega) a4 (F.trans a5) ⟨z,hzl,hz.fr a5⟩ (by rw [k1];exact hc) (by rw [k2];exact hr);refine ⟨M',h',?_,e2⟩;simp only [esc,Nat.reduceAdd,c0,ad,la,a1,adI,lk,c1,b1,b2',wC,a3,B3X,w1];exact e1
  ·have ec:bB c (k:Int)=c:=by unfold bB;rw [E7s,C5 c1]
   rw [ec];obtain ⟨M',h',e1,e2⟩:=ih (i+1) M c h (by omega) (by omega) P F hz hc hr;refine ⟨M',h',?_,e2⟩;simp only [esc,Nat.reduceAdd,c0,ad,la,a1,adI,lk,c1,B3X,w1];exact e1
def wA(c:Cl):Nat->Cl
 | 0=>c
 | k+1=>{ wA c k with taken:=(wA c k).taken.set k A5 }
def E08{pv pr sid K:Nat}{cv cr:List Cell}(hv:IsView g f D)(hK:K<=l_ D)(hK2:K<=1000) :
  ∀ (e i M:Nat) (h:A9),i+e=K->e<M->WP D n m f g r (wA c i) h->Fr r h0 h->LocV h r pv cv->LocV h r pr cr->LocV h r sid (encI (upto K)) ->
  ∃ h',C3r q M (pV pv 0) (pV pr 0) (pV r 0) (sV sid 0 K 1) (iV (K:Nat)) (iV (i:Int)) h=vI q q (pV pv 0) (pV pr 0) (pV r 0) (iV 0) h' /\
   WP D n m f g r (wA c K) h'/\Fr r h0 h'/\LocV h' r pv cv/\LocV h' r pr cr:=by
 intro e
 induction e with
 | zero =>
  intro i M h hi hM P F hp hr hs;obtain ⟨M,rfl⟩:=Z3 M (by omega);have ei:i=K:=by omega
  subst ei;refine ⟨h,?_,P,F,hp,hr⟩;have c0:¬ ((i:Int)<(i:Nat)):=by omega
  rw [B3Y];simp only [esc,c0]
 | succ e ih =>
  intro i M h hi hM P F hp hr hs;obtain ⟨M,rfl⟩:=Z3 M (by omega);have hiK:i<K:=by omega
  have c0:((i:Int)<(K:Nat)):=by omega
  have w1:=E3 (a:=i) (by omega);have ad:F5 1 (sV sid 0 K 1) (iV (i:Int))=A4 (pV sid i):=by rw [E4 hiK];simp
  have la:B8 h (pV sid i)=A4 (iV (i:Int)):=C1 hs.2 (by rw [G7];simp [upto,hiK]) rfl;obtain ⟨xr,xi,xt,xb,xm,ml,mp,es1,es2,g1,_⟩:=id P.row;obtain ⟨t,rfl,t1,t2,t3⟩:=P.take (k:=i) (v:=A5) g1 (by omega);have lT:B8 h (pV r 6)=A4 (sV t 0 (l_ D) 1):=C1 g1 rfl rfl;have hit:i<(wA c i).taken.length:=by rw [P.tlen];omega
  have adT:F5 1 (sV t 0 (l_ D) 1) (iV (i:Int))=A4 (pV t i):=by rw [E4 (show i<(l_ D) by omega)];simp
  have s1:I7 h (pV t i) (bV A5)=A4 (h.set t (rT (iL ((wA c i).taken.set i A5)))):=by
   rw [I8 t1 (by simp [iL,hit])];simp [iL,List.map_set]
  obtain ⟨h',e1,e2⟩:=ih (i+1) M _ (by omega) (by omega) t2 (F.trans t3) (hp.fr t3) (hr.fr t3) (hs.fr t3);refine ⟨h',?_,e2⟩;rw [B3Y];simp only [esc,Nat.reduceAdd,c0,ad,la,lT,adT,s1,w1];exact e1
end
def B7P{h2:A9}{b:Nat}:∀ (l:List Cell) (seen:List Nat),(∀ x∈l,x.flat=A5\/∃ id off n sz cs,x=.sl id off n sz/\b<=id/\rd h2 id=rT cs/\O5 cs=A5) ->
  (∀ (i j a:Nat) (x y:Cell),l[i]?=A4 x->l[j]?=A4 y->nmC x=A4 a->nmC y=A4 a->i=j)->(∀ x∈l,∀ a,nmC x=A4 a->a ∉ seen) ->
  ∃ l2 fin,Q8 h2 b seen l=A4 (l2,fin)/\seen <+: fin/\l2.length=l_ l/\∀ (i:Nat) (x:Cell),l[i]?=A4 x->(x.flat=A5/\l2[i]?=A4 x)\/∃ id off n sz j,x=.sl id off n sz/\l2[i]?=A4 (.sl (b+j) off n sz)/\fin[j]?=A4 id
 | [],seen,_,_,_=>⟨[],seen,rfl,E77 _,rfl,λi x h=>by simp at h⟩
 | c::l,seen,hf,hd,hs=>by
  have hd':∀ (i j a:Nat) (x y:Cell),l[i]?=A4 x->l[j]?=A4 y->nmC x=A4 a->nmC y=A4 a->i=j:=λi j a x y h1 h2 h3 h4=>by
   have:=hd (i+1) (j+1) a x y (by simpa using h1) (by simpa using h2) h3 h4;omega
  rcases hf c (E7e ..) with hc | ⟨id,off,n,sz,cs,rfl,hb,hr,hfl⟩
  ·obtain ⟨l2,fin,e1,e2,e3,e4⟩:=B7P l seen (λx hx=>hf x (E7d _ hx)) hd' λx hx=>hs x (E7d _ hx)
   refine ⟨c::l2,fin,?_,e2,by simp [e3],λi x hi=>?_⟩
   ·unfold Q8;rw [C4 (Cell.low_of_flat hc),e1];rfl
   ·cases i with
    | zero=>simp at hi;subst hi;exact .inl ⟨hc,rfl⟩
    | succ i=>simpa using e4 i x (by simpa using hi)
  ·have hns:id ∉ seen:=hs _ (E7e ..) id rfl;obtain ⟨l2,fin,e1,e2,e3,e4⟩:=B7P l (seen++[id]) (λx hx=>hf x (E7d _ hx)) hd' λx hx a ha=>by
    rw [E7J];rintro (h1 | h1)
    ·exact hs x (E7d _ hx) a ha h1
    ·simp at h1;subst h1;obtain ⟨j,hj⟩:=E7O.1 hx;have:=hd 0 (j+1) a _ x rfl (by simpa using hj) rfl ha;omega
   have hlow:¬ (Cell.sl id off n sz).low b=A5:=by simp [Cell.low];omega
   refine ⟨.sl (b+seen.length) off n sz::l2,fin,?_,(List.prefix_append _ _).trans e2,by simp [e3],λi x hi=>?_⟩
   ·unfold Q8;rw [C5 hlow];dsimp only;rw [C4 ⟨hb,hns,qP hr hfl⟩,e1];rfl
   ·cases i with
    | zero =>
     simp at hi;subst hi;refine .inr ⟨id,off,n,sz,seen.length,rfl,rfl,?_⟩;obtain ⟨t,rfl⟩:=e2;simp
    | succ i=>simpa using e4 i x (by simpa using hi)
structure IsCl(h:A9)(cs:List Cell)(c:Cl):Prop where
 form:∃ xr xi xt xb xm,cs=[xr,xi,xt,xb,xm,cI c.lost]/\Has h (.c xr) 1 c.row.length (encI c.row)/\Has h (.c xi) 11 c.ino.length (pD c.ino)/\Has h (.c xt) 1 c.taken.length (iL c.taken)/\Has h (.c xb) 1 c.blocks.length (encI c.blocks)/\Has h (.c xm) 256 c.made.length (E7 c.made)
def I1(D:Dev)(n:Int):Cl:=⟨[1],E68 (n+1).toNat (zI 11),E68 (l_ D) A6,[],[],0,λ_=>A7,A1f (λ_=>A7) 1 1⟩
def D1(D:Dev)(n:Int):Cl:=ofR D n 129 0 (wA (I1 D n) (aX (l_ D) n).toNat)
def E6(D:Dev)(n:Int):Cl:=cG (D1 D n) (D1 D n).row
def HeldX.canon{x:Cell}{l:List Cell}{n sz r:Nat}(hx:HeldX h x l n sz r)(hf:O5 l=A5)(hlow:∀ id,nmC x=A4 id->l_ g<=id):x.flat=A5\/∃ id off n sz cs,x=.sl id off n sz/\(l_ g)<=id/\rd h id=rT cs/\O5 cs=A5:=by
 rcases hx with ⟨_,_,rfl⟩ | ⟨id,rfl,h1,h2,h3⟩
 ·exact .inl rfl
 ·exact .inr ⟨id,0,n,sz,l,rfl,hlow id rfl,h1,hf⟩
def HeldX.moved{h2:A9}{x y:Cell}{l:List Cell}{n sz r:Nat}{fin:List Nat}(hx:HeldX h2 x l n sz r)(hn:noX l=A5)(hy:(x.flat=A5/\y=x)\/∃ id off n sz j,x=.sl id off n sz/\y=.sl (l_ h+j) off n sz/\fin[j]?=A4 id):Has (h++fin.map (rd h2)) (.c y) sz n l:=by
 rcases hx with ⟨h1,h3,h4⟩ | ⟨id,rfl,h1,h3,h4⟩
 ·subst h4;rcases hy with ⟨_,rfl⟩ | ⟨_,_,_,_,_,e,_⟩
  ·exact .inl ⟨rfl,h1,h3⟩
  ·cases e
 ·rcases hy with ⟨e,_⟩ | ⟨dX,off,n',sz',j,e,rfl,hj⟩
  ·cases e
  ·cases e;refine Has.row (rw:=A5) ?_ h3 hn;unfold rd;rw [E7x (by omega),show (l_ h)+j-l_ h=j by omega,List.getElem?_map,hj];exact h1
def D12:∀ {e i:Nat} {c:Cl},c.row.length<=(ofR D n e i c).row.length
 | 0,_,_=>E69 _
 | e+1,i,c=>by
  unfold ofR;cases c.row[i]? with
  | none=>exact E69 _
  | some a=>exact E7V D37 D12
def E2o{b:Int}(h:O6 b n=A5):aX b n<=b:=by
 obtain ⟨_,_,_,_,_,h6⟩:=G8.1 h;have:=G8.1 h;unfold aX bE nM;rw [h];simp only [R8];omega
def ownR_same{c:Cl}:∀ {k:Nat},SameC c (wA c k)
 | 0=>.rfl' _
 | k+1=>by
  have h:=ownR_same (c:=c) (k:=k);exact ⟨h.row,h.ino,h.blocks,h.made,h.lost,h.lnk,h.par⟩
section
variable {D:Dev} {n m:Int} {f:Cell} {h:A9}
def C9Z(hD:okD D)(hv:IsView g f D)(hm:O6 (l_ D) n=A5) :
  ∃ six g',B7a 1200 [.a (vwC (l_ D) n m f)] g=A4 (.a six,g')/\WP D n m f g (l_ g+4) (E6 D n) g'/\∃ V t,rd g' (l_ g+4)=rT (V++six++t)/\(l_ V)=4/\six.length=6/\RowW n (D1 D n)/\Small (D1 D n) 128 (224*129) (33*129) (224*129):=by
 have hv2:=hv.get;obtain ⟨b16,b512,n8,n128,_,_⟩:=G8.1 hm;obtain ⟨N,hN⟩:∃ N:Nat,n+1=(N:Int):=E8d (by omega);have hCk:=λh=>dR (b:=l_ D) (n:=n) (m:=m) (h:=h)
 rw [hm,R8] at hCk;obtain ⟨W,hW⟩:=xEq (wkC D n m f (.sl (l_ g+5) 0 1 1) (.sl (l_ g+6) 0 N 11) (.sl (l_ g+7) 0 (l_ D) 1) .ns .ns 0 (l_ g+2) (l_ g+3));obtain ⟨T,hT⟩:∃ T:A9,T=[rT (vwC (l_ D) n m f),rT [.ns,.ns,.ns,.ns,.ns,o0],A4 (Q1 []),A4 (Q1 [(cI 1,.c (cI 1))]),rT W,rT [cI 1],rT (pD (E68 N (zI 11))),rT (iL (E68 (l_ D) A6))]:=⟨_,rfl⟩;have at_:∀ (k:Nat) (x:Option Row),T[k]?=A4 x->rd (g++T) (l_ g+k)=x:=λk x hk=>by
  unfold rd;rw [E7x (by omega),show (l_ g)+k-l_ g=k by omega,hk];rfl
 have K6:∀ x∈E68 N (zI 11),x.length=11:=λx hx=>by rw [List.eq_of_mem_replicate hx];simp [zI]
 have P0:WP D n m f g (l_ g+4) (I1 D n) (g++T):=by
  have r4:=at_ 4 (rT W) (by rw [hT];rfl);rw [hW] at r4;refine ⟨(Low.refl (E69 _)).new _,by omega,λid hn=>?_,?_,?_,?_,?_⟩
  ·obtain ⟨R,x,hR,hx,hnm⟩:=hn;rw [r4] at hR;cases hR;obtain ⟨fi,fc,rfl⟩:=hv2;simp only [wkC,E7m,List.not_mem_nil,or_false] at hx;rcases hx with rfl | rfl | rfl | rfl | rfl | rfl | rfl | rfl | rfl | rfl | rfl | rfl<;>cases hnm<;>omega
  ·intro x hx;exact K6 x (by unfold I1 at hx;dsimp only at hx;rw [hN] at hx;simpa using hx)
  ·simp [I1]
  ·simp [I1]
  ·refine ⟨_,_,_,_,_,_,_,[],[(cI 1,.c (cI 1))],r4,⟨λi j a x y hi hj hx hy=>?_,λx hx=>?_⟩,.inr ⟨_,rfl,at_ 5 _ (by rw [hT];rfl),rfl,by omega⟩,?_,?_,.inl ⟨rfl,rfl,rfl⟩,.inl ⟨rfl,rfl,rfl⟩,at_ 2 _ (by rw [hT];rfl),MapI.nil,at_ 3 _ (by rw [hT];rfl),MapI.nil.put 1 1⟩
   ·obtain ⟨fi,fc,rfl⟩:=hv2;have hi2:=(E7b.1 hi).1;have hj2:=(E7b.1 hj).1;simp only [wkC,E7k,E7Q] at hi2 hj2;have cases12:∀ k:Nat,k<12->k=0\/k=1\/k=2\/k=3\/k=4\/k=5\/k=6\/k=7\/k=8\/k=9\/k=10\/k=11:=λk hk=>by omega
    rcases cases12 i (by omega) with rfl | rfl | rfl | rfl | rfl | rfl | rfl | rfl | rfl | rfl | rfl | rfl<;>(cases hi;try cases hx) <;>
     (rcases cases12 j (by omega) with rfl | rfl | rfl | rfl | rfl | rfl | rfl | rfl | rfl | rfl | rfl | rfl<;>(cases hj;try simp [nmC] at hy)<;>first | rfl | omega)
   ·obtain ⟨fi,fc,rfl⟩:=hv2;simp only [wkC,E7m,List.not_mem_nil,or_false] at hx;rcases hx with rfl | rfl | rfl | rfl | rfl | rfl | rfl | rfl | rfl | rfl | rfl | rfl<;>simp [nmC]
   ·have e:(I1 D n).ino=E68 N (zI 11):=by unfold I1;rw [hN];simp
    rw [e,E7F];exact .inr ⟨_,rfl,at_ 6 _ (by rw [hT];rfl),by rw [zA K6,E7F],by omega⟩
   ·have e:(I1 D n).taken=E68 (l_ D) A6:=rfl;rw [e,E7F];exact .inr ⟨_,rfl,at_ 7 _ (by rw [hT];rfl),by simp [iL],by omega⟩
 have r4:=at_ 4 (rT W) (by rw [hT];rfl);have noN:∀ k:Nat,k<2->¬ Nam (g++T) (l_ g+4) (l_ g+k):=by
  rintro k hk ⟨R,x,hR,hx,hnm⟩;rw [r4,hW] at hR;cases hR;obtain ⟨fi,fc,rfl⟩:=hv2;simp only [wkC,E7m,List.not_mem_nil,or_false] at hx;rcases hx with rfl | rfl | rfl | rfl | rfl | rfl | rfl | rfl | rfl | rfl | rfl | rfl<;>simp [nmC] at hnm<;>omega
 have hTl:l_ T=8:=by rw [hT];rfl
 have hGl:(g++T).length=l_ g+8:=by rw [E7c,hTl]
 have LV:LocV (g++T) (l_ g+4) (l_ g) (vwC (l_ D) n m f):=⟨⟨by omega,by omega,by simpa using noN 0 (by omega)⟩,by simpa using at_ 0 _ (by rw [hT];rfl)⟩;have LR:LocV (g++T) (l_ g+4) (l_ g+1) [.ns,.ns,.ns,.ns,.ns,o0]:=⟨⟨by omega,by omega,noN 1 (by omega)⟩,at_ 1 _ (by rw [hT];rfl)⟩;obtain ⟨K,hK⟩:=xEq ((aX (l_ D) n).toNat);have hKr:=oV (b:=(l_ D:Int)) (n:=n);have hKD:K<=l_ D/\K<=1000:=by
  rw [hK];have:aX (l_ D:Int) n<=(l_ D):=E2o hm;omega
 have E2x:=B4e (b:=l_ D) (n:=n) (m:=m) (h:=g++T);rw [<-hK] at E2x;have eu:(upto K).length=K:=by simp [upto]
 have P1:=P0.more hv2 [rT (encI (upto K))];have F1:Fr (l_ g+4) (g++T) (g++T++[rT (encI (upto K))]):=Fr.low ((Low.refl (E69 _)).new _) P0.rlt;have LO:LocV (g++T++[rT (encI (upto K))]) (l_ g+4) ((g++T).length+0) (encI (upto K)):=LocV.new (k:=0) hv2 P0 rfl;rw [E8m] at LO;obtain ⟨h1,e1,P2,F2,LV2,LR2⟩:=E08 (c:=I1 D n) (q:=1200) (pv:=l_ g) (pr:=l_ g+1) (sid:=(g++T).length) (h0:=g++T) hv hKD.1 hKD.2 K 0 1200 _ (by omega) (by omega) P1 F1 (LV.fr F1) (LR.fr F1) LO;have hsO:=ownR_same (c:=I1 D n) (k:=K);have rI:RowW n (wA (I1 D n) K):=by
  refine RowW.same (c:=I1 D n) ⟨by simp [I1],λi=>?_,λi hi=>?_⟩ hsO.row hsO.par
  ·by_cases c1:i=1
   ·subst c1;simp [I1,A1f]
   ·simp [I1,A1f,c1]
  ·simp [I1] at hi;omega
 have smI:Small (wA (I1 D n) K) 128 (224*0) (33*0) (224*0):=⟨by rw [hsO.row];simp [I1],λi=>by rw [hsO.lnk];simp [I1],by rw [hsO.blocks];simp [I1],by rw [hsO.made];simp [I1],by rw [hsO.lost];simp [I1],by rw [hsO.lost];simp [I1]⟩;obtain ⟨M',h2,e2,P3,F3,LV3,LR3,rO,smO⟩:=E2P (q:=1200) (pv:=l_ g) (pr:=l_ g+1) (h0:=g++T) hD hv n128 129 0 1200 (wA (I1 D n) K) h1 (by omega) (by omega) (by omega) rI smI P2 F2 LV2 LR2;have ecO:ofR D n 129 0 (wA (I1 D n) K)=D1 D n:=by unfold D1;rw [<-hK]
 rw [ecO] at e2 P3 rO smO;obtain ⟨c,hc⟩:=xEq (D1 D n);rw [<-hc] at e2 P3 rO smO;have nF:1<=c.row.length:=by
  have:(wA (I1 D n) K).row.length<=c.row.length:=by rw [hc,<-ecO];exact D12
  rw [hsO.row] at this;simpa [I1] using this
 obtain ⟨xr,xi,xt,xb,xm,ml,mp,es1,es2,g1,g2,g3,g4,g5,g6,g7,g8,g9,g10,g11⟩:=id P3.row;rcases g3 with ⟨e0,_,_⟩ | ⟨rid,rfl,r1,r2,r3⟩
 ·omega
 have l4:B8 h2 (.c (.p (l_ g+4) 4))=A4 (.c (.sl rid 0 c.row.length 1)):=C1 g1 rfl rfl;have c0:¬ ((c.row.length:Nat):Int)<(c.row.length:Nat):=by omega
 have r128:=A3Y rO.nd λa ha=>⟨(rO.rg a ha).1,by have:=(rO.rg a ha).2;omega⟩
 obtain ⟨M2,h3,e3,P4,F4,z,hzl,LR4⟩:=D8s (q:=1200) (pr:=l_ g+1) (rid:=rid) (R:=c.row) (h0:=g++T) hv (by omega) rO.rg c.row.length 0 1200 c h2 (by omega) (by omega) P3 F3 ⟨_,rfl,LR3⟩ ⟨_,g1,rfl⟩ r1;rw [E7n] at P4;have ecF:cG c c.row=E6 D n:=by unfold E6;rw [<-hc]
 rw [ecF] at P4;obtain ⟨yr,yi,yt,yb,ym,nl,np,fs1,fs2,k1,k2,_⟩:=id P4.row;have l6:D3 h3 6 (.c (.p (l_ g+4) 4))=A4 (.a [yr,yi,yt,yb,ym,cI (E6 D n).lost]):=by rw [U2 k1 (by simp [wkC]) rfl];rfl
 have s6:=storeAll (n:=6) (xs:=[yr,yi,yt,yb,ym,cI (E6 D n).lost]) LR4.2 hzl rfl;have LR5:=LR4.self (cs':=[yr,yi,yt,yb,ym,cI (E6 D n).lost]);have l6':=C8 (n:=6) LR5.2 rfl;refine ⟨[yr,yi,yt,yb,ym,cI (E6 D n).lost],h3.set (l_ g+1) (rT [yr,yi,yt,yb,ym,cI (E6 D n).lost]),?_,P4.set LR4.1 (by omega),vwC (l_ D) n m f,[.m nl,.m np],?_,rfl,rfl,by rw [<-hc];exact rO,by rw [<-hc];exact smO⟩
 rotate_left
 ·rw [B7 LR4.1.2.1,k1];rfl
 rw [C8D];rw [B3Z 1200 M'] at e2;rw [B31 1200 M2] at e3;have C2g:A29 (g++[rT (vwC (l_ D) n m f),rT [Cell.ns,.ns,.ns,.ns,.ns,o0],A4 (Q1 []),A4 (Q1 [])]) (A4 .i64) (.c (.m (l_ g+3))) (.c (cI 1)) (.c (cI 1))=A4 (g++[rT (vwC (l_ D) n m f),rT [Cell.ns,.ns,.ns,.ns,.ns,o0],A4 (Q1 []),A4 (Q1 [(cI 1,.c (cI 1))])]):=by
  rw [E4M (F:=λ_=>A7) (es:=[]) (by simp) MapI.nil];simp [A9E,A9D,mgo]
 have ef1:F9 [o0,o0,.i .u64 0,.nf,.ns,.ns,.ns,.ns,.ns,o0,.nm,.nm] [(0,4,.a (vwC (l_ D) n m f)),(10,1,.c (.m (l_ g+2))),(11,1,.c (.m (l_ g+3)))]=A4 (vwC (l_ D) n m f++[.ns,.ns,.ns,.ns,.ns,o0,.m (l_ g+2),.m (l_ g+3)]):=rfl;have ef2:F9 [o0] [(0,1,.c (cI 1))]=A4 [cI 1]:=rfl;have lv0:ld1 (rT (vwC (l_ D) n m f)) 0=A4 (.c (cI (l_ D:Int))):=rfl;have lv1:ld1 (rT (vwC (l_ D) n m f)) 1=A4 (.c (cI n)):=rfl;have l4v:=B65 (b:=l_ D) (n:=n) (m:=m) (f:=f);have l3v:=C3Z (b:=l_ D) (n:=n) (m:=m) (f:=f);have wn:E7f .i64 (n+1)=(N:Int):=by rw [wrap_i64 (by omega) (by omega),hN]
 have nt:∀ k:Nat,k<=1000->B54 (.c (cI (k:Int)))=A4 k:=λk hk=>by
  simp only [B54];rw [C4 (by omega)];simp
 have am1:C4F (.c (cI (N:Int))) (.c (cI (N:Int)))=A4 N:=by simp only [C4F,nt N (by omega),E7l];rw [C4 (E69 _)]
 have am2:C4F (.c (cI (l_ D:Int))) (.c (cI (l_ D:Int)))=A4 (l_ D):=by simp only [C4F,nt (l_ D) (by omega),E7l];rw [C4 (E69 _)]
 have ef3:F9 [Cell.ns,.ns,.ns,.ns,.ns,o0] [(0,1,.c (.sl (l_ g+5) 0 1 1)),(1,1,.c (.sl (l_ g+6) 0 N 11)),(2,1,.c (.sl (l_ g+7) 0 (l_ D) 1))]=A4 [.sl (l_ g+5) 0 1 1,.sl (l_ g+6) 0 N 11,.sl (l_ g+7) 0 (l_ D) 1,.ns,.ns,o0]:=rfl;have sw:stN (rT (vwC (l_ D) n m f++[.ns,.ns,.ns,.ns,.ns,o0,.m (l_ g+2),.m (l_ g+3)])) 4 6 [.sl (l_ g+5) 0 1 1,.sl (l_ g+6) 0 N 11,.sl (l_ g+7) 0 (l_ D) 1,.ns,.ns,o0]=rT W:=by rw [hW];rfl
 have rz1:rows [o0,o0,o0,o0,o0,o0,o0,o0,o0,o0,o0] N=pD (E68 N (zI 11)):=by unfold rows pD;rw [List.map_replicate];rfl
 have rz2:rows [Cell.b A6] (l_ D)=iL (E68 (l_ D) A6):=by unfold rows iL;rw [List.map_replicate,List.flatten_replicate_singleton]
 rw [hT] at e1;rw [hT] at E2x;simp only [esc,Nat.reduceAdd] at E2x;have c00:((0:Nat):Int)=0:=rfl;rw [c00] at e1 e2 e3;generalize pD (E68 N (zI 11))=ZI at *;generalize iL (E68 (l_ D) A6)=ZB at *;generalize vwC (l_ D) n m f=V at *;simp only [esc,P8,G9,aA,I6,T1,H6,Nat.reduceAdd,l3v,l4v,hCk,C2g,ef1,ef2,lv0,lv1,wn,am1,am2,ef3,sw,rz1,rz2,Nat.add_assoc];simp only [esc,E2x];simp only [esc,Nat.reduceAdd] at e1;refine e1.trans ?_;refine e2.trans ?_;simp only [esc,l4,c0];refine e3.trans ?_;simp only [esc,Nat.reduceAdd,c0,l6,s6,l6']
end
def D3q(l:List (List Int)):O5 (pD l)=A5:=by
 induction l with
 | nil=>rfl
 | cons x l ih =>
  rw [bQ,qN,ih];simp [O5,encI,Cell.flat]
def D3p(l:List Bool):O5 (iL l)=A5:=by simp [O5,iL,Cell.flat]
def D8D(l:List Bool):noX (iL l)=A5:=by simp [noX,iL,Cell.isX]
def C3q{m:Int}{f:Cell}(hD:okD D)(hv:IsView h f D)(hm:O6 (l_ D) n=A5) :
  ∃ cs t,A4R [.a (vwC (l_ D) n m f)] h=A4 (.a cs,h++t)/\IsCl (h++t) cs (E6 D n)/\t.all B4H=A5:=by
 obtain ⟨six,g',e,P,V,t,hr,hV,h6,_,_⟩:=C9Z (n:=n) (m:=m) hD hv.ro hm;obtain ⟨xr,xi,xt,xb,xm,ml,mp,es1,es2,g1,g2,g3,g4,g5,g6,g7,_⟩:=id P.row;obtain ⟨c,hc⟩:=xEq (E6 D n);rw [<-hc] at g1 g2 g3 g4 g5 g6 g7 P ⊢;rw [g1] at hr;simp only [E7a,Row.mk.injEq,and_true] at hr;have e6:six=[xr,xi,xt,xb,xm,cI c.lost]:=by
  have h1:(wkC D n m f xr xi xt xb xm c.lost ml mp).drop 4=(six++t):=by rw [hr,E7i,List.drop_left' hV]
  have h2:((wkC D n m f xr xi xt xb xm c.lost ml mp).drop 4).take 6=six:=by rw [h1,List.take_left' h6]
  rw [<-h2];rfl
 have low:∀ (i:Nat) (x:Cell) (id:Nat),(wkC D n m f xr xi xt xb xm c.lost ml mp)[i]?=A4 x->nmC x=A4 id->(ro h).length<=id:=λi x id hi hx=>P.low id (B75 g1 hi hx)
 obtain ⟨l2,fin,c1,_,c3,c4⟩:=B7P (h2:=g') (b:=(ro h).length) six [] (λx hx=>by
   rw [e6] at hx;simp only [E7m,List.not_mem_nil,or_false] at hx;rcases hx with rfl | rfl | rfl | rfl | rfl | rfl
   ·exact g3.canon (by simp [O5,encI,Cell.flat]) λid e=>low 4 _ _ rfl e
   ·exact g4.canon (D3q _) λid e=>low 5 _ _ rfl e
   ·exact g5.canon (D3p _) λid e=>low 6 _ _ rfl e
   ·exact g6.canon (by simp [O5,encI,Cell.flat]) λid e=>low 7 _ _ rfl e
   ·exact g7.canon kA λid e=>low 8 _ _ rfl e
   ·exact .inl rfl) (λi j a x y hi hj hx hy=>by
   have sh:∀ (i:Nat) (x:Cell),six[i]?=A4 x->(wkC D n m f xr xi xt xb xm c.lost ml mp)[4+i]?=A4 x:=λi x hi=>by
    rw [hr,E7i,E7x (by omega),hV,show 4+i-4=i by omega,E7T (E7b.1 hi).1];exact hi
   have:=g2.1 (4+i) (4+j) a x y (sh i x hi) (sh j y hj) hx hy;omega) (λx hx a ha=>by simp)
 have hgood:=(A88 (U:=λ_=>A7) (U':=λ_=>A7) (λ_ _=>rfl) _ _ _ _ c1 Good.nil).1;have D3z:(fin.map (rd g')).all B4H=A5:=by
  rw [E7D];intro x hx;obtain ⟨j,hj,rfl⟩:=E7B.1 hx;obtain ⟨_,r,h1,h2,_⟩:=hgood.ok j hj;rw [h1];exact Row.own_rw h2
 rw [H8] at c1 c4;have hS:=C4r e (v2:=.a l2) (ids:=fin) (by simp only [Z1,c1,E7U]);refine ⟨l2,_,hS,?_⟩;rw [e6] at c3 c4;have q0:=c4 0 _ rfl;have q1:=c4 1 _ rfl;have q2:=c4 2 _ rfl;have q3:=c4 3 _ rfl;have q4:=c4 4 _ rfl;have q5:=c4 5 _ rfl;obtain ⟨y0,y1,y2,y3,y4,y5,rfl⟩:∃ y0 y1 y2 y3 y4 y5,l2=[y0,y1,y2,y3,y4,y5]:=by
  match l2,c3 with
  | [a,b,c,d,e,f],_=>exact ⟨a,b,c,d,e,f,rfl⟩
 simp only [List.getElem?_cons_zero,E7u,E7a] at q0 q1 q2 q3 q4 q5;have e5:y5=cI c.lost:=by
  rcases q5 with ⟨_,h1⟩ | ⟨_,_,_,_,_,h1,_⟩
  ·exact h1
  ·cases h1
 subst e5;exact ⟨⟨_,_,_,_,_,rfl,g3.moved (A5B _) q0,g4.moved (D8E _) q1,g5.moved (D8D _) q2,g6.moved (A5B _) q3,g7.moved (gP _) q4⟩,D3z⟩
def D0n{R:List Int}{a:Int}{y:Cell}{q:Nat}(hy:∀ i,i<l_ R->∃ ad,F5 1 (.c y) (iV (i:Int))=A4 ad/\B8 h ad=A4 (iV (R.getD i 0)))(hR:l_ R<=1000):∀ (e i M:Nat),i+e=l_ R->e<M ->
  B6H q M (iV a) (.c y) (iV (l_ R:Nat)) (iV (i:Int)) h=A4 (bV (decide (a∈R.drop i)),h)
 | e,i,0,_,hM=>by omega
 | 0,i,M+1,hi,_=>by
  have c0:¬ ((i:Int)<(l_ R:Nat)):=by omega
  rw [A9e,E7j (by omega)];simp only [esc,c0];simp
 | e+1,i,M+1,hi,hM=>by
  have K6:i<(l_ R):=by omega
  have c0:((i:Int)<(l_ R:Nat)):=by omega
  have w1:=E3 (a:=i) (by omega);obtain ⟨ad,a1,a2⟩:=hy i K6;have eg:R.getD i 0=R[i]:=by simp [List.getD,K6]
  rw [eg] at a2;rw [A9e,E7g K6];by_cases c1:R[i]=a
  ·rw [c1] at a2 ⊢;simp only [esc,c0,a1,a2,eq_self];simp
  ·have ih:=D0n (q:=q) (a:=a) hy hR e (i+1) M (by omega) (by omega);simp only [esc,c0,a1,a2,c1,w1];rw [ih];have:(a∈R[i]::R.drop (i+1))↔a∈R.drop (i+1):=by
    rw [E7m];constructor
    ·rintro (h | h)
     ·exact absurd h.symm c1
     ·exact h
    ·exact .inr
   simp only [this]
def B6G(hc:IsCl h cs c)(hR:c.row.length<=1000):B0x [.a cs,iV a] h=A4 (bV (decide (a∈c.row)),h):=by
 obtain ⟨xr,xi,xt,xb,xm,rfl,h1,_⟩:=hc.form;have key:∃ g',B0a 1100 [.a [xr,xi,xt,xb,xm,cI c.lost],iV a] (ro h)=A4 (bV (decide (a∈c.row)),g'):=by
  have h2:=h1.ro.more [rT [xr,xi,xt,xb,xm,cI c.lost]];have hl:=h2.len;have k:=D0n (q:=1100) (a:=a) (R:=c.row) (y:=xr) (h:=ro h++[rT [xr,xi,xt,xb,xm,cI c.lost]]) (λi hi=>by
   obtain ⟨id,off,e,_,hA,_⟩:=h2.sl (by omega);cases e;refine ⟨pV id (off+i*1),E4 hi,?_⟩;rw [Nat.mul_one];exact hA i _ (by rw [G7,E67,E64 hi];rfl)) hR c.row.length 0 1100 (by omega) (by omega)
  rw [E7n] at k;refine ⟨ro h++[rT [xr,xi,xt,xb,xm,cI c.lost]],?_⟩
  ·rw [C37];have l0:B8 (ro h++[rT [xr,xi,xt,xb,xm,cI c.lost]]) (pV (ro h).length 0)=A4 (.c xr):=by rw [I6];exact zF
   simp only [esc,l0,hl];exact k
 obtain ⟨g',e⟩:=key;exact B8Z e rfl
def A3W(O:Dev)(no:Int)(b:List UInt8):Dev:=if 0<=no/\no<(l_ O) then O.set no.toNat b else O
def fX:(A3W O no b).length=(l_ O):=by unfold A3W;split<;>simp
def okD.put(h:okD O)(hb:l_ b=256):okD (A3W O no b):=by
 unfold A3W;split
 ·exact h.set hb
 ·exact h
structure OutD(g:A9)(p id:Nat)(O:Dev)(h:A9):Prop where
 lo:Low (l_ g) g h
 gp:l_ g<=p
 gid:l_ g<=id
 ne:p≠id
 var:rd h p=rT [.sl id 0 (l_ O) 256]
 blk:rd h id=rT (E7 O)
def OutD.more{p id:Nat}(k:OutD g p id O h)(t:A9):OutD g p id O (h++t) :=
 ⟨k.lo.new t,k.gp,k.gid,k.ne,B6 k.var,B6 k.blk⟩
def OutD.set{p id:Nat}{O':Dev}(k:OutD g p id O h)(hl:O'.length=l_ O):OutD g p id O' (h.set id (rT (E7 O'))) :=
 ⟨k.lo.set k.gid _,k.gp,k.gid,k.ne,by rw [B7 (Ne.symm k.ne),hl];exact k.var,by rw [E1 (E5 k.blk)]⟩
def put_eq{p id:Nat}(k:OutD g p id O h)(hO:okD O)(hb:l_ b=256) :
  ∃ h',tR [iV no,.a (B4 b),pV p 0] h=A4 (.t [],h')/\OutD g p id (A3W O no b) h'/\(l_ h)<=l_ h'/\∀ j,j<l_ h->j≠id->rd h' j=rd h j:=by
 obtain ⟨H,hH⟩:=xEq (h++[rT (B4 b)]);have kH:OutD g p id O H:=by rw [hH];exact k.more _
 have lV:B8 H (pV p 0)=A4 (sV id 0 (l_ O) 256):=C1 kH.var rfl rfl;have lB:D3 H 256 (pV (l_ h) 0)=A4 (.a (B4 b)):=C8 (by rw [hH,I3];rfl) (by rw [B5,hb]);have cl:cells? (.a (B4 b))=A4 (B4 b):=rfl;have same:∀ j,j<l_ h->rd H j=rd h j:=λj hj=>by rw [hH,D5 hj]
 have len:l_ H=l_ h+1:=by rw [hH];simp
 by_cases c0:0<=no
 ·by_cases c1:no<(l_ O:Nat)
  ·obtain ⟨i,rfl⟩:=E8d c0;have hi:i<(l_ O):=by omega
   have ad:F5 256 (sV id 0 (l_ O) 256) (iV (i:Int))=A4 (pV id (i*256)):=by rw [E4 hi];simp
   have sd:G0 H 256 (pV id (i*256)) (.a (B4 b))=A4 (H.set id (rT (E7 (O.set i b)))):=B5D kH.blk hO hb hi;have ep:A3W O (i:Int) b=O.set i b:=by unfold A3W;rw [C4 ⟨c0,c1⟩];simp
   rw [ep];refine ⟨_,uA (n:=0) (p:=(.t [],H.set id (rT (E7 (O.set i b))))) ?_,kH.set (by simp),by simp;omega,λj hj Z2=>by rw [B7 (Ne.symm Z2)];exact same j hj⟩;rw [tX];have c0':(i:Int)>=0:=c0;simp only [esc,cl,<-hH,c0',lV,c1,lB,ad,sd];rfl
  ·have ep:A3W O no b=O:=by unfold A3W;rw [C5 (by omega)]
   rw [ep];refine ⟨_,uA (n:=0) (p:=(.t [],H)) ?_,kH,by omega,λj hj Z2=>same j hj⟩;rw [tX];have c0':no>=0:=c0;simp only [esc,cl,<-hH,c0',lV,c1];rfl
 ·have ep:A3W O no b=O:=by unfold A3W;rw [C5 (by omega)]
  rw [ep];refine ⟨_,uA (n:=0) (p:=(.t [],H)) ?_,kH,by omega,λj hj Z2=>same j hj⟩;rw [tX];have c0':¬ no>=0:=c0;simp only [esc,cl,<-hH,c0'];rfl
def D1S(x:List Int):Prop:=x.length=11/\A5A (x.getD 0 0) (x.getD 1 0) (x.getD 2 0) (x.getD 3 0) (x.drop 4)=A5
def A8h(x:List Int):List UInt8:=cY (x.getD 0 0) (x.getD 1 0) (x.getD 2 0) (x.getD 3 0) (x.drop 4)
def D70{x:List Int}(h:x.length=11):encI x=C9 (x.getD 0 0) (x.getD 1 0) (x.getD 2 0) (x.getD 3 0) (x.drop 4):=by
 match x,h with
 | [a,b,c,d,e,f,g,i,j,k,l],_=>rfl
def A64{x:List Int}(h:x.length=11):(A8h x).length=32:=by
 unfold A8h cY;rw [E7c,E7c,pC,vM,List.length_drop,h,zeros_length]
def C3P(O:Dev):List Int->List (List UInt8)->Dev
 | no::l,b::m=>C3P (A3W O no b) l m
 | _,_=>O
def B8l(O:Dev)(no:Int):Nat->Dev
 | 0=>O
 | e+1=>B8l (A3W O no (zeros 256)) (no+1) e
def C2j(n:Int)(O:Dev)(i:Nat)(x:List Int):Dev :=
 if P9 (l_ O) n i=A5 then A3W O (Z4 (l_ O) n i) (H5 (blk O (Z4 (l_ O) n i)) (32*(gQ (l_ O) n i).toNat) (A8h x)) else O
def B93(n:Int):Dev->Nat->List (List Int)->Dev
 | O,_,[]=>O
 | O,i,x::l=>B93 n (C2j n O i x) (i+1) l
def qU:Nat->List Bool->List Nat
 | _,[]=>[]
 | i,b::l=>if b=A5 then i::qU (i+1) l else qU (i+1) l
def fS(D:Dev)(n:Int)(c:Cl):Dev:=
 A3W (B93 n (B8l (C3P D c.blocks c.made) (bE (l_ D) n) (nM (l_ D) n).toNat) 0 c.ino) 1 (dZ (qU 0 c.taken))
def C2A{m:List (List UInt8)}:C3P O [] m=O:=by cases m<;>rfl
def B4N:∀ {l:List Int} {m:List (List UInt8)} {O:Dev},okD O->(∀ b∈m,l_ b=256)->okD (C3P O l m)/\(C3P O l m).length=(l_ O)
 | [],_,O,h,_=>by rw [C2A];exact ⟨h,rfl⟩
 | _::_,[],O,h,_=>⟨h,rfl⟩
 | no::l,b::m,O,h,hm=>by
  obtain ⟨h1,h2⟩:=B4N (l:=l) (m:=m) (O:=A3W O no b) (h.put (hm b (E7e ..))) λx hx=>hm x (E7d _ hx)
  exact ⟨h1,h2.trans fX⟩
def A9S:∀ {e:Nat} {no:Int} {O:Dev},okD O->okD (B8l O no e)/\(B8l O no e).length=(l_ O)
 | 0,_,O,h=>⟨h,rfl⟩
 | e+1,no,O,h=>by
  obtain ⟨h1,h2⟩:=A9S (e:=e) (no:=no+1) (h.put (no:=no) zeros_length);exact ⟨h1,h2.trans fX⟩
def D1F{x:List Int}(h:okD O)(hx:x.length=11)(hn:n<=128):okD (C2j n O i x)/\(C2j n O i x).length=(l_ O):=by
 unfold C2j;split
 ·refine ⟨h.put ?_,fX⟩;rename_i hc;have hk:(gQ (l_ O) n i).toNat<8:=by unfold gQ;rw [hc];simp only [R8];omega
  rw [O1 (by rw [J8 h,A64 hx];omega),J8 h]
 ·exact ⟨h,rfl⟩
def B4w{n:Int}(hn:n<=128):∀ {l:List (List Int)} {i:Nat} {O:Dev},okD O->(∀ x∈l,x.length=11)->okD (B93 n O i l)/\(B93 n O i l).length=(l_ O)
 | [],_,O,h,_=>⟨h,rfl⟩
 | x::l,i,O,h,hx=>by
  have h1:=D1F (n:=n) (i:=i) h (hx x (E7e ..)) hn;have h2:=B4w (n:=n) hn (l:=l) (i:=i+1) h1.1 λy hy=>hx y (E7d _ hy)
  exact ⟨h2.1,h2.2.trans h1.2⟩
section
variable {D:Dev} {n m:Int} {f:Cell} {g:A9} {p id q pv pc:Nat} {xr xi xt xb xm:Cell} {lost:Int} {c:Cl}
def C1W{a b:Val}:aV wG (.c (.f 29 [(p,0)])) [a,b] h=tR [a,b,pV p 0] h:=rfl
def E4r(hpc:rd g pc=rT [xr,xi,xt,xb,xm,cI lost]){bl:List Int}{md:List (List UInt8)}(hb:Has g (.c xb) 1 (l_ bl) (encI bl))(hm:Has g (.c xm) 256 md.length (E7 md))(hl:l_ bl=md.length)(hmd:∀ b∈md,l_ b=256)(hB:l_ bl<=1000000) :
  ∀ (e i M:Nat) (O:Dev) (h:A9),i+e=l_ bl->e<M->okD O->OutD g p id O h ->
  ∃ h' M',iM q M (pV pv 0) (pV pc 0) (pV p 0) (.c (.f 29 [(p,0)])) (.c xb) (iV (l_ bl:Nat)) (iV (i:Int)) h =
   iM q (M'+1) (pV pv 0) (pV pc 0) (pV p 0) (.c (.f 29 [(p,0)])) (.c xb) (iV (l_ bl:Nat)) (iV (l_ bl:Nat)) h'/\OutD g p id (C3P O (bl.drop i) (md.drop i)) h':=by
 intro e
 induction e with
 | zero =>
  intro i M O h hi hM hO k;obtain ⟨M,rfl⟩:=Z3 M (by omega);have ei:i=(l_ bl):=by omega
  subst ei;refine ⟨h,M,rfl,?_⟩;rw [List.drop_length,C2A];exact k
 | succ e ih =>
  intro i M O h hi hM hO k;obtain ⟨M,rfl⟩:=Z3 M (by omega);have K6:i<(l_ bl):=by omega
  have him:i<md.length:=by omega
  have c0:(i:Int)<(l_ bl:Nat):=by omega
  have c1:(i:Int)<(md.length:Nat):=by omega
  have w1:=E3 (a:=i) (by omega);have hb':=hb.since k.lo;have hm':=hm.since k.lo;obtain ⟨ib,ob,eb,_,hA,_⟩:=hb'.sl (by omega);cases eb;obtain ⟨im,om,em,_,_,hC⟩:=hm'.sl (by omega);cases em;have a1:F5 1 (sV ib ob (l_ bl) 1) (iV (i:Int))=A4 (pV ib (ob+i)):=by rw [E4 K6];simp
  have a2:B8 h (pV ib (ob+i))=A4 (iV bl[i]):=hA i _ (by rw [G7,E64 K6];rfl);have a3:B8 h (pV pc 4)=A4 (sV im om md.length 256):=C1 (k.lo.rd hpc) rfl rfl;have a4:F5 256 (sV im om md.length 256) (iV (i:Int))=A4 (pV im (om+i*256)):=E4 him;have okm:okD md:=hmd;have a5:D3 h 256 (pV im (om+i*256))=A4 (.a (B4 md[i])):=by
   rw [hC (i*256) 256 (by rw [J0 okm];omega),qL okm him]
  obtain ⟨h1,b1,b2,_⟩:=put_eq (no:=bl[i]) (b:=md[i]) k hO (hmd _ (E7y him));obtain ⟨h',M',e1,e2⟩:=ih (i+1) M _ h1 (by omega) (by omega) (hO.put (hmd _ (E7y him))) b2;rw [E7g K6,E7g him];refine ⟨h',M',?_,e2⟩;rw [oQ];simp only [esc,c0,a1,a2,a3,c1,a4,a5,C1W,b1,A5e,w1];exact e1
def E4s(t0 tn:Int)(h0:0<=t0/\t0<=100)(hn:0<=tn/\tn<=100) :
  ∀ (e:Nat) (i:Int) (M:Nat) (O:Dev) (h:A9),i+e=t0+tn->t0<=i->e<M->okD O->OutD g p id O h ->
  ∃ h' M',iN q M (pV pv 0) (pV pc 0) (pV p 0) (.c (.f 29 [(p,0)])) (iV t0) (iV tn) (iV i) h =
   iN q (M'+1) (pV pv 0) (pV pc 0) (pV p 0) (.c (.f 29 [(p,0)])) (iV t0) (iV tn) (iV (t0+tn)) h'/\OutD g p id (B8l O i e) h':=by
 intro e
 induction e with
 | zero =>
  intro i M O h hi hi0 hM hO k;obtain ⟨M,rfl⟩:=Z3 M (by omega);have ei:i=t0+tn:=by omega
  subst ei;exact ⟨h,M,rfl,k⟩
 | succ e ih =>
  intro i M O h hi hi0 hM hO k;obtain ⟨M,rfl⟩:=Z3 M (by omega);have w0:E7f .i64 (t0+tn)=t0+tn:=wrap_i64 (by omega) (by omega);have w1:E7f .i64 (i+1)=i+1:=wrap_i64 (by omega) (by omega);have c0:i<t0+tn:=by omega
  have ef:F9 (B4 (zeros 256)) []=A4 (B4 (zeros 256)):=rfl;obtain ⟨h1,b1,b2,_⟩:=put_eq (no:=i) (b:=zeros 256) k hO zeros_length;obtain ⟨h',M',e1,e2⟩:=ih (i+1) M _ h1 (by omega) (by omega) (by omega) (hO.put zeros_length) b2;refine ⟨h',M',?_,e2⟩;rw [oR,J4];generalize B4 (zeros 256)=Z at *;simp only [esc,w0,c0,ef,C1W,b1,w1];exact e1
end
def D03{b i:Int}(h:P9 b n i=A5):2<=Z4 b n i/\Z4 b n i<b/\0<=gQ b n i/\gQ b n i<8:=by
 obtain ⟨h1,h2,h3⟩:=N1.1 h;obtain ⟨_,_,_,_,h4,h5⟩:=G8.1 h1;unfold Z4 gQ;rw [h];simp only [R8];omega
section
variable {D:Dev} {n m:Int} {f:Cell} {g:A9} {p id q pv pc:Nat} {xr xi xt xb xm:Cell} {lost:Int} {c:Cl}
def E4t(hpv:rd g pv=rT (vwC (l_ D) n m f)){R:List (List Int)}(hx:Has g (.c xi) 11 (l_ R) (pD R))(hR:∀ x∈R,D1S x)(hn:n<=128)(hB:l_ R<=1000000) :
  ∀ (e i M:Nat) (O:Dev) (h:A9),i+e=l_ R->e<M->okD O->l_ O=l_ D->OutD g p id O h ->
  ∃ h' M',iO q M (pV pv 0) (pV pc 0) (pV p 0) (.c (.f 29 [(p,0)])) (.c xi) (iV (l_ R:Nat)) (iV (i:Int)) h =
   iO q (M'+1) (pV pv 0) (pV pc 0) (pV p 0) (.c (.f 29 [(p,0)])) (.c xi) (iV (l_ R:Nat)) (iV (l_ R:Nat)) h'/\OutD g p id (B93 n O i (R.drop i)) h':=by
 intro e
 induction e with
 | zero =>
  intro i M O h hi hM hO hlen k;obtain ⟨M,rfl⟩:=Z3 M (by omega);have ei:i=(l_ R):=by omega
  subst ei;refine ⟨h,M,rfl,?_⟩;rw [List.drop_length];exact k
 | succ e ih =>
  intro i M O h hi hM hO hlen k;obtain ⟨M,rfl⟩:=Z3 M (by omega);have K6:i<(l_ R):=by omega
  have c0:(i:Int)<(l_ R:Nat):=by omega
  have w1:=E3 (a:=i) (by omega);obtain ⟨x,ex⟩:=xEq (R[i]);obtain ⟨xl,xm⟩:=hR R[i] (E7y K6);have h11:∀ x∈R,x.length=11:=λx hx=>(hR x hx).1
  have hx':=hx.since k.lo;obtain ⟨ii,oi,ei,_,_,hC⟩:=hx'.sl (by omega);cases ei;have a1:F5 11 (sV ii oi (l_ R) 11) (iV (i:Int))=A4 (pV ii (oi+i*11)):=E4 K6;have a2:D3 h 11 (pV ii (oi+i*11))=A4 (.a (encI R[i])):=by
   rw [hC (i*11) 11 (by rw [zA h11];omega),D3F h11 K6]
  rw [<-ex] at a2 xl xm;obtain ⟨G,hG⟩:=xEq (h++[rT (encI x)]);have st:G0 (h++[rT [o0,o0,o0,o0,o0,o0,o0,o0,o0,o0,o0]]) 11 (pV (l_ h) 0) (.a (encI x))=A4 G:=by
   rw [storeAll (n:=11) (cs:=[o0,o0,o0,o0,o0,o0,o0,o0,o0,o0,o0]) (by rw [I3];rfl) rfl (by rw [B9,xl]),tW,hG];rfl
  have kG:OutD g p id O G:=by rw [hG];exact k.more _
  have lv3:D3 G 3 (pV pv 0)=A4 (.a (M4 (l_ D) n m)):=by rw [U2 (kG.lo.rd hpv) (by simp [vwC]) rfl];rfl
  have hW:=A8f (b:=l_ D) (n:=n) (m:=m) (i:=(i:Int)) (h:=G);have lx:D3 G 11 (pV (l_ h) 0)=A4 (.a (encI x)):=C8 (by rw [hG,I3];rfl) (by rw [B9,xl]);rw [E7g K6,<-ex];have es:B93 n O i (x::R.drop (i+1))=B93 n (C2j n O i x) (i+1) (R.drop (i+1)):=rfl;rw [es];obtain ⟨okS,lenS⟩:=D1F (n:=n) (i:=i) (x:=x) hO xl hn;have lV:B8 G (pV p 0)=A4 (sV id 0 (l_ O) 256):=C1 kG.var rfl rfl;cases hc:P9 (l_ D:Int) n (i:Int) with
  | false =>
   rw [hc] at hW;have e1:C2j n O i x=O:=by unfold C2j;rw [hlen,hc];simp
   rw [e1] at okS lenS ⊢;obtain ⟨h',M',b1,b2⟩:=ih (i+1) M O G (by omega) (by omega) hO hlen kG;refine ⟨h',M',?_,b2⟩;rw [dK];generalize encI x=X at *;generalize M4 (l_ D) n m=L at *;simp only [esc,c0,a1,a2,st,lv3,hW,oO,w1];exact b1
  | true =>
   rw [hc] at hW;obtain ⟨w2,wb,k0,k8⟩:=D03 hc;obtain ⟨wB,hwB⟩:=E8d (show 0<=Z4 (l_ D) n i by omega);obtain ⟨wK,hwK⟩:=E8d k0;rw [hwB,hwK] at hW;have hwl:wB<(l_ O):=by omega
   have cW:(wB:Int)<(l_ O:Nat):=by omega
   have hk8:wK<8:=by omega
   have ad:F5 256 (sV id 0 (l_ O) 256) (iV (wB:Int))=A4 (pV id (wB*256)):=by rw [E4 hwl];simp
   have lb:D3 G 256 (pV id (wB*256))=A4 (.a (B4 O[wB])):=by
    rw [U2 kG.blk (by rw [J0 hO];omega) rfl,qL hO hwl]
   have hT:=B62 (j:=wK) (k:=x.getD 0 0) (l:=x.getD 1 0) (s:=x.getD 2 0) (p:=x.getD 3 0) (d:=x.drop 4) (b:=O[wB]) (h:=G) (hO.at hwl) (by rw [List.length_drop,xl]) hk8 xm;rw [<-D70 xl] at hT;have ei:cY (x.getD 0 0) (x.getD 1 0) (x.getD 2 0) (x.getD 3 0) (x.drop 4)=A8h x:=rfl;rw [ei] at hT;have hbl:(H5 O[wB] (32*wK) (A8h x)).length=256:=by
    rw [O1 (by rw [hO.at hwl,A64 xl];omega),hO.at hwl]
   have sd:G0 G 256 (pV id (wB*256)) (.a (B4 (H5 O[wB] (32*wK) (A8h x))))=A4 (G.set id (rT (E7 (O.set wB (H5 O[wB] (32*wK) (A8h x)))))):=B5D kG.blk hO hbl hwl;have e1:C2j n O i x=O.set wB (H5 O[wB] (32*wK) (A8h x)):=by
    unfold C2j;rw [hlen,hc,C4 rfl,hwB,hwK,A48 hwl];unfold A3W;rw [C4 ⟨by omega,cW⟩];simp
   have kS:=kG.set (O':=C2j n O i x) lenS;obtain ⟨h',M',b1,b2⟩:=ih (i+1) M _ _ (by omega) (by omega) okS (by rw [lenS,hlen]) kS;refine ⟨h',M',?_,b2⟩;rw [e1] at b1;rw [dK];generalize encI x=X at *;generalize M4 (l_ D) n m=L at *;simp only [esc,c0,a1,a2,st,lv3,hW,lV,cW,ad,lb,lx,hT,sd,oO,w1];exact b1
def D83{l:List Bool}(hi:i<l_ l):qU i (l.drop i)=if l[i]=A5 then i::qU (i+1) (l.drop (i+1)) else qU (i+1) (l.drop (i+1)):=by
 rw [E7g hi];rfl
def E4u{T:List Bool}{N:Nat}(hx:Has g (.c xt) 1 (l_ T) (iL T))(hT:l_ T<=2048)(hO:okD O) :
  ∀ (e i M:Nat) (S:List Nat) (sid:Nat) (h:A9),i+e=l_ T->e<M->l_ S<=i->(∀ x∈S,x<2048)->rd h sid=rT (encI (S.map λx:Nat=>(x:Int)))->l_ g<=sid->sid≠p->sid≠id->OutD g p id O h ->
  ∃ h',vH q M (pV p 0) (.c (.f 29 [(p,0)])) (sV sid 0 (l_ S) 1) (.c xt) (iV (l_ T:Nat)) (iV (i:Int)) h=A4 (sV id 0 (l_ O) 256,h') /\
   OutD g p id (A3W O 1 (dZ (S++qU i (T.drop i)))) h':=by
 intro e
 induction e with
 | zero =>
  intro i M S sid h hi hM hS hS2 hr hg n1 n2 k;obtain ⟨M,rfl⟩:=Z3 M (by omega);have ei:i=(l_ T):=by omega
  subst ei;have c0:¬ ((l_ T:Nat):Int)<(l_ T:Nat):=by omega
  have hC:=A79 (v:=sV sid 0 (l_ S) 1) (nv:=l_ S) (l:=S) (h:=h) hS2 (by omega) (Has.tr hr (by simp [encI]) (A5B _));have hml:(dZ S).length=256:=by unfold dZ;rw [fP,zeros_length]
  obtain ⟨h1,b1,b2,_⟩:=put_eq (no:=1) (b:=dZ S) k hO hml;have lV:B8 h1 (pV p 0)=A4 (sV id 0 (A3W O 1 (dZ S)).length 256):=C1 b2.var rfl rfl;rw [fX] at lV;refine ⟨h1,?_,?_⟩
  ·rw [dL];simp only [esc,c0,vL,hC,C1W,b1,lV]
  ·rw [List.drop_length];have:S++qU (l_ T) []=S:=by simp [qU]
   rw [this];exact b2
 | succ e ih =>
  intro i M S sid h hi hM hS hS2 hr hg n1 n2 k;obtain ⟨M,rfl⟩:=Z3 M (by omega);have K6:i<(l_ T):=by omega
  have c0:(i:Int)<(l_ T:Nat):=by omega
  have w1:=E3 (a:=i) (by omega);have hx':=hx.since k.lo;obtain ⟨ii,oi,ei,_,hA,_⟩:=hx'.sl (by omega);cases ei;have a1:F5 1 (sV ii oi (l_ T) 1) (iV (i:Int))=A4 (pV ii (oi+i)):=by rw [E4 K6];simp
  have a2:B8 h (pV ii (oi+i))=A4 (bV T[i]):=hA i _ (by simp [iL,K6]);rw [D83 K6];cases hb:T[i] with
  | false =>
   rw [hb] at a2;obtain ⟨h',b1,b2⟩:=ih (i+1) M S sid h (by omega) (by omega) (by omega) hS2 hr hg n1 n2 k;refine ⟨h',?_,by simpa using b2⟩;rw [dL];simp only [esc,c0,a1,a2,oP,w1];exact b1
  | true =>
   rw [hb] at a2;obtain ⟨h1,p1,p2,p3,p4⟩:=B8b (n:=l_ S) (sz:=1) (ys:=[cI (i:Int)]) hr (by simp [encI]) rfl (by omega) (by omega);have hpl:=E5 k.var;have E60:=E5 k.blk;have kk:OutD g p id O h1:=⟨k.lo.trans (p4 (l_ g) hg (by have:=k.lo.2.1;omega)),k.gp,k.gid,k.ne,p3 _ _ (Ne.symm n1) k.var,p3 _ _ (Ne.symm n2) k.blk⟩;have er:encI (S.map λx:Nat=>(x:Int))++[cI (i:Int)]=encI ((S++[i]).map λx:Nat=>(x:Int)):=by simp [encI]
   rw [er] at p2;have ls:(S++[i]).length=l_ S+1:=by simp
   obtain ⟨h',b1,b2⟩:=ih (i+1) M (S++[i]) (l_ h+1) h1 (by omega) (by omega) (by rw [ls];omega) (λx hx=>by
    rcases E7J.1 hx with hx | hx
    ·exact hS2 x hx
    ·simp at hx;omega) p2 (by have:=k.lo.2.1;omega) (by omega) (by omega) kk
   rw [ls] at b1;refine ⟨h',?_,by simpa using b2⟩;have ef:F9 [o0] [(0,1,iV (i:Int))]=A4 [cI (i:Int)]:=rfl;rw [dL];simp only [esc,c0,a1,a2,ef,p1,oP,w1];exact b1
structure ImgOk(D:Dev)(n:Int)(c:Cl):Prop where
 row:0<c.row.length
 tak:c.taken.length=(l_ D)
 ino:∀ x∈c.ino,D1S x
 il:c.ino.length<=1000
 bm:c.blocks.length=c.made.length
 bl:c.blocks.length<=1000000
 md:∀ b∈c.made,l_ b=256
def C6r(hD:okD D)(hv:IsView h f D)(hm:O6 (l_ D) n=A5)(hc:IsCl h cs c)(ok:ImgOk D n c) :
  U7 [.a (vwC (l_ D) n m f),.a cs] h=A4 (sV (l_ h) 0 (l_ D) 256,h++[rT (E7 (fS D n c))]):=by
 obtain ⟨b16,b512,n8,n128,_,_⟩:=G8.1 hm;obtain ⟨xr,xi,xt,xb,xm,rfl,hr,hi,ht,hb,hmd⟩:=hc.form;obtain ⟨g,hg⟩:=xEq (ro h++[rT (vwC (l_ D) n m f),rT [xr,xi,xt,xb,xm,cI c.lost],rT []]);have lg:l_ g=(ro h).length+3:=by rw [hg];simp
 have rv:rd g (ro h).length=rT (vwC (l_ D) n m f):=by rw [hg,I3];rfl
 have rc:rd g ((ro h).length+1)=rT [xr,xi,xt,xb,xm,cI c.lost]:=by rw [hg,rM];rfl
 have hvg:IsView g f D:=by rw [hg];exact hv.ro.more _
 have hr':Has g (.c xr) 1 c.row.length (encI c.row):=by rw [hg];exact hr.ro.more _
 have hi':Has g (.c xi) 11 c.ino.length (pD c.ino):=by rw [hg];exact hi.ro.more _
 have ht':Has g (.c xt) 1 c.taken.length (iL c.taken):=by rw [hg];exact ht.ro.more _
 have hb':Has g (.c xb) 1 c.blocks.length (encI c.blocks):=by rw [hg];exact hb.ro.more _
 have hm':Has g (.c xm) 256 c.made.length (E7 c.made):=by rw [hg];exact hmd.ro.more _
 have hI:=C9i (m:=m) hD hvg hm;obtain ⟨H,hH⟩:=xEq (g++[rT (E7 D),rT [.sl (l_ g) 0 (l_ D) 256]]);have k0:OutD g (l_ g+1) (l_ g) D H:=by
  refine ⟨by rw [hH];exact (Low.refl (E69 _)).new _,by omega,E69 _,by omega,?_,?_⟩
  ·rw [hH,rM];rfl
  ·rw [hH,I3];rfl
 obtain ⟨h1,M1,e1,k1⟩:=E4r (q:=1000002) (pv:=(ro h).length) rc hb' hm' ok.bm ok.md ok.bl c.blocks.length 0 1000002 D H (by omega) (by have:=ok.bl;omega) hD k0;obtain ⟨ok1,len1⟩:=B4N (l:=c.blocks) (m:=c.made) hD ok.md;obtain ⟨t0,t2,tn0,tn16⟩:=C2L (b:=l_ D) (n:=n);obtain ⟨tN,htN⟩:=E8d tn0;obtain ⟨h2,M2,e2,k2⟩:=E4s (q:=1000002) (pv:=(ro h).length) (pc:=(ro h).length+1) (bE (l_ D) n) (nM (l_ D) n) ⟨by omega,by omega⟩ ⟨by omega,by omega⟩ tN (bE (l_ D) n) 1000002 _ h1 (by omega) (by omega) (by omega) ok1 (by simpa using k1);obtain ⟨ok2,len2⟩:=A9S (e:=tN) (no:=bE (l_ D) n) ok1;obtain ⟨h3,M3,e3,k3⟩:=E4t (q:=1000002) (pc:=(ro h).length+1) rv hi' ok.ino n128 (by have:=ok.il;omega) c.ino.length 0 1000002 _ h2 (by omega) (by have:=ok.il;omega) ok2 (by rw [len2,len1]) k2;obtain ⟨ok3,len3⟩:=B4w (n:=n) n128 (l:=c.ino) (i:=0) ok2 (λx hx=>(ok.ino x hx).1);have k3':=(k3.more [rT ([]:List Cell)]);obtain ⟨h4,e4,k4⟩:=E4u (q:=1000002) (N:=0) (p:=l_ g+1) (id:=l_ g) (g:=g) ht' (by rw [ok.tak];omega) ok3 c.taken.length 0 1000002 [] h3.length (h3++[rT ([]:List Cell)]) (by omega) (by rw [ok.tak];omega) (by simp) (by simp) (by rw [I3];rfl) (by have:=k3.lo.2.1;omega) (by have:=E5 k3.var;omega) (by have:=E5 k3.blk;omega) (by simpa using k3');have eimg:fS D n c=A3W (B93 n (B8l (C3P D c.blocks c.made) (bE (l_ D) n) tN) 0 c.ino) 1 (dZ ([]++qU 0 (c.taken.drop 0))):=by
  unfold fS;rw [htN];simp
 have lenF:(fS D n c).length=(l_ D):=by rw [eimg,fX,len3,len2,len1]
 have key:jQ 1000002 [.a (vwC (l_ D) n m f),.a [xr,xi,xt,xb,xm,cI c.lost]] (ro h)=A4 (sV (l_ g) 0 (l_ D) 256,h4):=by
  have l0:B8 g (pV ((ro h).length+1) 0)=A4 (.c xr):=C1 rc rfl (by rfl);have l2:B8 g (pV ((ro h).length+1) 2)=A4 (.c xt):=C1 rc rfl (by rfl);have lv0:B8 g (pV (ro h).length 0)=A4 (iV (l_ D:Nat)):=C1 rv rfl rfl;have lv4:D3 g 4 (pV (ro h).length 0)=A4 (.a (vwC (l_ D) n m f)):=C8 rv rfl;have s1:I7 (g++[rT (E7 D),rT [Cell.ns]]) (pV (l_ g+1) 0) (sV (l_ g) 0 (l_ D) 256)=A4 H:=by
   rw [I8 (cs:=[Cell.ns]) (by rw [rM];rfl) (by simp),B8e,hH];rfl
  have l3:B8 H (pV ((ro h).length+1) 3)=A4 (.c xb):=C1 (k0.lo.rd rc) rfl (by rfl);have mf:A3N 29 [pV (l_ g+1) 0]=A4 (.c (.f 29 [(l_ g+1,0)])):=rfl;have n1:B8 h2 (pV ((ro h).length+1) 1)=A4 (.c xi):=C1 (k2.lo.rd rc) rfl (by rfl);have n2:B8 (h3++[rT ([]:List Cell)]) (pV ((ro h).length+1) 2)=A4 (.c xt):=C1 ((k3.lo.new _).rd rc) rfl (by rfl);have v3:D3 h1 3 (pV (ro h).length 0)=A4 (.a (M4 (l_ D) n m)):=by rw [U2 (k1.lo.rd rv) (by simp [vwC]) rfl];rfl
  have hTb:=A1J (b:=l_ D) (n:=n) (m:=m) (h:=h1);have c1:¬ ((c.row.length:Nat):Int)=0:=by have:=ok.row;omega
  have c2:((c.taken.length:Nat):Int)=(l_ D:Nat):=by rw [ok.tak]
  have lr:=hr'.len;have lt:=ht'.len;have lb:=(hb'.since k0.lo).len;have lx:=(hi'.since k2.lo).len;have lt3:=(ht'.since (k3.lo.new [rT ([]:List Cell)])).len;have cl1:cells? (.a (vwC (l_ D) n m f))=A4 (vwC (l_ D) n m f):=rfl;rw [A5S];simp only [E7c,E7k,E7Q,E7o,E7i,E8a,List.nil_append,cl1,fK,C7,<-hg];generalize vwC (l_ D) n m f=V at *;have c00:((0:Nat):Int)=0:=rfl;rw [c00] at e1 e3 e4;rw [lenF.symm] at e4;simp only [esc,l0,lr,c1,l2,lt,lv0,c2,lv4,hI,s1,mf,l3,lb];refine e1.trans ?_;have cB:¬ ((c.blocks.length:Nat):Int)<(c.blocks.length:Nat):=by omega
  rw [oQ];simp only [esc,cB,v3,hTb];refine e2.trans ?_;have wT:E7f .i64 (bE (l_ D) n+nM (l_ D) n)=bE (l_ D) n+nM (l_ D) n:=wrap_i64 (by omega) (by omega);have cT:¬ bE (l_ D) n+nM (l_ D) n<bE (l_ D) n+nM (l_ D) n:=by omega
  rw [oR];simp only [esc,wT,cT,n1,lx];refine e3.trans ?_;have cI:¬ ((c.ino.length:Nat):Int)<(c.ino.length:Nat):=by omega
  rw [dK];simp only [esc,cI,n2,lt3];have eL:([]:List Nat).length=0:=rfl;rw [eL] at e4;rw [e4,lenF,len3,len2,len1]
 have ho:Out (l_ h) h4 (sV (l_ g) 0 (l_ D) 256) 256 (l_ D) (E7 (fS D n c)):=by
  refine ⟨?_,l_ g,rfl,by rw [lg,H8];omega,?_⟩
  ·rw [J0,lenF];rw [eimg];refine okD.put ok3 ?_;unfold dZ;rw [fP,zeros_length]
  ·rw [eimg];exact k4.blk
 exact A4Q key ho kA
end
structure MayC(c:Cl):Prop where
 ino:∀ x∈c.ino,D1S x
 par:∀ i,0<=(c.par i).getD 0/\(c.par i).getD 0<=65535
 bm:c.blocks.length=c.made.length
 md:∀ b∈c.made,l_ b=256
def B7W(hm:O6 (l_ D) n=A5):W2 (K3 D n c no)=A5:=by
 rw [A69];obtain ⟨_,b512,_⟩:=G8.1 hm;unfold K3 dM;cases hd:F6 (l_ D) n no with
 | false=>simp
 | true =>
  have:=D3I hd;cases c.taken.getD no.toNat A5 with
  | true=>simp
  | false=>simp;omega
def D6L{l:List Int}(h:l.all W2=A5)(hx:W2 x=A5):(l.set i x).all W2=A5:=by
 rw [E7D] at h ⊢;intro y hy;rcases List.mem_or_eq_of_mem_set hy with h1 | h1
 ·exact h y h1
 ·rw [h1];exact hx
def C6F{d:List Int}(hm:O6 (l_ D) n=A5):∀ {e k:Nat} {s:Cl × List Int},s.2.all W2=A5->(cE D n d e k s).2.all W2=A5
 | 0,_,s,h=>h
 | e+1,k,s,h=>by
  rw [cE];exact C6F hm (D6L h (B7W hm))
def D3j{ino:Int}(hm:O6 (l_ D) n=A5):(H7 D n c ino).2.all W2=A5:=by
 have h1:=C6F (d:=drV D n ino) (e:=(min (T2 (szV D n ino)) 6).toNat) (k:=0) (s:=(c,zI 7)) hm (by show (zI 7).all W2=A5;decide);unfold H7 A04;split
 ·exact D6L h1 (B7W hm)
 ·exact h1
def D9a{i:Int}:0<=szV D n i/\szV D n i<=34304:=by
 unfold szV;cases hc:B0V D n i with
 | false=>simp
 | true =>
  simp only [R8];unfold B0V aW A5A at hc;simp only [E66] at hc;obtain ⟨_,h1,_⟩:=hc;split at h1
  ·unfold D04 at h1;have:=of_decide_eq_true h1;omega
  ·unfold C0x at h1;simp only [E66,decide_eq_true_eq] at h1;exact h1.2.2.2.1
def D8y{s:Int}{d:List Int}(hs:0<=s/\s<=34304)(hd:l_ d=7)(ha:d.all W2=A5)(hl:W2 l=A5):D1S (1::l::s::0::d):=by
 refine ⟨by simp [hd],?_⟩;show A5A 1 l s 0 d=A5;unfold A5A C0x;have h0:W2 0=A5:=by decide
 simp [hl,ha,h0,hs]
def E0W(hp:W2 p=A5)(hn:W2 no=A5):D1S (2::1::0::p::no::zI 6):=by
 refine ⟨by simp [zI],?_⟩;show A5A 2 1 0 p (no::zI 6)=A5;unfold A5A C0x;have h1:W2 1=A5:=by decide
 have hz:(zI 6).all W2=A5:=by decide
 simp [List.all_cons,hn,hz,hp,h1]
def D8z:D1S (zI 11):=⟨by simp [zI],by decide⟩
def C7x{α:Type}{l:List α}{x y:α}(h:y∈l.set i x):y∈l\/y=x:=List.mem_or_eq_of_mem_set h
section
variable {D:Dev} {n:Int} {c:Cl} {ino:Int}
def D75(hm:O6 (l_ D) n=A5)(h:MayC c):MayC (L5 D n c ino):=by
 have hs:=(jZ (D:=D) (n:=n) (ino:=ino) (c:=c));refine ⟨λx hx=>?_,λi=>?_,?_,λb hb=>?_⟩
 ·rcases C7x hx with h1 | h1
  ·rw [hs.1.ino] at h1;exact h.ino x h1
  ·rw [h1];exact D8y D9a hs.2 (D3j hm) (by decide)
 ·have:(L5 D n c ino).par=c.par:=hs.1.par;rw [this];exact h.par i
 ·have e1:(L5 D n c ino).blocks=c.blocks:=hs.1.blocks;have e2:(L5 D n c ino).made=c.made:=hs.1.made;rw [e1,e2];exact h.bm
 ·have e2:(L5 D n c ino).made=c.made:=hs.1.made;rw [e2] at hb;exact h.md b hb
def MayC.same(h:MayC c)(s:SameC c c'):MayC c':=⟨by rw [s.ino];exact h.ino,by rw [s.par];exact h.par,by rw [s.blocks,s.made];exact h.bm,by rw [s.made];exact h.md⟩
def MayC.md'(h:MayC c)(hb:l_ b=256):MayC (dO c no b):=by
 refine ⟨h.ino,h.par,?_,λx hx=>?_⟩
 ·show (c.blocks++[no]).length=(c.made++[b]).length;simp [h.bm]
 ·rcases E7J.1 (show x∈c.made++[b] from hx) with h1 | h1
  ·exact h.md x h1
  ·simp at h1;rw [h1];exact hb
def D74(hD:okD D)(hm:O6 (l_ D) n=A5)(h:MayC c):MayC (U0 D n c ino):=by
 have h1:=D75 (ino:=ino) hm h;unfold U0;split
 ·exact h1
 ·exact MayC.md' (h1.same (gM (D:=D) (n:=n) (many:=T2 (szV D n ino)) (e:=128) (k:=0) (s:=(L5 D n c ino,blk D ((H7 D n c ino).2.getD 6 0))))) (C18 (by omega) (J8 hD))
def D97(hm:O6 (l_ D) n=A5)(h:MayC c):MayC (T3 D n c ino):=by
 have hs:=qM (D:=D) (n:=n) (ino:=ino) (c:=c);have hn:W2 (K5 D n c ino).2=A5:=by
  unfold K5;cases (decide (kdV D n ino=2)&&Q4 (blk D ((drV D n ino).getD 0 0))) with
  | true=>exact B7W hm
  | false=>show W2 0=A5;decide
 refine ⟨λx hx=>?_,λi=>?_,?_,λb hb=>?_⟩
 ·rcases C7x hx with h1 | h1
  ·rw [hs.ino] at h1;exact h.ino x h1
  ·rw [h1];exact E0W (A69.2 (h.par ino)) hn
 ·have:(T3 D n c ino).par=c.par:=hs.par;rw [this];exact h.par i
 ·have e1:(T3 D n c ino).blocks=c.blocks:=hs.blocks;have e2:(T3 D n c ino).made=c.made:=hs.made;rw [e1,e2];exact h.bm
 ·have e2:(T3 D n c ino).made=c.made:=hs.made;rw [e2] at hb;exact h.md b hb
def D0Y(hi:0<=ino/\ino<=65535):∀ {L:List Ent} {s:Cl × (List UInt8->Option Int)},MayC s.1->MayC (O9 D n ino s L).1
 | [],_,h=>h
 | x::L,s,h=>by
  have h1:MayC (K4 D n ino s x).1:=by
   unfold K4 U4;cases Q6 D n s.1 x.2 with
   | false=>exact h
   | true =>
    simp only [R8];cases (s.1.par x.2).isSome with
    | true=>exact ⟨h.ino,h.par,h.bm,h.md⟩
    | false =>
     refine ⟨h.ino,λi=>?_,h.bm,h.md⟩;show 0<=(A1f s.1.par x.2 ino i).getD 0/\(A1f s.1.par x.2 ino i).getD 0<=65535;unfold A1f;split
     ·exact hi
     ·exact h.par i
  exact D0Y hi (L:=L) (s:=K4 D n ino s x) h1
def C3u{X:List Int}{K:List UInt8->Option Int}:∀ {L:List Int} {c:Cl},MayC c->MayC (P7 D X K c L)
 | [],_,h=>h
 | no::L,c,h=>by
  have hs:=A2c (D:=D) (X:=X) (no:=no) (K:=K) (l:=J3 (blk D no)) (s:=(c,dY []));have hl:=B7U (D:=D) (X:=X) (no:=no) (K:=K) (l:=J3 (blk D no)) (s:=(c,dY [])) (A66 (l:=[])) λx hx=>(C0z x hx).1
  have h1:MayC (W0 D X no K (c,dY []) (J3 (blk D no))).1:=⟨by rw [hs.ino];exact h.ino,by rw [hs.par];exact h.par,by rw [hs.blocks,hs.made];exact h.bm,by rw [hs.made];exact h.md⟩;exact C3u (L:=L) (c:=dP D X K c no) (h1.md' hl)
def D95(hi:0<=ino/\ino<=65535)(hm:O6 (l_ D) n=A5)(h:MayC c):MayC (mD D n c ino):=by
 have h1:=D97 (ino:=ino) hm h;unfold mD;split
 ·exact h1
 ·unfold bJ;have hb:=h1.same (bO (D:=D) (n:=n) (L:=J5 (bD (getD (blk D ((drV D n ino).getD 0 0))) (O8 (blk D ((drV D n ino).getD 0 0)) 32)) (C6 (O3 (getD (blk D ((drV D n ino).getD 0 0))) (O8 (blk D ((drV D n ino).getD 0 0)) 32)))) (s:=(T3 D n c ino,bD (getD (blk D ((drV D n ino).getD 0 0))) (O8 (blk D ((drV D n ino).getD 0 0)) 32))));refine C3u (MayC.md' (D0Y (s:=(_,_)) hi hb) ?_);have hl:=C1T (D:=D) (n:=n) (L:=J5 (bD (getD (blk D ((drV D n ino).getD 0 0))) (O8 (blk D ((drV D n ino).getD 0 0)) 32)) (C6 (O3 (getD (blk D ((drV D n ino).getD 0 0))) (O8 (blk D ((drV D n ino).getD 0 0)) 32)))) (s:=(T3 D n c ino,bD (getD (blk D ((drV D n ino).getD 0 0))) (O8 (blk D ((drV D n ino).getD 0 0)) 32)));cases okX (O3 (getD (blk D ((drV D n ino).getD 0 0))) (O8 (blk D ((drV D n ino).getD 0 0)) 32)) (G6 D n (T3 D n c ino) (getD (blk D ((drV D n ino).getD 0 0))) (O8 (blk D ((drV D n ino).getD 0 0)) 32)).2 with
  | true=>exact A6X (hl.trans B4a)
  | false=>exact zeros_length
def E07(hi:0<=ino/\ino<=65535)(hD:okD D)(hm:O6 (l_ D) n=A5)(h:MayC c):MayC (S4 D n c ino):=by
 unfold S4;split
 ·exact D74 hD hm h
 ·exact D95 hi hm h
def D7l(hD:okD D)(hm:O6 (l_ D) n=A5):∀ {e i:Nat} {c:Cl},RowW n c->MayC c->MayC (ofR D n e i c)
 | 0,_,_,_,h=>h
 | e+1,i,c,hr,h=>by
  obtain ⟨_,_,_,n128,_⟩:=G8.1 hm;unfold ofR;cases hc:c.row[i]? with
  | none=>exact h
  | some a =>
   have ha:=hr.rg a (E7p hc);exact D7l hD hm (bY hr) (E07 ⟨by omega,by omega⟩ hD hm h)
end
def D9C(D:Dev):IsView [rT (E7 D),rT [.sl 0 0 (l_ D) 256]] (.f 27 [(1,0)]) D :=
 ⟨1,0,A5,A5,rfl,rfl,rfl⟩
section
variable {D:Dev} {n:Int}
def X9(hD:okD D)(hm:O6 (l_ D) n=A5):RowW n (D1 D n)/\Small (D1 D n) 128 (224*129) (33*129) (224*129)/\(∀ x∈(E6 D n).ino,x.length=11)/\(E6 D n).ino.length=(n+1).toNat/\(E6 D n).taken.length=(l_ D):=by
 obtain ⟨_,_,_,P,_,_,_,_,_,h1,h2⟩:=C9Z (n:=n) (m:=0) hD (D9C D) hm;exact ⟨h1,h2,P.il,P.ilen,P.tlen⟩
def claimI_may:MayC (I1 D n):=by
 refine ⟨λx hx=>?_,λi=>?_,rfl,λb hb=>by cases hb⟩
 ·rw [List.eq_of_mem_replicate hx];exact D8z
 ·have e:((I1 D n).par i).getD 0=if i=1 then 1 else 0:=by
   show ((A1f (λ_=>A7) 1 1) i).getD 0=_;unfold A1f;split<;>rfl
  rw [e];split<;>omega
def D5o(hD:okD D)(hm:O6 (l_ D) n=A5):MayC (D1 D n):=by
 obtain ⟨_,_,_,n128,_⟩:=G8.1 hm;unfold D1;have hs:=ownR_same (c:=I1 D n) (k:=(aX (l_ D) n).toNat);refine D7l hD hm ?_ (claimI_may.same hs);refine RowW.same (c:=I1 D n) ⟨by simp [I1],λi=>?_,λi hi=>?_⟩ hs.row hs.par
 ·by_cases c1:i=1
  ·subst c1;simp [I1,A1f]
  ·simp [I1,A1f,c1]
 ·obtain ⟨_,_,n8,_⟩:=G8.1 hm;simp [I1] at hi;omega
def D8r(hl:∀ i,W2 ((c.lnk i).getD 0)=A5)(h:MayC c):MayC (bB c a):=by
 unfold bB;split
 ·rename_i h1;refine ⟨λx hx=>?_,h.par,h.bm,h.md⟩;rcases C7x hx with h2 | h2
  ·exact h.ino x h2
  ·have hin:c.ino.getD a.toNat []∈c.ino:=by
    by_cases hl:a.toNat<c.ino.length
    ·rw [E67,E64 hl];exact E7y hl
    ·rw [E67 (l:=c.ino),E7z (by omega)] at h1;simp at h1
   obtain ⟨h3,h4⟩:=h.ino _ hin;generalize c.ino.getD a.toNat []=y at *;rw [h2]
   match y,h3 with
   | [y0,y1,y2,y3,y4,y5,y6,y7,y8,y9,y10],_ =>
    have e:y0=1:=h1;subst e;have h5:C0x 1 y1 y2 y3 [y4,y5,y6,y7,y8,y9,y10]=A5:=h4;refine ⟨rfl,?_⟩;show C0x 1 ((c.lnk a).getD 0) y2 y3 [y4,y5,y6,y7,y8,y9,y10]=A5;unfold C0x at h5 ⊢;simp only [E66] at h5 ⊢;exact ⟨h5.1,hl a,h5.2.2⟩
 ·exact h
def C7p:(bB c a).row=c.row/\(bB c a).taken=c.taken/\(bB c a).blocks=c.blocks/\(bB c a).made=c.made/\(bB c a).lost=c.lost/\(bB c a).lnk=c.lnk/\(bB c a).par=c.par:=by
 unfold bB;split<;>exact ⟨rfl,rfl,rfl,rfl,rfl,rfl,rfl⟩
def cQ:∀ {L:List Int} {c:Cl},(cG c L).row=c.row/\(cG c L).taken=c.taken/\(cG c L).blocks=c.blocks/\(cG c L).made=c.made/\(cG c L).lost=c.lost/\(cG c L).lnk=c.lnk/\(cG c L).par=c.par
 | [],c=>⟨rfl,rfl,rfl,rfl,rfl,rfl,rfl⟩
 | a::L,c=>by
  obtain ⟨a1,a2,a3,a4,a5,a6,a7⟩:=cQ (L:=L) (c:=bB c a);obtain ⟨b1,b2,b3,b4,b5,b6,b7⟩:=C7p (c:=c) (a:=a);exact ⟨a1.trans b1,a2.trans b2,a3.trans b3,a4.trans b4,a5.trans b5,a6.trans b6,a7.trans b7⟩
def C7q:∀ {L:List Int} {c:Cl},(∀ i,W2 ((c.lnk i).getD 0)=A5)->MayC c->MayC (cG c L)
 | [],_,_,h=>h
 | a::L,c,hl,h=>C7q (L:=L) (c:=bB c a) (by rw [(C7p (c:=c) (a:=a)).2.2.2.2.2.1];exact hl) (D8r hl h)
def D5n(hD:okD D)(hm:O6 (l_ D) n=A5):MayC (E6 D n):=by
 obtain ⟨h1,h2,_⟩:=X9 hD hm;refine C7q (λi=>?_) (D5o hD hm);rw [A69];have:=h2.lnk i;omega
def D4a:(wA c k).row=c.row:=ownR_same.row
def eY(hD:okD D)(hm:O6 (l_ D) n=A5):ImgOk D n (E6 D n):=by
 obtain ⟨h1,h2,h3,h4,h5⟩:=X9 hD hm;obtain ⟨_,_,_,n128,_⟩:=G8.1 hm;have hc:=D5n hD hm;obtain ⟨s1,s2,s3,s4,s5,s6,s7⟩:=cQ (L:=(D1 D n).row) (c:=D1 D n);have hr:1<=(D1 D n).row.length:=by
  have:(wA (I1 D n) (aX (l_ D) n).toNat).row.length<=(D1 D n).row.length:=D12;rw [D4a] at this;simpa [I1] using this
 refine ⟨?_,h5,hc.ino,by rw [h4];omega,hc.bm,?_,hc.md⟩
 ·show 0<(cG _ _).row.length;rw [s1];omega
 ·show (cG _ _).blocks.length<=_;rw [s3];have:=h2.blocks;omega
def B6F{m:Int}{f:Cell}(hD:okD D)(hv:IsView h f D)(hm:O6 (l_ D) n=A5)(hc:IsCl h cs (E6 D n)) :
  U7 [.a (vwC (l_ D) n m f),.a cs] h=A4 (sV (l_ h) 0 (l_ D) 256,h++[rT (E7 (fS D n (E6 D n)))]) :=
 C6r hD hv hm hc (eY hD hm)
end
def Cl.wl(c:Cl)(x:Int):Cl:={ c with lost:=x }
section
variable {D E:Dev} {n:Int} {c:Cl} {x:Int}
def E2k:dM D n (c.wl x) no=dM D n c no:=rfl
def B5j:K3 D n (c.wl x) no=K3 D n c no:=rfl
def B5h:K0 D n (c.wl x) no=(K0 D n c no).wl x:=by
 unfold K0;rw [E2k];cases dM D n c no<;>rfl
def D21(h:l_ E=l_ D):dM E n c no=dM D n c no:=by unfold dM;rw [h]
def A9g(h:l_ E=l_ D):K3 E n c no=K3 D n c no:=by unfold K3;rw [D21 h]
def A9f(h:l_ E=l_ D):K0 E n c no=K0 D n c no:=by unfold K0;rw [D21 h]
def bR:F6 (l_ D) n 0=A6:=by
 cases h:F6 (l_ D) n 0 with
 | false=>rfl
 | true =>
  obtain ⟨h1,h2,_⟩:=pE.1 h;unfold aX bE nM at h2;rw [h1] at h2;have:=G8.1 h1;simp only [R8] at h2;omega
def A9h:K3 D n c 0=0/\K0 D n c 0=c:=by
 unfold K3 K0 dM;rw [bR];exact ⟨rfl,rfl⟩
def B5k:K3 D n c (K3 D n c no)=K3 D n c no/\K0 D n c (K3 D n c no)=K0 D n c no:=by
 cases h:dM D n c no with
 | true =>
  have e:K3 D n c no=no:=by unfold K3;rw [h];rfl
  rw [e];exact ⟨e,rfl⟩
 | false =>
  have e:K3 D n c no=0:=by unfold K3;rw [h];rfl
  have e2:K0 D n c no=c:=by unfold K0;rw [h];rfl
  rw [e,e2];exact A9h
def A6R(h:K3 D n c no≠0):K3 D n c no=no/\dM D n c no=A5:=by
 cases hb:dM D n c no with
 | true=>exact ⟨by unfold K3;rw [hb];rfl,rfl⟩
 | false=>exact absurd (by unfold K3;rw [hb];rfl) h
def D6V{d:List Int}:∀ {e k:Nat} {c:Cl} {l:List Int},cE D n d e k (c.wl x,l)=((cE D n d e k (c,l)).1.wl x,(cE D n d e k (c,l)).2)
 | 0,_,_,_=>rfl
 | e+1,k,c,l=>by
  show cE D n d e (k+1) (K0 D n (c.wl x) (d.getD k 0),l.set k (K3 D n (c.wl x) (d.getD k 0)))=_;rw [B5h,B5j,D6V];rfl
def D29(h:l_ E=l_ D){d:List Int}:∀ {e k:Nat} {s:Cl × List Int},cE E n d e k s=cE D n d e k s
 | 0,_,_=>rfl
 | e+1,k,s=>by
  show cE E n d e (k+1) (K0 E n s.1 (d.getD k 0),s.2.set k (K3 E n s.1 (d.getD k 0)))=_;rw [A9f h,A9g h,D29 h];rfl
def gL{d:List Int}:∀ {e k:Nat} {s:Cl × List Int},j<k\/k+e<=j->(cE D n d e k s).2.getD j 0=s.2.getD j 0
 | 0,_,_,_=>rfl
 | e+1,k,s,h=>by
  show (cE D n d e (k+1) _).2.getD j 0=_;rw [gL (by omega)];show (s.2.set k _).getD j 0=_;rw [E67,E8c (by omega),<-E67]
def C6D{d d':List Int}:∀ {e k:Nat} {s:Cl × List Int},k+e<=s.2.length->(∀ j,k<=j->j<k+e->d'.getD j 0=(cE D n d e k s).2.getD j 0)->cE D n d' e k s=cE D n d e k s
 | 0,_,_,_,_=>rfl
 | e+1,k,s,hl,h=>by
  have h0:=h k (E69 _) (by omega);have e1:(cE D n d (e+1) k s).2.getD k 0=K3 D n s.1 (d.getD k 0):=by
   show (cE D n d e (k+1) (K0 D n s.1 (d.getD k 0),s.2.set k (K3 D n s.1 (d.getD k 0)))).2.getD k 0=_;rw [gL (by omega)];show (s.2.set k _).getD k 0=_;rw [E67,E76,C4 rfl,C4 (by omega)];rfl
  rw [e1] at h0;have ih:=C6D (d:=d) (d':=d') (e:=e) (k:=k+1) (s:=(K0 D n s.1 (d.getD k 0),s.2.set k (K3 D n s.1 (d.getD k 0)))) (by show k+1+e<=(s.2.set k _).length;rw [E7R];omega) (λj h1 h2=>h j (by omega) (by omega));show cE D n d' e (k+1) (K0 D n s.1 (d'.getD k 0),s.2.set k (K3 D n s.1 (d'.getD k 0)))=cE D n d e (k+1) (K0 D n s.1 (d.getD k 0),s.2.set k (K3 D n s.1 (d.getD k 0)));rw [h0,B5k.1,B5k.2];exact ih
def A2x(D:Dev)(n sz:Int)(d:List Int)(c:Cl):Cl × List Int:=A04 D n d (T2 sz) (cE D n d (min (T2 sz) 6).toNat 0 (c,zI 7))
def A00{ino:Int}:H7 D n c ino=A2x D n (szV D n ino) (drV D n ino) c:=rfl
def E04{sz:Int}{d:List Int}:A2x D n sz d (c.wl x)=((A2x D n sz d c).1.wl x,(A2x D n sz d c).2):=by
 unfold A2x A04;rw [D6V];split
 ·rw [B5h,B5j]
 ·rfl
def D8G(h:l_ E=l_ D){sz:Int}{d:List Int}:A2x E n sz d c=A2x D n sz d c:=by
 unfold A2x A04;rw [D29 h,A9f h,A9g h]
def D34{sz:Int}{d:List Int}:A2x D n sz (A2x D n sz d c).2 c=A2x D n sz d c:=by
 obtain ⟨m,hm⟩:=xEq ((min (T2 sz) 6).toNat);have m6:m<=6:=by omega
 obtain ⟨s,hs⟩:=xEq (cE D n d m 0 (c,zI 7));have sl:s.2.length=7:=by rw [hs,A0Y.2];simp [zI]
 have key:∀ d':List Int,(∀ j,j<6->d'.getD j 0=s.2.getD j 0)->cE D n d' m 0 (c,zI 7)=s:=by
  intro d' h;rw [hs];refine C6D (by simp [zI];omega) λj _ h2=>?_
  rw [h j (by omega),hs]
 have hN:A2x D n sz d c=A04 D n d (T2 sz) s:=by unfold A2x;rw [<-hm,<-hs]
 rw [hN];unfold A2x;rw [<-hm];by_cases h6:6<T2 sz
 ·have e1:A04 D n d (T2 sz) s=(K0 D n s.1 (d.getD 6 0),s.2.set 6 (K3 D n s.1 (d.getD 6 0))):=by unfold A04;rw [C4 h6]
  rw [e1,key _ (λj hj=>by rw [E67,E8c (by omega),<-E67])];unfold A04;rw [C4 h6];have e2:(s.2.set 6 (K3 D n s.1 (d.getD 6 0))).getD 6 0=K3 D n s.1 (d.getD 6 0):=by
   rw [E67,E76,C4 rfl,C4 (by omega)];rfl
  show (K0 D n s.1 ((s.2.set 6 (K3 D n s.1 (d.getD 6 0))).getD 6 0),s.2.set 6 (K3 D n s.1 ((s.2.set 6 (K3 D n s.1 (d.getD 6 0))).getD 6 0)))=_;rw [e2,B5k.1,B5k.2]
 ·have e1:A04 D n d (T2 sz) s=s:=by unfold A04;rw [C5 h6]
  rw [e1,key _ (λj hj=>rfl)];unfold A04;rw [C5 h6]
def E0o:R2 D n many (c.wl x,b) k=((R2 D n many (c,b) k).1.wl x,(R2 D n many (c,b) k).2):=by
 unfold R2;split
 ·rfl
 ·rw [B5h,B5j];split<;>rfl
def D3l:∀ {e k:Nat} {c:Cl} {b:List UInt8},K7 D n many e k (c.wl x,b)=((K7 D n many e k (c,b)).1.wl x,(K7 D n many e k (c,b)).2)
 | 0,_,_,_=>rfl
 | e+1,k,c,b=>by
  show K7 D n many e (k+1) (R2 D n many (c.wl x,b) k)=_;rw [E0o];exact D3l
def C98(h:l_ E=l_ D):∀ {e k:Nat} {s:Cl × List UInt8},K7 E n many e k s=K7 D n many e k s
 | 0,_,_=>rfl
 | e+1,k,s=>by
  show K7 E n many e (k+1) (R2 E n many s k)=K7 D n many e (k+1) (R2 D n many s k);have:R2 E n many s k=R2 D n many s k:=by unfold R2;rw [A9f h,A9g h]
  rw [this];exact C98 h
def B4d{s:Cl × List UInt8}(hb:s.2.length=256)(hk:k<128)(hi:i<128) :
  ptP (R2 D n many s k).2 i=if i=k then (if ptP s.2 k≠0/\(k:Int)+6<many/\K3 D n s.1 (ptP s.2 k)≠0 then ptP s.2 k else 0) else ptP s.2 i:=by
 obtain ⟨V,hV⟩:=xEq (if ptP s.2 k≠0/\(k:Int)+6<many/\K3 D n s.1 (ptP s.2 k)≠0 then ptP s.2 k else 0);rw [<-hV];unfold R2;by_cases h0:ptP s.2 k=0
 ·rw [C4 h0];rw [C5 (λh=>h.1 h0)] at hV;by_cases e:i=k
  ·subst e;rw [C4 rfl,hV,h0]
  ·rw [C5 e]
 ·rw [C5 h0];have hz:ptP (H5 s.2 (2*k) (D6 2 0)) i=if i=k then 0 else ptP s.2 i:=E2U hb hk hi
  by_cases hm:(k:Int)+6<many
  ·rw [C4 hm,R9 hm,E7w];by_cases hc:K3 D n s.1 (ptP s.2 k)=0
   ·show ptP (bif !decide (K3 D n s.1 (ptP s.2 k)=0) then s.2 else H5 s.2 (2*k) (D6 2 0)) i=_;rw [C5 (λh=>h.2.2 hc)] at hV;rw [R9 hc,Bool.not_true,bZ,hz,hV]
   ·show ptP (bif !decide (K3 D n s.1 (ptP s.2 k)=0) then s.2 else H5 s.2 (2*k) (D6 2 0)) i=_;rw [C4 ⟨h0,hm,hc⟩] at hV;rw [aC hc,Bool.not_false,R8,hV];by_cases e:i=k
    ·subst e;rw [C4 rfl]
    ·rw [C5 e]
  ·rw [C5 (λh=>hm h.2.1)] at hV;rw [C5 hm,aC hm,Bool.false_and];show ptP (H5 s.2 (2*k) (D6 2 0)) i=_;rw [hz,hV]
def A6T(hi:i<128):∀ {e k:Nat} {s:Cl × List UInt8},s.2.length=256->k+e<=128->i<k\/k+e<=i->ptP (K7 D n many e k s).2 i=ptP s.2 i
 | 0,_,_,_,_,_=>rfl
 | e+1,k,s,hb,hk,h=>by
  show ptP (K7 D n many e (k+1) (R2 D n many s k)).2 i=_;rw [A6T hi (A03 hb (by omega)) (by omega) (by omega),B4d hb (by omega) hi,C5 (by omega)]
def C3z{many:Int}:∀ {e k:Nat} {c:Cl} {b b':List UInt8},l_ b=256->b'.length=256->k+e<=128->(∀ j,k<=j->j<k+e->ptP b' j=ptP (K7 D n many e k (c,b)).2 j) ->
  K7 D n many e k (c,b')=((K7 D n many e k (c,b)).1,b')
 | 0,_,_,_,_,_,_,_,_=>rfl
 | e+1,k,c,b,b',hb,hb',hk,h=>by
  have hl:=A03 (D:=D) (n:=n) (many:=many) (s:=(c,b)) (k:=k) hb (by omega);have hp:ptP b' k=if ptP b k≠0/\(k:Int)+6<many/\K3 D n c (ptP b k)≠0 then ptP b k else 0:=by
   rw [h k (E69 _) (by omega)];show ptP (K7 D n many e (k+1) (R2 D n many (c,b) k)).2 k=_;rw [A6T (by omega) hl (by omega) (by omega),B4d (s:=(c,b)) hb (by omega) (by omega),C4 rfl]
  have key:R2 D n many (c,b') k=((R2 D n many (c,b) k).1,b'):=by
   by_cases h0:ptP b k=0
   ·rw [C5 (λq=>q.1 h0)] at hp;unfold R2;rw [C4 hp,C4 h0]
   ·by_cases hm:(k:Int)+6<many
    ·by_cases hc:K3 D n c (ptP b k)=0
     ·rw [C5 (λq=>q.2.2 hc)] at hp;have ec:K0 D n c (ptP b k)=c:=by
       cases hB:dM D n c (ptP b k) with
       | true =>
        have e9:K3 D n c (ptP b k)=ptP b k:=by unfold K3;rw [hB];rfl
        exact absurd (e9.symm.trans hc) h0
       | false=>unfold K0;rw [hB];rfl
      unfold R2;rw [C4 hp,C5 h0];show (c,b')=(if (k:Int)+6<many then K0 D n c (ptP b k) else c,b');rw [C4 hm,ec]
     ·rw [C4 ⟨h0,hm,hc⟩] at hp;unfold R2;rw [C5 (by rw [hp];exact h0),C5 h0];show (if (k:Int)+6<many then K0 D n c (ptP b' k) else c,bif decide ((k:Int)+6<many) && !decide (K3 D n c (ptP b' k)=0) then b' else H5 b' (2*k) (D6 2 0))=(if (k:Int)+6<many then K0 D n c (ptP b k) else c,b');rw [hp,R9 hm,aC hc];rfl
    ·rw [C5 (λq=>hm q.2.1)] at hp;unfold R2;rw [C4 hp,C5 h0];show (c,b')=(if (k:Int)+6<many then K0 D n c (ptP b k) else c,b');rw [C5 hm]
  show K7 D n many e (k+1) (R2 D n many (c,b') k)=((K7 D n many e (k+1) (R2 D n many (c,b) k)).1,b');rw [key];exact C3z (b:=(R2 D n many (c,b) k).2) hl hb' (by omega) λj h1 h2=>h j (by omega) (by omega)
def D3k(hb:l_ b=256)(D1A:l_ D<=512):ptP (K7 D n many 128 0 (c,b)).2 0<512:=by
 have hl:=A03 (D:=D) (n:=n) (many:=many) (s:=(c,b)) (k:=0) hb (by omega);show ptP (K7 D n many 127 1 (R2 D n many (c,b) 0)).2 0<512;rw [A6T (by omega) hl (by omega) (by omega),B4d (s:=(c,b)) hb (by omega) (by omega),C4 rfl];split
 ·rename_i h;obtain ⟨_,hB⟩:=A6R h.2.2;unfold dM at hB;rw [E66] at hB;have:=(pE.1 hB.1).2.2;show ptP b 0<512;have h2:ptP (c,b).2 0=ptP b 0:=rfl;rw [h2] at this;omega
 ·omega
end
def D2O{c:Nat}(h:A83 (C6 d) t i c=A5):Y8 d t i<=c:=by
 false_or_by_contra
 have:=B3L (d:=d) (t:=t) (p:=i) (c:=c) (by omega);rw [h] at this;cases this
def E1R{c:Nat}(hi:i<C6 d)(hc:A83 (C6 d) t i c=A5\/fN d<=c)(h:∀ k,k<C6 d->toX t k=toX t i->k%2 ^ c=i%2 ^ c):B66 d t i=A5:=by
 have hb:Y8 d t i<=c:=by
  rcases hc with hc | hc
  ·exact D2O hc
  ·exact E7V B9s hc
 rw [A1g hi];exact λk hk hs=>C7y hb (h k hk hs)
structure Fair(d:Int)(t:List Int):Prop where
 len:l_ t=32
 fine:∀ i,i<C6 d->toX t i≠0->B7X (toX t i)=A5
 whole:∀ i,i<C6 d->toX t i≠0->B66 d t i=A5
 beyond:∀ i,C6 d<=i->toX t i=0
def D6Y(ht:l_ t=32)(hr:A1b d t=A5):Fair d t:=by
 obtain ⟨h0,h5,hf⟩:=C2E.1 hr;have hm:=U3 d;unfold A9o at hf;rw [C4 ⟨h0,h5⟩] at hf;have hf:nH d t (C6 d)=t:=by simpa using hf
 have hk:∀ i,i<C6 d->toX t i≠0->zD d t i=A5:=by
  intro i hi hz;have:=A5K (d:=d) (t:=t) (i:=i) hm;rw [hf,C4 hi] at this;unfold zU at this;cases c:zD d t i with
  | true=>rfl
  | false=>rw [c] at this;exact absurd this hz
 have later:∀ i j,i<j->j<C6 d->toX t j=toX t i->toX t j≠0->B66 d t j=A5:=by
  intro i j hij hj hs hz;obtain ⟨_,_,h3⟩:=A07.1 (hk j hj hz);rcases h3 with h3 | h3
  ·exact absurd hs.symm (gN.1 h3 i hij)
  ·exact h3
 refine ⟨ht,λi hi hz=>(A07.1 (hk i hi hz)).2.1,λi hi hz=>?_,λi hi=>?_⟩
 ·obtain ⟨_,_,h3⟩:=A07.1 (hk i hi hz);rcases h3 with h3 | h3
  ·rw [A1g hi];intro k hkm hs;rcases Nat.lt_trichotomy k i with h | h | h
   ·exact absurd hs (gN.1 h3 k h)
   ·rw [h]
   ·have hw:=(A1g hkm).1 (later i k h hkm hs (by rw [hs];exact hz)) i hi hs.symm;have hb:=D2P hkm hi hw;rw [hb];exact hw.symm
  ·exact h3
 ·have:=A5K (d:=d) (t:=t) (i:=i) hm;rw [hf,C5 (by omega)] at this;exact this
def E1l(h0:0<=d)(h5:d<=5)(hf:Fair d t):A1b d t=A5:=by
 refine C3S h0 h5 ?_;unfold A9o;rw [C4 ⟨h0,h5⟩]
 congr 1
 refine D3o (U3 d) (λi hi=>?_) hf.len hf.beyond;by_cases hz:toX t i=0
 ·unfold zU;rw [hz];cases zD d t i<;>rfl
 ·have:zD d t i=A5:=A07.2 ⟨hz,hf.fine i hi hz,.inr (hf.whole i hi hz)⟩;unfold zU;rw [this];rfl
def E3m:toX (t.set k v) i=if k=i/\i<(l_ t) then v else toX t i:=by
 unfold toX;rw [E67,E67,E76];by_cases c:k=i
 ·subst c;by_cases c2:k<(l_ t)
  ·simp [c2]
  ·simp [c2]
 ·simp [c]
def C6P{a c:List UInt8}{w:Nat}:fieldN (R5 256 (a++D6 w v++c)) a.length w=v%256 ^ w:=by
 unfold fieldN R5;rw [E7i,E7i,List.drop_left,List.take_left' R7];exact B5r w v
def D50(hi:i<l_ t):pH t=pH (t.take i)++D6 2 t[i]++pH (t.drop (i+1)):=by
 have E48:∀ a b:List Int,pH (a++b)=pH a++pH b:=by intro a b;simp [pH]
 have e:t=t.take i++([t[i]]++t.drop (i+1)):=by rw [List.singleton_append,<-E7g hi,List.take_append_drop]
 have h1:pH t=pH (t.take i++([t[i]]++t.drop (i+1))):=congrArg pH e;rw [h1,E48,E48,<-E7i]
 congr 2
def B9M(h0:0<=d)(h5:d<=5):getD (nJ d t)=d:=by
 unfold getD nJ A5v;have:=C6P (a:=magX) (c:=zeros 27++pH t) (w:=1) (v:=d);rw [show magX.length=4 from rfl] at this;rw [E7i (magX++D6 1 d),this];omega
def E0l:B7X n=A5↔0<=n/\n<=65535:=by unfold B7X;simp
def B9N(ht:l_ t=32)(hf:t.all B7X=A5):O8 (nJ d t) 32=t:=by
 apply E8h;intro i;by_cases hi:i<32
 ·unfold O8;rw [E7T (by simpa using hi),List.getElem?_map,List.getElem?_range hi,E64 (by omega)];have:=C6P (a:=A5v d++pH (t.take i)) (c:=pH (t.drop (i+1))) (w:=2) (v:=t[i]);rw [E7i (A5v d),E7i (A5v d),<-D50 (by omega)] at this;have hl:(A5v d++pH (t.take i)).length=32+2*i:=by rw [E7c,A2p,A2w,E7L];omega
  rw [hl] at this;have h1:=E0l.1 (E7D.1 hf t[i] (E7y (by omega)));rw [show t[i]%256 ^ 2=t[i] by omega] at this;show A4 (E35 (nJ d t) i)=A4 t[i];rw [<-this];rfl
 ·rw [E7z (by rw [A2k (E69 _)];omega),E7z (by omega)]
def B9H(hf:Fair d t):t.all B7X=A5:=by
 rw [E7D];intro x hx;obtain ⟨i,hi⟩:=E7O.1 hx;have hl:=(E7b.1 hi).1;rw [C5e hl] at hi;have hi:=E8n hi;by_cases hz:toX t i=0
 ·rw [<-hi,hz];decide
 ·by_cases hm:i<C6 d
  ·rw [<-hi];exact hf.fine i hm hz
  ·exact absurd (hf.beyond i (by omega)) hz
def C65(h0:0<=d)(h5:d<=5)(hf:Fair d t):okX d t=A5/\Q4 (nJ d t)=A5:=by
 have ha:=B9H hf;have ho:okX d t=A5:=by unfold okX;rw [R9 h0,R9 h5,ha];rfl
 refine ⟨ho,?_⟩;unfold Q4;rw [B9M h0 h5,B9N hf.len ha,ho,R9 rfl,E7w,E7w];unfold C0y;rw [E7D];intro i hi;have:=List.mem_range'_1.1 hi;rw [hf.beyond i this.1];rfl
def D43:∀ {e i:Nat} {t:List Int},i+e<=l_ t->toX (A0G no e i t) j=if i<=j/\j<i+e/\toX t j=no then 0 else toX t j
 | 0,i,t,_=>by rw [C5 (by omega)];rfl
 | e+1,i,t,h=>by
  show toX (A0G no e (i+1) (if t.getD i 0=no then t.set i 0 else t)) j=_;have hl:(if t.getD i 0=no then t.set i 0 else t).length=(l_ t):=by split<;>simp
  rw [D43 (by rw [hl];omega)];have e1:toX (if t.getD i 0=no then t.set i 0 else t) j=if j=i/\toX t i=no then 0 else toX t j:=by
   by_cases c:t.getD i 0=no
   ·rw [C4 c,E3m];have c':toX t i=no:=c;by_cases e2:i=j
    ·subst e2;rw [C4 ⟨rfl,by omega⟩,C4 ⟨rfl,c'⟩]
    ·rw [C5 (λh=>e2 h.1),C5 (λh=>e2 h.1.symm)]
   ·rw [C5 c,C5 (λh=>c h.2)]
  by_cases e2:j=i
  ·subst e2;rw [C5 (by omega),e1];by_cases c:toX t j=no
   ·rw [C4 ⟨rfl,c⟩,C4 ⟨by omega,by omega,c⟩]
   ·rw [C5 (λh=>c h.2),C5 (λh=>c h.2.2)]
  ·have e3:toX (if t.getD i 0=no then t.set i 0 else t) j=toX t j:=by rw [e1,C5 (λh=>e2 h.1)]
   rw [e3];by_cases c:i+1<=j/\j<i+1+e/\toX t j=no
   ·rw [C4 c,C4 ⟨by omega,by omega,c.2.2⟩]
   ·rw [C5 c,C5 (λh=>c ⟨by omega,by omega,h.2.2⟩)]
structure LessQ(q:Int->Bool)(u T:List Int):Prop where
 len:l_ T=32
 get:∀ i,toX T i=if q (toX u i)=A5 then toX u i else 0
def E3l(h:l_ t<=i):toX t i=0:=by
 unfold toX;rw [E67,E7z h];rfl
section
variable {d:Int} {q:Int->Bool} {u T:List Int}
def D73(hf:Fair d u)(h:LessQ q u T):Fair d T:=by
 have nz:∀ i,toX T i≠0->q (toX u i)=A5/\toX T i=toX u i:=λi hz=>by
  have:=h.get i;cases hq:q (toX u i) with
  | true=>rw [hq,C4 rfl] at this;exact ⟨rfl,this⟩
  | false=>rw [hq,C5 (by decide)] at this;exact absurd this hz
 refine ⟨h.len,λi hi hz=>?_,λi hi hz=>?_,λi hi=>?_⟩
 ·obtain ⟨_,e⟩:=nz i hz;rw [e] at hz ⊢;exact hf.fine i hi hz
 ·obtain ⟨hq,e⟩:=nz i hz;have hz':toX u i≠0:=by rw [<-e];exact hz
  have hw:=(A1g hi).1 (hf.whole i hi hz');refine E1R (c:=Y8 d u i) hi ?_ λk hk hs=>?_
  ·by_cases hb:Y8 d u i<fN d
   ·refine .inl (A45.2 ⟨hz,λk hk hm=>?_⟩);have:=(A45.1 (B5e hb)).2 k hk hm;rw [h.get k,h.get i,this]
   ·exact .inr (by omega)
  ·obtain ⟨_,e2⟩:=nz k (by rw [hs];exact hz);exact hw k hk (by rw [<-e2,hs,e])
 ·have:=h.get i;rw [hf.beyond i hi] at this;rw [this];split<;>rfl
def C9Q(h:LessQ q u T){n:Nat}:J5 T n=(J5 u n).filter q:=by
 have nz:∀ i,yN T i=(yN u i&&q (toX u i)):=by
  intro i;unfold yN;have hi:=h.get i;cases hq:q (toX u i) with
  | false =>
   rw [hq,C5 (by decide)] at hi;rw [hi,Bool.and_false];rfl
  | true =>
   rw [hq,C4 rfl] at hi;rw [hi,Bool.and_true];by_cases hz:toX u i=0
   ·rw [hz];rfl
   ·congr 1
    rw [Bool.eq_iff_iff,gN,gN];constructor
    ·intro hk k hki e;refine hk k hki ?_;rw [h.get k,e,hq,C4 rfl,hi]
    ·intro hk k hki e;have hg:=h.get k;rw [hi] at e;cases hqk:q (toX u k) with
     | true=>rw [hqk,C4 rfl] at hg;exact hk k hki (by rw [<-hg,e])
     | false=>rw [hqk,C5 (by decide)] at hg;rw [hg] at e;exact hz e.symm
 unfold J5;rw [List.filter_map,List.filter_filter];have e1:(E7H n).filter (yN T)=(E7H n).filter λa=>(q∘toX u) a&&yN u a:=by
  refine List.filter_congr λx _=>?_
  rw [nz x,Bool.and_comm];rfl
 rw [e1];refine List.map_congr_left λx hx=>?_
 have hx:=(E7N.1 hx).2;rw [E66] at hx;have hq:q (toX u x)=A5:=hx.1;rw [h.get x,hq,C4 rfl]
end
def oN{n:Nat}(h:x∈J5 t n):x≠0:=by
 unfold J5 at h;obtain ⟨i,hi,rfl⟩:=E7B.1 h;have:=(E7N.1 hi).2;unfold yN at this;rw [E66] at this;simpa using this.1
def B9u{n:Nat}:(J5 t n).Nodup:=by
 unfold J5;rw [List.Nodup,List.pairwise_map,List.pairwise_filter];refine List.Pairwise.imp ?_ (List.pairwise_lt_range (n:=n));intro a b hab ha hb e;unfold yN at hb;rw [E66] at hb;exact gN.1 hb.2 a hab e
def C6S{l k:List Int}(h:List.Sublist k l)(hn:l.Nodup):l.filter (λx=>decide (x∈k))=k:=by
 induction h with
 | slnil=>rfl
 | @cons k l a h ih =>
  have ha:=List.nodup_cons.1 hn;have:a ∉ k:=λhk=>ha.1 (h.subset hk)
  rw [List.filter_cons,aC this,C5 (by decide)];exact ih ha.2
 | @cons_cons k l a h ih =>
  have ha:=List.nodup_cons.1 hn;rw [List.filter_cons,R9 (E7e ..),C4 rfl]
  congr 1
  have e:l.filter (λx=>decide (x∈a::k))=l.filter λx=>decide (x∈k):=by
   refine List.filter_congr λx hx=>?_
   have:x≠a:=λe=>ha.1 (by rw [<-e];exact hx)
   simp [this]
  rw [e,ih ha.2]
section
variable {D E:Dev} {n:Int}
def J1(D:Dev)(n:Int)(c:Cl):List Int->List Int
 | []=>[]
 | no::L=>if dM D n c no=A5 then no::J1 D n (K0 D n c no) L else J1 D n c L
def cX(D:Dev)(n:Int)(c:Cl)(L:List Int):Cl:=L.foldl (K0 D n) c
def B0W(h:dM D n c no=A6):K0 D n c no=c:=by unfold K0;rw [h];rfl
def D6T(h:dM D n c no=A6):K3 D n c no=0:=by unfold K3;rw [h];rfl
def yT(h:dM D n c no=A5):K3 D n c no=no:=by unfold K3;rw [h];rfl
def keptL_sub:∀ {L:List Int} {c:Cl},List.Sublist (J1 D n c L) L
 | [],_=>.slnil
 | no::L,c=>by
  unfold J1;split
  ·exact keptL_sub.cons_cons _
  ·exact keptL_sub.cons _
def B4x:∀ {L:List Int} {c:Cl},J1 D n c (J1 D n c L)=J1 D n c L
 | [],_=>rfl
 | no::L,c=>by
  cases h:dM D n c no with
  | true =>
   have e:J1 D n c (no::L)=no::J1 D n (K0 D n c no) L:=by show (if _ then _ else _)=_;rw [C4 h]
   rw [e];show (if dM D n c no=A5 then _ else _)=_;rw [C4 h,B4x]
  | false =>
   have e:J1 D n c (no::L)=J1 D n c L:=by show (if _ then _ else _)=_;rw [C5 (by rw [h];decide)]
   rw [e,B4x]
def C11:∀ {L:List Int} {c:Cl},cX D n c (J1 D n c L)=cX D n c L
 | [],_=>rfl
 | no::L,c=>by
  cases h:dM D n c no with
  | true =>
   have e:J1 D n c (no::L)=no::J1 D n (K0 D n c no) L:=by show (if _ then _ else _)=_;rw [C4 h]
   rw [e];exact C11 (L:=L) (c:=K0 D n c no)
  | false =>
   have e:J1 D n c (no::L)=J1 D n c L:=by show (if _ then _ else _)=_;rw [C5 (by rw [h];decide)]
   rw [e,C11];show _=cX D n (K0 D n c no) L;rw [B0W h]
def A39:∀ {L:List Int} {c:Cl} {t:List Int},l_ t=32->L.Nodup->(∀ x∈L,x≠0) ->
  (V8 D n (c,t) L).1=cX D n c L/\LessQ (λx=>!(decide (x∈L) && !decide (x∈J1 D n c L))) t (V8 D n (c,t) L).2
 | [],c,t,ht,_,_=>⟨rfl,ht,λi=>by simp [V8]⟩
 | no::L,c,t,ht,hn,hz=>by
  obtain ⟨h1,h2⟩:=List.nodup_cons.1 hn;have X5:=hz no (E7e ..);have hL:∀ x∈L,x≠0:=λx hx=>hz x (E7d _ hx)
  have hk:∀ {c},no ∉ J1 D n c L:=λh=>h1 (keptL_sub.subset h)
  cases h:dM D n c no with
  | true =>
   have e:V8 D n (c,t) (no::L)=V8 D n (K0 D n c no,t) L:=by
    show V8 D n (K0 D n c no,if K3 D n c no=0 then A0G no 32 0 t else t) L=_;rw [yT h,C5 X5]
   have e2:J1 D n c (no::L)=no::J1 D n (K0 D n c no) L:=by show (if _ then _ else _)=_;rw [C4 h]
   obtain ⟨a1,a2⟩:=A39 (L:=L) (c:=K0 D n c no) ht h2 hL;rw [e,e2];refine ⟨a1,a2.len,λi=>?_⟩;rw [a2.get i];have:(!(decide (toX t i∈L) && !decide (toX t i∈J1 D n (K0 D n c no) L)))=(!(decide (toX t i∈no::L) && !decide (toX t i∈no::J1 D n (K0 D n c no) L))):=by
    by_cases e3:toX t i=no
    ·rw [e3,aC h1,R9 (E7e ..),R9 (E7e ..)];rfl
    ·simp [e3]
   rw [this]
  | false =>
   have e:V8 D n (c,t) (no::L)=V8 D n (c,A0G no 32 0 t) L:=by
    show V8 D n (K0 D n c no,if K3 D n c no=0 then A0G no 32 0 t else t) L=_;rw [D6T h,C4 rfl,B0W h]
   have e2:J1 D n c (no::L)=J1 D n c L:=by show (if _ then _ else _)=_;rw [C5 (by rw [h];decide)]
   have hzl:(A0G no 32 0 t).length=32:=by rw [A31,ht]
   have hza:∀ i,toX (A0G no 32 0 t) i=if toX t i=no then 0 else toX t i:=λi=>by
    rw [D43 (by omega)];by_cases c1:toX t i=no
    ·by_cases c2:i<32
     ·rw [C4 ⟨by omega,by omega,c1⟩,C4 c1]
     ·exact absurd (E3l (t:=t) (i:=i) (by omega)) (by rw [c1];exact X5)
    ·rw [C5 (λh=>c1 h.2.2),C5 c1]
   obtain ⟨a1,a2⟩:=A39 (L:=L) (c:=c) hzl h2 hL;rw [e,e2];refine ⟨?_,a2.len,λi=>?_⟩
   ·rw [a1];show _=cX D n (K0 D n c no) L;rw [B0W h]
   ·rw [a2.get i,hza i];by_cases c1:toX t i=no
    ·have:(!(decide (toX t i∈no::L) && !decide (toX t i∈J1 D n c L)))=A6:=by
      rw [c1,R9 (E7e ..),aC hk];rfl
     rw [this];have e0:(if toX t i=no then (0:Int) else toX t i)=0:=C4 c1;rw [e0];split<;>rfl
    ·rw [C5 c1];have:(!(decide (toX t i∈L) && !decide (toX t i∈J1 D n c L)))=(!(decide (toX t i∈no::L) && !decide (toX t i∈J1 D n c L))):=by simp [c1]
     rw [this]
def A6L:∀ {L:List Int} {c:Cl} {t:List Int},(∀ x∈L,x≠0)->J1 D n c L=L->V8 D n (c,t) L=(cX D n c L,t)
 | [],_,_,_,_=>rfl
 | no::L,c,t,hz,h=>by
  have X5:=hz no (E7e ..);cases hb:dM D n c no with
  | true =>
   have e2:J1 D n c (no::L)=no::J1 D n (K0 D n c no) L:=by show (if _ then _ else _)=_;rw [C4 hb]
   rw [e2] at h;have h:=(List.cons.inj h).2;have e:V8 D n (c,t) (no::L)=V8 D n (K0 D n c no,t) L:=by
    show V8 D n (K0 D n c no,if K3 D n c no=0 then A0G no 32 0 t else t) L=_;rw [yT hb,C5 X5]
   rw [e,A6L (λx hx=>hz x (E7d _ hx)) h];rfl
  | false =>
   have e2:J1 D n c (no::L)=J1 D n c L:=by show (if _ then _ else _)=_;rw [C5 (by rw [hb];decide)]
   rw [e2] at h;have:=keptL_sub (D:=D) (n:=n) (L:=L) (c:=c);rw [h] at this;have:=this.length_le;simp at this;omega
end
section
variable (n m m2:Nat) (a0 a1 x0 x1 x5:Val) (h:A9)
def uT:FD A8:=⟨px 0X11b4010228f5050022c1f03180134015a0000172240381048818044881d4a1581048818044881d3a17290180196b43153130702406120292e11c1b043d4203006051111b611c20130134011c0000722406320291e102976052d4203340130182,[],[.eqA A5 (E68 256 (.i .u8)) (.t 20) (.t 24)],[.tmp 4],[]⟩
def C21:=uT.R
def B9E:AtH:=uT.lj 0 n [m] [x0,x1,x5]
def C26:=tT [⟨2,3,B9E⟩]
def C5m:=mR C21 uT C26 n [a0,a1] h
def B1L:=mL uT C26 0 n [m] [x0,x1,x5] h
def C2S:=uT.K Tryz.func13
def B3s:=uT.S
def C1n:G3 C21 B3s:=C2S.flat
end
def D0L{v u:Val}{q:Nat}(hD:okD D)(h60:l_ D<=1073741823)(hv:Has h v 256 (l_ D) (E7 D))(hu:Has h u 256 (l_ D) (E7 D)):∀ (e i m:Nat),i+e=l_ D->e<m ->
  B9E q m v u (iV (i:Int)) h=A4 (bV A5,h)
 | e,i,0,_,hm=>by omega
 | 0,i,m+1,hi,hm=>by
  have c0:¬ (i:Int)<(l_ D:Nat):=by omega
  rw [B1L];simp only [esc,hu.len,c0]
 | e+1,i,m+1,hi,hm=>by
  have K6:i<(l_ D):=by omega
  have c0:(i:Int)<(l_ D:Nat):=by omega
  have ih:=D0L (q:=q) hD h60 hv hu e (i+1) m (by omega) (by omega);have hl:=hu.len;obtain ⟨id,off,e1,_,a1,l1⟩:=B06 hv hD K6;obtain ⟨dX,off',e1',_,a1',l1'⟩:=B06 hu hD K6;have q1:=C9C (l:=D[i]) (m:=D[i]) (n:=256) (hD.at K6) (hD.at K6);rw [R9 rfl] at q1;rw [B1L];generalize B4 D[i]=y at *;generalize E68 256 (Sh.i .u8)=z at *;simp only [esc,hl,c0,a1,l1,a1',l1',q1,E3 (a:=i) (by omega)];exact ih
def same_eq{v u:Val}(hD:okD D)(h60:l_ D<=1073741823)(hv:Has h v 256 (l_ D) (E7 D))(hu:Has h u 256 (l_ D) (E7 D)):B3s [v,u] h=A4 (bV A5,h):=by
 refine C1n (n:=l_ D+1) (h2:=ro h) ?_ rfl;have hL:=D0L (q:=l_ D+1) hD h60 hv.ro hu.ro (l_ D) 0 (l_ D+1) (by omega) (by omega);rw [C5m];simp only [esc,hv.len,hu.len,eq_self];exact hL
def D90(h:B51 D=A5):O6 (l_ D) (A9j D)=A5:=by
 unfold B51 at h;rw [E66] at h;have h1:=h.1;unfold okS at h1;rw [E66,of_decide_eq_true h.2] at h1;exact h1.1
abbrev Wr:=Int × List UInt8
def A68:Dev->Dev->Nat->List Wr
 | w::W,d::D,i=>if w=d then A68 W D (i+1) else ((i:Int),w)::A68 W D (i+1)
 | _,_,_=>[]
section
variable {D W:Dev} {n m:Int} {g:A9} {q:Nat} {x0 x20:Val}
def B9S{D:Dev}{n:Int}(hD:okD D)(hm:O6 (l_ D) n=A5):okD (fS D n (E6 D n))/\(fS D n (E6 D n)).length=(l_ D):=by
 have okf:=eY hD hm;obtain ⟨_,_,_,n128,_⟩:=G8.1 hm;have h1:=B4N (l:=(E6 D n).blocks) (m:=(E6 D n).made) hD okf.md;have h2:=A9S (e:=(nM (l_ D) n).toNat) (no:=bE (l_ D) n) h1.1;have h3:=B4w (n:=n) n128 (l:=(E6 D n).ino) (i:=0) h2.1 λx hx=>(okf.ino x hx).1
 unfold fS;refine ⟨h3.1.put ?_,by rw [fX,h3.2,h2.2,h1.2]⟩;unfold dZ;rw [fP,zeros_length]
end
def C9e(D:Dev)(n i:Int):List Int:=kdV D n i::lnV D n i::szV D n i::paV D n i::drV D n i
def D4w{i:Int}:(C9e D n i).length=11:=by simp [C9e,J9]
def D8V{i:Int}:C9e D n i=zI 11↔kdV D n i=0:=by
 constructor
 ·intro h;have:(C9e D n i).getD 0 0=(zI 11).getD 0 0:=by rw [h]
  simpa [C9e,zI] using this
 ·intro h;have hk:=C48 (D:=D) (n:=n) (i:=i);unfold C9e lnV szV paV drV;rw [h];cases hc:B0V D n i with
  | false=>rfl
  | true =>
   rw [hc,R8,h] at hk;have hc2:=hc;unfold B0V aW A5A at hc2;rw [<-hk] at hc2;simp only [E66,if_true] at hc2;obtain ⟨_,h1,_⟩:=hc2;unfold D04 at h1;obtain ⟨e1,e2,e3,e4⟩:=of_decide_eq_true h1;simp only [R8,e1,e2,e3,e4];rfl
section
variable {h:A9} {r:Nat} {s:List Int} {B:Int}
end
def A0y(p:Slt->Bool)(cur:List UInt8)(l:List Slt):List UInt8:=l.foldl (λcur x=>bif p x then H5 cur (H9 x.1) (U6 x.2.1 x.2.2) else cur) cur
def clB(b:List UInt8)(p:Slt->Bool):List UInt8:=A0y p hdB (J3 b)
def A2s(b:List UInt8)(p:Slt->Bool)(k:Nat):Option Ent:=match O7 b k with
 | some x=>bif p (k,x) then A4 x else A7
 | none=>A7
def E5I(o:Option Ent)(cur:List UInt8)(k:Nat):List UInt8:=match o with
 | some x=>H5 cur (H9 k) (U6 x.1 x.2)
 | none=>cur
def B73{p:Slt->Bool}(hx:O7 b k=A7):A2s b p k=A7:=by unfold A2s;rw [hx]
def B1c{p:Slt->Bool}{x:Ent}(hx:O7 b k=A4 x):A2s b p k=bif p (k,x) then A4 x else A7:=by unfold A2s;rw [hx]
def D0N{p:Slt->Bool}(hj:j<7):∀ (e k:Nat) (cur:List UInt8),k+e<=7->cur.length=256 ->
  iX (A0y p cur (Q5 b e k)) j=if k<=j/\j<k+e then E3J (A2s b p j) (iX cur j) else iX cur j
 | 0,k,cur,h,hc=>by rw [C5 (by omega)];rfl
 | e+1,k,cur,h,hc=>by
  obtain ⟨cur',h'⟩:=xEq (E5I (A2s b p k) cur k);have hs:A0y p cur (Q5 b (e+1) k)=A0y p cur' (Q5 b e (k+1)):=by
   rw [h'];cases hx:O7 b k with
   | none =>
    have:A2s b p k=A7:=by unfold A2s;rw [hx]
    rw [aI hx,this];rfl
   | some x =>
    rw [aJ hx];show A0y p (bif p (k,x) then H5 cur (H9 k) (U6 x.1 x.2) else cur) _=_;have:A2s b p k=bif p (k,x) then A4 x else A7:=by unfold A2s;rw [hx]
    rw [this];cases p (k,x)<;>rfl
  have hl:cur'.length=256:=by
   rw [h'];cases A2s b p k with
   | none=>exact hc
   | some x=>exact A3O (by omega) hc
  have hc':iX cur' j=if j=k then E3J (A2s b p j) (iX cur j) else iX cur j:=by
   rw [h'];by_cases c:j=k
   ·subst c;rw [C4 rfl];cases A2s b p j with
    | none=>rfl
    | some x=>show iX (H5 cur (H9 j) (U6 x.1 x.2)) j=_;rw [D0M hc V4 hj hj,C4 rfl];rfl
   ·rw [C5 c];cases A2s b p k with
    | none=>rfl
    | some x=>show iX (H5 cur (H9 k) (U6 x.1 x.2)) j=_;rw [D0M hc V4 (by omega) hj,C5 c]
  rw [hs,D0N hj e (k+1) _ (by omega) hl,hc'];by_cases c:j=k
  ·subst c;rw [C5 (by omega),C4 rfl,C4 ⟨by omega,by omega⟩]
  ·rw [C5 c];by_cases c2:k+1<=j/\j<k+1+e
   ·rw [C4 c2,C4 ⟨by omega,by omega⟩]
   ·rw [C5 c2,C5 (by omega)]
section
variable {b:List UInt8} {p:Slt->Bool}
def D7q(hj:j<7):O7 (clB b p) j=A2s b p j:=by
 rw [D6f];unfold clB J3;rw [D0N hj 7 0 hdB (by omega) pA,C4 ⟨by omega,by omega⟩,D87 j hj];cases hx:O7 b j with
 | none=>rw [B73 hx];exact C3R
 | some x =>
  rw [B1c hx];cases p (j,x) with
  | true=>exact D8T (C2C hx)
  | false=>exact C3R
def B99{b':List UInt8}:∀ (e k:Nat),(∀ j,k<=j->j<k+e->O7 b' j=A2s b p j)->Q5 b' e k=(Q5 b e k).filter p
 | 0,_,_=>rfl
 | e+1,k,h=>by
  have ih:=B99 e (k+1) λj h1 h2=>h j (by omega) (by omega)
  have h0:=h k (E69 _) (by omega);cases hx:O7 b k with
  | none=>rw [B73 hx] at h0;rw [aI hx,aI h0,ih]
  | some x =>
   rw [B1c hx] at h0;rw [aJ hx,List.filter_cons];cases hp:p (k,x) with
   | true=>rw [hp] at h0;rw [aJ h0,ih,C4 rfl]
   | false=>rw [hp] at h0;rw [aI h0,ih,C5 (by decide)]
def D1N:J3 (clB b p)=(J3 b).filter p:=B99 7 0 λj _ h=>D7q (by omega)
def D62(hp:∀ y,p y=A5->U9 b y.2.1=A4 y)(nm:List UInt8):U9 (clB b p) nm=match U9 b nm with
  | some x=>bif p x then A4 x else A7
  | none=>A7:=by
 have hr:∀ j,j<7->O7 (clB b p) j=A2s b p j:=λj hj=>D7q hj
 have back:∀ j y,j<7->O7 (clB b p) j=A4 y->O7 b j=A4 y/\p (j,y)=A5:=by
  intro j y hj hy;rw [hr j hj] at hy;cases hx:O7 b j with
  | none=>rw [B73 hx] at hy;cases hy
  | some z =>
   rw [B1c hx] at hy;cases hq:p (j,z) with
   | true =>
    rw [hq] at hy;have:z=y:=E8n hy;subst this;exact ⟨rfl,hq⟩
   | false=>rw [hq] at hy;cases hy
 cases hf:U9 b nm with
 | none =>
  refine A5m 7 0 λj y _ h2 hy=>?_
  obtain ⟨h3,_⟩:=back j y (by omega) hy;exact B39 7 0 hf j y (Nat.zero_le _) (by omega) h3
 | some x =>
  obtain ⟨h1,h2,_,h4,h5⟩:=A3R 7 0 hf;show _=bif p x then A4 x else A7
  cases hq:p x with
  | true =>
   refine C3A (i:=x.1) (x:=x.2) ?_ h2 7 0 (Nat.zero_le _) (by omega) λj y _ hj2 hy=>?_
   ·rw [hr _ (by omega),B1c h1];have:(x.1,x.2)=x:=rfl;rw [this,hq];rfl
   ·obtain ⟨h6,_⟩:=back j y (by omega) hy;exact h5 j y (Nat.zero_le _) hj2 h6
  | false =>
   refine A5m 7 0 λj y _ hj2 hy e=>?_
   obtain ⟨h6,h7⟩:=back j y (by omega) hy;have:=hp (j,y) h7;rw [show ((j,y):Slt).2.1=nm from e,hf] at this;cases this;rw [h7] at hq;cases hq
def B4z{p':Slt->Bool}:∀ {l:List Slt} {cur:List UInt8},(∀ y∈l,p y=A5->p' y=A5)->A0y p' cur (l.filter p)=A0y p cur l
 | [],_,_=>rfl
 | y::l,cur,h=>by
  have hl:=λz hz=>h z (E7d _ hz)
  rw [List.filter_cons];cases hq:p y with
  | true =>
   rw [C4 rfl];show A0y p' (bif p' y then H5 cur (H9 y.1) (U6 y.2.1 y.2.2) else cur) (l.filter p)=A0y p (bif p y then H5 cur (H9 y.1) (U6 y.2.1 y.2.2) else cur) l;rw [h y (E7e ..) hq,hq];exact B4z hl
  | false =>
   rw [C5 (by decide)];show _=A0y p (bif p y then H5 cur (H9 y.1) (U6 y.2.1 y.2.2) else cur) l;rw [hq];exact B4z hl
def D9W{p':Slt->Bool}(h:∀ y∈J3 b,p y=A5->p' y=A5):clB (clB b p) p'=clB b p:=by
 have e:clB (clB b p) p'=A0y p' hdB (J3 (clB b p)):=rfl;rw [e,D1N];exact B4z h
def C1Z{p':Slt->Bool}(h:∀ y∈J3 b,p' y=p y):clB b p'=clB b p:=by
 unfold clB A0y;generalize hdB=cur;generalize J3 b=l at h
 induction l generalizing cur with
 | nil=>rfl
 | cons y l ih =>
  rw [E8f,E8f,h y (E7e ..)];exact ih _ (λz hz=>h z (E7d _ hz))
def C64(h:Q4 b=A5):ptP b 0=25705:=by
 unfold Q4 at h;rw [E66,E66] at h;have e:=of_decide_eq_true h.2.1;rw [<-e];unfold ptP fieldN nJ R5 A5v magX;simp only [Nat.mul_zero,E7n,E8a,List.take_succ_cons,E75];rfl
def D8o{l:List Slt}:∀ {cur:List UInt8},(∀ x∈l,x.1<7)->cur.length=256->ptP (A0y p cur l) 0=ptP cur 0:=by
 induction l with
 | nil=>intro cur _ _;rfl
 | cons x l ih =>
  intro cur hl hc;have hx:=hl x (E7e ..);show ptP (A0y p (bif p x then H5 cur (H9 x.1) (U6 x.2.1 x.2.2) else cur) l) 0=_;cases p x with
  | false=>exact ih (λy hy=>hl y (E7d _ hy)) hc
  | true =>
   have:=ih (cur:=H5 cur (H9 x.1) (U6 x.2.1 x.2.2)) (λy hy=>hl y (E7d _ hy)) (A3O hx hc);refine this.trans ?_;unfold ptP fieldN;have hl:=D0o (l:=cur) (xs:=U6 x.2.1 x.2.2) (a:=H9 x.1) (c:=2*0) (n:=2) (by rw [V4,hc];unfold H9;omega) (.inl (by unfold H9;omega));rw [hl]
def E2j:Q4 (clB b p)=A6:=by
 cases h:Q4 (clB b p) with
 | false=>rfl
 | true =>
  have h1:=C64 h;unfold clB at h1;rw [D8o (λx hx=>(C0z x hx).1) pA] at h1;have:ptP hdB 0=27490:=by decide +kernel
  rw [this] at h1;cases h1
def D76(hb:l_ b=256)(D1A:l_ D<=512):Q4 (K7 D n many 128 0 (c,b)).2=A6:=by
 cases h:Q4 (K7 D n many 128 0 (c,b)).2 with
 | false=>rfl
 | true =>
  have h1:=C64 h;have:=D3k (D:=D) (n:=n) (many:=many) (c:=c) hb D1A;omega
end
def C0d{x:Slt}:∀ (e k:Nat),k<=x.1->x.1<k+e->O7 b x.1=A4 x.2->x∈Q5 b e k
 | 0,k,h1,h2,_=>by omega
 | e+1,k,h1,h2,hx=>by
  by_cases c:x.1=k
  ·rw [<-c,aJ hx];exact E7e ..
  ·have ih:=C0d e (k+1) (by omega) (by omega) hx;cases hk:O7 b k with
   | none=>rw [aI hk];exact ih
   | some z=>rw [aJ hk];exact E7d _ ih
section
variable {D E:Dev} {X L:List Int} {K:List UInt8->Option Int} {n:Int} {nm:List UInt8}
def uR(h:R3 X nm=no)(hz:no≠0):hmS D X nm=U9 (blk D no) nm:=by
 unfold hmS;rw [h,C5 hz]
def B9P{y:Slt}(h:hmS D X nm=A4 y):R3 X nm≠0/\y∈J3 (blk D (R3 X nm))/\y.2.1=nm/\1<=y.2.2:=by
 by_cases hz:R3 X nm=0
 ·unfold hmS at h;rw [C4 hz] at h;cases h
 ·rw [uR rfl hz] at h;obtain ⟨h1,h2,_,h4,_⟩:=A3R 7 0 h;refine ⟨hz,C0d 7 0 (Nat.zero_le _) (by omega) h1,h2,?_⟩;have:=C2C h1;unfold B52 at this;simp only [E66,decide_eq_true_eq] at this;exact this.2.1
def B5d{x:Slt}:atH D X (no,x)=A5↔R3 X x.2.1=no/\hmS D X x.2.1=A4 x:=by
 unfold atH;rw [E66,decide_eq_true_eq,decide_eq_true_eq]
def vN{x:Slt}:V5 D X no K x=A5↔(R3 X x.2.1=no/\hmS D X x.2.1=A4 x)/\(K x.2.1).getD 0=x.2.2:=by
 unfold V5;rw [E66,B5d,decide_eq_true_eq]
def pG(hz:∀ no∈L,no≠0):nm∈Q0 D X (yJ D L)↔R3 X nm∈L/\(hmS D X nm).isSome=A5:=by
 unfold Q0 yJ;constructor
 ·intro h;obtain ⟨⟨no,x⟩,he,rfl⟩:=E7B.1 h;obtain ⟨h1,h2⟩:=E7N.1 he;obtain ⟨no',hL,h3⟩:=List.mem_flatMap.1 h1;obtain ⟨x',_,h4⟩:=E7B.1 h3;cases h4;obtain ⟨h5,h6⟩:=B5d.1 h2;exact ⟨by show R3 X x.2.1∈L;rw [h5];exact hL,by show (hmS D X x.2.1).isSome=A5;rw [h6];rfl⟩
 ·rintro ⟨h1,h2⟩;obtain ⟨y,hy⟩:=Option.isSome_iff_exists.1 h2;obtain ⟨_,h3,h4,_⟩:=B9P hy;refine E7B.2 ⟨(R3 X nm,y),E7N.2 ⟨List.mem_flatMap.2 ⟨_,h1,E7B.2 ⟨y,h3,rfl⟩⟩,B5d.2 ?_⟩,h4⟩;rw [h4];exact ⟨rfl,hy⟩
structure Bk(D E:Dev)(X:List Int)(K:List UInt8->Option Int)(L:List Int):Prop where
 nz:∀ no∈L,no≠0
 blk:∀ no∈L,blk E no=blk D no\/blk E no=clB (blk D no) (V5 D X no K)
 kn:∀ s v,K s=A4 v->v=B4k D X s
def B72(hz:no≠0):∀ y,V5 D X no K y=A5->U9 (blk D no) y.2.1=A4 y:=by
 intro y hy;obtain ⟨⟨h1,h2⟩,_⟩:=vN.1 hy;rw [<-uR h1 hz];exact h2
def Bk.home(h:Bk D E X K L)(hL:R3 X nm∈L):hmS E X nm=hmS D X nm\/hmS E X nm=A7/\K nm=A7:=by
 have hz:=h.nz _ hL;rw [uR rfl hz,uR rfl hz];rcases h.blk _ hL with e | e
 ·rw [e];exact .inl rfl
 ·rw [e,D62 (B72 hz) nm];cases hf:U9 (Go.Proofs.YtbipebfdappanaaGreat.blk D (R3 X nm)) nm with
  | none=>exact .inl rfl
  | some y =>
   have hy:hmS D X nm=A4 y:=by rw [uR rfl hz];exact hf
   obtain ⟨_,_,h4,h5⟩:=B9P hy;show (bif V5 D X (R3 X nm) K y then A4 y else A7)=A4 y\/(bif V5 D X (R3 X nm) K y then A4 y else A7)=A7/\_;cases hk:V5 D X (R3 X nm) K y with
   | true=>exact .inl rfl
   | false =>
    refine .inr ⟨rfl,?_⟩;cases hK:K nm with
    | none=>rfl
    | some v =>
     have hv:=h.kn nm v hK;have e2:B4k D X nm=y.2.2:=by unfold B4k;rw [hy];rfl
     have:V5 D X (R3 X nm) K y=A5:=vN.2 ⟨⟨by rw [h4],by rw [h4];exact hy⟩,by rw [h4,hK,hv,e2];rfl⟩;rw [this] at hk;cases hk
def Bk.list(h:Bk D E X K L):S7 E X L=(S7 D X L).filter λe=>(hmS E X e.1).isSome:=by
 have e1:fY (Q0 E X (yJ E L))=(fY (Q0 D X (yJ D L))).filter λs=>(hmS E X s).isSome:=by
  refine E4Y (C0B _) ((C0B _).filter _) λs=>?_
  rw [E7N,dA,dA,pG h.nz,pG h.nz];constructor
  ·rintro ⟨h1,h2⟩;rcases h.home h1 with e | ⟨e,_⟩
   ·exact ⟨⟨h1,by rw [<-e];exact h2⟩,h2⟩
   ·rw [e] at h2;cases h2
  ·rintro ⟨⟨h1,_⟩,h2⟩;exact ⟨h1,h2⟩
 unfold S7;rw [e1,List.filter_map];show ((fY (Q0 D X (yJ D L))).filter λs=>(hmS E X s).isSome).map _=((fY (Q0 D X (yJ D L))).filter λs=>(hmS E X s).isSome).map _;refine List.map_congr_left λs hs=>?_
 obtain ⟨h1,h2⟩:=E7N.1 hs;have h3:=((pG h.nz).1 ((dA _ _).1 h1)).1;rcases h.home h3 with e | ⟨e,_⟩
 ·show (s,B4k E X s)=(s,B4k D X s);unfold B4k;rw [e]
 ·have h2:(hmS E X s).isSome=A5:=h2;rw [e] at h2;cases h2
def E0Z:dY []=hdB:=by
 have e:D1Z []=0:=by decide +kernel
 unfold dY;rw [C4 e];rfl
def C10{no:Int}:∀ {l:List Slt} {s:Cl × List UInt8},∃ y,W0 D X no K s l=(s.1.wl y,A0y (V5 D X no K) s.2 l)
 | [],s=>⟨s.1.lost,rfl⟩
 | x::l,s=>by
  cases hk:V5 D X no K x with
  | true =>
   have e:fL D X no K s x=(s.1,H5 s.2 (H9 x.1) (U6 x.2.1 x.2.2)):=by unfold fL;rw [hk];rfl
   obtain ⟨y,hy⟩:=C10 (no:=no) (l:=l) (s:=(s.1,H5 s.2 (H9 x.1) (U6 x.2.1 x.2.2)));refine ⟨y,?_⟩;show W0 D X no K (fL D X no K s x) l=(_,A0y _ (bif V5 D X no K x then _ else _) l);rw [e,hk];exact hy
  | false =>
   have e:fL D X no K s x=(s.1.wl (s.1.lost+1),s.2):=by unfold fL;rw [hk];rfl
   obtain ⟨y,hy⟩:=C10 (no:=no) (l:=l) (s:=(s.1.wl (s.1.lost+1),s.2));refine ⟨y,?_⟩;show W0 D X no K (fL D X no K s x) l=(_,A0y _ (bif V5 D X no K x then _ else _) l);rw [e,hk];exact hy
def C0e:∃ y,dP D X K c no=(dO c no (clB (blk D no) (V5 D X no K))).wl y:=by
 obtain ⟨y,hy⟩:=C10 (D:=D) (X:=X) (K:=K) (no:=no) (l:=J3 (blk D no)) (s:=(c,dY []));refine ⟨y,?_⟩;unfold dP;rw [hy,E0Z];rfl
def Bk.clear(h:Bk D E X K L)(hL:no∈L):clB (Go.Proofs.YtbipebfdappanaaGreat.blk E no) (V5 E X no K)=clB (Go.Proofs.YtbipebfdappanaaGreat.blk D no) (V5 D X no K):=by
 have hz:=h.nz _ hL;rcases h.blk _ hL with e | e
 ·rw [e];refine C1Z λy _=>?_
  rw [Bool.eq_iff_iff,vN,vN];constructor
  ·rintro ⟨⟨h1,h2⟩,h3⟩;rw [uR h1 hz,e] at h2;exact ⟨⟨h1,by rw [uR h1 hz];exact h2⟩,h3⟩
  ·rintro ⟨⟨h1,h2⟩,h3⟩;rw [uR h1 hz] at h2;exact ⟨⟨h1,by rw [uR h1 hz,e];exact h2⟩,h3⟩
 ·rw [e];refine D9W λy _ hk=>?_
  obtain ⟨⟨h1,h2⟩,h3⟩:=vN.1 hk;refine vN.2 ⟨⟨h1,?_⟩,h3⟩;rw [uR h1 hz,e,D62 (B72 hz),B72 hz y hk];show (bif V5 D X no K y then A4 y else A7)=A4 y;rw [hk];rfl
def Bk.clears:∀ {L:List Int} (_:Bk D E X K L) {c:Cl} {x:Int},∃ x',P7 E X K (c.wl x) L=(P7 D X K c L).wl x'
 | [],_,c,x=>⟨x,rfl⟩
 | no::L,h,c,x=>by
  have h':Bk D E X K L:=⟨λa ha=>h.nz a (E7d _ ha),λa ha=>h.blk a (E7d _ ha),h.kn⟩;obtain ⟨y,hy⟩:=C0e (D:=D) (X:=X) (K:=K) (no:=no) (c:=c);obtain ⟨y2,hy2⟩:=C0e (D:=E) (X:=X) (K:=K) (no:=no) (c:=c.wl x);rw [h.clear (E7e ..)] at hy2;have e2:dP E X K (c.wl x) no=(dP D X K c no).wl y2:=by rw [hy2,hy];rfl
  show ∃ x',P7 E X K (dP E X K (c.wl x) no) L=(P7 D X K (dP D X K c no) L).wl x';rw [e2];exact Bk.clears h'
def E1M{dir ino:Int}:U4 D n (c.wl x) dir ino=(U4 D n c dir ino).wl x:=by
 have e:Q6 D n (c.wl x) ino=Q6 D n c ino:=rfl;unfold U4;rw [e];cases Q6 D n c ino with
 | false=>rfl
 | true =>
  show (bif (c.par ino).isSome then _ else _)=(bif (c.par ino).isSome then _ else _:Cl).wl x;cases (c.par ino).isSome<;>rfl
def A7e{a:Int}{s0:List UInt8}:∀ {L:List Ent} {s:Cl × (List UInt8->Option Int)},(∀ e∈L,e.1≠s0)->(O9 D n a s L).2 s0=s.2 s0
 | [],_,_=>rfl
 | e::L,s,h=>by
  have h1:=A7e (a:=a) (s0:=s0) (L:=L) (s:=K4 D n a s e) λx hx=>h x (E7d _ hx)
  refine h1.trans ?_;unfold K4;cases Q6 D n s.1 e.2 with
  | false=>rfl
  | true =>
   show (B40 s.2 e.1 e.2) s0=_;unfold B40;rw [C5 (λh2=>h e (E7e ..) h2.symm)]
def B63{i:Int}:∀ {L:List Ent} {s:Cl × (List UInt8->Option Int)},i∈s.1.row->i∈(O9 D n a s L).1.row
 | [],_,h=>h
 | e::L,s,h=>by
  refine B63 (L:=L) (s:=K4 D n a s e) ?_;unfold K4;cases Q6 D n s.1 e.2 with
  | false=>exact h
  | true =>
   show i∈(U4 D n s.1 a e.2).row;unfold U4;cases Q6 D n s.1 e.2 with
   | false=>exact h
   | true =>
    show i∈(bif (s.1.par e.2).isSome then _ else _:Cl).row;cases (s.1.par e.2).isSome with
    | true=>exact h
    | false=>exact E7I _ h
def D9d{i:Int}(w:RowW n c)(h:Q6 D n c i=A5):i∈(U4 D n c a i).row:=by
 unfold U4;rw [h];show i∈(bif (c.par i).isSome then A2u c i else C4O (A2u c i) a i).row;cases hp:(c.par i).isSome with
 | true=>exact (w.par i).1 hp
 | false=>exact E7C _ (E7K.2 rfl)
def C8j{Rf:List Int}{x:Int}{p:Ent->Bool}(hk:∀ i,i≠1->kdV E n i=kdV D n i\/(i ∉ Rf/\kdV E n i=0)) :
  ∀ {L:List Ent} {s:Cl × (List UInt8->Option Int)},RowW n s.1->(∀ i∈(O9 D n a s L).1.row,i∈Rf)->L.Pairwise (λe f=>e.1≠f.1)->(∀ e∈L,p e=A6->(O9 D n a s L).2 e.1=A7) ->
  O9 E n a (s.1.wl x,s.2) (L.filter p)=((O9 D n a s L).1.wl x,(O9 D n a s L).2)
 | [],_,_,_,_,_=>rfl
 | e::L,s,w,hR,hd,hp=>by
  obtain ⟨d1,d2⟩:=List.pairwise_cons.1 hd;have hp':∀ f∈L,p f=A6->(O9 D n a (K4 D n a s e) L).2 f.1=A7:=λf hf=>hp f (E7d _ hf)
  rw [List.filter_cons];cases hB:Q6 D n s.1 e.2 with
  | true =>
   have et:K4 D n a s e=(U4 D n s.1 a e.2,B40 s.2 e.1 e.2):=by unfold K4;rw [hB];rfl
   have hKe:(O9 D n a s (e::L)).2 e.1=A4 e.2:=by
    show (O9 D n a (K4 D n a s e) L).2 e.1=_;rw [et,A7e (λf hf h=>d1 f hf h.symm)];show (if e.1=e.1 then A4 e.2 else s.2 e.1)=A4 e.2;rw [C4 rfl]
   have hpe:p e=A5:=by
    cases h:p e with
    | true=>rfl
    | false=>rw [hp e (E7e ..) h] at hKe;cases hKe
   rw [hpe,C4 rfl];have hin:e.2∈Rf:=hR _ (by
    show e.2∈(O9 D n a (K4 D n a s e) L).1.row;rw [et];exact B63 (D9d w hB))
   have ne1:e.2≠1:=λh=>by
    unfold Q6 at hB;rw [R9 h] at hB;simp at hB
   have hkd:kdV E n e.2=kdV D n e.2:=(hk _ ne1).resolve_right λh=>h.1 hin
   have hBE:Q6 E n (s.1.wl x) e.2=A5:=by
    unfold Q6 at hB ⊢;rw [hkd];exact hB
   have eE:U4 E n (s.1.wl x) a e.2=(U4 D n s.1 a e.2).wl x:=by
    rw [<-E1M];unfold U4;have:Q6 D n (s.1.wl x) e.2=A5:=hB;rw [hBE,this]
   have etE:K4 E n a (s.1.wl x,s.2) e=((U4 D n s.1 a e.2).wl x,B40 s.2 e.1 e.2):=by
    unfold K4;show (bif Q6 E n (s.1.wl x) e.2 then (U4 E n (s.1.wl x) a e.2,B40 s.2 e.1 e.2) else _)=_;rw [hBE,eE];rfl
   show O9 E n a (K4 E n a (s.1.wl x,s.2) e) (L.filter p)=((O9 D n a (K4 D n a s e) L).1.wl x,(O9 D n a (K4 D n a s e) L).2);rw [etE];have:=C8j (x:=x) hk (L:=L) (s:=K4 D n a s e) (by rw [et];exact D0T w) hR d2 hp';rw [et] at this ⊢;exact this
  | false =>
   have et:K4 D n a s e=s:=by unfold K4;rw [hB];rfl
   have ih:=C8j (x:=x) hk (L:=L) (s:=K4 D n a s e) (by rw [et];exact w) hR d2 hp';rw [et] at ih;have ef:O9 D n a s (e::L)=O9 D n a s L:=by show O9 D n a (K4 D n a s e) L=_;rw [et]
   rw [ef];cases hpe:p e with
   | false=>rw [C5 (by decide)];exact ih
   | true =>
    rw [C4 rfl];have hBE:Q6 E n (s.1.wl x) e.2=A6:=by
     by_cases h1:e.2=1
     ·unfold Q6;rw [R9 h1];rfl
     ·rcases hk _ h1 with h | ⟨_,h⟩
      ·unfold Q6 at hB ⊢;rw [h];exact hB
      ·unfold Q6;rw [R9 h];simp
    have etE:K4 E n a (s.1.wl x,s.2) e=(s.1.wl x,s.2):=by
     unfold K4;show (bif Q6 E n (s.1.wl x) e.2 then _ else _)=_;rw [hBE];rfl
    show O9 E n a (K4 E n a (s.1.wl x,s.2) e) (L.filter p)=_;rw [etE];exact ih
end
def A9p(d:Int)(t:List Int):0<=O3 d t/\O3 d t<=5/\Fair (O3 d t) (bD d t):=by
 obtain ⟨e,u,h1,h2,h3,h4,h5,_⟩:=D0a d t;rw [A5n] at h1;obtain ⟨rfl,rfl⟩:=List.cons.inj h1;exact ⟨h4,h5,D6Y h2 (C3S h4 h5 h3)⟩
def C6V(h0:0<=d)(h5:d<=5)(hf:Fair d t):O3 d t=d/\bD d t=t:=by
 have:=(C2E.1 (E1l h0 h5 hf)).2.2;rw [A5n] at this;exact List.cons.inj this
def cZ(c:Cl):List (Int × List UInt8):=c.blocks.zip c.made
def vR(h:c.blocks.length=c.made.length):cZ (dO c no b)=cZ c++[(no,b)]:=by
 show (c.blocks++[no]).zip (c.made++[b])=_;rw [List.zip_append h];rfl
section
variable {D E:Dev} {n:Int} {c:Cl}
def D2S:∀ {L:List Int} {c:Cl} {t:List Int},V8 D n (c.wl x,t) L=((V8 D n (c,t) L).1.wl x,(V8 D n (c,t) L).2)
 | [],_,_=>rfl
 | no::L,c,t=>by
  show V8 D n (K0 D n (c.wl x) no,if K3 D n (c.wl x) no=0 then _ else _) L=_;rw [B5h,B5j];exact D2S
def C9R(h:l_ E=l_ D):∀ {L:List Int} {s:Cl × List Int},V8 E n s L=V8 D n s L
 | [],_=>rfl
 | no::L,s=>by
  show V8 E n (K0 E n s.1 no,if K3 E n s.1 no=0 then _ else _) L=_;rw [A9f h,A9g h];exact C9R h
def D2R(h:l_ E=l_ D):G6 E n (c.wl x) d t=((G6 D n c d t).1.wl x,(G6 D n c d t).2):=by
 unfold G6;rw [C9R h,D2S]
def A6K:Fair (O3 d t) (G6 D n c d t).2/\G6 D n c (O3 d t) (G6 D n c d t).2=G6 D n c d t/\O3 (O3 d t) (G6 D n c d t).2=O3 d t:=by
 obtain ⟨h0,h5,hf⟩:=A9p d t;obtain ⟨L,hL⟩:=xEq (J5 (bD d t) (C6 (O3 d t)));have nd:L.Nodup:=by rw [hL];exact B9u
 have nz:∀ x∈L,x≠0:=by rw [hL];exact λx=>oN
 have eB:G6 D n c d t=V8 D n (c,bD d t) L:=by rw [hL];rfl
 obtain ⟨a1,a2⟩:=A39 (D:=D) (n:=n) (c:=c) hf.len nd nz;have fT:=D73 hf a2;obtain ⟨s1,s2⟩:=C6V h0 h5 fT;have ek:J5 (V8 D n (c,bD d t) L).2 (C6 (O3 d t))=J1 D n c L:=by
  rw [C9Q a2,<-hL];have:L.filter (λx=>!(decide (x∈L) && !decide (x∈J1 D n c L)))=L.filter λx=>decide (x∈J1 D n c L):=List.filter_congr λx hx=>by simp [hx]
  rw [this];exact C6S keptL_sub nd
 rw [eB];refine ⟨fT,?_,s1⟩;unfold G6;rw [s1,s2,ek,A6L (λx hx=>nz x (keptL_sub.subset hx)) B4x,C11,<-a1]
def C13(h:(K5 D n c a).2=0):K5 D n c a=(c,0):=by
 unfold K5 at h ⊢;cases hb:(decide (kdV D n a=2)&&Q4 (blk D ((drV D n a).getD 0 0))) with
 | false=>rfl
 | true =>
  rw [hb] at h;have h:K3 D n c ((drV D n a).getD 0 0)=0:=h;show (K0 D n c _,K3 D n c _)=_;rw [h];cases hc:dM D n c ((drV D n a).getD 0 0) with
  | false=>rw [B0W hc]
  | true =>
   rw [yT hc] at h;rw [h] at hc;unfold dM at hc;rw [bR] at hc;cases hc
def A4c(h:(K5 D n c a).2≠0):kdV D n a=2/\Q4 (blk D ((drV D n a).getD 0 0))=A5/\(K5 D n c a).2=(drV D n a).getD 0 0/\dM D n c ((drV D n a).getD 0 0)=A5/\K5 D n c a=(K0 D n c ((drV D n a).getD 0 0),(drV D n a).getD 0 0):=by
 unfold K5 at h ⊢;cases hb:(decide (kdV D n a=2)&&Q4 (blk D ((drV D n a).getD 0 0))) with
 | false=>rw [hb] at h;exact absurd rfl h
 | true =>
  rw [hb] at h;have h:K3 D n c ((drV D n a).getD 0 0)≠0:=h;obtain ⟨h1,h2⟩:=A6R h;rw [E66] at hb;refine ⟨of_decide_eq_true hb.1,hb.2,h1,h2,?_⟩;show (K0 D n c _,K3 D n c _)=_;rw [h1]
def D27(hl:l_ E=l_ D)(hE:(kdV E n a=kdV D n a/\drV E n a=drV D n a)\/(kdV E n a=2/\drV E n a=(K5 D n c a).2::zI 6))
  (hG:∀ no,F6 (l_ D) n no=A5->Q4 (blk E no)=A5->Q4 (blk D no)=A5) (hP:(K5 D n c a).2≠0->Q4 (blk E (K5 D n c a).2)=A5) :
  K5 E n (c.wl x) a=((K5 D n c a).1.wl x,(K5 D n c a).2):=by
 by_cases h0:(K5 D n c a).2=0
 ·rw [C13 h0];unfold K5;show _=(c.wl x,0);cases hb:(decide (kdV E n a=2)&&Q4 (blk E ((drV E n a).getD 0 0))) with
  | false=>rfl
  | true =>
   show (K0 E n (c.wl x) _,K3 E n (c.wl x) _)=_;rw [A9f hl,A9g hl,B5h,B5j];cases hc:dM D n c ((drV E n a).getD 0 0) with
   | false=>rw [B0W hc,D6T hc]
   | true =>
    exfalso;have hd:F6 (l_ D) n ((drV E n a).getD 0 0)=A5:=by
     unfold dM at hc;rw [E66] at hc;exact hc.1
    rw [E66] at hb;have hg:=hG _ hd hb.2;have hk:=of_decide_eq_true hb.1;rcases hE with ⟨e1,e2⟩ | ⟨_,e2⟩
    ·rw [e1] at hk;rw [e2] at hg hc hd;have:(K5 D n c a).2=(drV D n a).getD 0 0:=by
      unfold K5;rw [R9 hk,hg];show K3 D n c _=_;exact yT hc
     rw [h0] at this;rw [<-this,bR] at hd;cases hd
    ·rw [e2,h0] at hd;rw [show ((0:Int)::zI 6).getD 0 0=0 from rfl,bR] at hd;cases hd
 ·obtain ⟨h1,h2,h3,h4,h5⟩:=A4c h0;have hg:=hP h0;have e1:kdV E n a=2/\(drV E n a).getD 0 0=(drV D n a).getD 0 0:=by
   rcases hE with ⟨e1,e2⟩ | ⟨e1,e2⟩
   ·rw [e1,e2];exact ⟨h1,rfl⟩
   ·rw [e2,<-h3];exact ⟨e1,rfl⟩
  rw [h3] at hg;rw [h5];unfold K5;rw [e1.1,e1.2,hg];show (K0 E n (c.wl x) _,K3 E n (c.wl x) _)=_;rw [A9f hl,A9g hl,B5h,B5j,yT h4]
def D26(h:K5 E n (c.wl x) a=((K5 D n c a).1.wl x,(K5 D n c a).2)):T3 E n (c.wl x) a=(T3 D n c a).wl x:=by
 unfold T3;rw [h];rfl
def D01{s0:List UInt8}:∀ {L:List Ent} {s:Cl × (List UInt8->Option Int)},(O9 D n a s L).2 s0=A4 v->s.2 s0=A4 v\/(s0,v)∈L
 | [],_,h=>.inl h
 | e::L,s,h=>by
  rcases D01 (L:=L) (s:=K4 D n a s e) h with h1 | h1
  ·unfold K4 at h1;cases hB:Q6 D n s.1 e.2 with
   | false=>rw [hB] at h1;exact .inl h1
   | true =>
    rw [hB] at h1;have h1:(if s0=e.1 then A4 e.2 else s.2 s0)=A4 v:=h1;by_cases he:s0=e.1
    ·rw [C4 he] at h1;refine .inr ?_;cases h1;rw [he];exact E7e ..
    ·rw [C5 he] at h1;exact .inl h1
  ·exact .inr (E7d _ h1)
def D0r{L:List Int}(h:e∈S7 D X L):e.2=B4k D X e.1:=by
 unfold S7 at h;obtain ⟨s,_,rfl⟩:=E7B.1 h;rfl
def B4D{L:List Int}:(S7 D X L).Pairwise λe f=>e.1≠f.1:=by
 unfold S7;rw [List.pairwise_map];refine List.Pairwise.imp ?_ (C0B (Q0 D X (yJ D L)));intro a b h e;have e:a=b:=e;subst e;rw [A85] at h;cases h
def C8g{a:Int}:∀ {L:List Ent} {s:Cl × (List UInt8->Option Int)},(O9 D n a s L).1.blocks=s.1.blocks/\(O9 D n a s L).1.made=s.1.made
 | [],_=>⟨rfl,rfl⟩
 | e::L,s=>by
  obtain ⟨h1,h2⟩:=C8g (a:=a) (L:=L) (s:=K4 D n a s e);have h3:(K4 D n a s e).1.blocks=s.1.blocks/\(K4 D n a s e).1.made=s.1.made:=by
   unfold K4 U4;cases Q6 D n s.1 e.2 with
   | false=>exact ⟨rfl,rfl⟩
   | true =>
    show (bif (s.1.par e.2).isSome then A2u s.1 e.2 else C4O (A2u s.1 e.2) a e.2).blocks=_/\(bif (s.1.par e.2).isSome then A2u s.1 e.2 else C4O (A2u s.1 e.2) a e.2).made=_;cases (s.1.par e.2).isSome<;>exact ⟨rfl,rfl⟩
  exact ⟨h1.trans h3.1,h2.trans h3.2⟩
def D0V{a:Int}:∀ {L:List Ent} {s:Cl × (List UInt8->Option Int)},(O9 D n a s L).1.ino=s.1.ino
 | [],_=>rfl
 | e::L,s=>by
  have h1:=D0V (a:=a) (L:=L) (s:=K4 D n a s e);have h3:(K4 D n a s e).1.ino=s.1.ino:=by
   unfold K4 U4;cases Q6 D n s.1 e.2 with
   | false=>rfl
   | true =>
    show (bif (s.1.par e.2).isSome then A2u s.1 e.2 else C4O (A2u s.1 e.2) a e.2).ino=_;cases (s.1.par e.2).isSome<;>rfl
  exact h1.trans h3
def C6u{X:List Int}{K:List UInt8->Option Int}:∀ {L:List Int} {c:Cl},c.blocks.length=c.made.length ->
  cZ (P7 D X K c L)=cZ c++L.map (λno=>(no,clB (blk D no) (V5 D X no K)))/\(P7 D X K c L).blocks.length=(P7 D X K c L).made.length
 | [],c,h=>⟨by simp [P7],h⟩
 | no::L,c,h=>by
  obtain ⟨y,hy⟩:=C0e (D:=D) (X:=X) (K:=K) (no:=no) (c:=c);have hm:(dP D X K c no).blocks.length=(dP D X K c no).made.length:=by
   rw [hy];show (c.blocks++[no]).length=(c.made++[_]).length;simp [h]
  obtain ⟨h1,h2⟩:=C6u (X:=X) (K:=K) (L:=L) hm;refine ⟨?_,h2⟩;have e:P7 D X K c (no::L)=P7 D X K (dP D X K c no) L:=rfl;have e2:cZ (dP D X K c no)=cZ c++[(no,clB (blk D no) (V5 D X no K))]:=by rw [hy];exact vR h
  rw [e,h1,e2,E7X,E7i];rfl
end
section
variable {D E:Dev} {n:Int} {c:Cl}
def A38(h:c.blocks.length=c.made.length):
  cZ (bJ D n c a no d t)=cZ c++(no,bif okX (O3 d t) (G6 D n c d t).2 then nJ (O3 d t) (G6 D n c d t).2 else zeros 256)::(J5 (G6 D n c d t).2 (C6 (O3 d t))).map (λno=>(no,clB (blk D no) (V5 D (O3 d t::(G6 D n c d t).2) no (bodyT D n c a d t).2))) /\
   (bJ D n c a no d t).blocks.length=(bJ D n c a no d t).made.length:=by
 have hs:=bO (D:=D) (n:=n) (L:=J5 (bD d t) (C6 (O3 d t))) (s:=(c,bD d t));have eb:V8 D n (c,bD d t) (J5 (bD d t) (C6 (O3 d t)))=G6 D n c d t:=rfl;rw [eb] at hs;have ht:=C8g (D:=D) (n:=n) (a:=a) (L:=S7 D (O3 d t::(G6 D n c d t).2) (J5 (G6 D n c d t).2 (C6 (O3 d t)))) (s:=((G6 D n c d t).1,λ_=>A7));have et:O9 D n a ((G6 D n c d t).1,λ_=>A7) (S7 D (O3 d t::(G6 D n c d t).2) (J5 (G6 D n c d t).2 (C6 (O3 d t))))=bodyT D n c a d t:=rfl;rw [et] at ht;have hbm:(bodyT D n c a d t).1.blocks.length=(bodyT D n c a d t).1.made.length:=by
  rw [ht.1,ht.2];show (G6 D n c d t).1.blocks.length=(G6 D n c d t).1.made.length;rw [hs.blocks,hs.made];exact h
 have hp:cZ (bodyT D n c a d t).1=cZ c:=by
  unfold cZ;rw [ht.1,ht.2];show (G6 D n c d t).1.blocks.zip (G6 D n c d t).1.made=_;rw [hs.blocks,hs.made]
 unfold bJ;obtain ⟨h1,h2⟩:=C6u (D:=D) (X:=O3 d t::(G6 D n c d t).2) (K:=(bodyT D n c a d t).2) (L:=J5 (G6 D n c d t).2 (C6 (O3 d t)))
  (c:=dO (bodyT D n c a d t).1 no (bif okX (O3 d t) (G6 D n c d t).2 then nJ (O3 d t) (G6 D n c d t).2 else zeros 256)) (by
   show ((bodyT D n c a d t).1.blocks++[no]).length=((bodyT D n c a d t).1.made++[_]).length;simp [hbm])
 refine ⟨?_,h2⟩;rw [h1,vR hbm,hp,E7i];rfl
def D9P{Rf:List Int}{dE:Int}{tE:List Int}(hl:l_ E=l_ D)(w:RowW n c)(hbm:c.blocks.length=c.made.length)
  (hd:(dE=d/\tE=t)\/(dE=O3 d t/\tE=(G6 D n c d t).2))
  (hk:∀ i,i≠1->kdV E n i=kdV D n i\/(i ∉ Rf/\kdV E n i=0)) (hR:∀ i∈(bJ D n c a no d t).row,i∈Rf)
  (hB:∀ q∈cZ (bJ D n c a no d t),blk E q.1=blk D q.1\/blk E q.1=q.2) :
  ∃ x',bJ E n (c.wl x) a no dE tE=(bJ D n c a no d t).wl x':=by
 have hb:G6 E n (c.wl x) dE tE=((G6 D n c d t).1.wl x,(G6 D n c d t).2)/\O3 dE tE=O3 d t:=by
  obtain ⟨h1,h2,h3⟩:=A6K (D:=D) (n:=n) (c:=c) (d:=d) (t:=t);rcases hd with ⟨rfl,rfl⟩ | ⟨rfl,rfl⟩
  ·exact ⟨D2R hl,rfl⟩
  ·rw [D2R hl,h2,h3];exact ⟨rfl,rfl⟩
 obtain ⟨hb1,hb2⟩:=hb;rw [(A38 hbm).1] at hB;obtain ⟨s1,hs1⟩:=xEq (G6 D n c d t);obtain ⟨d',hd'⟩:=xEq (O3 d t);obtain ⟨X,hX⟩:=xEq (d'::s1.2);obtain ⟨L,hL⟩:=xEq (J5 s1.2 (C6 d'));have hsb:=bO (D:=D) (n:=n) (L:=J5 (bD d t) (C6 (O3 d t))) (s:=(c,bD d t));have eb:V8 D n (c,bD d t) (J5 (bD d t) (C6 (O3 d t)))=s1:=by rw [hs1];rfl
 rw [eb] at hsb;have w1:RowW n s1.1:=w.same hsb.row hsb.par;have eT:bodyT D n c a d t=O9 D n a (s1.1,λ_=>A7) (S7 D X L):=by
  unfold bodyT;rw [<-hs1,<-hd',<-hL,<-hX]
 have eTE:bodyT E n (c.wl x) a dE tE=O9 E n a (s1.1.wl x,λ_=>A7) (S7 E X L):=by
  unfold bodyT;rw [hb1,hb2,<-hs1,<-hd'];show O9 E n a (s1.1.wl x,λ_=>A7) (S7 E (d'::s1.2) (J5 s1.2 (C6 d')))=_;rw [<-hL,<-hX]
 have eC:bJ D n c a no d t=P7 D X (bodyT D n c a d t).2 (dO (bodyT D n c a d t).1 no (bif okX d' s1.2 then nJ d' s1.2 else zeros 256)) L:=by
  unfold bJ;rw [<-hs1,<-hd',<-hL,<-hX]
 have eCE:bJ E n (c.wl x) a no dE tE=P7 E X (bodyT E n (c.wl x) a dE tE).2 (dO (bodyT E n (c.wl x) a dE tE).1 no (bif okX d' s1.2 then nJ d' s1.2 else zeros 256)) L:=by
  unfold bJ;rw [hb1,hb2,<-hs1,<-hd'];show P7 E (d'::s1.2) _ (dO _ no (bif okX d' s1.2 then nJ d' s1.2 else zeros 256)) (J5 s1.2 (C6 d'))=_;rw [<-hL,<-hX]
 rw [eC] at hR;rw [<-hs1,<-hd',<-hL,<-hX] at hB;obtain ⟨T,hT⟩:=xEq (bodyT D n c a d t);rw [<-hT] at hB eC eT hR;have bk:Bk D E X T.2 L:=by
  refine ⟨?_,λk hk=>?_,λs v hv=>?_⟩
  ·rw [hL];exact λk=>oN
  ·exact hB (k,clB (blk D k) (V5 D X k T.2)) (E7C _ (E7d _ (E7B.2 ⟨k,hk,rfl⟩)))
  ·rw [eT] at hv;rcases D01 hv with h1 | h1
   ·cases h1
   ·exact D0r h1
 have E46:bodyT E n (c.wl x) a dE tE=(T.1.wl x,T.2):=by
  rw [eTE,bk.list,eT];refine C8j (s:=(s1.1,λ_=>A7)) hk w1 (λi hi=>hR i ?_) B4D λe he hp=>?_
  ·rw [oU.1];show i∈T.1.row;rw [eT];exact hi
  ·rw [<-eT];have he2:R3 X e.1∈L:=by
    unfold S7 at he;obtain ⟨s,hs,rfl⟩:=E7B.1 he;exact ((pG bk.nz).1 ((dA _ _).1 hs)).1
   rcases bk.home he2 with h1 | h1
   ·exfalso;unfold S7 at he;obtain ⟨s,hs,rfl⟩:=E7B.1 he;have h3:(hmS D X s).isSome=A5:=((pG bk.nz).1 ((dA _ _).1 hs)).2;have h1:hmS E X s=hmS D X s:=h1;have hp:(hmS E X s).isSome=A6:=hp;rw [h1,h3] at hp;cases hp
   ·exact h1.2
 rw [eCE,E46,eC];exact Bk.clears bk (c:=dO T.1 no (bif okX d' s1.2 then nJ d' s1.2 else zeros 256)) (x:=x)
end
section
variable {D E:Dev} {n:Int} {c:Cl}
def A4b(h:(K5 D n c a).2=0):mD D n c a=T3 D n c a:=by unfold mD;rw [C4 h]
def vJ(h:(K5 D n c a).2≠0):mD D n c a=bJ D n (T3 D n c a) a (K5 D n c a).2 (getD (blk D (K5 D n c a).2)) (O8 (blk D (K5 D n c a).2) 32):=by
 obtain ⟨_,_,h3,_⟩:=A4c h;unfold mD;rw [C5 h,h3]
def E2q{Rf:List Int}(hl:l_ E=l_ D)(w:RowW n c)(hbm:c.blocks.length=c.made.length)
  (hE:(kdV E n a=kdV D n a/\drV E n a=drV D n a)\/(kdV E n a=2/\drV E n a=(K5 D n c a).2::zI 6))
  (hG:∀ no,F6 (l_ D) n no=A5->Q4 (blk E no)=A5->Q4 (blk D no)=A5)
  (hk:∀ i,i≠1->kdV E n i=kdV D n i\/(i ∉ Rf/\kdV E n i=0)) (hR:∀ i∈(mD D n c a).row,i∈Rf)
  (hB:∀ q∈cZ (mD D n c a),blk E q.1=blk D q.1\/blk E q.1=q.2):∃ x',mD E n (c.wl x) a=(mD D n c a).wl x':=by
 have hs:=qM (D:=D) (n:=n) (ino:=a) (c:=c);have hib:(T3 D n c a).blocks.length=(T3 D n c a).made.length:=by
  show (K5 D n c a).1.blocks.length=(K5 D n c a).1.made.length;rw [hs.blocks,hs.made];exact hbm
 have wI:RowW n (T3 D n c a):=w.same hs.row hs.par;by_cases h0:(K5 D n c a).2=0
 ·have hp:=D27 (c:=c) (x:=x) hl hE hG (λh=>absurd h0 h);refine ⟨x,?_⟩;rw [A4b h0,A4b (by rw [hp];exact h0),D26 hp]
 ·obtain ⟨_,h2,h3,_⟩:=A4c h0;rw [<-h3] at h2;rw [vJ h0] at hB hR ⊢;obtain ⟨f0,f5,_⟩:=A9p (getD (blk D (K5 D n c a).2)) (O8 (blk D (K5 D n c a).2) 32);obtain ⟨fT,_,_⟩:=A6K (D:=D) (n:=n) (c:=T3 D n c a) (d:=getD (blk D (K5 D n c a).2)) (t:=O8 (blk D (K5 D n c a).2) 32);obtain ⟨g1,g2⟩:=C65 f0 f5 fT;have X5:=hB (_,_) (by rw [(A38 hib).1];exact E7C _ (E7e ..));rw [g1] at X5;have X5:blk E (K5 D n c a).2=blk D (K5 D n c a).2\/blk E (K5 D n c a).2=nJ (O3 (getD (blk D (K5 D n c a).2)) (O8 (blk D (K5 D n c a).2) 32)) (G6 D n (T3 D n c a) (getD (blk D (K5 D n c a).2)) (O8 (blk D (K5 D n c a).2) 32)).2:=X5;have hp:=D27 (c:=c) (x:=x) hl hE hG (λ_=>by
   rcases X5 with h | h
   ·rw [h];exact h2
   ·rw [h];exact g2)
  have hpE:(K5 E n (c.wl x) a).2=(K5 D n c a).2:=by rw [hp]
  rw [vJ (by rw [hpE];exact h0),hpE,D26 hp];refine D9P hl wI hib ?_ hk hR hB;rcases X5 with h | h
  ·rw [h];exact .inl ⟨rfl,rfl⟩
  ·rw [h];exact .inr ⟨B9M f0 f5,B9N fT.len (B9H fT)⟩
def E0i(hD:okD D)(hOE:okD E)(hl:l_ E=l_ D)(hbm:c.blocks.length=c.made.length)
  (hS:szV E n a=szV D n a) (hE:drV E n a=drV D n a\/drV E n a=(H7 D n c a).2)
  (hB:∀ q∈cZ (U0 D n c a),blk E q.1=blk D q.1\/blk E q.1=q.2):U0 E n (c.wl x) a=(U0 D n c a).wl x:=by
 have e1:H7 E n (c.wl x) a=((H7 D n c a).1.wl x,(H7 D n c a).2):=by
  rw [A00,A00,hS,D8G hl,E04];rcases hE with h | h
  ·rw [h]
  ·rw [h,A00,D34]
 have e2:L5 E n (c.wl x) a=(L5 D n c a).wl x:=by
  unfold L5;rw [e1,hS];rfl
 have hs:=jZ (D:=D) (n:=n) (ino:=a) (c:=c);by_cases h0:(H7 D n c a).2.getD 6 0=0
 ·unfold U0;rw [C4 h0,e1,C4 h0,e2]
 ·obtain ⟨s,hs'⟩:=xEq (K7 D n (T2 (szV D n a)) 128 0 (L5 D n c a,blk D ((H7 D n c a).2.getD 6 0)));have eC:U0 D n c a=dO s.1 ((H7 D n c a).2.getD 6 0) s.2:=by
   unfold U0;rw [C5 h0,<-hs']
  have eE:U0 E n (c.wl x) a=dO (K7 E n (T2 (szV D n a)) 128 0 ((L5 D n c a).wl x,blk E ((H7 D n c a).2.getD 6 0))).1 ((H7 D n c a).2.getD 6 0) (K7 E n (T2 (szV D n a)) 128 0 ((L5 D n c a).wl x,blk E ((H7 D n c a).2.getD 6 0))).2:=by
   unfold U0;rw [e1,C5 h0,e2,hS]
  have hf:=gM (D:=D) (n:=n) (many:=T2 (szV D n a)) (e:=128) (k:=0) (s:=(L5 D n c a,blk D ((H7 D n c a).2.getD 6 0)));rw [<-hs'] at hf;have hfb:s.1.blocks.length=s.1.made.length:=by
   rw [hf.blocks,hf.made];show (H7 D n c a).1.blocks.length=(H7 D n c a).1.made.length;rw [hs.1.blocks,hs.1.made];exact hbm
  have key:s.2.length=256->K7 D n (T2 (szV D n a)) 128 0 (L5 D n c a,s.2)=(s.1,s.2):=by
   intro hb;have:=C3z (D:=D) (n:=n) (many:=T2 (szV D n a)) (e:=128) (k:=0) (c:=L5 D n c a) (b:=blk D ((H7 D n c a).2.getD 6 0)) (b':=s.2) (J8 hD) hb (by omega) λj _ _=>by rw [<-hs']
   rw [this,<-hs']
  have X5:=hB ((H7 D n c a).2.getD 6 0,s.2) (by rw [eC,vR hfb];exact E7C _ (E7K.2 rfl));have X5:blk E ((H7 D n c a).2.getD 6 0)=blk D ((H7 D n c a).2.getD 6 0)\/blk E ((H7 D n c a).2.getD 6 0)=s.2:=X5;rw [eE,eC,C98 hl,D3l];rcases X5 with h | h
  ·rw [h,<-hs'];rfl
  ·rw [h,key (by rw [<-h];exact J8 hOE)];rfl
def D0Z:∀ {L:List Ent} {s:Cl × (List UInt8->Option Int)},s.1.row <+: (O9 D n a s L).1.row
 | [],s=>E77 _
 | e::L,s=>by
  have h3:s.1.row <+: (K4 D n a s e).1.row:=by
   unfold K4 U4;cases Q6 D n s.1 e.2 with
   | false=>exact E77 _
   | true =>
    show s.1.row <+: (bif (s.1.par e.2).isSome then A2u s.1 e.2 else C4O (A2u s.1 e.2) a e.2).row;cases (s.1.par e.2).isSome with
    | true=>exact E77 _
    | false=>exact List.prefix_append _ _
  exact h3.trans (D0Z (L:=L) (s:=K4 D n a s e))
structure Gro(c c':Cl)(a:Int):Prop where
 row:c.row <+: c'.row
 bm:c'.blocks.length=c'.made.length
 put:∀ q∈cZ c,q∈cZ c'
 il:c'.ino.length=c.ino.length
 ino:∀ j:Nat,j≠a.toNat->c'.ino.getD j []=c.ino.getD j []
def getD_set_ne{l:List (List Int)}{x:List Int}(h:j≠i):(l.set i x).getD j []=l.getD j []:=by
 rw [E67,E8c (by omega),<-E67]
def A6V{l:List (List Int)}{x:List Int}(h:i<l_ l):(l.set i x).getD i []=x:=by
 rw [E67,E76,C4 rfl,C4 h];rfl
def D8x{c:Cl}:(dO c no b).ino=c.ino:=rfl
def C1S:(bJ D n c a no d t).ino=c.ino:=by
 have hs:=bO (D:=D) (n:=n) (L:=J5 (bD d t) (C6 (O3 d t))) (s:=(c,bD d t));have eb:V8 D n (c,bD d t) (J5 (bD d t) (C6 (O3 d t)))=G6 D n c d t:=rfl;rw [eb] at hs;unfold bJ;rw [C3t,D8x];have:=D0V (D:=D) (n:=n) (a:=a) (L:=S7 D (O3 d t::(G6 D n c d t).2) (J5 (G6 D n c d t).2 (C6 (O3 d t)))) (s:=((G6 D n c d t).1,λ_=>A7));have et:O9 D n a ((G6 D n c d t).1,λ_=>A7) (S7 D (O3 d t::(G6 D n c d t).2) (J5 (G6 D n c d t).2 (C6 (O3 d t))))=bodyT D n c a d t:=rfl;rw [et] at this;rw [this];exact hs.ino
def D7P:c.row <+: (bJ D n c a no d t).row:=by
 have hs:=bO (D:=D) (n:=n) (L:=J5 (bD d t) (C6 (O3 d t))) (s:=(c,bD d t));have eb:V8 D n (c,bD d t) (J5 (bD d t) (C6 (O3 d t)))=G6 D n c d t:=rfl;rw [eb] at hs;unfold bJ;rw [oU.1,C2m];have:=D0Z (D:=D) (n:=n) (a:=a) (L:=S7 D (O3 d t::(G6 D n c d t).2) (J5 (G6 D n c d t).2 (C6 (O3 d t)))) (s:=((G6 D n c d t).1,λ_=>A7));have et:O9 D n a ((G6 D n c d t).1,λ_=>A7) (S7 D (O3 d t::(G6 D n c d t).2) (J5 (G6 D n c d t).2 (C6 (O3 d t))))=bodyT D n c a d t:=rfl;rw [et] at this;have e:(G6 D n c d t).1.row=c.row:=hs.row;rw [<-e];exact this
def D96(hbm:c.blocks.length=c.made.length):Gro c (T3 D n c a) a/\(a.toNat<c.ino.length->(T3 D n c a).ino.getD a.toNat []=2::1::0::(c.par a).getD 0::(K5 D n c a).2::zI 6):=by
 have hs:=qM (D:=D) (n:=n) (ino:=a) (c:=c);refine ⟨⟨?_,?_,?_,?_,λj hj=>?_⟩,λh=>?_⟩
 ·show c.row <+: (K5 D n c a).1.row;rw [hs.row];exact E77 _
 ·show (K5 D n c a).1.blocks.length=(K5 D n c a).1.made.length;rw [hs.blocks,hs.made];exact hbm
 ·show ∀ q∈cZ c,q∈(K5 D n c a).1.blocks.zip (K5 D n c a).1.made;rw [hs.blocks,hs.made];exact λq h=>h
 ·show ((K5 D n c a).1.ino.set _ _).length=_;rw [E7R,hs.ino]
 ·show ((K5 D n c a).1.ino.set _ _).getD j []=_;rw [getD_set_ne hj,hs.ino]
 ·show ((K5 D n c a).1.ino.set _ _).getD a.toNat []=_;rw [A6V (by rw [hs.ino];exact h)]
def A5h(hbm:c.blocks.length=c.made.length):Gro c (mD D n c a) a/\(a.toNat<c.ino.length->(mD D n c a).ino.getD a.toNat []=2::1::0::(c.par a).getD 0::(K5 D n c a).2::zI 6):=by
 obtain ⟨g,hy⟩:=D96 (D:=D) (n:=n) (a:=a) hbm;by_cases h0:(K5 D n c a).2=0
 ·rw [A4b h0];exact ⟨g,hy⟩
 ·rw [vJ h0];obtain ⟨p1,p2⟩:=A38 (D:=D) (n:=n) (a:=a) (no:=(K5 D n c a).2) (d:=getD (blk D (K5 D n c a).2)) (t:=O8 (blk D (K5 D n c a).2) 32) g.bm;refine ⟨⟨g.row.trans D7P,p2,λq hq=>?_,by rw [C1S];exact g.il,λj hj=>by rw [C1S];exact g.ino j hj⟩,λh=>by rw [C1S];exact hy h⟩;rw [p1];exact E7I _ (g.put q hq)
def A4e(hbm:c.blocks.length=c.made.length):Gro c (U0 D n c a) a/\(a.toNat<c.ino.length->(U0 D n c a).ino.getD a.toNat []=1::1::szV D n a::0::(H7 D n c a).2):=by
 have hs:=jZ (D:=D) (n:=n) (ino:=a) (c:=c);have g:Gro c (L5 D n c a) a/\(a.toNat<c.ino.length->(L5 D n c a).ino.getD a.toNat []=1::1::szV D n a::0::(H7 D n c a).2):=by
  refine ⟨⟨?_,?_,?_,?_,λj hj=>?_⟩,λh=>?_⟩
  ·show c.row <+: (H7 D n c a).1.row;rw [hs.1.row];exact E77 _
  ·show (H7 D n c a).1.blocks.length=(H7 D n c a).1.made.length;rw [hs.1.blocks,hs.1.made];exact hbm
  ·show ∀ q∈cZ c,q∈(H7 D n c a).1.blocks.zip (H7 D n c a).1.made;rw [hs.1.blocks,hs.1.made];exact λq h=>h
  ·show ((H7 D n c a).1.ino.set _ _).length=_;rw [E7R,hs.1.ino]
  ·show ((H7 D n c a).1.ino.set _ _).getD j []=_;rw [getD_set_ne hj,hs.1.ino]
  ·show ((H7 D n c a).1.ino.set _ _).getD a.toNat []=_;rw [A6V (by rw [hs.1.ino];exact h)]
 by_cases h0:(H7 D n c a).2.getD 6 0=0
 ·unfold U0;rw [C4 h0];exact g
 ·have hf:=gM (D:=D) (n:=n) (many:=T2 (szV D n a)) (e:=128) (k:=0) (s:=(L5 D n c a,blk D ((H7 D n c a).2.getD 6 0)));unfold U0;rw [C5 h0];obtain ⟨g,hy⟩:=g;have hfb:(K7 D n (T2 (szV D n a)) 128 0 (L5 D n c a,blk D ((H7 D n c a).2.getD 6 0))).1.blocks.length=(K7 D n (T2 (szV D n a)) 128 0 (L5 D n c a,blk D ((H7 D n c a).2.getD 6 0))).1.made.length:=by
   rw [hf.blocks,hf.made];exact g.bm
  dsimp only at hf;generalize K7 D n (T2 (szV D n a)) 128 0 (L5 D n c a,blk D ((H7 D n c a).2.getD 6 0))=s at hf hfb ⊢;refine ⟨⟨?_,?_,λq hq=>?_,?_,λj hj=>?_⟩,λh=>?_⟩
  ·show c.row <+: s.1.row;rw [hf.row];exact g.row
  ·show (s.1.blocks++[_]).length=(s.1.made++[_]).length;rw [E7c,E7c,hfb];rfl
  ·rw [vR hfb];refine E7I _ ?_;show q∈s.1.blocks.zip s.1.made;rw [hf.blocks,hf.made];exact g.put q hq
  ·show s.1.ino.length=_;rw [hf.ino];exact g.il
  ·show s.1.ino.getD j []=_;rw [hf.ino];exact g.ino j hj
  ·show s.1.ino.getD a.toNat []=_;rw [hf.ino];exact hy h
def zH(hbm:c.blocks.length=c.made.length):Gro c (S4 D n c a) a:=by
 unfold S4;split
 ·exact (A4e hbm).1
 ·exact (A5h hbm).1
end
def E5T(D E:Dev)(n a:Int)(y:List Int):Prop:=(kdV E n a=kdV D n a/\szV E n a=szV D n a/\drV E n a=drV D n a)\/(kdV E n a=y.getD 0 0/\szV E n a=y.getD 2 0/\drV E n a=y.drop 4)
structure Half(D E:Dev)(n:Int)(F:Cl):Prop where
 okD:okD D
 okE:Go.Proofs.YtbipebfdappanaaGreat.okD E
 len:l_ E=(l_ D)
 ino:∀ a∈F.row,E5T D E n a (F.ino.getD a.toNat [])
 good:∀ no,F6 (l_ D) n no=A5->Q4 (blk E no)=A5->Q4 (blk D no)=A5
 kd:∀ i,i≠1->kdV E n i=kdV D n i\/(i ∉ F.row/\kdV E n i=0)
 put:∀ q∈cZ F,blk E q.1=blk D q.1\/blk E q.1=q.2
section
variable {D E:Dev} {n:Int} {F:Cl}
def E2Q(H:Half D E n F)(w:RowW n c)(hbm:c.blocks.length=c.made.length)(ha:a∈F.row)(hal:a.toNat<c.ino.length)
  (hy:F.ino.getD a.toNat []=(S4 D n c a).ino.getD a.toNat []) (hR:∀ i∈(S4 D n c a).row,i∈F.row) (hB:∀ q∈cZ (S4 D n c a),q∈cZ F) :
  ∃ x',S4 E n (c.wl x) a=(S4 D n c a).wl x':=by
 have hI:=H.ino a ha;rw [hy] at hI;by_cases hc:a≠1/\kdV D n a=1
 ·have e:S4 D n c a=U0 D n c a:=by unfold S4;rw [C4 hc]
  rw [e] at hI hB ⊢;have hyy:=(A4e (D:=D) (n:=n) (a:=a) hbm).2 hal;rw [hyy] at hI;have hcE:kdV E n a=1:=by
   rcases hI with ⟨h,_⟩ | ⟨h,_⟩
   ·rw [h];exact hc.2
   ·rw [h];rfl
  refine ⟨x,?_⟩;unfold S4;rw [C4 ⟨hc.1,hcE⟩];refine E0i H.okD H.okE H.len hbm ?_ ?_ λq hq=>H.put q (hB q hq)
  ·rcases hI with ⟨_,h,_⟩ | ⟨_,h,_⟩
   ·exact h
   ·rw [h];rfl
  ·rcases hI with ⟨_,_,h⟩ | ⟨_,_,h⟩
   ·exact .inl h
   ·exact .inr (by rw [h];rfl)
 ·have e:S4 D n c a=mD D n c a:=by unfold S4;rw [C5 hc]
  rw [e] at hI hB hR ⊢;have hyy:=(A5h (D:=D) (n:=n) (a:=a) hbm).2 hal;rw [hyy] at hI;have hcE:¬ (a≠1/\kdV E n a=1):=by
   rintro ⟨h1,h2⟩;rcases hI with ⟨h,_⟩ | ⟨h,_⟩
   ·rw [h] at h2;exact hc ⟨h1,h2⟩
   ·rw [h] at h2;exact absurd (show (2:Int)=1 from h2) (by decide)
  have eE:S4 E n (c.wl x) a=mD E n (c.wl x) a:=by unfold S4;rw [C5 hcE]
  rw [eE];refine E2q H.len w hbm ?_ H.good H.kd hR λq hq=>H.put q (hB q hq)
  rcases hI with ⟨h1,_,h3⟩ | ⟨h1,_,h3⟩
  ·exact .inl ⟨h1,h3⟩
  ·exact .inr ⟨h1,h3⟩
def B5x:∀ {e i:Nat} {c:Cl},c.blocks.length=c.made.length->c.row <+: (ofR D n e i c).row/\(ofR D n e i c).blocks.length=(ofR D n e i c).made.length/\(∀ q∈cZ c,q∈cZ (ofR D n e i c))/\(ofR D n e i c).ino.length=c.ino.length
 | 0,_,c,h=>⟨E77 _,h,λ_ h=>h,rfl⟩
 | e+1,i,c,h=>by
  unfold ofR;cases hc:c.row[i]? with
  | none=>exact ⟨E77 _,h,λ_ h=>h,rfl⟩
  | some a =>
   have g:=zH (D:=D) (n:=n) (a:=a) h;obtain ⟨h1,h2,h3,h4⟩:=B5x (e:=e) (i:=i+1) g.bm;exact ⟨g.row.trans h1,h2,λq hq=>h3 q (g.put q hq),h4.trans g.il⟩
def vQ{l m:List Int}(h:l <+: m)(hi:l[i]?=A4 a):m[i]?=A4 a:=by
 obtain ⟨t,rfl⟩:=h;rw [E7T (E7b.1 hi).1];exact hi
def A67{a:Int}(ha:1<=a):∀ {e i:Nat} {c:Cl},RowW n c->c.blocks.length=c.made.length->(∀ j,i<=j->(ofR D n e i c).row[j]?≠A4 a)->(ofR D n e i c).ino.getD a.toNat []=c.ino.getD a.toNat []
 | 0,_,_,_,_,_=>rfl
 | e+1,i,c,w,h,hn=>by
  unfold ofR at hn ⊢;cases hc:c.row[i]? with
  | none=>rfl
  | some b =>
   rw [hc] at hn;have g:=zH (D:=D) (n:=n) (a:=b) h;have hg:=(B5x (D:=D) (n:=n) (e:=e) (i:=i+1) g.bm).1;have hb:=vQ (g.row.trans hg) hc;have Z2:b≠a:=λe=>hn i (E69 _) (by rw [<-e];exact hb)
   have hb1:=(w.rg b (E7p hc)).1;have ih:=A67 ha (e:=e) (i:=i+1) (bY w) g.bm λj hj=>hn j (by omega)
   exact ih.trans (g.ino _ (by omega))
def A2y:∀ {e i:Nat} {c:Cl},RowW n c->RowW n (ofR D n e i c)
 | 0,_,_,h=>h
 | e+1,i,c,h=>by
  unfold ofR;cases hc:c.row[i]? with
  | none=>exact h
  | some a=>exact A2y (bY h)
def E05:∀ {e i:Nat} {c:Cl} {x:Int},RowW n c->c.blocks.length=c.made.length->c.ino.length=(n+1).toNat->Half D E n (ofR D n e i c)->∃ x',ofR E n e i (c.wl x)=(ofR D n e i c).wl x'
 | 0,_,c,x,_,_,_,_=>⟨x,rfl⟩
 | e+1,i,c,x,w,h,K6,H=>by
  unfold ofR at H ⊢;show ∃ x',(match c.row[i]? with
   | none=>c.wl x
   | some a=>ofR E n e (i+1) (S4 E n (c.wl x) a))=_
  cases hc:c.row[i]? with
  | none=>exact ⟨x,rfl⟩
  | some a =>
   rw [hc] at H;have H:Half D E n (ofR D n e (i+1) (S4 D n c a)):=H;have g:=zH (D:=D) (n:=n) (a:=a) h;obtain ⟨h1,h2,h3,h4⟩:=B5x (D:=D) (n:=n) (e:=e) (i:=i+1) g.bm;have hrg:=w.rg a (E7p hc);have hat:=vQ (g.row.trans h1) hc;have wF:=A2y (D:=D) (n:=n) (e:=e) (i:=i+1) (bY (D:=D) (ino:=a) w);have D3x:=A67 (D:=D) (n:=n) hrg.1 (e:=e) (i:=i+1) (bY (D:=D) (ino:=a) w) g.bm λj hj he=>by
    have:=(List.getElem?_inj (E7b.1 hat).1 wF.nd).1 (hat.trans he.symm);omega
   obtain ⟨x1,e1⟩:=E2Q (x:=x) H w h (E7p hat) (by omega) D3x (λi hi=>h1.subset hi) h3;show ∃ x',ofR E n e (i+1) (S4 E n (c.wl x) a)=(ofR D n e (i+1) (S4 D n c a)).wl x';rw [e1];exact E05 (bY w) g.bm (g.il.trans K6) H
end
def rF:List Int->List (List UInt8)->Int->List UInt8->List UInt8
 | no::l,b::m,x,a=>rF l m x (if no=x then b else a)
 | _,_,_,a=>a
def D4S(ino:List (List Int))(b:Nat):Nat->Nat->List UInt8->List UInt8
 | 0,_,a=>a
 | e+1,k,a=>D4S ino b e (k+1) (H5 a (32*k) (A8h (ino.getD (b+k) [])))
def C7Y(D:Dev)(n:Int)(c:Cl)(i:Nat):List UInt8 :=
 if B1J (l_ D) n i=3 then D4S c.ino (8*(i-2)+1) 8 0 (zeros 256) else rF c.blocks c.made i (D.getD i [])
def C0u(hi:i<l_ O):(A3W O no b)[i]?=if no=i then A4 b else O[i]? := by
 unfold A3W;by_cases h:0<=no/\no<(l_ O)
 ·rw [C4 h,E76];by_cases e:no=i
  ·rw [C4 (by omega),C4 (by omega),C4 e]
  ·rw [C5 (by omega),C5 e]
 ·rw [C5 h,C5 (by omega)]
def D0C{i:Nat}:∀ {l:List Int} {m:List (List UInt8)} {O:Dev},i<l_ O->(C3P O l m)[i]?=(O[i]?).map (rF l m i)
 | [],_,O,hi=>by rw [C2A,E64 hi];rfl
 | _::_,[],O,hi=>by rw [E64 hi];exact E64 hi
 | no::l,b::m,O,hi=>by
  have ih:=D0C (i:=i) (l:=l) (m:=m) (O:=A3W O no b) (by rw [fX];exact hi);rw [C0u hi] at ih;refine ih.trans ?_;rw [E64 hi];split<;>rename_i e
  ·show A4 _=A4 (rF l m i (if no=i then b else O[i]));rw [C4 e]
  ·show A4 _=A4 (rF l m i (if no=i then b else O[i]));rw [C5 e]
def C8C{i:Nat}:∀ {e:Nat} {no:Int} {O:Dev},i<l_ O->(B8l O no e)[i]?=if no<=i/\i<no+e then A4 (zeros 256) else O[i]?
 | 0,no,O,hi=>by rw [C5 (by omega)];rfl
 | e+1,no,O,hi=>by
  have ih:=C8C (i:=i) (e:=e) (no:=no+1) (O:=A3W O no (zeros 256)) (by rw [fX];exact hi);rw [C0u hi] at ih;refine ih.trans ?_;by_cases h1:no=i
  ·rw [C5 (by omega),C4 h1,C4 (by omega)]
  ·rw [C5 h1];by_cases h2:no+1<=i/\i<no+1+e
   ·rw [C4 h2,C4 (by omega)]
   ·rw [C5 h2,C5 (by omega)]
def stI(b n:Int)(j:Nat)(i:Nat)(x:List Int)(a:List UInt8):List UInt8 :=
 if P9 b n i=A5/\Z4 b n i=j then H5 a (32*(gQ b n i).toNat) (A8h x) else a
def foldI(b n:Int)(j:Nat):Nat->List (List Int)->List UInt8->List UInt8
 | _,[],a=>a
 | i,x::l,a=>foldI b n j (i+1) l (stI b n j i x a)
def D0k{n:Int}{j:Nat}(hn:n<=128):∀ {l:List (List Int)} {i:Nat} {O:Dev},okD O->(∀ x∈l,x.length=11)->j<l_ O->(B93 n O i l)[j]?=(O[j]?).map (foldI (l_ O) n j i l)
 | [],_,O,h,_,hj=>by rw [E64 hj];exact E64 hj
 | x::l,i,O,h,hx,hj=>by
  obtain ⟨h1,h2⟩:=D1F (n:=n) (i:=i) h (hx x (E7e ..)) hn;have ih:=D0k (n:=n) (j:=j) hn (l:=l) (i:=i+1) (O:=C2j n O i x) h1 (λy hy=>hx y (E7d _ hy)) (by rw [h2];exact hj);rw [h2] at ih;refine ih.trans ?_;have e:(C2j n O i x)[j]?=A4 (stI (l_ O) n j i x O[j]):=by
   unfold C2j stI;cases hc:P9 (l_ O) n i with
   | false=>rw [C5 (by decide),C5 (λe=>by cases e.1)];exact E64 hj
   | true =>
    rw [C4 rfl,C0u hj];by_cases e:Z4 (l_ O) n i=j
    ·rw [C4 e,C4 ⟨rfl,e⟩,e,A48 hj]
    ·rw [C5 e,C5 (λq=>e q.2)];exact E64 hj
  rw [e,E64 hj];rfl
section
variable {b n:Int} {j:Nat}
def B04:∀ {l m:List (List Int)} {i:Nat} {a:List UInt8},foldI b n j i (l++m) a=foldI b n j (i+l_ l) m (foldI b n j i l a)
 | [],m,i,a=>rfl
 | x::l,m,i,a=>by
  show foldI b n j (i+1) (l++m) _=foldI b n j (i+(l_ l+1)) m (foldI b n j (i+1) l _);rw [B04,show i+1+l_ l=i+(l_ l+1) by omega]
def B05:∀ {l:List (List Int)} {i:Nat} {a:List UInt8},(∀ k:Nat,i<=k->k<i+l_ l->¬ (P9 b n k=A5/\Z4 b n k=j))->foldI b n j i l a=a
 | [],i,a,_=>rfl
 | x::l,i,a,h=>by
  have e:stI b n j i x a=a:=by unfold stI;rw [C5 (h i (E69 _) (by simp))]
  show foldI b n j (i+1) l (stI b n j i x a)=a;rw [e];exact B05 λk h1 h2=>h k (by omega) (by simp at h2 ⊢;omega)
def D0b(hm:O6 b n=A5)(hj:2<=j)(hn:8*(j-2)+8<=n.toNat){ino:List (List Int)} :
  ∀ {e k:Nat} {a:List UInt8},k+e=8->8*(j-2)+9<=ino.length->foldI b n j (8*(j-2)+1+k) ((ino.drop (8*(j-2)+1+k)).take e) a=D4S ino (8*(j-2)+1) e k a
 | 0,k,a,_,_=>by rw [E75];rfl
 | e+1,k,a,hk,hl=>by
  have X4:8*(j-2)+1+k<ino.length:=by omega
  rw [E7g X4,List.take_succ_cons];obtain ⟨_,_,n8,_⟩:=G8.1 hm;have hi:P9 b n ((8*(j-2)+1+k:Nat):Int)=A5:=N1.2 ⟨hm,by omega,by omega⟩;have hw:Z4 b n ((8*(j-2)+1+k:Nat):Int)=j:=by unfold Z4;rw [hi];simp only [R8];omega
  have hk2:(gQ b n ((8*(j-2)+1+k:Nat):Int)).toNat=k:=by unfold gQ;rw [hi];simp only [R8];omega
  have es:stI b n j (8*(j-2)+1+k) ino[8*(j-2)+1+k] a=H5 a (32*k) (A8h (ino.getD (8*(j-2)+1+k) [])):=by
   unfold stI;rw [C4 ⟨hi,hw⟩,hk2,E67,E64 X4];rfl
  show foldI b n j (8*(j-2)+1+k+1) _ (stI b n j _ _ a)=D4S ino (8*(j-2)+1) e (k+1) _;rw [es];exact D0b hm hj hn (k:=k+1) (by omega) hl
end
def E4U{l:List (List Int)}:l=l.take q++((l.drop q).take 8++l.drop (q+8)):=by
 have e:l.drop (q+8)=(l.drop q).drop 8:=by rw [E8t]
 rw [e,List.take_append_drop,List.take_append_drop]
def B4n(hD:okD D)(hm:O6 (l_ D) n=A5)(ok:ImgOk D n c)(K6:c.ino.length=(n+1).toNat)(hi:i<l_ D) :
  (fS D n c)[i]?=A4 (if i=1 then dZ (qU 0 c.taken) else C7Y D n c i):=by
 obtain ⟨b16,b512,n8,n128,nm8,nb⟩:=G8.1 hm;have hx:∀ x∈c.ino,x.length=11:=λx hx=>(ok.ino x hx).1
 obtain ⟨ok1,l1⟩:=B4N (l:=c.blocks) (m:=c.made) hD ok.md;obtain ⟨ok2,l2⟩:=A9S (e:=(nM (l_ D) n).toNat) (no:=bE (l_ D) n) ok1;obtain ⟨ok3,l3⟩:=B4w (n:=n) n128 (l:=c.ino) (i:=0) ok2 hx;have eF:bE (l_ D) n=2:=by unfold bE;rw [hm];rfl
 have eN:nM (l_ D) n=n/8:=by unfold nM;rw [hm];rfl
 unfold fS;rw [C0u (by rw [l3,l2,l1];exact hi)];by_cases h1:i=1
 ·rw [C4 (by omega),C4 h1]
 ·rw [C5 (by omega),C5 h1,D0k n128 ok2 hx (by rw [l2,l1];exact hi),l2,l1,C8C (by rw [l1];exact hi),D0C hi,E64 hi,eF,eN];unfold C7Y;have eD:D.getD i []=D[i]:=by rw [E67,E64 hi];rfl
  by_cases ha:B1J (l_ D) n i=3
  ·have h3:2<=i/\((i:Int)-2)*8<n:=by
    unfold B1J at ha;split at ha
    ·split at ha
     ·omega
     ·split at ha<;>omega
    ·omega
   rw [C4 ha,C4 (by omega)];have hs:c.ino=c.ino.take (8*(i-2)+1)++((c.ino.drop (8*(i-2)+1)).take 8++c.ino.drop (8*(i-2)+1+8)):=E4U;show A4 (foldI (l_ D) n i 0 c.ino (zeros 256))=_;rw [hs,B04,B04];have t1:(c.ino.take (8*(i-2)+1)).length=8*(i-2)+1:=by rw [E7L];omega
   have t2:((c.ino.drop (8*(i-2)+1)).take 8).length=8:=by rw [E7L,List.length_drop];omega
   rw [B05 (l:=c.ino.take (8*(i-2)+1)),t1,E7o,t2]
   ·have:=D0b (b:=l_ D) (n:=n) (j:=i) hm h3.1 (by omega) (ino:=c.ino) (e:=8) (k:=0) (a:=zeros 256) rfl (by omega);rw [E8m] at this;rw [this,B05,<-hs];intro k k1 k2 q;have q2:=q.2;unfold Z4 at q2;rw [q.1] at q2;simp only [R8] at q2;omega
   ·intro k k1 k2 q;have q2:=q.2;unfold Z4 at q2;rw [q.1] at q2;simp only [R8] at q2;rw [t1] at k2;have:=(N1.1 q.1).2.1;omega
  ·rw [C5 ha,C5 (λq=>ha ?_)]
   ·show A4 (foldI (l_ D) n i 0 c.ino _)=_;rw [B05,eD];intro k k1 k2 q;refine ha ?_;have q2:=q.2;unfold Z4 at q2;rw [q.1] at q2;simp only [R8] at q2;obtain ⟨_,q3,q4⟩:=N1.1 q.1;unfold B1J;rw [C4 ⟨hm,by omega,by omega⟩,C5 (by omega),C4 (by omega)]
   ·unfold B1J;rw [C4 ⟨hm,by omega,by omega⟩,C5 (by omega),C4 (by omega)]
def pF{w:Nat}(h0:0<=v)(h1:v<256 ^ w):((le (D6 w v):Nat):Int)=v:=by
 rw [B5r,Int.emod_eq_of_lt h0 h1]
def B37{a w:Nat}{x:List UInt8}{y z:List UInt8}(hx:x.length=a)(hy:y.length=w):fieldN (x++(y++z)) a w=((le y:Nat):Int):=by
 unfold fieldN;rw [List.drop_left' hx,List.take_left' hy]
def D5O{d:List Int}(hi:i<l_ d):sZ d=sZ (d.take i)++(D6 2 d[i]++sZ (d.drop (i+1))):=by
 have h:d=d.take i++(d[i]::d.drop (i+1)):=by rw [<-E7g hi,List.take_append_drop]
 have e:sZ (d.take i++(d[i]::d.drop (i+1)))=sZ (d.take i)++(D6 2 d[i]++sZ (d.drop (i+1))):=by
  simp only [sZ,List.map_append,List.flatten_append,E7X,List.flatten_cons]
 rw [<-e,<-h]
def C7t{k s:Int}{d:List Int}(hm:A5A k l s p d=A5):(0<=k/\k<=2)/\(0<=l/\l<=65535)/\(0<=s/\s<=34304)/\(0<=p/\p<=65535)/\∀ x∈d,0<=x/\x<=65535:=by
 unfold A5A at hm;split at hm
 ·have:=of_decide_eq_true hm;obtain ⟨rfl,rfl,rfl,rfl⟩:=this;refine ⟨by omega,by omega,by omega,by omega,λx hx=>?_⟩;have:=(List.mem_replicate.1 hx).2;omega
 ·unfold C0x at hm;simp only [E66,decide_eq_true_eq,A69,E7D] at hm;obtain ⟨h1,h2,h3,h4,h5⟩:=hm;exact ⟨h1,h2,h4,h3,h5⟩
def D1z{k s:Int}{d:List Int}(hd:l_ d=7)(hm:A5A k l s p d=A5) :
  B2t (cY k l s p d)=k/\B4h (cY k l s p d)=l/\B4j (cY k l s p d)=s/\B4i (cY k l s p d)=p/\bW (cY k l s p d)=d:=by
 obtain ⟨h1,h2,h3,h4,h5⟩:=C7t hm;have eK:cY k l s p d=[]++(D6 1 k++(zeros 1++D6 2 l++D6 4 s++D6 2 p++sZ d++zeros 8)):=by simp [cY,A5Y]
 have eL:cY k l s p d=(D6 1 k++zeros 1)++(D6 2 l++(D6 4 s++D6 2 p++sZ d++zeros 8)):=by simp [cY,A5Y]
 have eS:cY k l s p d=(D6 1 k++zeros 1++D6 2 l)++(D6 4 s++(D6 2 p++sZ d++zeros 8)):=by simp [cY,A5Y]
 have eP:cY k l s p d=(D6 1 k++zeros 1++D6 2 l++D6 4 s)++(D6 2 p++(sZ d++zeros 8)):=by simp [cY,A5Y]
 refine ⟨?_,?_,?_,?_,?_⟩
 ·unfold B2t;rw [eK,B37 (by simp) (by simp),pF h1.1 (by omega)]
 ·unfold B4h;rw [eL,B37 (by simp) (by simp),pF h2.1 (by omega)]
 ·unfold B4j;rw [eS,B37 (by simp) (by simp),pF h3.1 (by omega)]
 ·unfold B4i;rw [eP,B37 (by simp) (by simp),pF h4.1 (by omega)]
 ·refine E8h λi=>?_
  by_cases hi:i<7
  ·rw [C2e hi,E64 (by omega)];have iZ:=h5 d[i] (E7y (by omega));have e:cY k l s p d=(A5Y k l s p++sZ (d.take i))++(D6 2 d[i]++(sZ (d.drop (i+1))++zeros 8)):=by
    unfold cY;rw [D5O (d:=d) (i:=i) (by omega)];simp
   rw [e,B37 (by rw [E7c,pC,vM,E7L];omega) (by simp),pF iZ.1 (by omega)]
  ·rw [E7z (by rw [N0];omega),E7z (by omega)]
def C91{k s:Int}{d:List Int}(hd:l_ d=7)(hm:A5A k l s p d=A5):aW (cY k l s p d)=A5/\oT (cY k l s p d)=C9 k l s p d:=by
 obtain ⟨h1,h2,h3,h4,h5⟩:=D1z hd hm;have hc:aW (cY k l s p d)=A5:=by
  unfold aW;rw [h1,h2,h3,h4,h5,hm];simp
 refine ⟨hc,?_⟩;unfold oT;rw [hc,h1,h2,h3,h4,h5];rfl
def E1k{xs:List UInt8}(hb:l_ b=256)(hx:l_ xs=32)(hj:j<8)(hi:i<8):eV (H5 b (32*j) xs) i=if i=j then xs else eV b i:=by
 have hl:(H5 b (32*j) xs).length=256:=by rw [O1 (by omega),hb]
 apply E8h;intro n;by_cases hn:n<32
 ·have e1:∀ c:List UInt8,(eV c i)[n]?=c[32*i+n]? := λc=>by simp [eV,hn]
  rw [e1,C7n (by omega),hx];by_cases c:i=j
  ·subst c;rw [C4 (by omega),C4 rfl]
   congr 1;omega
  ·rw [C5 (by omega),C5 c,e1]
 ·have h1:=A2z (b:=H5 b (32*j) xs) hl hi;have h2:=A2z hb hi;rw [E7z (by omega),E7z];split<;>omega
def A4g:∀ {l:List Int} {m:List (List UInt8)} {a:List UInt8},x ∉ l->rF l m x a=a
 | [],m,a,_=>by cases m<;>rfl
 | _::_,[],a,_=>rfl
 | no::l,b::m,a,h=>by
  show rF l m x (if no=x then b else a)=a;rw [C5 (λe=>h (by rw [<-e];exact E7e ..))];exact A4g λh2=>h (E7d _ h2)
def D4g:∀ {l:List Int} {m:List (List UInt8)} {a:List UInt8},l.Nodup->(x,b)∈l.zip m->rF l m x a=b
 | [],_,_,_,h=>by cases h
 | _::_,[],_,_,h=>by cases h
 | no::l,b'::m,a,hn,h=>by
  obtain ⟨h1,h2⟩:=List.nodup_cons.1 hn;show rF l m x (if no=x then b' else a)=b;rcases E7m.1 (show (x,b)∈(no,b')::l.zip m from h) with e | h3
  ·cases e;rw [C4 rfl];exact A4g h1
  ·exact D4g h2 h3
def D4h{x:Int}:∀ {l:List Int} {m:List (List UInt8)},(∀ a,rF l m x a=a)\/∃ b,∀ a,rF l m x a=b
 | [],m=>.inl λa=>by cases m<;>rfl
 | _::_,[]=>.inl λa=>rfl
 | no::l,b::m=>by
  rcases D4h (x:=x) (l:=l) (m:=m) with h | ⟨b',h⟩
  ·by_cases e:no=x
   ·refine .inr ⟨b,λa=>?_⟩;show rF l m x (if no=x then b else a)=b;rw [C4 e,h]
   ·refine .inl λa=>?_
    show rF l m x (if no=x then b else a)=a;rw [C5 e,h]
  ·exact .inr ⟨b',λa=>h _⟩
def D55{l:List Int}{m:List (List UInt8)}{a:List UInt8}:rF l m x (rF l m x a)=rF l m x a:=by
 rcases D4h (x:=x) (l:=l) (m:=m) with h | ⟨b',h⟩
 ·rw [h,h]
 ·rw [h,h]
def C8c{ino:List (List Int)}{b:Nat}(hi:i<8):∀ {e k:Nat} {a:List UInt8},a.length=256->k+e<=8->(∀ j,j<8->(ino.getD (b+j) []).length=11) ->
  eV (D4S ino b e k a) i=if k<=i/\i<k+e then A8h (ino.getD (b+i) []) else eV a i
 | 0,k,a,_,_,_=>by rw [C5 (by omega)];rfl
 | e+1,k,a,ha,hk,h=>by
  have hx:=A64 (h k (by omega));show eV (D4S ino b e (k+1) (H5 a (32*k) (A8h (ino.getD (b+k) [])))) i=_;rw [C8c hi (by rw [O1 (by rw [ha,hx];omega),ha]) (by omega) h,E1k ha hx (by omega) hi];by_cases e1:i=k
  ·subst e1;rw [C5 (by omega),C4 rfl,C4 (by omega)]
  ·rw [C5 e1];by_cases c:k+1<=i/\i<k+1+e
   ·rw [C4 c,C4 (by omega)]
   ·rw [C5 c,C5 (by omega)]
section
variable {D:Dev} {n:Int} {c:Cl}
def B08(hD:okD D)(hm:O6 (l_ D) n=A5)(ok:ImgOk D n c):(fS D n c).length=(l_ D):=by
 obtain ⟨_,_,_,n128,_⟩:=G8.1 hm;have hx:∀ x∈c.ino,x.length=11:=λx hx=>(ok.ino x hx).1
 obtain ⟨ok1,l1⟩:=B4N (l:=c.blocks) (m:=c.made) hD ok.md;obtain ⟨ok2,l2⟩:=A9S (e:=(nM (l_ D) n).toNat) (no:=bE (l_ D) n) ok1;obtain ⟨ok3,l3⟩:=B4w (n:=n) n128 (l:=c.ino) (i:=0) ok2 hx;unfold fS;rw [fX,l3,l2,l1]
def C44(hD:okD D)(hm:O6 (l_ D) n=A5)(ok:ImgOk D n c)(K6:c.ino.length=(n+1).toNat)(hi:i<l_ D) :
  blk (fS D n c) i=if i=1 then dZ (qU 0 c.taken) else C7Y D n c i:=by
 have h:=B4n hD hm ok K6 hi;have hl:=B08 hD hm ok;rw [A48 (by rw [hl];exact hi)];rw [E64 (by rw [hl];exact hi)] at h;exact E8n h
def C45(hD:okD D)(hm:O6 (l_ D) n=A5)(ok:ImgOk D n c)(K6:c.ino.length=(n+1).toNat)(hd:F6 (l_ D) n no=A5) :
  blk (fS D n c) no=rF c.blocks c.made no (blk D no):=by
 obtain ⟨_,h2,h3⟩:=pE.1 hd;obtain ⟨b16,b512,n8,n128,nm8,nb⟩:=G8.1 hm;have hF:aX (l_ D) n=2+n/8:=by unfold aX bE nM;rw [hm];rfl
 obtain ⟨k,rfl⟩:=E8d (show 0<=no by omega);rw [C44 hD hm ok K6 (by omega),C5 (by omega)];unfold C7Y;rw [C5 ?_]
 ·congr 1
  rw [A48 (by omega),E67,E64 (by omega)];rfl
 ·unfold B1J;rw [C4 ⟨hm,by omega,by omega⟩,C5 (by omega),C5 (by omega)];decide
def C46(hD:okD D)(hm:O6 (l_ D) n=A5)(ok:ImgOk D n c)(K6:c.ino.length=(n+1).toNat){i:Int}(hi:P9 (l_ D) n i=A5) :
  qS (fS D n c) n i=A8h (c.ino.getD i.toNat []):=by
 obtain ⟨w2,wb,k0,k8⟩:=D03 hi;obtain ⟨_,i1,i2⟩:=N1.1 hi;obtain ⟨b16,b512,n8,n128,nm8,nb⟩:=G8.1 hm;unfold qS;rw [B08 hD hm ok];have hB:Z4 (l_ D) n i=2+(i-1)/8:=by unfold Z4;rw [hi];rfl
 have hK:gQ (l_ D) n i=(i-1)%8:=by unfold gQ;rw [hi];rfl
 obtain ⟨k,hk⟩:=E8d (show 0<=Z4 (l_ D) n i by omega);rw [hk,C44 hD hm ok K6 (by omega),C5 (by omega)];unfold C7Y;rw [C4 (by unfold B1J;rw [C4 ⟨hm,by omega,by omega⟩,C5 (by omega),C4 (by omega)])];rw [C8c (by omega) zeros_length (by omega) ?_,C4 (by omega)]
 ·congr 2;omega
 ·intro j hj;rw [E67,E64 (by omega)];exact (ok.ino _ (E7y _)).1
end
def E1Q{E:Dev}{i:Int}(hl:l_ E=l_ D)(h:qS E n i=qS D n i):kdV E n i=kdV D n i/\szV E n i=szV D n i/\drV E n i=drV D n i:=by
 unfold kdV szV drV B0V;rw [hl,h];exact ⟨rfl,rfl,rfl⟩
def C8s{E:Dev}{i:Int}{y:List Int}(hi:P9 (l_ E) n i=A5)(hy:D1S y)(h:qS E n i=A8h y):kdV E n i=y.getD 0 0/\szV E n i=y.getD 2 0/\drV E n i=y.drop 4:=by
 obtain ⟨hl,hm⟩:=hy;have hd:(y.drop 4).length=7:=by rw [List.length_drop,hl]
 obtain ⟨g1,g2,g3,g4,g5⟩:=D1z hd hm;obtain ⟨hc,_⟩:=C91 hd hm;unfold kdV szV drV B0V;rw [hi,h];unfold A8h;rw [hc,g1,g3,g5];exact ⟨rfl,rfl,rfl⟩
structure Pend(D:Dev)(n:Int)(c:Cl)(Q:List Int):Prop where
 nd:(c.blocks++Q).Nodup
 dat:∀ no∈c.blocks++Q,F6 (l_ D) n no=A5/\c.taken.getD no.toNat A5=A5
 bm:c.blocks.length=c.made.length
 good:∀ q∈cZ c,Q4 q.2=A5->Q4 (blk D q.1)=A5
section
variable {D:Dev} {n:Int} {c:Cl} {Q:List Int}
def D9b{l:List Bool}(h:l.getD j A5=A5):(l.set i A5).getD j A5=A5:=by
 rw [E67] at h ⊢;rw [E76];by_cases e:i=j
 ·rw [C4 e];split<;>rfl
 ·rw [C5 e];exact h
def D6z{l:List Bool}:(l.set i A5).getD i A5=A5:=by
 rw [E67,E76,C4 rfl];split<;>rfl
def C6w(h:dM D n c no=A5):K0 D n c no={ c with taken:=c.taken.set no.toNat A5 }:=by unfold K0;rw [h];rfl
def D5r(h:dM D n c no=A5):F6 (l_ D) n no=A5/\c.taken.getD no.toNat A5=A6:=by
 unfold dM at h;rw [E66,E7Y] at h;exact h
def Pend.same(h:Pend D n c Q)(s:SameC c c')(ht:∀ j,c.taken.getD j A5=A5->c'.taken.getD j A5=A5):Pend D n c' Q:=by
 refine ⟨by rw [s.blocks];exact h.nd,λno X5=>?_,by rw [s.blocks,s.made];exact h.bm,?_⟩
 ·rw [s.blocks] at X5;exact ⟨(h.dat no X5).1,ht _ (h.dat no X5).2⟩
 ·unfold cZ;rw [s.blocks,s.made];exact h.good
def B5g(j:Nat)(h:c.taken.getD j A5=A5):(K0 D n c no).taken.getD j A5=A5:=by
 cases hb:dM D n c no with
 | false=>rw [B0W hb];exact h
 | true=>rw [C6w hb];exact D9b h
def Pend.claimed(h:Pend D n c Q)(hb:dM D n c no=A5):Pend D n (K0 D n c no) (Q++[no]):=by
 obtain ⟨h1,h2⟩:=D5r hb;have hs:=A0X D n c no;refine ⟨?_,λk hk=>?_,by rw [hs.blocks,hs.made];exact h.bm,?_⟩
 ·rw [hs.blocks,<-E7i,List.nodup_append];refine ⟨h.nd,by simp,λa ha b hb' e=>?_⟩;rw [E7K.1 hb'] at e;have:=(h.dat a ha).2;rw [e,h2] at this;cases this
 ·rw [hs.blocks,<-E7i] at hk;rcases E7J.1 hk with hk | hk
  ·exact ⟨(h.dat k hk).1,B5g _ (h.dat k hk).2⟩
  ·rw [E7K.1 hk,C6w hb];exact ⟨h1,D6z⟩
 ·unfold cZ;rw [hs.blocks,hs.made];exact h.good
def Pend.made(h:Pend D n c (no::Q))(hg:Q4 b=A5->Q4 (blk D no)=A5):Pend D n (dO c no b) Q:=by
 have e:c.blocks++no::Q=(c.blocks++[no])++Q:=by simp
 refine ⟨?_,λk hk=>?_,?_,λq hq=>?_⟩
 ·show ((c.blocks++[no])++Q).Nodup;rw [<-e];exact h.nd
 ·exact h.dat k (by rw [e];exact hk)
 ·show (c.blocks++[no]).length=(c.made++[b]).length;simp [h.bm]
 ·rw [vR h.bm] at hq;rcases E7J.1 hq with hq | hq
  ·exact h.good q hq
  ·rw [E7K.1 hq];exact hg
def Pend.claims:∀ {L:List Int} {c:Cl} {Q:List Int},Pend D n c Q->Pend D n (cX D n c L) (Q++J1 D n c L)
 | [],c,Q,h=>by
  show Pend D n c (Q++[]);rw [E7q];exact h
 | no::L,c,Q,h=>by
  cases hb:dM D n c no with
  | true =>
   have e2:J1 D n c (no::L)=no::J1 D n (K0 D n c no) L:=by show (if _ then _ else _)=_;rw [C4 hb]
   rw [e2];have:=(h.claimed hb).claims (L:=L);rw [E7i] at this;exact this
  | false =>
   have e2:J1 D n c (no::L)=J1 D n c L:=by show (if _ then _ else _)=_;rw [C5 (by rw [hb];decide)]
   rw [e2];have e3:cX D n c (no::L)=cX D n c L:=by show cX D n (K0 D n c no) L=_;rw [B0W hb]
   rw [e3];exact h.claims
def B5n{d:List Int}:∀ {e k:Nat} {s:Cl × List Int} (j:Nat),s.1.taken.getD j A5=A5->(cE D n d e k s).1.taken.getD j A5=A5
 | 0,_,_,_,h=>h
 | e+1,k,s,j,h=>by
  rw [cE];exact B5n j (B5g j h)
def D5F{s:Cl × List UInt8}(j:Nat)(h:s.1.taken.getD j A5=A5):(R2 D n many s k).1.taken.getD j A5=A5:=by
 unfold R2;split
 ·exact h
 ·dsimp only;split
  ·exact B5g j h
  ·exact h
def C6Q:∀ {e k:Nat} {s:Cl × List UInt8} (j:Nat),s.1.taken.getD j A5=A5->(K7 D n many e k s).1.taken.getD j A5=A5
 | 0,_,_,_,h=>h
 | e+1,k,s,j,h=>by
  rw [K7];exact C6Q j (D5F j h)
def D5A(h:Pend D n c [])(h0:(H7 D n c a).2.getD 6 0≠0):Pend D n (H7 D n c a).1 [(H7 D n c a).2.getD 6 0]:=by
 have hs:=A0Y (D:=D) (n:=n) (d:=drV D n a) (e:=(min (T2 (szV D n a)) 6).toNat) (k:=0) (s:=(c,zI 7));have h6:=gL (D:=D) (n:=n) (d:=drV D n a) (j:=6) (e:=(min (T2 (szV D n a)) 6).toNat) (k:=0) (s:=(c,zI 7)) (by omega);have hp:Pend D n (cE D n (drV D n a) (min (T2 (szV D n a)) 6).toNat 0 (c,zI 7)).1 []:=h.same hs.1 λj hj=>B5n j hj
 unfold H7 at h0 ⊢;generalize cE D n (drV D n a) (min (T2 (szV D n a)) 6).toNat 0 (c,zI 7)=s at *;unfold A04 at h0 ⊢;by_cases hm:6<T2 (szV D n a)
 ·rw [C4 hm] at h0 ⊢;have hl:s.2.length=7:=by rw [hs.2];rfl
  have e:(s.2.set 6 (K3 D n s.1 ((drV D n a).getD 6 0))).getD 6 0=K3 D n s.1 ((drV D n a).getD 6 0):=by
   rw [E67,E76,C4 rfl,C4 (by omega)];rfl
  have h0:(s.2.set 6 (K3 D n s.1 ((drV D n a).getD 6 0))).getD 6 0≠0:=h0;show Pend D n (K0 D n s.1 ((drV D n a).getD 6 0)) [(s.2.set 6 (K3 D n s.1 ((drV D n a).getD 6 0))).getD 6 0];rw [e] at h0 ⊢;obtain ⟨h1,h2⟩:=A6R h0;rw [h1];exact hp.claimed h2
 ·rw [C5 hm] at h0;exact absurd (h6.trans rfl) h0
def D5z(j:Nat)(h:c.taken.getD j A5=A5):(H7 D n c a).1.taken.getD j A5=A5:=by
 unfold H7 A04;split
 ·exact B5g j (B5n j h)
 ·exact B5n j h
def D5y(hD:okD D)(D1A:l_ D<=512)(h:Pend D n c []):Pend D n (U0 D n c a) []:=by
 have hs:=jZ (D:=D) (n:=n) (ino:=a) (c:=c);by_cases h0:(H7 D n c a).2.getD 6 0=0
 ·have e:U0 D n c a=L5 D n c a:=by unfold U0;rw [C4 h0]
  rw [e];have:=h.same hs.1 D5z;exact ⟨this.nd,this.dat,this.bm,this.good⟩
 ·have hp:=D5A h h0;have hI:Pend D n (L5 D n c a) [(H7 D n c a).2.getD 6 0]:=⟨hp.nd,hp.dat,hp.bm,hp.good⟩;have hf:=gM (D:=D) (n:=n) (many:=T2 (szV D n a)) (e:=128) (k:=0) (s:=(L5 D n c a,blk D ((H7 D n c a).2.getD 6 0)));have E5q:=C6Q (D:=D) (n:=n) (many:=T2 (szV D n a)) (e:=128) (k:=0) (s:=(L5 D n c a,blk D ((H7 D n c a).2.getD 6 0)));have E56:=D76 (D:=D) (n:=n) (many:=T2 (szV D n a)) (c:=L5 D n c a) (b:=blk D ((H7 D n c a).2.getD 6 0)) (J8 hD) D1A;unfold U0;rw [C5 h0];generalize K7 D n (T2 (szV D n a)) 128 0 (L5 D n c a,blk D ((H7 D n c a).2.getD 6 0))=s at *;exact (hI.same hf E5q).made λh=>by rw [E56] at h;cases h
def D5g:∃ L,(G6 D n c d t).1=cX D n c L/\J5 (G6 D n c d t).2 (C6 (O3 d t))=J1 D n c L:=by
 obtain ⟨h0,h5,hf⟩:=A9p d t;obtain ⟨L,hL⟩:=xEq (J5 (bD d t) (C6 (O3 d t)));have nd:L.Nodup:=by rw [hL];exact B9u
 have nz:∀ x∈L,x≠0:=by rw [hL];exact λx=>oN
 have eB:G6 D n c d t=V8 D n (c,bD d t) L:=by rw [hL];rfl
 obtain ⟨a1,a2⟩:=A39 (D:=D) (n:=n) (c:=c) hf.len nd nz;refine ⟨L,by rw [eB];exact a1,?_⟩;rw [eB,C9Q a2,<-hL];have:L.filter (λx=>!(decide (x∈L) && !decide (x∈J1 D n c L)))=L.filter λx=>decide (x∈J1 D n c L):=List.filter_congr λx hx=>by simp [hx]
 rw [this];exact C6S keptL_sub nd
def C3v{X:List Int}{K:List UInt8->Option Int}:∀ {L:List Int} {c:Cl},Pend D n c L->Pend D n (P7 D X K c L) []
 | [],c,h=>h
 | no::L,c,h=>by
  obtain ⟨y,hy⟩:=C0e (D:=D) (X:=X) (K:=K) (no:=no) (c:=c);have h1:=h.made (b:=clB (blk D no) (V5 D X no K)) λh=>by rw [E2j] at h;cases h
  have h2:Pend D n (dP D X K c no) L:=by rw [hy];exact ⟨h1.nd,h1.dat,h1.bm,h1.good⟩
  exact C3v (L:=L) (c:=dP D X K c no) h2
def B4X{a:Int}:∀ {L:List Ent} {s:Cl × (List UInt8->Option Int)},(O9 D n a s L).1.taken=s.1.taken
 | [],_=>rfl
 | e::L,s=>by
  have h1:=B4X (a:=a) (L:=L) (s:=K4 D n a s e);have h3:(K4 D n a s e).1.taken=s.1.taken:=by
   unfold K4 U4;cases Q6 D n s.1 e.2 with
   | false=>rfl
   | true =>
    show (bif (s.1.par e.2).isSome then A2u s.1 e.2 else C4O (A2u s.1 e.2) a e.2).taken=_;cases (s.1.par e.2).isSome<;>rfl
  exact h1.trans h3
def D5h(h:Pend D n c [no])(hg:Q4 (blk D no)=A5):Pend D n (bJ D n c a no d t) []:=by
 obtain ⟨L,h1,h2⟩:=D5g (D:=D) (n:=n) (c:=c) (d:=d) (t:=t);have hc:=h.claims (L:=L);rw [<-h1,<-h2] at hc;have eT:bodyT D n c a d t=O9 D n a ((G6 D n c d t).1,λ_=>A7) (S7 D (O3 d t::(G6 D n c d t).2) (J5 (G6 D n c d t).2 (C6 (O3 d t)))):=rfl;have t1:=C8g (D:=D) (n:=n) (a:=a) (L:=S7 D (O3 d t::(G6 D n c d t).2) (J5 (G6 D n c d t).2 (C6 (O3 d t)))) (s:=((G6 D n c d t).1,λ_=>A7));have t2:=B4X (D:=D) (n:=n) (a:=a) (L:=S7 D (O3 d t::(G6 D n c d t).2) (J5 (G6 D n c d t).2 (C6 (O3 d t)))) (s:=((G6 D n c d t).1,λ_=>A7));rw [<-eT] at t1 t2;unfold bJ;generalize bodyT D n c a d t=T at *;have hT:Pend D n T.1 ([no]++J5 (G6 D n c d t).2 (C6 (O3 d t))):=by
  refine ⟨?_,?_,?_,?_⟩
  ·rw [t1.1];exact hc.nd
  ·rw [t1.1,t2];exact hc.dat
  ·rw [t1.1,t1.2];exact hc.bm
  ·unfold cZ;rw [t1.1,t1.2];exact hc.good
 exact C3v (Pend.made hT λ_=>hg)
def D7W(h:Pend D n c []):Pend D n (mD D n c a) []:=by
 by_cases h0:(K5 D n c a).2=0
 ·rw [A4b h0];have hs:=C13 h0;have e1:(K5 D n c a).1=c:=by rw [hs]
  refine ⟨?_,?_,?_,?_⟩
  ·show ((K5 D n c a).1.blocks++[]).Nodup;rw [e1];exact h.nd
  ·show ∀ no∈(K5 D n c a).1.blocks++[],F6 (l_ D) n no=A5/\(K5 D n c a).1.taken.getD no.toNat A5=A5;rw [e1];exact h.dat
  ·show (K5 D n c a).1.blocks.length=(K5 D n c a).1.made.length;rw [e1];exact h.bm
  ·show ∀ q∈(K5 D n c a).1.blocks.zip (K5 D n c a).1.made,_;rw [e1];exact h.good
 ·rw [vJ h0];obtain ⟨_,h2,h3,h4,h5⟩:=A4c h0;rw [<-h3] at h2 h4;have hp:=h.claimed h4;have e1:(K5 D n c a).1=K0 D n c (K5 D n c a).2:=by rw [h3,h5]
  rw [<-e1] at hp;refine D5h ?_ h2;exact ⟨hp.nd,hp.dat,hp.bm,hp.good⟩
def D8J(hD:okD D)(D1A:l_ D<=512)(h:Pend D n c []):Pend D n (S4 D n c a) []:=by
 unfold S4;split
 ·exact D5y hD D1A h
 ·exact D7W h
def A9I(hD:okD D)(D1A:l_ D<=512):∀ {e i:Nat} {c:Cl},Pend D n c []->Pend D n (ofR D n e i c) []
 | 0,_,_,h=>h
 | e+1,i,c,h=>by
  unfold ofR;cases hc:c.row[i]? with
  | none=>exact h
  | some a=>exact A9I hD D1A (D8J hD D1A h)
end
section
variable {D E:Dev} {n:Int} {c:Cl}
structure RowK(D:Dev)(n:Int)(c:Cl):Prop where
 kd:∀ i∈c.row,i≠1->kdV D n i≠0
def RowK.same(h:RowK D n c)(e:c'.row=c.row):RowK D n c':=⟨by rw [e];exact h.kd⟩
def C8i:∀ {L:List Ent} {s:Cl × (List UInt8->Option Int)},RowK D n s.1->RowK D n (O9 D n a s L).1
 | [],_,h=>h
 | e::L,s,h=>by
  refine C8i (L:=L) (s:=K4 D n a s e) ?_;unfold K4 U4;cases hB:Q6 D n s.1 e.2 with
  | false=>exact h
  | true =>
   show RowK D n (bif (s.1.par e.2).isSome then A2u s.1 e.2 else C4O (A2u s.1 e.2) a e.2);cases (s.1.par e.2).isSome with
   | true=>exact ⟨h.kd⟩
   | false =>
    refine ⟨λi hi Z2=>?_⟩;rcases E7J.1 (show i∈s.1.row++[e.2] from hi) with h1 | h1
    ·exact h.kd i h1 Z2
    ·rw [E7K.1 h1];intro h0;unfold Q6 at hB;rw [R9 h0] at hB;simp at hB
def D5i(h:RowK D n c):RowK D n (bJ D n c a no d t):=by
 have hs:=bO (D:=D) (n:=n) (L:=J5 (bD d t) (C6 (O3 d t))) (s:=(c,bD d t));have eb:V8 D n (c,bD d t) (J5 (bD d t) (C6 (O3 d t)))=G6 D n c d t:=rfl;rw [eb] at hs;have ht:=C8i (D:=D) (n:=n) (a:=a) (L:=S7 D (O3 d t::(G6 D n c d t).2) (J5 (G6 D n c d t).2 (C6 (O3 d t)))) (s:=((G6 D n c d t).1,λ_=>A7)) (h.same hs.row);have et:O9 D n a ((G6 D n c d t).1,λ_=>A7) (S7 D (O3 d t::(G6 D n c d t).2) (J5 (G6 D n c d t).2 (C6 (O3 d t))))=bodyT D n c a d t:=rfl;rw [et] at ht;unfold bJ;refine ht.same ?_;rw [oU.1,C2m]
def D8K(h:RowK D n c):RowK D n (S4 D n c a):=by
 unfold S4;split
 ·exact h.same A0Z.1
 ·have hs:=qM (D:=D) (n:=n) (ino:=a) (c:=c);by_cases h0:(K5 D n c a).2=0
  ·rw [A4b h0];exact h.same hs.row
  ·rw [vJ h0];exact D5i (h.same hs.row)
def C49{i:Int}:kdV D n i=0\/kdV D n i=1\/kdV D n i=2:=by
 rw [C48];cases hc:B0V D n i with
 | false=>exact .inl rfl
 | true =>
  rw [R8];unfold B0V aW at hc;simp only [E66] at hc;have:=(C7t hc.2.1).1;omega
def D8I(h:RowK D n c)(hbm:c.blocks.length=c.made.length)(ha:a∈c.row)(hal:a.toNat<c.ino.length)(h1:a≠1):((S4 D n c a).ino.getD a.toNat []).getD 0 0=kdV D n a:=by
 have h0:=h.kd a ha h1;by_cases hc:a≠1/\kdV D n a=1
 ·have e:S4 D n c a=U0 D n c a:=by unfold S4;rw [C4 hc]
  rw [e,(A4e hbm).2 hal,hc.2];rfl
 ·have e:S4 D n c a=mD D n c a:=by unfold S4;rw [C5 hc]
  have h2:kdV D n a=2:=by
   rcases C49 (D:=D) (n:=n) (i:=a) with h | h | h
   ·exact absurd h h0
   ·exact absurd ⟨h1,h⟩ hc
   ·exact h
  rw [e,(A5h hbm).2 hal,h2];rfl
def D35(n128:n<=128):∀ {e i:Nat} {c:Cl},i+e=129->RowW n c->RowK D n c->c.blocks.length=c.made.length->c.ino.length=(n+1).toNat ->
  (∀ j,j<i->∀ a,c.row[j]?=A4 a->a≠1->(c.ino.getD a.toNat []).getD 0 0=kdV D n a)->∀ a∈(ofR D n e i c).row,a≠1->((ofR D n e i c).ino.getD a.toNat []).getD 0 0=kdV D n a
 | 0,i,c,hi,w,k,hbm,K6,h=>by
  intro a ha h1;obtain ⟨j,hj⟩:=E7O.1 (show a∈c.row from ha);have hl:=A3Y w.nd λb hb=>⟨(w.rg b hb).1,by have:=(w.rg b hb).2;omega⟩
  have hjl:=(E7b.1 hj).1;exact h j (by omega) a hj h1
 | e+1,i,c,hi,w,k,hbm,K6,h=>by
  unfold ofR;cases hc:c.row[i]? with
  | none =>
   intro a ha h1;obtain ⟨j,hj⟩:=E7O.1 (show a∈c.row from ha);have hjl:=(E7b.1 hj).1;have:=List.getElem?_eq_none_iff.1 hc;exact h j (by omega) a hj h1
  | some b =>
   have g:=zH (D:=D) (n:=n) (a:=b) hbm;have E49:=E7p hc;have hrg:=w.rg b E49;refine D35 n128 (by omega) (bY w) (D8K k) g.bm (g.il.trans K6) λj hj a ha h1=>?_
   have E6Z:i<c.row.length:=(E7b.1 hc).1;have hjc:c.row[j]?=A4 a:=by
    have hjl:j<c.row.length:=by omega
    have:=vQ g.row (E64 hjl);rw [this] at ha;rw [E64 hjl];exact ha
   by_cases e1:j=i
   ·rw [e1,hc] at hjc;have e2:=E8n hjc;subst e2;exact D8I k hbm E49 (by omega) h1
   ·have Z2:a≠b:=λe2=>by
     have:=(List.getElem?_inj (by omega) w.nd).1 (hjc.trans ((congrArg A4 e2).trans hc.symm));omega
    have hra:=w.rg a (E7p hjc);rw [g.ino _ (by omega)];exact h j (by omega) a hjc h1
end
def C63:((bB c a).ino.getD j []).getD 0 0=(c.ino.getD j []).getD 0 0/\((bB c a).ino.getD j []).getD 2 0=(c.ino.getD j []).getD 2 0/\((bB c a).ino.getD j []).drop 4=(c.ino.getD j []).drop 4:=by
 unfold bB;split
 ·by_cases e:j=a.toNat
  ·subst e;by_cases hl:a.toNat<c.ino.length
   ·show ((c.ino.set a.toNat _).getD a.toNat []).getD 0 0=_/\((c.ino.set a.toNat _).getD a.toNat []).getD 2 0=_/\((c.ino.set a.toNat _).getD a.toNat []).drop 4=_;rw [A6V hl];refine ⟨?_,?_,?_⟩
    ·rw [E67,E8c (by omega),<-E67]
    ·rw [E67,E8c (by omega),<-E67]
    ·rw [List.drop_set,C4 (by omega)]
   ·have:c.ino.set a.toNat ((c.ino.getD a.toNat []).set 1 ((c.lnk a).getD 0))=c.ino:=List.set_eq_of_length_le (by omega);show ((c.ino.set a.toNat _).getD a.toNat []).getD 0 0=_/\((c.ino.set a.toNat _).getD a.toNat []).getD 2 0=_/\((c.ino.set a.toNat _).getD a.toNat []).drop 4=_;rw [this];exact ⟨rfl,rfl,rfl⟩
  ·show ((c.ino.set a.toNat _).getD j []).getD 0 0=_/\((c.ino.set a.toNat _).getD j []).getD 2 0=_/\((c.ino.set a.toNat _).getD j []).drop 4=_;rw [getD_set_ne e];exact ⟨rfl,rfl,rfl⟩
 ·exact ⟨rfl,rfl,rfl⟩
def A2j{j:Nat}:∀ {L:List Int} {c:Cl},((cG c L).ino.getD j []).getD 0 0=(c.ino.getD j []).getD 0 0/\((cG c L).ino.getD j []).getD 2 0=(c.ino.getD j []).getD 2 0/\((cG c L).ino.getD j []).drop 4=(c.ino.getD j []).drop 4
 | [],_=>⟨rfl,rfl,rfl⟩
 | a::L,c=>by
  obtain ⟨h1,h2,h3⟩:=A2j (j:=j) (L:=L) (c:=bB c a);obtain ⟨k1,k2,k3⟩:=C63 (c:=c) (a:=a) (j:=j);exact ⟨h1.trans k1,h2.trans k2,h3.trans k3⟩
def D0p:∀ {L:List Int} {c:Cl},cG (c.wl x) L=(cG c L).wl x
 | [],_=>rfl
 | a::L,c=>by
  have e:bB (c.wl x) a=(bB c a).wl x:=by
   show (if (c.ino.getD a.toNat []).getD 0 0=1 then _ else _)=(if (c.ino.getD a.toNat []).getD 0 0=1 then _ else _:Cl).wl x;split<;>rfl
  show cG (bB (c.wl x) a) L=(cG (bB c a) L).wl x;rw [e];exact D0p
section
variable {D E:Dev} {n:Int}
structure Beg(D:Dev)(n:Int)(c:Cl):Prop where
 w:RowW n c
 k:RowK D n c
 bm:c.blocks.length=c.made.length
 il:c.ino.length=(n+1).toNat
 pend:Pend D n c []
 zero:∀ i:Int,1<=i->i<=n->c.ino.getD i.toNat []=zI 11
def sQ(hm:O6 (l_ D) n=A5):Beg D n (wA (I1 D n) (aX (l_ D) n).toNat):=by
 obtain ⟨_,_,n8,_⟩:=G8.1 hm;have hs:=ownR_same (c:=I1 D n) (k:=(aX (l_ D) n).toNat);refine ⟨?_,?_,?_,?_,⟨?_,?_,?_,?_⟩,?_⟩
 ·refine RowW.same (c:=I1 D n) ⟨by simp [I1],λi=>?_,λi hi=>?_⟩ hs.row hs.par
  ·by_cases c1:i=1
   ·subst c1;simp [I1,A1f]
   ·simp [I1,A1f,c1]
  ·simp [I1] at hi;omega
 ·refine RowK.same (c:=I1 D n) ⟨λi hi h1=>?_⟩ hs.row;exact absurd (E7K.1 hi) h1
 ·rw [hs.blocks,hs.made];rfl
 ·rw [hs.ino];simp [I1]
 ·rw [hs.blocks];exact List.nodup_nil
 ·rw [hs.blocks];intro no X5;cases X5
 ·rw [hs.blocks,hs.made];rfl
 ·unfold cZ;rw [hs.blocks];intro q hq;cases hq
 ·intro i h1 h2;rw [hs.ino];show (E68 (n+1).toNat (zI 11)).getD i.toNat []=zI 11;rw [E67,List.getElem?_replicate,C4 (by omega)];rfl
structure Mixed(D E:Dev)(n:Int):Prop where
 okD:okD D
 okE:Go.Proofs.YtbipebfdappanaaGreat.okD E
 len:l_ E=(l_ D)
 may:O6 (l_ D) n=A5
 blk:∀ no:Int,blk E no=blk D no\/blk E no=blk (fS D n (E6 D n)) no
def Pend.pick{q:Int × List UInt8}{a:List UInt8}(P:Pend D n c [])(hq:q∈cZ c):rF c.blocks c.made q.1 a=q.2:=by
 have nd:c.blocks.Nodup:=by have:=P.nd;rw [E7q] at this;exact this
 exact D4g nd hq
def Pend.picked(P:Pend D n c [])(hg:Q4 (rF c.blocks c.made no (Go.Proofs.YtbipebfdappanaaGreat.blk D no))=A5):Q4 (Go.Proofs.YtbipebfdappanaaGreat.blk D no)=A5:=by
 by_cases hin:no∈c.blocks
 ·obtain ⟨j,hj⟩:=E7O.1 hin;have hjl:=(E7b.1 hj).1;have hjm:j<c.made.length:=by rw [<-P.bm];exact hjl
  have hq:(no,c.made[j])∈cZ c:=by
   unfold cZ;rw [E7O];refine ⟨j,?_⟩;rw [List.getElem?_zip_eq_some];exact ⟨hj,E64 hjm⟩
  have:=P.pick (a:=Go.Proofs.YtbipebfdappanaaGreat.blk D no) hq;rw [this] at hg;exact P.good (no,c.made[j]) hq hg
 ·rw [A4g hin] at hg;exact hg
def Mixed.half(M:Mixed D E n):Half D E n (D1 D n):=by
 have hm:=M.may;obtain ⟨b16,b512,n8,n128,nm8,nb⟩:=G8.1 hm;have B:=sQ hm;have ok:=eY M.okD hm;obtain ⟨_,_,_,K6,_⟩:=X9 M.okD hm;obtain ⟨s1,s2,s3,s4,s5,s6,s7⟩:=cQ (L:=(D1 D n).row) (c:=D1 D n);have w:RowW n (D1 D n):=by unfold D1;exact A2y B.w
 have P:Pend D n (D1 D n) []:=by unfold D1;exact A9I M.okD (by omega) B.pend
 have hb:(E6 D n).blocks=(D1 D n).blocks:=s3;have hmd:(E6 D n).made=(D1 D n).made:=s4;have hlk:∀ j,((E6 D n).ino.getD j []).getD 0 0=((D1 D n).ino.getD j []).getD 0 0/\((E6 D n).ino.getD j []).getD 2 0=((D1 D n).ino.getD j []).getD 2 0/\((E6 D n).ino.getD j []).drop 4=((D1 D n).ino.getD j []).drop 4:=λj=>A2j
 have E0B:∀ a∈(D1 D n).row,a≠1->((D1 D n).ino.getD a.toNat []).getD 0 0=kdV D n a:=by
  unfold D1;exact D35 (D:=D) n128 rfl B.w B.k B.bm B.il (λj hj=>by omega)
 have hz:∀ i,1<=i->i<=n->i ∉ (D1 D n).row->(D1 D n).ino.getD i.toNat []=zI 11:=by
  intro i i1 i2 hin;unfold D1 at hin ⊢;rw [A67 i1 B.w B.bm (λj _ hj=>hin (E7p hj))];exact B.zero i i1 i2
 have hV:∀ i,P9 (l_ D) n i=A5->(kdV E n i=kdV D n i/\szV E n i=szV D n i/\drV E n i=drV D n i)\/(kdV E n i=((E6 D n).ino.getD i.toNat []).getD 0 0/\szV E n i=((E6 D n).ino.getD i.toNat []).getD 2 0/\drV E n i=((E6 D n).ino.getD i.toNat []).drop 4):=by
  intro i hi;obtain ⟨_,i1,i2⟩:=N1.1 hi;have hr:qS E n i=qS D n i\/qS E n i=qS (fS D n (E6 D n)) n i:=by
   unfold qS;rw [M.len,B08 M.okD hm ok];rcases M.blk (Z4 (l_ D) n i) with h | h
   ·rw [h];exact .inl rfl
   ·rw [h];exact .inr rfl
  rcases hr with h | h
  ·exact .inl (E1Q M.len h)
  ·rw [C46 M.okD hm ok K6 hi] at h;refine .inr (C8s (by rw [M.len];exact hi) ?_ h);rw [E67,E64 (by omega)];exact ok.ino _ (E7y _)
 have X5:∀ i,P9 (l_ D) n i=A6->kdV E n i=kdV D n i:=by
  intro i hi;unfold kdV;rw [M.len,hi];rfl
 refine ⟨M.okD,M.okE,M.len,λa ha=>?_,λno hd hg=>?_,λi h1=>?_,λq hq=>?_⟩
 ·have hr:=w.rg a ha;have hi:P9 (l_ D) n a=A5:=N1.2 ⟨hm,hr.1,hr.2⟩;obtain ⟨k1,k2,k3⟩:=hlk a.toNat;rcases hV a hi with h | h
  ·exact .inl h
  ·rw [k1,k2,k3] at h;exact .inr h
 ·rcases M.blk no with h | h
  ·rw [<-h];exact hg
  ·rw [h,C45 M.okD hm ok K6 hd,hb,hmd] at hg;exact P.picked hg
 ·cases hi:P9 (l_ D) n i with
  | false=>exact .inl (X5 i hi)
  | true =>
   obtain ⟨_,i1,i2⟩:=N1.1 hi;rcases hV i hi with h | h
   ·exact .inl h.1
   ·rw [(hlk i.toNat).1] at h;by_cases hin:i∈(D1 D n).row
    ·exact .inl (h.1.trans (E0B i hin h1))
    ·refine .inr ⟨hin,h.1.trans ?_⟩;have e:=hz i i1 i2 hin;rw [e];rfl
 ·rcases M.blk q.1 with h | h
  ·exact .inl h
  ·refine .inr ?_;have hd:F6 (l_ D) n q.1=A5:=(P.dat q.1 (E7I _ (List.of_mem_zip hq).1)).1;rw [h,C45 M.okD hm ok K6 hd,hb,hmd];exact P.pick hq
def Mixed.claim(M:Mixed D E n):∃ x,E6 E n=(E6 D n).wl x:=by
 have B:=sQ M.may;obtain ⟨x,hx⟩:=E05 (x:=0) B.w B.bm B.il M.half;have e1:I1 E n=I1 D n:=by unfold I1;rw [M.len]
 have e2:D1 E n=(D1 D n).wl x:=by
  unfold D1;rw [e1,M.len];have hs:=ownR_same (c:=I1 D n) (k:=(aX (l_ D) n).toNat);have e3:(wA (I1 D n) (aX (l_ D) n).toNat).wl 0=wA (I1 D n) (aX (l_ D) n).toNat:=by
   have h0:=hs.lost;generalize wA (I1 D n) (aX (l_ D) n).toNat=c at *;cases c;have h0:_=(0:Int):=h0;subst h0;rfl
  rw [e3] at hx;exact hx
 refine ⟨x,?_⟩;unfold E6;rw [e2];exact D0p
def Mixed.img(M:Mixed D E n):fS E n (E6 E n)=fS D n (E6 D n):=by
 have hm:=M.may;have hmE:O6 (l_ E) n=A5:=by rw [M.len];exact hm
 have ok:=eY M.okD hm;have okE:=eY M.okE hmE;obtain ⟨_,_,_,K6,_⟩:=X9 M.okD hm;obtain ⟨_,_,_,E6g,_⟩:=X9 M.okE hmE;obtain ⟨x,hx⟩:=M.claim;have l1:=B08 M.okD hm ok;have l2:=B08 M.okE hmE okE;refine E8h λi=>?_
 by_cases hi:i<(l_ D)
 ·have hiE:i<(l_ E):=by rw [M.len];exact hi
  rw [B4n M.okD hm ok K6 hi,B4n M.okE hmE okE E6g hiE];by_cases h1:i=1
  ·rw [C4 h1,C4 h1,hx];rfl
  ·rw [C5 h1,C5 h1]
   congr 1
   have e0:C7Y E n (E6 E n) i=if B1J (l_ D) n i=3 then D4S (E6 D n).ino (8*(i-2)+1) 8 0 (zeros 256) else rF (E6 D n).blocks (E6 D n).made i (E.getD i []):=by
    unfold C7Y;rw [hx,M.len];rfl
   rw [e0];unfold C7Y;by_cases ha:B1J (l_ D) n i=3
   ·rw [C4 ha,C4 ha]
   ·rw [C5 ha,C5 ha];have eD:D.getD i []=Go.Proofs.YtbipebfdappanaaGreat.blk D i:=by rw [A48 hi,E67,E64 hi];rfl
    have eE:E.getD i []=Go.Proofs.YtbipebfdappanaaGreat.blk E i:=by rw [A48 hiE,E67,E64 hiE];rfl
    rw [eD,eE];rcases M.blk i with h | h
    ·rw [h]
    ·rw [h,C44 M.okD hm ok K6 hi,C5 h1];unfold C7Y;rw [C5 ha,eD,D55]
 ·rw [E7z (by rw [l2,M.len];omega),E7z (by rw [l1];omega)]
end
def C2o:Nat->Dev->Dev->Dev
 | m,w::W,d::D=>if w=d then d::C2o m W D else (if m=0 then d else w)::C2o (m-1) W D
 | _,_,D=>D
def B5u{m:Nat}:C2o m (w::W) (w::D)=w::C2o m W D:=C4 rfl
def B5t{m:Nat}{d:List UInt8}(h:w≠d):C2o m (w::W) (d::D)=(if m=0 then d else w)::C2o (m-1) W D:=C5 h
def D58:A68 (w::W) (w::D) i=A68 W D (i+1):=by
 conv=>lhs;unfold A68
 rw [C4 rfl]
def D57{d:List UInt8}(h:w≠d):A68 (w::W) (d::D) i=((i:Int),w)::A68 W D (i+1):=by
 conv=>lhs;unfold A68
 rw [C5 h]
def B4F:∀ {W D:Dev} {m:Nat},(C2o m W D).length=(l_ D)
 | [],D,m=>by cases D<;>rfl
 | _::_,[],m=>rfl
 | w::W,d::D,m=>by
  by_cases h:w=d
  ·subst h;rw [B5u,E7k,E7k,B4F]
  ·rw [B5t h,E7k,E7k,B4F]
def D7i:∀ {W D:Dev} {m:Nat},W.length=l_ D->(C2o m W D)[j]?=D[j]?\/(C2o m W D)[j]?=W[j]? := by
 induction j with
 | zero =>
  intro W D m hl
  match W,D,hl with
  | [],[],_=>exact .inl rfl
  | w::W,d::D,_ =>
   by_cases h:w=d
   ·subst h;rw [B5u];exact .inl rfl
   ·rw [B5t h];by_cases hm:m=0
    ·rw [C4 hm];exact .inl rfl
    ·rw [C5 hm];exact .inr rfl
 | succ j ih =>
  intro W D m hl
  match W,D,hl with
  | [],[],_=>exact .inl rfl
  | w::W,d::D,hl =>
   have hl':W.length=(l_ D):=by simpa using hl
   by_cases h:w=d
   ·subst h;rw [B5u];simp only [E7u];exact ih hl'
   ·rw [B5t h];simp only [E7u];exact ih hl'
def C5b:∀ {W D:Dev} {m i:Nat},W.length=l_ D->(A68 W D i).length<=m->C2o m W D=W
 | [],[],m,i,_,_=>rfl
 | w::W,d::D,m,i,hl,h=>by
  have hl':W.length=(l_ D):=by simpa using hl
  by_cases e:w=d
  ·subst e;rw [D58] at h;rw [B5u,C5b hl' h]
  ·rw [D57 e,E7k] at h;rw [B5t e,C5 (by omega),C5b hl' (by omega:(A68 W D (i+1)).length<=m-1)]
section
variable {D E:Dev} {n:Int}
def D1q(h0:0<=no):blk O no=(O[no.toNat]?).getD (zeros 256):=by
 unfold blk;rw [C4 h0,E67]
def D3V(hD:okD D)(hm:O6 (l_ D) n=A5){m:Nat}:Mixed D (C2o m (fS D n (E6 D n)) D) n:=by
 obtain ⟨okI,lI⟩:=B9S hD hm;refine ⟨hD,λb hb=>?_,B4F,hm,λno=>?_⟩
 ·obtain ⟨j,hj⟩:=E7O.1 hb;rcases D7i (j:=j) (m:=m) lI with h | h
  ·rw [hj] at h;exact hD b (E7p h.symm)
  ·rw [hj] at h;exact okI b (E7p h.symm)
 ·by_cases h0:0<=no
  ·rw [D1q h0,D1q h0,D1q h0];rcases D7i (j:=no.toNat) (m:=m) lI with h | h
   ·exact .inl (by rw [h])
   ·exact .inr (by rw [h])
  ·left;unfold blk;rw [C5 h0,C5 h0]
def E0G(hD:okD D)(hm:O6 (l_ D) n=A5):(fS D n (E6 D n))[0]?=D[0]? := by
 obtain ⟨b16,_⟩:=G8.1 hm;obtain ⟨_,b512,n8,n128,nm8,nb⟩:=G8.1 hm;have B:=sQ hm;have ok:=eY hD hm;obtain ⟨_,_,_,K6,_⟩:=X9 hD hm;have P:Pend D n (D1 D n) []:=by unfold D1;exact A9I hD (by omega) B.pend
 obtain ⟨s1,s2,s3,s4,s5,s6,s7⟩:=cQ (L:=(D1 D n).row) (c:=D1 D n);have hb:(E6 D n).blocks=(D1 D n).blocks:=s3;rw [B4n hD hm ok K6 (by omega),C5 (by omega)];unfold C7Y;rw [C5 ?_,A4g ?_,E67,E64 (by omega)]
 ·rfl
 ·rw [hb];intro h;have:=(P.dat _ (E7I _ h)).1;rw [show ((0:Nat):Int)=0 from rfl,bR] at this;cases this
 ·unfold B1J;rw [C4 ⟨hm,by omega,by omega⟩,C4 (by omega)];decide
def D91(hl:l_ E=l_ D)(h:E[0]?=D[0]?):B51 E=B51 D/\A9j E=A9j D/\C4J E=C4J D:=by
 have e:E.headD []=D.headD []:=by
  have:∀ O:Dev,O.headD []=(O[0]?).getD []:=λO=>by cases O<;>rfl
  rw [this,this,h]
 unfold B51 A9j C4J;rw [e,hl];exact ⟨rfl,rfl,rfl⟩
def E0H(hD:okD D)(hm:O6 (l_ D) n=A5):kdV (fS D n (E6 D n)) n 1=2:=by
 obtain ⟨b16,b512,n8,n128,nm8,nb⟩:=G8.1 hm;have B:=sQ hm;have ok:=eY hD hm;obtain ⟨_,_,_,K6,_⟩:=X9 hD hm;have hi:P9 (l_ D) n 1=A5:=N1.2 ⟨hm,by omega,by omega⟩;have D5M:=C46 hD hm ok K6 hi;have hlk:((E6 D n).ino.getD (1:Int).toNat []).getD 0 0=((D1 D n).ino.getD (1:Int).toNat []).getD 0 0:=A2j.1;have hk:=C8s (E:=fS D n (E6 D n)) (by rw [B08 hD hm ok];exact hi) (y:=(E6 D n).ino.getD (1:Int).toNat []) (by
  rw [E67,E64 (by rw [K6];omega)];exact ok.ino _ (E7y _)) D5M
 rw [hk.1,hlk];have hrow:(wA (I1 D n) (aX (l_ D) n).toNat).row=[1]:=D4a;unfold D1;generalize wA (I1 D n) (aX (l_ D) n).toNat=c at *;have e1:ofR D n 129 0 c=ofR D n 128 1 (S4 D n c 1):=by
  show (match c.row[0]? with
   | none=>c
   | some a=>ofR D n 128 (0+1) (S4 D n c a))=_
  rw [hrow];rfl
 have g:=zH (D:=D) (n:=n) (a:=1) B.bm;have hg:=B5x (D:=D) (n:=n) (e:=128) (i:=1) g.bm;have wF:RowW n (ofR D n 128 1 (S4 D n c 1)):=A2y (bY B.w);have hat:(ofR D n 128 1 (S4 D n c 1)).row[0]?=A4 1:=vQ (g.row.trans hg.1) (by rw [hrow];rfl);rw [e1,A67 (by omega) (bY B.w) g.bm λj hj he=>?_]
 ·have e2:S4 D n c 1=mD D n c 1:=by unfold S4;rw [C5 (λh=>h.1 rfl)]
  rw [e2,(A5h B.bm).2 (by rw [B.il];omega)];rfl
 ·have:=(List.getElem?_inj (E7b.1 hat).1 wF.nd).1 (hat.trans he.symm);omega
end
section
variable {D:Dev} {n a:Int}
inductive seqT(D:Dev)(n a:Int):List Ent->Cl->Prop where
 | nil (c:Cl):seqT D n a [] c
 | cons (e:Ent) (L:List Ent) (c:Cl) (h1:Q6 D n c e.2=A5) (h2:seqT D n a L (U4 D n c a e.2)):seqT D n a (e::L) c
def seqT.get(h:seqT D n a (e::L) c):Q6 D n c e.2=A5/\seqT D n a L (U4 D n c a e.2):=by
 cases h with
 | cons _ _ _ h1 h2=>exact ⟨h1,h2⟩
def vZ(L:List Ent)(x:Int):Nat:=(L.filter λe=>decide (e.2=x)).length
def D0R(D:Dev)(n a:Int)(c:Cl)(L:List Ent):Cl:=L.foldl (λc e=>U4 D n c a e.2) c
def D0S{i:Int}:Q6 D n c i=A5↔i≠1/\kdV D n i≠0/\(kdV D n i=2->c.par i=A7):=by
 unfold Q6;rw [E7Y,E78,E78,decide_eq_false_iff_not,decide_eq_false_iff_not,Bool.and_eq_false_iff,decide_eq_false_iff_not];constructor
 ·rintro ⟨⟨h1,h2⟩,h3⟩;refine ⟨h1,h2,λhk=>?_⟩;rcases h3 with h | h
  ·exact absurd hk h
  ·cases hp:c.par i with
   | none=>rfl
   | some v=>rw [hp] at h;cases h
 ·rintro ⟨h1,h2,h3⟩;refine ⟨⟨h1,h2⟩,?_⟩;by_cases hk:kdV D n i=2
  ·right;rw [h3 hk];rfl
  ·exact .inl hk
def B5F{i:Int}(h:Q6 D n c i=A5):(U4 D n c a i).par x=if (c.par x).isSome=A5 then c.par x else if x=i then A4 a else A7:=by
 unfold U4;rw [h,R8];cases hs:(c.par i).isSome with
 | true =>
  show c.par x=_;by_cases e:x=i
  ·subst e;rw [C4 hs]
  ·cases hx:c.par x with
   | none=>rw [C5 (by simp),C5 e]
   | some v=>simp
 | false =>
  show A1f c.par i a x=_;unfold A1f;by_cases e:x=i
  ·subst e;rw [C4 rfl,hs,C5 (by decide),C4 rfl]
  ·rw [C5 e];cases hx:c.par x with
   | none=>rw [C5 (by simp),C5 e]
   | some v=>simp
def D9c{i:Int}(h:Q6 D n c i=A5):((U4 D n c a i).lnk x).getD 0=(c.lnk x).getD 0+(if i=x then 1 else 0):=by
 have key:((A2u c i).lnk x).getD 0=(c.lnk x).getD 0+(if i=x then 1 else 0):=by
  show (A1f c.lnk i ((c.lnk i).getD 0+1) x).getD 0=_;unfold A1f;by_cases e:x=i
  ·subst e;rw [C4 rfl,C4 rfl];rfl
  ·rw [C5 e,C5 (λh=>e h.symm)];omega
 unfold U4;rw [h,R8];cases hs:(c.par i).isSome with
 | true=>exact key
 | false=>exact key
structure Told(D:Dev)(n a:Int)(L:List Ent)(c c':Cl):Prop where
 par:∀ x,c'.par x=if (c.par x).isSome=A5 then c.par x else if x∈L.map (·.2) then A4 a else A7
 lnk:∀ x,(c'.lnk x).getD 0=(c.lnk x).getD 0+(vZ L x:Int)
 one:∀ e∈L,e.2≠1/\kdV D n e.2≠0
 dir:∀ e∈L,kdV D n e.2=2->c.par e.2=A7/\vZ L e.2=1
def B5l:vZ (e::L) x=(if e.2=x then 1 else 0)+vZ L x:=by
 unfold vZ;by_cases h:e.2=x
 ·rw [List.filter_cons_of_pos (by simpa using h),C4 h,E7k];omega
 ·rw [List.filter_cons_of_neg (by simpa using h),C5 h];omega
def A9i(h:∃ e∈L,e.2=x):1<=vZ L x:=by
 obtain ⟨e,he,hx⟩:=h;exact List.length_pos_iff.2 (List.ne_nil_of_mem (E7N.2 ⟨he,by simpa using hx⟩))
def C12(h:∀ e∈L,e.2≠x):vZ L x=0:=by
 unfold vZ;rw [List.filter_eq_nil_iff.2 λe he=>by simpa using h e he];rfl
def C5f:∀ {L:List Ent} {c:Cl},seqT D n a L c->Told D n a L c (D0R D n a c L)
 | [],c,_=>⟨λx=>by
   show c.par x=_;cases hx:c.par x with
   | none=>rw [C5 (by simp),C5 (by simp)]
   | some v=>simp,λx=>by show (c.lnk x).getD 0=_+((0:Nat):Int);omega,λe he=>by simp at he,λe he=>by simp at he⟩
 | e::L,c,h=>by
  obtain ⟨hb,hs⟩:=h.get;have ih:=C5f (L:=L) hs;have e1:D0R D n a c (e::L)=D0R D n a (U4 D n c a e.2) L:=rfl;rw [e1];obtain ⟨b1,b2,b3⟩:=D0S.1 hb;have Z2:∀ f∈L,kdV D n f.2=2->f.2≠e.2:=λf hf hk sY=>by
   have:=(ih.dir f hf hk).1;rw [B5F hb] at this;exact absurd this (by
    cases hp:c.par f.2 with
    | none=>rw [C5 (by simp),C4 sY];simp
    | some v=>simp)
  refine ⟨λx=>?_,λx=>?_,λf hf=>?_,λf hf hk=>?_⟩
  ·rw [ih.par,B5F hb];cases hp:c.par x with
   | some v=>simp
   | none =>
    by_cases e2:x=e.2
    ·subst e2;simp
    ·rw [C5 (by simp [e2])];by_cases h3:x∈L.map (·.2)
     ·rw [E7X,C4 h3,C5 (by simp),C4 (E7d _ h3)]
     ·rw [E7X,C5 h3,C5 (by simp),C5 (λh=>(E7m.1 h).elim e2 h3)]
  ·rw [ih.lnk,D9c hb,B5l];by_cases h:e.2=x
   ·rw [C4 h,C4 h];omega
   ·rw [C5 h,C5 h];omega
  ·rcases E7m.1 hf with rfl | hf
   ·exact ⟨b1,b2⟩
   ·exact ih.one f hf
  ·rcases E7m.1 hf with rfl | hf
   ·refine ⟨b3 hk,?_⟩;rw [B5l,C4 rfl,C12 λg hg sY=>Z2 g hg (by rw [sY];exact hk) sY]
   ·obtain ⟨d1,d2⟩:=ih.dir f hf hk;have hn:=Z2 f hf hk;refine ⟨?_,by rw [B5l,C5 (λh=>hn h.symm),d2]⟩;rw [B5F hb] at d1;cases hp:c.par f.2 with
    | none=>rfl
    | some v=>rw [hp] at d1;simp at d1
def E1C:∀ {L:List Ent} {c:Cl},(∀ e∈L,e.2≠1/\kdV D n e.2≠0)->(∀ e∈L,kdV D n e.2=2->c.par e.2=A7/\vZ L e.2=1)->seqT D n a L c
 | [],_,_,_=>.nil _
 | e::L,c,h1,h2=>by
  have hb:Q6 D n c e.2=A5:=D0S.2 ⟨(h1 e (E7e ..)).1,(h1 e (E7e ..)).2,λhk=>(h2 e (E7e ..) hk).1⟩;refine .cons _ _ _ hb (E1C (λf hf=>h1 f (E7d _ hf)) λf hf hk=>?_);obtain ⟨d1,d2⟩:=h2 f (E7d _ hf) hk;have hp:=A9i ⟨f,hf,rfl⟩;rw [B5l] at d2;by_cases he:e.2=f.2
  ·rw [C4 he] at d2;omega
  ·rw [C5 he] at d2;refine ⟨?_,by omega⟩;rw [B5F hb,d1,C5 (by simp),C5 (λh=>he h.symm)]
def C3Y{i:Int}(h:c'.par=c.par):Q6 D n c' i=Q6 D n c i:=by unfold Q6;rw [h]
def D4U{i:Int}(h:c'.par=c.par):(U4 D n c' a i).par=(U4 D n c a i).par:=by
 unfold U4;rw [C3Y h,h];cases Q6 D n c i with
 | false=>exact h
 | true =>
  cases (c.par i).isSome with
  | true=>exact h
  | false=>show A1f c'.par i a=A1f c.par i a;rw [h]
def B8d:∀ {L:List Ent} {c c':Cl},c'.par=c.par->seqT D n a L c->seqT D n a L c'
 | [],_,_,_,_=>.nil _
 | e::L,c,c',h,hs=>.cons _ _ _ (by rw [C3Y h];exact hs.get.1) (B8d (D4U h) hs.get.2)
def D00:∀ {L:List Ent} {c:Cl} {K:List UInt8->Option Int},seqT D n a L c->(O9 D n a (c,K) L).1=D0R D n a c L
 | [],_,_,_=>rfl
 | e::L,c,K,h=>by
  have e1:K4 D n a (c,K) e=(U4 D n c a e.2,B40 K e.1 e.2):=by unfold K4;rw [h.get.1];rfl
  show (O9 D n a (K4 D n a (c,K) e) L).1=D0R D n a (U4 D n c a e.2) L;rw [e1];exact D00 h.get.2
def D0U:∀ {L:List Ent} {c:Cl} {K:List UInt8->Option Int},L.Pairwise (λe f=>e.1≠f.1)->seqT D n a L c->∀ e∈L,(O9 D n a (c,K) L).2 e.1=A4 e.2
 | [],_,_,_,_=>λe he=>by simp at he
 | e::L,c,K,hp,h=>by
  have e1:K4 D n a (c,K) e=(U4 D n c a e.2,B40 K e.1 e.2):=by unfold K4;rw [h.get.1];rfl
  obtain ⟨p1,p2⟩:=List.pairwise_cons.1 hp;intro f hf;show (O9 D n a (K4 D n a (c,K) e) L).2 f.1=A4 f.2;rw [e1];rcases E7m.1 hf with rfl | hf
  ·rw [A7e λg hg h=>p1 g hg h.symm];show B40 K f.1 f.2 f.1=A4 f.2;unfold B40;rw [C4 rfl]
  ·exact D0U p2 h.get.2 f hf
def D4F:∀ {L:List Ent} {c:Cl} {K:List UInt8->Option Int},L.Pairwise (λe f=>e.1≠f.1)->(∀ e∈L,K e.1=A7)->(∀ e∈L,(O9 D n a (c,K) L).2 e.1≠A7)->seqT D n a L c
 | [],_,_,_,_,_=>.nil _
 | e::L,c,K,hp,hK,h=>by
  obtain ⟨p1,p2⟩:=List.pairwise_cons.1 hp;have h0:=h e (E7e ..);have hb:Q6 D n c e.2=A5:=by
   cases hb:Q6 D n c e.2 with
   | true=>rfl
   | false =>
    have e1:K4 D n a (c,K) e=(c,K):=by unfold K4;rw [hb];rfl
    have h0:(O9 D n a (K4 D n a (c,K) e) L).2 e.1≠A7:=h0;rw [e1,A7e λg hg h=>p1 g hg h.symm] at h0;exact absurd (hK e (E7e ..)) h0
  have e1:K4 D n a (c,K) e=(U4 D n c a e.2,B40 K e.1 e.2):=by unfold K4;rw [hb];rfl
  refine .cons _ _ _ hb (D4F (K:=B40 K e.1 e.2) p2 (λf hf=>?_) λf hf=>?_)
  ·unfold B40;rw [C5 λh=>p1 f hf h.symm];exact hK f (E7d _ hf)
  ·have:=h f (E7d _ hf);have:(O9 D n a (K4 D n a (c,K) e) L).2 f.1≠A7:=this;rw [e1] at this;exact this
end
end Go.Proofs.YtbipebfdappanaaGreat
