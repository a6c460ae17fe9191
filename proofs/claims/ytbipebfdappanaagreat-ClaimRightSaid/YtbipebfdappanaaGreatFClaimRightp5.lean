/- What the proof of this claim leans on, part 5. -/
import Derived.Test.YtbipebfdappanaaGreatFClaimRightp4
set_option linter.all false
set_option maxRecDepth 100000
open Go Go.Esc
noncomputable section
open List renaming length→l_,all_cons→E62,all_eq_true→E6X,append_assoc→E6d,append_nil→E6k,cons_append→E6Y,drop_drop→E7e,drop_eq_getElem_cons→E6b,drop_of_length_le→E6f,drop_zero→E6i,ext_getElem?→E7b,filter_cons_of_neg→E6V,filter_cons_of_pos→E6W,flatten_cons→E65,foldl_cons→E64,getD_eq_getElem?_getD→E54,getElem?_append_left→E6H,getElem?_append_right→E6r,getElem?_cons_succ→E6o,getElem?_cons_zero→E6K,getElem?_eq_getElem→E51,getElem?_eq_none→E6u,getElem?_set→E63,getElem?_set_ne→E60,getElem_mem→E6w,length_append→E58,length_cons→E6g,length_nil→E6E,length_replicate→E6y,length_set→E6F,length_take→E6A,map_append→E6Q,map_cons→E6N,mem_append_left→E6C,mem_append_right→E6B,mem_cons→E68,mem_cons_of_mem→E59,mem_cons_self→E6e,mem_of_getElem?→E6n,nil_append→E6s,prefix_refl→E6T,range→E6z,replicate→E55,set_append_right→E6O,take_of_length_le→E6l,take_zero→E6S
open Bool renaming and_eq_true→E53,false_and→E6p,not_eq_true'→E6M,true_and→E6t,false→A6,true→A5
open Int renaming eq_ofNat_of_zero_le→E61,toNat_natCast→E6q
open IntKind renaming wrap→E6a
open Nat renaming add_zero→E7a,le_refl→E56,le_trans→E6J,mul_one→E69,zero_add→E6j
open Option renaming bind_some→E6h,isSome_none→E6Z,isSome_some→E6G,map_some→E6I,none→A7,some→A4
open Option.some renaming injEq→E57
namespace Go.Proofs.YtbipebfdappanaaGreat
variable {no a n d x ino l p many:Int}{c c':Cl}{t L X:List Int}{i k q j mk px:Nat}{D O W:Dev}{b s cur w:List UInt8}{h h0 g:A9}{es:V3}{K:List UInt8->Option Int}{cs:List Cell}{e:Ent}
def B0w(b:List UInt8)(k:Nat)(x:Ent):Bool:=decide (slC (T9 b x.1)=slC (A4 (k,x)))
def C1r(b:List UInt8)(k:Nat)(cur:List UInt8):List UInt8:=match N9 b k with
 | some x=>bif B0w b k x then H5 cur (H7 k) (T6 x.1 x.2) else cur
 | none=>cur
def fixF(b:List UInt8):Nat->Nat->List UInt8->List UInt8
 | 0,_,cur=>cur
 | e+1,k,cur=>fixF b e (k+1) (C1r b k cur)
def B3w(b:List UInt8):List UInt8:=fixF b 7 0 hdB
def A3g(hk:k<7)(hc:cur.length=256):(H5 cur (H7 k) (T6 s n)).length=256:=by
 rw [O2 (by rw [hc,U4];unfold H7;omega)];exact hc
def C2K(hk:k<7)(hc:cur.length=256):(C1r b k cur).length=256:=by
 unfold C1r;split
 ·rename_i x _;cases B0w b k x
  ·exact hc
  ·exact A3g hk hc
 ·exact hc
def C2J{b:List UInt8}:∀ (e k:Nat) (cur:List UInt8),k+e<=7->cur.length=256->(fixF b e k cur).length=256
 | 0,_,_,_,hc=>hc
 | e+1,k,cur,h,hc=>C2J e (k+1) _ (by omega) (C2K (by omega) hc)
def B8X:(B3w b).length=256:=C2J 7 0 hdB (by omega) oH
def D7q(hk:k<7):B0y cur (H7 k:Nat) (T6 s n)=H5 cur (H7 k) (T6 s n):=by
 unfold B0y;have:H7 k<256:=by unfold H7;omega
 rw [if_pos ⟨by omega,by omega⟩,E6q,E6l (by rw [U4];unfold H7;omega)]
def E2X{c:Int}{t:List UInt8}{m:Int}:aeq A6 [.i .i64,.s,.i .i64] (.a [cI a,.s s,cI m]) (.a [cI c,.s t,cI n])=A4 (bV (decide ([cI a,.s s,cI m]=[cI c,.s t,cI n]))):=by
 simp only [aeq];rw [if_pos ⟨rfl,rfl⟩];simp
def E06{o p:Option Slt}:aeq A6 [.i .i64,.s,.i .i64] (.a (slC o)) (.a (slC p))=A4 (bV (decide (slC o=slC p))):=by
 cases o<;>cases p<;>exact E2X
def E1z{rb ro:Nat}{B:A9}(hk:k<7)(hs:l_ s<=24)(hb:l_ b=256)(hc:cur.length=256)(hlow:Low (l_ B) B h)(hB:l_ B<=ro)
  (h1:rd h rb=rT (B5 b)) (h2:rd h ro=rT (B5 cur)) :
  ∃ h',wC [.a [cI (k:Int),.s s,cI n],pV rb 0,pV ro 0] h=A4 (bV A5,h')/\Low (l_ B) B h'/\(∀ id,id≠ro->id<l_ h->rd h' id=rd h id)/\(l_ h)<=(l_ h') /\
   rd h' ro=rT (B5 (bif B0w b k (s,n) then H5 cur (H7 k) (T6 s n) else cur)):=by
 have hbl:(B5 b).length=256:=by rw [B6,hb]
 have oG:(B5 cur).length=256:=by rw [B6,hc]
 have s1:=λt=>C7 (h:=h++t) (B7 h1) hbl
 have s2:=λt=>C7 (h:=h++t) (B7 h2) oG
 have hF:=λh=>xN (b:=b) (nm:=s) (h:=h) hb
 have hSl:=jJ (o:=T9 b s);have hq:aeq A6 [.i .i64,.s,.i .i64] (.a (slC (T9 b s))) (.a [cI (k:Int),.s s,cI n])=A4 (bV (B0w b k (s,n))):=E06 (p:=A4 (k,(s,n)));have W5:=E1 h2;cases ck:B0w b k (s,n) with
 | false =>
  rw [ck] at hq;refine ⟨h++[rT [cI (k:Int),.s s,cI n],rT (slC (T9 b s))],A5N (n:=0) ?_,hlow.new _,λid hid hl=>D3 hl,by simp,B7 h2⟩;rw [A5G];generalize slC (T9 b s)=S at *;generalize B5 b=y at *;simp only [esc,esh,Nat.reduceAdd,Nat.reduceMul,Nat.reduceLT,s1,hF,hSl,hq,A4x]
 | true =>
  rw [ck] at hq;have hfi:=λh=>jO (h:=h) hk
  have E5i:ldN (rT [cI (k:Int),.s s,cI n]) 1 2=A4 (.a [.s s,cI n]):=rfl;have hW:=λh=>mD (s:=s) (n:=n) (h:=h) (by omega)
  have hLy:=B0A (v:=sV (l_ h+2) 0 32 1) (nv:=32) (data:=T6 s n) (l:=cur) (h:=h++[rT [cI (k:Int),.s s,cI n],rT (slC (T9 b s)),rT (B5 (T6 s n))]) (Has.row (rw:=A5) (by simp) (by rw [B6,U4]) (W1 _)) hc (by rw [U4];omega) (a:=(H7 k:Nat));rw [D7q hk] at hLy;have hn1:(B5 (H5 cur (H7 k) (T6 s n))).length=256:=by rw [B6];exact A3g hk hc
  have s3:=λt=>storeAll (h:=h++t) (xs:=B5 (H5 cur (H7 k) (T6 s n))) (B7 h2) oG hn1
  refine ⟨(h++[rT [cI (k:Int),.s s,cI n],rT (slC (T9 b s)),rT (B5 (T6 s n))]).set ro (rT (B5 (H5 cur (H7 k) (T6 s n)))),A5N (n:=0) ?_,(hlow.new _).set hB _,λid hid hl=>by rw [B8 (Ne.symm hid)];exact D3 hl,by simp,D6 (by simp;omega)⟩;rw [A5G];generalize H5 cur (H7 k) (T6 s n)=N at *;generalize T6 s n=E at *;generalize slC (T9 b s)=S at *;generalize B5 b=y at *;simp only [esc,esh,Nat.reduceAdd,Nat.reduceMul,Nat.reduceLT,s1,s2,hF,hSl,hq,hfi,E5i,hW,E3Q,hLy,s3,A4x]
def C5R{b:List UInt8}{r0 rb ro q:Nat}{B:A9}(hb:l_ b=256)(h0o:r0≠ro)(hbo:rb≠ro)(hBo:l_ B<=ro):∀ (e k m:Nat) (h:A9) (cur:List UInt8),k+e=7->e<m->cur.length=256->Low (l_ B) B h ->
  rd h rb=rT (B5 b)->rd h ro=rT (B5 cur)->rd h r0=rT (B5 b) ->
  ∃ h',zK q m (.c (.f 174 [(rb,0),(ro,0)])) (pV r0 0) (iV (k:Int)) h=A4 (.t [],h')/\Low (l_ B) B h'/\rd h' ro=rT (B5 (fixF b e k cur))
 | e,k,0,h,cur,_,hm,_,_,_,_,_=>by omega
 | 0,k,m+1,h,cur,hk,hm,hc,hlow,h1,h2,h0=>by
  have e0:k=7:=by omega
  subst e0;have c0:¬ ((7:Nat):Int)<7:=by omega
  refine ⟨h,?_,hlow,h2⟩;rw [rR];simp only [esc,c0]<;>rfl
 | e+1,k,m+1,h,cur,hk,hm,hc,hlow,h1,h2,h0=>by
  have c0:(k:Int)<7:=by omega
  have hbl:(B5 b).length=256:=by rw [B6,hb]
  have s1:=C7 (h:=h) (id:=r0) h0 hbl;have hR:=A4y (h:=h) (k:=k) hb (by omega);have w1:=D9 (a:=k) (by omega);have hcv:∀ (x:Val) (h:A9),aD A1d (.c (.f 174 [(rb,0),(ro,0)])) [x] h=wC [x,pV rb 0,pV ro 0] h:=λ_ _=>Eq.trans rfl rfl
  rw [rR,fixF];cases hx:N9 b k with
  | none =>
   have ef:C1r b k cur=cur:=by unfold C1r;rw [hx]
   rw [hx] at hR;rw [ef];obtain ⟨h',f1,f2⟩:=C5R (q:=q) hb h0o hbo hBo e (k+1) m (h++[rT ([.s [],o0])]) cur (by omega) (by omega) hc (hlow.new _) (B7 h1) (B7 h2) (B7 h0);refine ⟨h',?_,f2⟩;generalize B5 b=y at *;simp only [esc,esh,Nat.reduceAdd,Nat.reduceMul,Nat.reduceLT,c0,s1,hR,W0,E6Z,w1];exact f1
  | some en =>
   obtain ⟨s,n⟩:=en;have ef:C1r b k cur=bif B0w b k (s,n) then H5 cur (H7 k) (T6 s n) else cur:=by unfold C1r;rw [hx]
   rw [hx] at hR;have hs:l_ s<=24:=by
    unfold N9 at hx;cases hu:gA (nameB b k) with
    | none=>rw [hu] at hx;cases hx
    | some s' =>
     rw [hu,E6h] at hx;split at hx
     ·cases hx;exact (bE (A3s hu)).2
     ·cases hx
   have eaf:F5 [o0,.s [],o0] [(0,1,iV (k:Int)),(1,2,.a [.s s,cI n])]=A4 [cI (k:Int),.s s,cI n]:=rfl;obtain ⟨hh,g1,g2,g3,g4,g5⟩:=E1z (n:=n) (show k<7 by omega) hs hb hc (hlow.new [rT [.s s,cI n]]) hBo (B7 h1) (B7 h2);rw [<-ef] at g5;have E5Y:=E1 h1;have E5m:=E1 h0;obtain ⟨h',f1,f2⟩:=C5R (q:=q) hb h0o hbo hBo e (k+1) m hh (C1r b k cur) (by omega) (by omega) (C2K (by omega) hc) g2 (by rw [g3 rb hbo (by simp;omega)];exact B7 h1) g5 (by rw [g3 r0 h0o (by simp;omega)];exact B7 h0);refine ⟨h',?_,f2⟩;generalize B5 b=y at *;simp only [esc,esh,Nat.reduceAdd,Nat.reduceMul,Nat.reduceLT,c0,s1,hR,W0,E6G,eaf,hcv,g1,w1];exact f1
def C7T(hb:l_ b=256):A9O [.a (B5 b)] h=A4 (.a (B5 (B3w b)),h):=by
 have key:∀ g,∃ g',A9p 0 [.a (B5 b)] g=A4 (.a (B5 (B3w b)),g'):=by
  intro g;have hbl:(B5 b).length=256:=by rw [B6,hb]
  have hz:(B5 (zeros 256)).length=256:=by rw [B6];exact zeros_length
  have hd:(B5 hdB).length=256:=by rw [B6];exact oH
  have hxl:(B5 (B3w b)).length=256:=by rw [B6];exact B8X
  have hH:=λh=>B28 (h:=h)
  have emk:A3f 174 [pV (l_ g) 0,pV (l_ g+2) 0]=A4 (.c (.f 174 [(l_ g,0),(l_ g+2,0)])):=rfl;obtain ⟨h',f1,f2,f3⟩:=C5R (b:=b) (r0:=l_ g+3) (rb:=l_ g) (ro:=l_ g+2) (q:=8) (B:=g++[rT (B5 b),rT (B5 (zeros 256))]) hb (by omega) (by omega) (by simp) 7 0 8 (g++[rT (B5 b),rT (B5 (zeros 256)),rT (B5 hdB),rT (B5 b)]) hdB (by omega) (by omega) oH
   (by have:=(Low.refl (h:=g++[rT (B5 b),rT (B5 (zeros 256))]) (E56 _)).new [rT (B5 hdB),rT (B5 b)];simpa using this) (by simp) (by simp) (by simp)
  have hS:nA [.a (B5 b),.c (.f 174 [(l_ g,0),(l_ g+2,0)])] (g++[rT (B5 b),rT (B5 (zeros 256)),rT (B5 hdB)])=A4 (.t [],h'):=by
   refine A7Z (n:=8) ?_;rw [A7Q];simp only [esc,esh,Nat.reduceAdd,Nat.reduceMul,Nat.reduceLT];exact f1
  have hr:rd h' (l_ g+1)=rT (B5 (zeros 256)):=by rw [f2.2.2 _ (by simp)];simp
  change rd h' (l_ g+2)=rT (B5 (B3w b)) at f3;have t1:=C7 (n:=256) f3 hxl;have t2:=storeAll (n:=256) (xs:=B5 (B3w b)) hr hz hxl;have t3:=C7 (n:=256) (D6 (x:=rT (B5 (B3w b))) (E1 hr)) hxl;rw [C29,J3];generalize B3w b=X at *;generalize hdB=H at *;generalize zeros 256=z at *;generalize B5 b=y at *;exact ⟨_,by simp only [esc,esh,Nat.reduceAdd,Nat.reduceMul,Nat.reduceLT,hbl,hH,hz,hd,emk,hS,t1,t2,t3]<;>rfl⟩
 obtain ⟨g',e⟩:=key (ro h);exact B77 e (by simp)
def A4X(b:List UInt8):Bool:=decide (B3w b=b)
def C3P(hb:l_ b=256):wD [.a (B5 b)] h=A4 (bV (A4X b),h):=by
 have key:∀ g,∃ g',A3W 0 [.a (B5 b)] g=A4 (bV (A4X b),g'):=by
  intro g;have hbl:(B5 b).length=256:=by rw [B6,hb]
  have hF:=λh=>C7T (h:=h) hb
  have hE:aeq A6 (E55 256 (.i .u8)) (.a (B5 (B3w b))) (.a (B5 b))=A4 (bV (A4X b)):=by
   have hxl:=B8X (b:=b);simp only [aeq];rw [if_pos ⟨by rw [B4I,hxl],by rw [B4I,hb]⟩];unfold A4X;simp [C5U]
  rw [B7T];generalize A4X b=D at *;generalize B5 (B3w b)=x at *;generalize B5 b=y at *;exact ⟨_,by simp only [esc,esh,Nat.reduceAdd,Nat.reduceMul,Nat.reduceLT,hbl,hF,hE]<;>rfl⟩
 obtain ⟨g',e⟩:=key (ro h);exact B48 e rfl
def C9n{l xs:List UInt8}{a c n:Nat}(h:a+l_ xs<=l_ l)(hd:c+n<=a\/a+l_ xs<=c):((H5 l a xs).drop c).take n=(l.drop c).take n:=by
 apply E7b;intro j;rw [List.getElem?_take,List.getElem?_take];split
 ·rename_i hj;rw [List.getElem?_drop,List.getElem?_drop,C6u h,if_neg (by omega)]
 ·rfl
def C9K{e:List UInt8}(hc:cur.length=256)(he:e.length=32)(hj:j<7)(hk:k<7):gX (H5 cur (H7 j) e) k=if k=j then e else gX cur k:=by
 have kX:H7 j+e.length<=cur.length:=by rw [hc,he];unfold H7;omega
 unfold gX;by_cases c:k=j
 ·subst c;rw [if_pos rfl,<-he];exact D2F kX
 ·rw [if_neg c];exact C9n kX (by rw [he];unfold H7;omega)
def D3n(sl:List UInt8):Option Ent:=(gA ((sl.drop 2).take 25)).bind λs=>if (B5n s ((le (sl.take 2):Nat):Int)&&decide (T6 s ((le (sl.take 2):Nat):Int)=sl))=A5 then A4 (s,((le (sl.take 2):Nat):Int)) else A7
def D5e:N9 b k=D3n (gX b k):=by
 have e1:((gX b k).drop 2).take 25=nameB b k:=by
  unfold gX nameB;rw [List.drop_take,E7e,List.take_take];rfl
 have e2:(((le ((gX b k).take 2):Nat)):Int)=xL b k:=by
  unfold gX xL fieldN;rw [List.take_take];rfl
 unfold N9 D3n isE;rw [e1,e2]
def unpack_pack(hf:aE s=A5):gA (gU s)=A4 s:=by
 have hl:=(bE hf).2;have hp:gU s=UInt8.ofNat (l_ s)::(s++zeros (24-l_ s)):=by unfold gU A4W;rw [hf,cond_true,List.take_length]
 have hn:((gU s).headD 0).toNat=(l_ s):=by
  rw [hp,List.headD_cons,UInt8.toNat_ofNat'];omega
 have hd:((gU s).drop 1).take (l_ s)=s:=by
  rw [hp,List.drop_succ_cons,E6i,List.take_left]
 unfold gA;rw [hn,if_pos hl,hd,if_pos ⟨hf,rfl⟩]
def D7Z(hm:B5n s n=A5):D3n (T6 s n)=A4 (s,n):=by
 have hm2:=hm;unfold B5n at hm2;simp only [E53,decide_eq_true_eq] at hm2;obtain ⟨hf,h1,h2⟩:=hm2;have e1:((T6 s n).drop 2).take 25=gU s:=by
  unfold T6;rw [E6d,List.drop_left' R2,List.take_left' pR]
 have e2:(((le ((T6 s n).take 2):Nat)):Int)=n:=by
  unfold T6;rw [E6d,List.take_left' R2];have:=B4M 2 n;rw [this];omega
 unfold D3n;rw [e1,e2,unpack_pack hf,E6h,hm,decide_eq_true rfl];rfl
def C2Z:D3n (zeros 32)=A7:=by decide +kernel
def D8c:∀ k,k<7->gX hdB k=zeros 32:=by decide +kernel
def C2I{b nm:List UInt8}{i:Nat}{x:Ent}(hi:N9 b i=A4 x)(hx:x.1=nm):∀ (e k:Nat),k<=i->i<k+e->(∀ j y,k<=j->j<i->N9 b j=A4 y->y.1≠nm)->X0 b nm e k=A4 (i,x)
 | 0,k,h1,h2,_=>by omega
 | e+1,k,h1,h2,E1H=>by
  by_cases c:k=i
  ·subst c;obtain ⟨s,n⟩:=x;simp only at hx;subst hx;exact xW hi
  ·have ih:=C2I hi hx e (k+1) (by omega) (by omega) (λj y h3 h4=>E1H j y (by omega) h4);cases hr:N9 b k with
   | none=>rw [kD hr];exact ih
   | some y =>
    obtain ⟨s,n⟩:=y;rw [kC hr (E1H k (s,n) (E56 _) (by omega) hr)];exact ih
def E2M(o:Option Ent)(d:List UInt8):List UInt8:=match o with
 | some x=>T6 x.1 x.2
 | none=>d
def C1M{x:Ent}(hx:N9 b k=A4 x):B5n x.1 x.2=A5:=by
 unfold N9 at hx;cases hu:gA (nameB b k) with
 | none=>rw [hu] at hx;cases hx
 | some s' =>
  rw [hu,E6h] at hx;split at hx
  ·rename_i hc;cases hx;unfold isE at hc;rw [E53] at hc;exact hc.1
  ·cases hx
def A3j{b nm:List UInt8}:∀ (e k:Nat) {x:Slt},X0 b nm e k=A4 x->N9 b x.1=A4 x.2/\x.2.1=nm/\k<=x.1/\x.1<k+e/\∀ j y,k<=j->j<x.1->N9 b j=A4 y->y.1≠nm
 | 0,k,x,h=>by cases h
 | e+1,k,x,h=>by
  cases hx:N9 b k with
  | none =>
   rw [kD hx] at h;obtain ⟨h1,h2,h3,h4,h5⟩:=A3j e (k+1) h;refine ⟨h1,h2,by omega,by omega,λj y hj hj2 hy=>?_⟩;by_cases c:j=k
   ·subst c;rw [hx] at hy;cases hy
   ·exact h5 j y (by omega) hj2 hy
  | some z =>
   obtain ⟨s,n⟩:=z;by_cases c:s=nm
   ·subst c;rw [xW hx] at h;cases h;exact ⟨hx,rfl,E56 _,by show k<_;omega,λj y hj hj2=>by have:j<k:=hj2;omega⟩
   ·rw [kC hx c] at h;obtain ⟨h1,h2,h3,h4,h5⟩:=A3j e (k+1) h;refine ⟨h1,h2,by omega,by omega,λj y hj hj2 hy=>?_⟩;by_cases c2:j=k
    ·subst c2;rw [hx] at hy;cases hy;exact c
    ·exact h5 j y (by omega) hj2 hy
def B3v{b nm:List UInt8}:∀ (e k:Nat),X0 b nm e k=A7->∀ j y,k<=j->j<k+e->N9 b j=A4 y->y.1≠nm
 | 0,k,h,j,y,h1,h2,_=>by omega
 | e+1,k,h,j,y,h1,h2,hy=>by
  cases hx:N9 b k with
  | none =>
   rw [kD hx] at h;by_cases c:j=k
   ·subst c;rw [hx] at hy;cases hy
   ·exact B3v e (k+1) h j y (by omega) (by omega) hy
  | some z =>
   obtain ⟨s,n⟩:=z;by_cases c:s=nm
   ·subst c;rw [xW hx] at h;cases h
   ·rw [kC hx c] at h;by_cases c2:j=k
    ·subst c2;rw [hx] at hy;cases hy;exact c
    ·exact B3v e (k+1) h j y (by omega) (by omega) hy
def A4I{b nm:List UInt8}:∀ (e k:Nat),(∀ j y,k<=j->j<k+e->N9 b j=A4 y->y.1≠nm)->X0 b nm e k=A7
 | 0,k,_=>rfl
 | e+1,k,h=>by
  have ih:=A4I e (k+1) λj y h1 h2 hy=>h j y (by omega) (by omega) hy
  cases hx:N9 b k with
  | none=>rw [kD hx];exact ih
  | some z =>
   obtain ⟨s,n⟩:=z;rw [kC hx (h k (s,n) (E56 _) (by omega) hx)];exact ih
def D6S{b id n:Nat}(hb:b<=id)(hr:rd h id=rT cs)(hf:N8 cs=A5) :
  Y2 h b (.t [.a [cI a,.sl id 0 n 1],.c o0])=A4 (.t [.a [cI a,.sl b 0 n 1],.c o0],[id]):=by
 have h1:¬ id<b:=by omega
 have hc1:Q2 h b [] [cI a,.sl id 0 n 1]=A4 ([cI a,.sl b 0 n 1],[id]):=by
  simp [Q2,Cell.low,Cell.flat,pP hr hf,h1,hb]
 have hc2:Q2 h b [id] [o0]=A4 ([o0],[id]):=iM (by simp);simp only [Y2,jB,hc1,hc2,E6h,E6I]
def E27{x:Cell}:F5 [o0,.ns] [(0,1,iV a),(1,1,.c x)]=A4 [cI a,x]:=rfl
def C5n{id n:Nat}(hk:k<7)(hid:id<l_ h):A65 [iV (k:Int),iV 0,sV id 0 n 1] h=A4 (.t [.a [cI (H7 k:Nat),.sl id 0 n 1],.c o0],h):=by
 have key:∀ g,∃ g',A6J 0 [iV (k:Int),iV 0,sV id 0 n 1] g=A4 (.t [.a [cI (H7 k:Nat),.sl id 0 n 1],.c o0],g'):=by
  intro g;have c1:¬ (k:Int)<0:=by omega
  have c2:¬ 7<=(k:Int):=by omega
  have hF:=λh=>jO (h:=h) hk
  have w1:E6a .i64 (((H7 k:Nat):Int)+0)=((H7 k:Nat):Int):=by unfold H7;rw [wrap_i64 (by omega) (by omega)];omega
  rw [B99];exact ⟨_,by simp only [esc,esh,Nat.reduceAdd,c1,c2,hF,w1,E27]<;>rfl⟩
 obtain ⟨g',e⟩:=key (ro h);exact B8c e (by simp [Val.low,Cell.low,Cell.flat,hid])
def C7V(hs:l_ s<9223372036854775807)(hk:k<7)(hm:B5n s n=A5):A9Q [iV (k:Int),.a [.s s,cI n]] h=A4 (.t [.a [cI (H7 k:Nat),.sl (l_ h) 0 32 1],.c o0],h++[rT (B5 (T6 s n))]):=by
 have key:∀ g,∃ g',A9r 0 [iV (k:Int),.a [.s s,cI n]] g=A4 (.t [.a [cI (H7 k:Nat),.sl (l_ g+2) 0 32 1],.c o0],g')/\rd g' (l_ g+2)=rT (B5 (T6 s n)):=by
  intro g;have c1:0<=(k:Int):=by omega
  have c2:(k:Int)<7:=by omega
  have hM:=λh=>A7r (s:=s) (n:=n) (h:=h) hs
  rw [hm] at hM;have hW:=λh=>mD (s:=s) (n:=n) (h:=h) hs
  have hL:=C5n (k:=k) (id:=l_ g+2) (n:=32) (h:=g++[rT [.s s,cI n],rT [o0,.ns],rT (B5 (T6 s n))]) hk (by simp);rw [C3b];generalize T6 s n=E at *;exact ⟨_,by simp only [esc,esh,Nat.reduceAdd,c1,c2,hM,hW,hL]<;>rfl,by simp⟩
 obtain ⟨g',e,hr⟩:=key (ro h);rw [H6] at hr;have:=B8b e (D6S (b:=l_ h) (by rw [H6];omega) (by rw [H6];exact hr) (by simp));rw [this,H6];simp [hr]
def MapK(es:V3)(K:List UInt8->Option Int):Prop:=(∀ e∈es,∃ s,e.1=Cell.s s)/\∀ s,(A81 (.s s) es).map (·.2)=(K s).map λv=>Part.c (cI v)
def B4j(K:List UInt8->Option Int)(a:List UInt8)(v:Int):List UInt8->Option Int:=λs=>if s=a then A4 v else K s
def MapK.nil:MapK [] λ_=>A7:=⟨λe he=>by simp at he,λs=>rfl⟩
def MapK.put(hm:MapK es K)(a:List UInt8)(v:Int):MapK (A82 (.s a) (.c (cI v)) es) (B4j K a v):=by
 refine ⟨C1A (Q:=λc=>∃ s,c=.s s) ⟨a,rfl⟩ hm.1,λs=>?_⟩;unfold B4j;by_cases c:s=a
 ·subst c;rw [if_pos rfl,(A3E (k':=.mh)).1];rfl
 ·rw [if_neg c,(A3E (k:=.s a) (k':=.s s)).2 (by simpa using c)];exact hm.2 s
def E4y{mid:Nat}{a:List UInt8}(hr:rd h mid=A4 (P6 es))(hm:MapK es K):xJ h A7 (.c o0) A6 (.c (.m mid)) (.c (.s a))=A4 (.c (cI ((K a).getD 0))):=by
 simp only [xJ,B9j,D0P,hr,E6h,pO];rw [if_pos (D57 hm.1)];have h2:=hm.2 a;cases hg:A81 (.s a) es with
 | none =>
  rw [hg] at h2;cases hF:K a with
  | none=>rfl
  | some v=>rw [hF] at h2;cases h2
 | some ip =>
  obtain ⟨i,p⟩:=ip;rw [hg] at h2;cases hF:K a with
  | none=>rw [hF] at h2;cases h2
  | some v=>rw [hF] at h2;simp at h2;subst h2;rfl
def E5D{mid:Nat}{a:List UInt8}(hr:rd h mid=A4 (P6 es))(hm:MapK es K):A2A h A7 (.c (.m mid)) (.c (.s a)) (.c (cI x))=A4 (h.set mid (A4 (P6 (A82 (.s a) (.c (cI x)) es)))):=by
 simp only [A2A,B9j,C2Y,hr,E6h,pO];rw [if_pos (D57 hm.1)]
def U9(D:Dev)(X:List Int)(no:Int)(K:List UInt8->Option Int)(x:Slt):Bool:=atH D X (no,x)&&decide ((K x.2.1).getD 0=x.2.2)
def eQ(D:Dev)(X:List Int)(no:Int)(K:List UInt8->Option Int)(s:Cl × List UInt8)(x:Slt):Cl × List UInt8 :=
 bif U9 D X no K x then (s.1,H5 s.2 (H7 x.1) (T6 x.2.1 x.2.2)) else ({ s.1 with lost:=s.1.lost+1 },s.2)
def U7(D:Dev)(X:List Int)(no:Int)(K:List UInt8->Option Int)(s:Cl × List UInt8)(l:List Slt):Cl × List UInt8:=l.foldl (eQ D X no K) s
def C83{s:Cl × List UInt8}{x:Slt}(hs:s.2.length=256)(hk:x.1<7):(eQ D X no K s x).2.length=256:=by
 unfold eQ;cases U9 D X no K x with
 | false=>exact hs
 | true=>rw [cond_true];dsimp only;rw [O2 (by rw [hs,U4];unfold H7;omega)];exact hs
def C5J{s:Cl × List UInt8}{x:Slt}:s.1.lost<=(eQ D X no K s x).1.lost/\(eQ D X no K s x).1.lost<=s.1.lost+1:=by
 unfold eQ;cases U9 D X no K x<;>simp<;>omega
section
variable {D:Dev} {n m:Int} {f:Cell} {g:A9} {r:Nat} {h:A9}
def LocV.more{t:A9}{id:Nat}(hr:r<l_ h)(a:LocV h r id cs):LocV (h++t) r id cs :=
 a.fr (Fr.low ((Low.refl (E56 _)).new _) hr)
def LocM(h:A9)(r id:Nat)(es:V3):Prop:=Loc h r id/\rd h id=A4 (P6 es)
def LocM.fr{h':A9}{id:Nat}(a:LocM h r id es)(b:Fr r h h'):LocM h' r id es:=by
 obtain ⟨h1,h2⟩:=b.loc a.1;exact ⟨h1,by rw [h2];exact a.2⟩
def LocM.set{id j:Nat}{es:V3}{x:Option Row}(a:LocM h r id es)(hj:j≠id)(hl:j≠r):LocM (h.set j x) r id es:=by
 refine ⟨⟨by simpa using a.1.1,a.1.2.1,λhn=>a.1.2.2 ((Nam.same (B8 hl)).1 hn)⟩,by rw [B8 hj];exact a.2⟩
def D4m{l:List Slt}{p8 p9 lst:Nat}(hD:okD D)(hv:IsView g f D)(ht:l_ t=32)(hK:MapK es K)(h0g:l_ g<=h0.length)(a8:h0.length<=p8)(a9:h0.length<=p9)
  (n1:p9≠mk) (n2:p9≠px) (n3:p9≠p8) (n4:p9≠lst) (hl7:l_ l<=7) (hsl:∀ x∈l,x.1<7/\x.2.1.length<=24/\B5n x.2.1 x.2.2=A5) :
  ∀ (e j M:Nat) (s:Cl × List UInt8) (h:A9),j+e=l_ l->e<M->s.2.length=256->0<=s.1.lost->s.1.lost+e<=1000000->WP D n m f g r s.1 h->Fr r h0 h->LocM h r mk es->LocV h r px (encI (d::t))->(∃ z,z.length=256/\LocV h r p8 z)->LocV h r p9 (B5 s.2)->LocV h r lst (pU l) ->
  ∃ h',dB q M (.c (.p r 0)) (.c (cI no)) (.c (.m mk)) (.c (.p px 0)) (.c (.p p8 0)) (.c (.p p9 0)) (.c (.sl lst 0 (l_ l) 3)) (.c (cI (l_ l:Nat))) (.c (cI (j:Int))) h=A4 (.a (B5 (U7 D (d::t) no K s (l.drop j)).2),h')/\WP D n m f g r (U7 D (d::t) no K s (l.drop j)).1 h'/\Fr r h0 h':=by
 intro e
 induction e with
 | zero =>
  intro j M s h hj hM hs l0 l1 P F hm hx hz hb hl;obtain ⟨M,rfl⟩:=aP M (by omega);have c0:¬ ((j:Int)<(l_ l:Nat)):=by omega
  obtain ⟨z,hzl,hz⟩:=hz;have hbl:(B5 s.2).length=256:=by rw [B6,hs]
  have q1:=C7 (n:=256) hb.2 hbl;have s1:=storeAll (n:=256) (xs:=B5 s.2) hz.2 hzl hbl;have hz2:=hz.self (cs':=B5 s.2);have q2:=C7 (n:=256) hz2.2 hbl;rw [E6f (by omega)];refine ⟨h.set p8 (rT (B5 s.2)),?_,P.set hz.1 (by omega),F.set hz.1 a8⟩;rw [fN];show _=A4 (Val.a (B5 s.2),_);generalize B5 s.2=B at *;simp only [esc,c0,q1,s1,q2]
 | succ e ih =>
  intro j M s h hj hM hs l0 l1 P F hm hx hz hb hl;obtain ⟨M,rfl⟩:=aP M (by omega);have hjl:j<(l_ l):=by omega
  have c0:((j:Int)<(l_ l:Nat)):=by omega
  have hv2:=hv.get;have ad:E9 3 (.c (.sl lst 0 (l_ l) 3)) (.c (cI (j:Int)))=A4 (.c (.p lst (j*3))):=by rw [E3 hjl];simp
  have hlen:=uV (l:=l);have w1:=D9 (a:=j) (by omega);obtain ⟨x,hxe⟩:=xEq (l[j]);have hxj:l[j]?=A4 x:=by rw [hxe];exact E51 hjl
  obtain ⟨x7,x24,xm⟩:=hsl x (by rw [hxe];exact E6w hjl);have l3:D1 h 3 (.c (.p lst (j*3)))=A4 (.a (slC (A4 x))):=by rw [T1 hl.2 (by rw [hlen];omega) rfl,D1f hxj]
  have oG:=C83 (D:=D) (X:=d::t) (no:=no) (K:=K) (s:=s) (x:=x) hs x7;have hlo:=C5J (D:=D) (X:=d::t) (no:=no) (K:=K) (s:=s) (x:=x);rw [E6b hjl,<-hxe];have er:∀ T,U7 D (d::t) no K s (x::T)=U7 D (d::t) no K (eQ D (d::t) no K s x) T:=λT=>rfl
  rw [er];obtain ⟨k,nm,i⟩:=x;dsimp only at x7 x24 xm;obtain ⟨h1,e1⟩:=xEq (h++[rT (slC (A4 (k,nm,i)))]);have s3:F9 (h++[rT [o0,.s [],o0]]) 3 (.c (.p (l_ h) 0)) (.a (slC (A4 (k,nm,i))))=A4 h1:=by rw [G9,e1];rfl
  have P1:WP D n m f g r s.1 h1:=e1 ▸ P.more hv2 _;have hx1:LocV h1 r px (encI (d::t)):=e1 ▸ hx.more P.rlt;have lX:D1 h1 33 (.c (.p px 0))=A4 (.a (encI (d::t))):=C7 hx1.2 (by simp [C1,ht]);have lN:B9 h1 (.c (.p (l_ h) 1))=A4 (.c (.s nm)):=by rw [e1,I7];rfl
  have hH:=D53 (n:=n) (m:=m) (f:=f) (r:=r) (d:=d) (t:=t) (nm:=nm) (h:=h1) hD (hv.since P1.lo) (P1.vw hv2) ht (by omega);obtain ⟨h2,e2⟩:=xEq (h1++[rT (C1S (R6 (d::t) nm) (hmS D (d::t) nm))]);have s4:F9 (h1++[rT [o0,o0,.s [],o0]]) 4 (.c (.p h1.length 0)) (.a (C1S (R6 (d::t) nm) (hmS D (d::t) nm)))=A4 h2:=by
   rw [G9,e2];cases hmS D (d::t) nm<;>rfl
  have e12:h2=h++[rT (slC (A4 (k,nm,i))),rT (C1S (R6 (d::t) nm) (hmS D (d::t) nm))]:=by rw [e2,e1];simp
  have F2:Fr r h h2:=by rw [e12];exact Fr.low ((Low.refl (E56 _)).new _) P.rlt
  have P2:WP D n m f g r s.1 h2:=by rw [e12];exact P.more hv2 _
  have m2:=hm.fr F2;have x2:=hx.fr F2;have b2:=hb.fr F2;have ls2:=hl.fr F2;obtain ⟨z,hzl,hz⟩:=hz;have z2:=hz.fr F2;have lB:B9 h2 (.c (.p h1.length 0))=A4 (.c (cI (R6 (d::t) nm))):=by rw [e2,I7];rfl
  have lS:D1 h2 3 (.c (.p h1.length 1))=A4 (.a (slC (hmS D (d::t) nm))):=by rw [e2,G8];cases hmS D (d::t) nm<;>rfl
  have rp:rd h2 (l_ h)=rT (slC (A4 (k,nm,i))):=by rw [e2,e1];simp
  have lP:D1 h2 3 (.c (.p (l_ h) 0))=A4 (.a (slC (A4 (k,nm,i)))):=C7 rp rfl;have lP0:B9 h2 (.c (.p (l_ h) 0))=A4 (.c (cI (k:Int))):=C4 rp rfl rfl;have lP1:B9 h2 (.c (.p (l_ h) 1))=A4 (.c (.s nm)):=C4 rp rfl rfl;have lP2:B9 h2 (.c (.p (l_ h) 2))=A4 (.c (cI i)):=C4 rp rfl rfl;have lPE:D1 h2 2 (.c (.p (l_ h) 1))=A4 (.a [.s nm,cI i]):=by rw [T1 rp (by simp [slC]) rfl];rfl
  have lk:=E4y (a:=nm) m2.2 hK;have lose:U9 D (d::t) no K (k,nm,i)=A6->∃ h3 h',B9 h2 (.c (.p r 9))=A4 (.c (cI s.1.lost))/\E6a .i64 (s.1.lost+1)=s.1.lost+1/\I8 h2 (.c (.p r 9)) (.c (cI (s.1.lost+1)))=A4 h3 /\
    dB q M (.c (.p r 0)) (.c (cI no)) (.c (.m mk)) (.c (.p px 0)) (.c (.p p8 0)) (.c (.p p9 0)) (.c (.sl lst 0 (l_ l) 3)) (.c (cI (l_ l:Nat))) (.c (cI ((j+1:Nat):Int))) h3=A4 (.a (B5 (U7 D (d::t) no K (eQ D (d::t) no K s (k,nm,i)) (l.drop (j+1))).2),h')/\WP D n m f g r (U7 D (d::t) no K (eQ D (d::t) no K s (k,nm,i)) (l.drop (j+1))).1 h'/\Fr r h0 h':=by
   intro hk;have ec:eQ D (d::t) no K s (k,nm,i)=({ s.1 with lost:=s.1.lost+1 },s.2):=by unfold eQ;rw [hk];rfl
   obtain ⟨h3,f1,f2,f3,f4⟩:=P2.setLost hv2 (s.1.lost+1);have Fa:=F2.trans f4;obtain ⟨h',g1,g2⟩:=ih (j+1) M ({ s.1 with lost:=s.1.lost+1 },s.2) h3 (by omega) (by omega) hs (by dsimp only;omega) (by dsimp only;omega) f3 (F.trans Fa) (m2.fr f4) (x2.fr f4) ⟨z,hzl,z2.fr f4⟩ (b2.fr f4) (ls2.fr f4);rw [ec];exact ⟨h3,h',f1,wrap_i64 (by omega) (by omega),f2,g1,g2⟩
  rw [fN];cases ho:hmS D (d::t) nm with
  | none =>
   obtain ⟨h3,h',f1,f2,f3,f4,f5⟩:=lose (by unfold U9 atH;simp only [ho];simp);refine ⟨h',?_,f5⟩;rw [ho] at hH s4 lS;generalize encI (d::t)=X at *;simp only [esc,Nat.reduceAdd,c0,ad,l3,s3,lX,lN,hH,E6Z,s4,f1,f2,f3,U6,w1];exact f4
  | some p =>
   rw [ho] at hH s4 lS;have ea:=D6x (neg:=A5) p (k,nm,i);by_cases c1:R6 (d::t) nm=no
   ·rw [c1] at hH s4 lB;by_cases c2:p=(k,nm,i)
    ·have ea2:aeq A5 [.i .i64,.s,.i .i64] (.a (slC (A4 p))) (.a (slC (A4 (k,nm,i))))=A4 (.c (.b A6)):=by rw [ea,c2];simp
     by_cases c3:(K nm).getD 0=i
     ·have hk:U9 D (d::t) no K (k,nm,i)=A5:=by unfold U9 atH;simp only [ho,c1,c2,c3];simp
      have ec:eQ D (d::t) no K s (k,nm,i)=(s.1,H5 s.2 (H7 k) (T6 nm i)):=by unfold eQ;rw [hk];rfl
      rw [ec] at oG ⊢;have E1C:=C7V (k:=k) (s:=nm) (n:=i) (h:=h2) (by omega) x7 xm;obtain ⟨h3,e3⟩:=xEq (h2++[rT (B5 (T6 nm i)),rT [cI (H7 k:Nat),.sl h2.length 0 32 1]]);have s5:F9 (h2++[rT (B5 (T6 nm i)),rT [o0,.ns]]) 2 (.c (.p (h2.length+1) 0)) (.a [cI (H7 k:Nat),.sl h2.length 0 32 1])=A4 h3:=by rw [S3,e3];rfl
      have F3:Fr r h2 h3:=by rw [e3];exact Fr.low ((Low.refl (E56 _)).new _) P2.rlt
      have P3:WP D n m f g r s.1 h3:=by rw [e3];exact P2.more hv2 _
      have b3:=b2.fr F3;have hbl:(B5 s.2).length=256:=by rw [B6,hs]
      have q1:=C7 (n:=256) b3.2 hbl;have q2:D1 h3 2 (.c (.p (h2.length+1) 0))=A4 (.a [cI (H7 k:Nat),.sl h2.length 0 32 1]):=by rw [e3,O7];rfl
      have E3b:Has h3 (.c (.sl h2.length 0 32 1)) 1 32 (B5 (T6 nm i)):=Has.row (rw:=A5) (by rw [e3];simp) (by rw [B6,U4]) (W1 _);have E41:=B9J (a:=H7 k) (l:=s.2) E3b (by omega) (by unfold H7;omega) hs;have hl2:(B5 (H5 s.2 (H7 k) (T6 nm i))).length=256:=by rw [B6];exact oG
      have sb:=storeAll (n:=256) (xs:=B5 (H5 s.2 (H7 k) (T6 nm i))) b3.2 hbl hl2;have Fa:=F2.trans F3;obtain ⟨h',g1,g2⟩:=ih (j+1) M (s.1,H5 s.2 (H7 k) (T6 nm i)) _ (by omega) (by omega) oG l0 (by dsimp only;omega) (P3.set b3.1 (by omega)) ((F.trans Fa).set b3.1 a9) ((m2.fr F3).set n1 b3.1.2.1) ((x2.fr F3).set n2 b3.1.2.1) ⟨z,hzl,(z2.fr F3).set n3 b3.1.2.1⟩ b3.self ((ls2.fr F3).set n4 b3.1.2.1);refine ⟨h',?_,g2⟩
      try dsimp only at g1
      generalize B5 (H5 s.2 (H7 k) (T6 nm i))=B2 at *;generalize B5 s.2=B at *;generalize encI (d::t)=X at *;generalize B5 (T6 nm i)=E at *;simp only [esc,Nat.reduceAdd,c0,ad,l3,s3,lX,lN,hH,E6G,s4,lB,eq_self,lS,lP,ea2,lP0,lP1,lP2,lPE,lk,c3,E1C,s5,q1,q2,E41,sb,U6,w1];exact g1
     ·obtain ⟨h3,h',f1,f2,f3,f4,f5⟩:=lose (by unfold U9;simp [c3]);refine ⟨h',?_,f5⟩;generalize encI (d::t)=X at *;simp only [esc,Nat.reduceAdd,c0,ad,l3,s3,lX,lN,hH,E6G,s4,lB,eq_self,lS,lP,ea2,lP1,lP2,lk,c3,f1,f2,f3,U6,w1];exact f4
    ·have ea2:aeq A5 [.i .i64,.s,.i .i64] (.a (slC (A4 p))) (.a (slC (A4 (k,nm,i))))=A4 (.c (.b A5)):=by rw [ea];simp [c2]
     obtain ⟨h3,h',f1,f2,f3,f4,f5⟩:=lose (by unfold U9 atH;simp only [ho];simp [c2]);refine ⟨h',?_,f5⟩;generalize encI (d::t)=X at *;simp only [esc,Nat.reduceAdd,c0,ad,l3,s3,lX,lN,hH,E6G,s4,lB,eq_self,lS,lP,ea2,f1,f2,f3,U6,w1];exact f4
   ·obtain ⟨h3,h',f1,f2,f3,f4,f5⟩:=lose (by unfold U9 atH;simp only [ho];simp [c1]);refine ⟨h',?_,f5⟩;generalize encI (d::t)=X at *;simp only [esc,Nat.reduceAdd,c0,ad,l3,s3,lX,lN,hH,E6G,s4,lB,c1,f1,f2,f3,U6,w1];exact f4
end
def B7b{D:Dev}{X:List Int}{no:Int}{K:List UInt8->Option Int}:∀ {l:List Slt} {s:Cl × List UInt8},s.2.length=256->(∀ x∈l,x.1<7)->(U7 D X no K s l).2.length=256
 | [],_,hs,_=>hs
 | x::l,s,hs,h=>B7b (l:=l) (s:=eQ D X no K s x) (C83 hs (h x (E6e ..))) λy hy=>h y (E59 _ hy)
def C2A{D:Dev}{X:List Int}{no:Int}{K:List UInt8->Option Int}:∀ {l:List Slt} {s:Cl × List UInt8},s.1.lost<=(U7 D X no K s l).1.lost/\(U7 D X no K s l).1.lost<=s.1.lost+(l_ l)
 | [],s=>⟨Int.le_refl _,by show s.1.lost<=_;simp⟩
 | x::l,s=>by
  have h1:=C5J (D:=D) (X:=X) (no:=no) (K:=K) (s:=s) (x:=x);have h2:=C2A (D:=D) (X:=X) (no:=no) (K:=K) (l:=l) (s:=eQ D X no K s x);show s.1.lost<=(U7 D X no K (eQ D X no K s x) l).1.lost/\_<=_;rw [E6g];refine ⟨by omega,?_⟩;show (U7 D X no K (eQ D X no K s x) l).1.lost<=_;omega
structure SameL(c c':Cl):Prop where
 row:c'.row=c.row
 ino:c'.ino=c.ino
 blocks:c'.blocks=c.blocks
 made:c'.made=c.made
 taken:c'.taken=c.taken
 lnk:c'.lnk=c.lnk
 par:c'.par=c.par
def A1F{D:Dev}{X:List Int}{no:Int}{K:List UInt8->Option Int}:∀ {l:List Slt} {s:Cl × List UInt8},SameL s.1 (U7 D X no K s l).1
 | [],_=>⟨rfl,rfl,rfl,rfl,rfl,rfl,rfl⟩
 | x::l,s=>by
  have h2:=A1F (D:=D) (X:=X) (no:=no) (K:=K) (l:=l) (s:=eQ D X no K s x);have h1:SameL s.1 (eQ D X no K s x).1:=by
   unfold eQ;cases U9 D X no K x<;>exact ⟨rfl,rfl,rfl,rfl,rfl,rfl,rfl⟩
  show SameL s.1 (U7 D X no K (eQ D X no K s x) l).1;exact ⟨h2.row.trans h1.row,h2.ino.trans h1.ino,h2.blocks.trans h1.blocks,h2.made.trans h1.made,h2.taken.trans h1.taken,h2.lnk.trans h1.lnk,h2.par.trans h1.par⟩
def B9R:∀ x∈J1 b,x.1<7/\x.2.1.length<=24/\B5n x.2.1 x.2.2=A5:=λx hx=>by
 have h1:=A8Y hx;exact ⟨h1.2,B4W h1.1,C1M h1.1⟩
section
variable {D:Dev} {n m:Int} {f:Cell} {g:A9} {r:Nat} {c:Cl} {h:A9}
def D4n(hD:okD D)(hv:IsView g f D)(P:WP D n m f g r c h)(ht:l_ t=32)(hK:MapK es K)(hm:LocM h r mk es)(l0:0<=c.lost)(l1:c.lost<=900000) :
  ∃ h',nB [.c (.p r 0),.a (encI (d::t)),.c (cI no),.c (.m mk)] h=A4 (.a (B5 (U7 D (d::t) no K (c,dF []) (J1 (blk D no))).2),h')/\WP D n m f g r (U7 D (d::t) no K (c,dF []) (J1 (blk D no))).1 h'/\Fr r h h':=by
 have hv2:=hv.get;have h33:(encI (d::t)).length=33:=by simp [C1,ht]
 have E42:=λh=>C7U (v:=.c .ns) (nv:=0) (l:=[]) (h:=h) (.inl ⟨rfl,rfl,rfl⟩) (by simp)
 have hNl:(B5 (dF [])).length=256:=by rw [B6];exact A6r
 have hZl:(B5 (zeros 256)).length=256:=by rw [B6];exact zeros_length
 obtain ⟨T,hT⟩:=xEq ([rT (encI (d::t)),rT (B5 (zeros 256)),rT (B5 (dF []))]);have F1:Fr r h (h++T):=Fr.low ((Low.refl (E56 _)).new _) P.rlt;have P1:=P.more hv2 T;have lV:=P1.view;have hB:=M7 (n:=n) (m:=m) (no:=no) hD (hv.since P1.lo);obtain ⟨v,tt,b1,b2,b3⟩:=A2f (b:=blk D no) (h:=h++T) (J9 hD);have hlen:=b2.len;have h7:=kE (blk D no);have F2:Fr r (h++T) (h++T++tt):=Fr.low ((Low.refl (E56 _)).new _) P1.rlt;have P2:=P1.more hv2 tt;have L0:LocV (h++T) r (l_ h) (encI (d::t)):=LocV.new (k:=0) hv2 P (by rw [hT];rfl);have L1:LocV (h++T) r (l_ h+1) (B5 (zeros 256)):=LocV.new (k:=1) hv2 P (by rw [hT];rfl);have L2:LocV (h++T) r (l_ h+2) (B5 (dF [])):=LocV.new (k:=2) hv2 P (by rw [hT];rfl);have main:∃ h',dB 100 100 (.c (.p r 0)) (.c (cI no)) (.c (.m mk)) (.c (.p (l_ h) 0)) (.c (.p (l_ h+1) 0)) (.c (.p (l_ h+2) 0)) v (.c (cI ((J1 (blk D no)).length:Nat))) (.c o0) (h++T++tt)=A4 (.a (B5 (U7 D (d::t) no K (c,dF []) (J1 (blk D no))).2),h')/\WP D n m f g r (U7 D (d::t) no K (c,dF []) (J1 (blk D no))).1 h'/\Fr r h h':=by
  rcases b3 with ⟨rfl,rfl,b3⟩ | ⟨rfl,rfl⟩
  ·rw [b3,E6k];have c00:decide ((0:Int)<((0:Nat):Int))=A6:=by decide
   have q1:=C7 (n:=256) L2.2 hNl;have s1:=storeAll (n:=256) (xs:=B5 (dF [])) L1.2 hZl hNl;have z2:=L1.self (cs':=B5 (dF []));have q2:=C7 (n:=256) z2.2 hNl;refine ⟨(h++T).set (l_ h+1) (rT (B5 (dF []))),?_,P1.set L1.1 (by have:=P.lo.2.1;omega),F1.set L1.1 (by omega)⟩;rw [fN];show _=A4 (Val.a (B5 (dF [])),_);generalize B5 (dF [])=B at *;generalize h++T=G at *;simp only [esc,c00,q1,s1,q2]
  ·have hT3:(h++T).length=l_ h+3:=by rw [hT];simp
   have L3:LocV (h++T++[rT (pU (J1 (blk D no)))]) r ((h++T).length+0) (pU (J1 (blk D no))):=LocV.new (k:=0) hv2 P1 rfl;rw [E7a] at L3;have hml:=hm.1.1;obtain ⟨h',e1,e2,e3⟩:=D4m (n:=n) (m:=m) (q:=100) (no:=no) (h0:=h) (mk:=mk) (px:=l_ h) (p8:=l_ h+1) (p9:=l_ h+2) (lst:=(h++T).length) (l:=J1 (blk D no)) hD hv ht hK P.lo.2.1 (by omega) (by omega) (by omega) (by omega) (by omega) (by omega) h7 B9R (J1 (blk D no)).length 0 100 (c,dF []) _ (by omega) (by omega) (A6r (l:=[])) l0 (by dsimp only;omega) P2 (F1.trans F2) (hm.fr (F1.trans F2)) (L0.fr F2) ⟨_,hZl,L1.fr F2⟩ (L2.fr F2) L3;rw [E6i] at e1 e2;exact ⟨h',e1,e2,e3⟩
 obtain ⟨h',e1,e2,e3⟩:=main;refine ⟨h',A71 (n:=100) ?_,e2,e3⟩;rw [A7S,J3];rw [hT] at e1 lV hB b1;have sB:stN (rT (B5 (zeros 256))) 0 256 (B5 (dF []))=rT (B5 (dF [])):=fD hZl hNl;generalize B5 (U7 D (d::t) no K (c,dF []) (J1 (blk D no))).2=BR at *;generalize B5 (dF [])=B at *;generalize B5 (zeros 256)=Z at *;generalize encI (d::t)=X at *;generalize vwC (l_ D) n m f=V at *;generalize B5 (blk D no)=Y at *;simp only [esc,E42,S3,Nat.reduceAdd,sB,lV,hB,b1,hlen];simp only [esc] at e1;exact e1
end
def J6(D:Dev)(n ino:Int)(s:Cl × (List UInt8->Option Int))(e:Ent):Cl × (List UInt8->Option Int):=bif Q7 D n s.1 e.2 then (T4 D n s.1 ino e.2,B4j s.2 e.1 e.2) else s
def O3(D:Dev)(n ino:Int)(s:Cl × (List UInt8->Option Int))(L:List Ent):Cl × (List UInt8->Option Int):=L.foldl (J6 D n ino) s
def cU(D:Dev)(X:List Int)(K:List UInt8->Option Int)(c:Cl)(no:Int):Cl:=dG (U7 D X no K (c,dF []) (J1 (blk D no))).1 no (U7 D X no K (c,dF []) (J1 (blk D no))).2
def O6(D:Dev)(X:List Int)(K:List UInt8->Option Int)(c:Cl)(L:List Int):Cl:=L.foldl (cU D X K) c
def BndL(c:Cl)(B:Int):Prop:=∀ i,0<=(c.lnk i).getD 0/\(c.lnk i).getD 0<=B
def BndL.mono{B B':Int}(h:BndL c B)(hb:B<=B'):BndL c B':=λi=>⟨(h i).1,Int.le_trans (h i).2 hb⟩
structure SameT(c c':Cl):Prop where
 ino:c'.ino=c.ino
 blocks:c'.blocks=c.blocks
 made:c'.made=c.made
 taken:c'.taken=c.taken
 lost:c'.lost=c.lost
def D3P{B:Int}{s:Cl × (List UInt8->Option Int)}(hb:BndL s.1 B):SameT s.1 (J6 D n ino s e).1/\BndL (J6 D n ino s e).1 (B+1)/\(J6 D n ino s e).1.row.length<=s.1.row.length+1:=by
 have hl:BndL (A1V s.1 e.2) (B+1):=by
  intro i;have h1:=hb i;have h2:=hb e.2;unfold A1V A0J;dsimp only;by_cases c:i=e.2
  ·rw [if_pos c];simp;omega
  ·rw [if_neg c];omega
 unfold J6 T4;cases Q7 D n s.1 e.2 with
 | false=>exact ⟨⟨rfl,rfl,rfl,rfl,rfl⟩,hb.mono (by omega),by simp⟩
 | true =>
  simp only [cond_true];cases (s.1.par e.2).isSome with
  | true=>exact ⟨⟨rfl,rfl,rfl,rfl,rfl⟩,hl,by simp [A1V]⟩
  | false=>exact ⟨⟨rfl,rfl,rfl,rfl,rfl⟩,λi=>hl i,by simp [C3Y,A1V]⟩
section
variable {D:Dev} {n m:Int} {f:Cell} {g:A9} {r:Nat} {h:A9}
def LocM.self{id:Nat}{es':V3}(a:LocM h r id es):LocM (h.set id (A4 (P6 es'))) r id es' :=
 ⟨⟨by simpa using a.1.1,a.1.2.1,λhn=>a.1.2.2 ((Nam.same (B8 a.1.2.1)).1 hn)⟩,D6 a.1.1⟩
def D5F{L:List Ent}{pi lst:Nat}{ci cx:List Cell}(hD:okD D)(hv:IsView g f D)(h0g:l_ g<=h0.length)(am:h0.length<=mk)(n1:mk≠pi)(n2:mk≠px)(n3:mk≠lst)(hL:l_ L<=10000) :
  ∀ (e j M:Nat) (B:Int) (s:Cl × (List UInt8->Option Int)) (es:V3) (h:A9),j+e=l_ L->e<M->s.1.row.length+e<=100000->B+e<900000->BndL s.1 B->WP D n m f g r s.1 h->Fr r h0 h->LocM h r mk es->MapK es s.2->LocV h r pi ci->LocV h r px cx->LocV h r lst (J8 L) ->
  ∃ M' es' h',mK q M (.c (.p r 0)) (.c (cI ino)) (.c (.p pi 0)) (.c (.p px 0)) (.c (.m mk)) (.c (.sl lst 0 (l_ L) 2)) (.c (cI (l_ L:Nat))) (.c (cI (j:Int))) h =
   mK q (M'+1) (.c (.p r 0)) (.c (cI ino)) (.c (.p pi 0)) (.c (.p px 0)) (.c (.m mk)) (.c (.sl lst 0 (l_ L) 2)) (.c (cI (l_ L:Nat))) (.c (cI (l_ L:Nat))) h' /\
   WP D n m f g r (O3 D n ino s (L.drop j)).1 h'/\Fr r h0 h'/\LocM h' r mk es'/\MapK es' (O3 D n ino s (L.drop j)).2/\LocV h' r pi ci/\LocV h' r px cx/\BndL (O3 D n ino s (L.drop j)).1 (B+e)/\(O3 D n ino s (L.drop j)).1.row.length<=s.1.row.length+e/\SameT s.1 (O3 D n ino s (L.drop j)).1:=by
 intro e
 induction e with
 | zero =>
  intro j M B s es h hj hM hr hB hb P F hm hK hi hx hl;obtain ⟨M,rfl⟩:=aP M (by omega);have ej:j=(l_ L):=by omega
  subst ej;rw [List.drop_length];exact ⟨M,es,h,rfl,P,F,hm,hK,hi,hx,hb.mono (by omega),by show s.1.row.length<=_;omega,⟨rfl,rfl,rfl,rfl,rfl⟩⟩
 | succ e ih =>
  intro j M B s es h hj hM hr hB hb P F hm hK hi hx hl;obtain ⟨M,rfl⟩:=aP M (by omega);have hjl:j<(l_ L):=by omega
  have c0:((j:Int)<(l_ L:Nat)):=by omega
  have hv2:=hv.get;have w1:=D9 (a:=j) (by omega);have E3b:Has h (.c (.sl lst 0 (l_ L) 2)) 2 (l_ L) (J8 L):=Has.row hl.2 gN A8H;obtain ⟨ad,a1,a2⟩:=A3C E3b hjl;rw [E6b hjl];obtain ⟨x,hxe⟩:=xEq (L[j]);rw [<-hxe] at a2 ⊢;have er:∀ T,O3 D n ino s (x::T)=O3 D n ino (J6 D n ino s x) T:=λT=>rfl
  rw [er];obtain ⟨tf1,tf2,tf3⟩:=D3P (D:=D) (n:=n) (ino:=ino) (s:=s) (e:=x) hb;obtain ⟨hh,hhe⟩:=xEq (h++[rT (W0 (A4 x))]);have se:F9 (h++[rT [.s [],o0]]) 2 (.c (.p (l_ h) 0)) (.a (W0 (A4 x)))=A4 hh:=by rw [hhe];exact B4e
  have F1:Fr r h hh:=by rw [hhe];exact Fr.low ((Low.refl (E56 _)).new _) P.rlt
  have P1:WP D n m f g r s.1 hh:=by rw [hhe];exact P.more hv2 _
  have L1:LocV hh r (l_ h+0) (W0 (A4 x)):=by rw [hhe];exact LocV.new (k:=0) hv2 P rfl
  rw [E7a] at L1;have e1:B9 hh (.c (.p (l_ h) 1))=A4 (.c (cI x.2)):=C4 L1.2 rfl rfl;have hkl:=hb x.2;obtain ⟨h2,f1,f2,f3⟩:=E2q (dir:=ino) (ino:=x.2) hD hv P1 (by omega) (by omega);have Fa:=F1.trans f3;have m2:=hm.fr Fa;have i2:=hi.fr Fa;have x2:=hx.fr Fa;have l2:=hl.fr Fa;have L2:=L1.fr f3;have e2:B9 h2 (.c (.p (l_ h) 0))=A4 (.c (.s x.1)):=C4 L2.2 rfl rfl;have e3:B9 h2 (.c (.p (l_ h) 1))=A4 (.c (cI x.2)):=C4 L2.2 rfl rfl;cases hb2:Q7 D n s.1 x.2 with
  | true =>
   have et:J6 D n ino s x=(T4 D n s.1 ino x.2,B4j s.2 x.1 x.2):=by unfold J6;rw [hb2];rfl
   have mp:=E5D (a:=x.1) (x:=x.2) m2.2 hK;have W5:=hm.1.1;rw [et] at tf1 tf2 tf3 ⊢;obtain ⟨M',es',h',g1,g2,g3,g4,g5,g6,g7,g8,g9,g10⟩:=ih (j+1) M (B+1) (T4 D n s.1 ino x.2,B4j s.2 x.1 x.2) (A82 (.s x.1) (.c (cI x.2)) es) _ (by omega) (by omega) (by dsimp only at tf3 ⊢;omega) (by omega) tf2 (f2.set m2.1 (by omega)) ((F.trans Fa).set m2.1 am) m2.self (hK.put x.1 x.2) (i2.set n1 m2.1.2.1) (x2.set n2 m2.1.2.1) (l2.set n3 m2.1.2.1);refine ⟨M',es',h',?_,g2,g3,g4,g5,g6,g7,g8.mono (by omega),by dsimp only at tf3 g9;omega,⟨g10.ino.trans tf1.ino,g10.blocks.trans tf1.blocks,g10.made.trans tf1.made,g10.taken.trans tf1.taken,g10.lost.trans tf1.lost⟩⟩;rw [nW];rw [hb2] at f1;simp only [esc,c0,a1,a2,se,e1,f1,e2,e3,mp,A1D,w1];exact g1
  | false =>
   have et:J6 D n ino s x=s:=by unfold J6;rw [hb2];rfl
   have ec:T4 D n s.1 ino x.2=s.1:=by unfold T4;rw [hb2];rfl
   rw [ec] at f2;rw [et];obtain ⟨M',es',h',g1,g2,g3,g4,g5,g6,g7,g8,g9,g10⟩:=ih (j+1) M B s es h2 (by omega) (by omega) (by omega) (by omega) hb f2 (F.trans Fa) m2 hK i2 x2 l2;refine ⟨M',es',h',?_,g2,g3,g4,g5,g6,g7,g8.mono (by omega),by omega,g10⟩;rw [nW];rw [hb2] at f1;simp only [esc,c0,a1,a2,se,e1,f1,A1D,w1];exact g1
def D11{sid:Nat}(hD:okD D)(hv:IsView g f D)(ht:l_ t=32)(hK:MapK es K)(hL:l_ L<=100) :
  ∀ (e j M:Nat) (c:Cl) (h:A9),j+e=l_ L->e<M->0<=c.lost->c.lost+7*e<=900000->c.blocks.length+e<=100000->c.made.length+e<=100000->WP D n m f g r c h->Fr r h0 h->LocM h r mk es->LocV h r px (encI (d::t))->LocV h r sid (encI L) ->
  ∃ h',A6c q M (.c (.p r 0)) (.c (.p px 0)) (.c (.m mk)) (.c (.sl sid 0 (l_ L) 1)) (.c (cI (l_ L:Nat))) (.c (cI (j:Int))) h=A4 (.t [],h')/\WP D n m f g r (O6 D (d::t) K c (L.drop j)) h'/\Fr r h0 h' /\
   0<=(O6 D (d::t) K c (L.drop j)).lost/\(O6 D (d::t) K c (L.drop j)).lost<=c.lost+7*e/\(O6 D (d::t) K c (L.drop j)).blocks.length=c.blocks.length+e/\(O6 D (d::t) K c (L.drop j)).made.length=c.made.length+e/\(O6 D (d::t) K c (L.drop j)).row=c.row/\(O6 D (d::t) K c (L.drop j)).lnk=c.lnk/\(O6 D (d::t) K c (L.drop j)).ino=c.ino:=by
 intro e
 induction e with
 | zero =>
  intro j M c h hj hM l0 l1 b0 b1 P F hm hx hl;obtain ⟨M,rfl⟩:=aP M (by omega);have c0:¬ ((j:Int)<(l_ L:Nat)):=by omega
  rw [E6f (by omega)];refine ⟨h,?_,P,F,l0,by show c.lost<=_;omega,rfl,rfl,rfl,rfl,rfl⟩;rw [A1E];simp only [esc,c0];rfl
 | succ e ih =>
  intro j M c h hj hM l0 l1 b0 b1 P F hm hx hl;obtain ⟨M,rfl⟩:=aP M (by omega);have hjl:j<(l_ L):=by omega
  have c0:((j:Int)<(l_ L:Nat)):=by omega
  have hv2:=hv.get;have w1:=D9 (a:=j) (by omega);have ad:E9 1 (.c (.sl sid 0 (l_ L) 1)) (.c (cI (j:Int)))=A4 (.c (.p sid j)):=by rw [E3 hjl];simp
  have a1:B9 h (.c (.p sid j))=A4 (.c (cI L[j])):=C4 hl.2 (by rw [G6,E51 hjl];rfl) rfl;have lX:D1 h 33 (.c (.p px 0))=A4 (.a (encI (d::t))):=C7 hx.2 (by simp [C1,ht]);obtain ⟨h1,f1,f2,f3⟩:=D4n (no:=L[j]) hD hv P ht hK hm l0 (by omega);have hlen:=B7b (D:=D) (X:=d::t) (no:=L[j]) (K:=K) (l:=J1 (blk D L[j])) (s:=(c,dF [])) (A6r (l:=[])) λx hx=>(B9R x hx).1
  have hlo:=C2A (D:=D) (X:=d::t) (no:=L[j]) (K:=K) (l:=J1 (blk D L[j])) (s:=(c,dF []));have hsa:=A1F (D:=D) (X:=d::t) (no:=L[j]) (K:=K) (l:=J1 (blk D L[j])) (s:=(c,dF []));have h7:=kE (blk D L[j]);have em:cU D (d::t) K c L[j]=dG (U7 D (d::t) L[j] K (c,dF []) (J1 (blk D L[j]))).1 L[j] (U7 D (d::t) L[j] K (c,dF []) (J1 (blk D L[j]))).2:=rfl;obtain ⟨s,hs⟩:=xEq (U7 D (d::t) L[j] K (c,dF []) (J1 (blk D L[j])));rw [<-hs] at f1 f2 hlen hlo hsa em;dsimp only at hlo hsa;have eb:=hsa.blocks;have emd:=hsa.made;obtain ⟨h2,g1,g2,g3⟩:=D0N (no:=L[j]) hv2 f2 hlen (by rw [eb];omega) (by rw [emd];omega);have Fa:=f3.trans g3;rw [E6b hjl];have er:∀ T,O6 D (d::t) K c (L[j]::T)=O6 D (d::t) K (cU D (d::t) K c L[j]) T:=λT=>rfl
  rw [er,em];have k1:(dG s.1 L[j] s.2).blocks.length=c.blocks.length+1:=by show (s.1.blocks++[L[j]]).length=_;rw [eb];simp
  have k2:(dG s.1 L[j] s.2).made.length=c.made.length+1:=by show (s.1.made++[s.2]).length=_;rw [emd];simp
  have k3:(dG s.1 L[j] s.2).lost=s.1.lost:=rfl;obtain ⟨h',p1,p2,p3,p4,p5,p6,p7,p8,p9,p10⟩:=ih (j+1) M (dG s.1 L[j] s.2) h2 (by omega) (by omega) (by rw [k3];omega) (by rw [k3];omega) (by omega) (by omega) g2 (F.trans Fa) (hm.fr Fa) (hx.fr Fa) (hl.fr Fa);refine ⟨h',?_,p2,p3,p4,by rw [k3] at p5;omega,by omega,by omega,p8.trans hsa.row,p9.trans hsa.lnk,p10.trans hsa.ino⟩;rw [A1E];generalize B5 s.2=B2 at *;generalize encI (d::t)=X at *;simp only [esc,c0,ad,a1,lX,f1,g1,w1];exact p1
end
def K4(D:Dev)(n:Int)(c:Cl)(ino:Int):Cl × Int :=
 bif decide (kdV D n ino=2)&&Q6 (blk D ((drV D n ino).getD 0 0)) then (J7 D n c ((drV D n ino).getD 0 0),K3 D n c ((drV D n ino).getD 0 0)) else (c,0)
def V4(D:Dev)(n:Int)(c:Cl)(ino:Int):Cl:={ (K4 D n c ino).1 with ino:=(K4 D n c ino).1.ino.set ino.toNat (2::1::0::(c.par ino).getD 0::(K4 D n c ino).2::zI 6) }
def G7(D:Dev)(n:Int)(c:Cl)(d:Int)(t:List Int):Cl × List Int:=V6 D n (c,bL d t) (J4 (bL d t) (C5 (O9 d t)))
def bodyT(D:Dev)(n:Int)(c:Cl)(ino d:Int)(t:List Int):Cl × (List UInt8->Option Int) :=
 O3 D n ino ((G7 D n c d t).1,λ_=>A7) (S5 D (O9 d t::(G7 D n c d t).2) (J4 (G7 D n c d t).2 (C5 (O9 d t))))
def aX(D:Dev)(n:Int)(c:Cl)(ino no d:Int)(t:List Int):Cl :=
 O6 D (O9 d t::(G7 D n c d t).2) (bodyT D n c ino d t).2 (dG (bodyT D n c ino d t).1 no (bif okX (O9 d t) (G7 D n c d t).2 then oJ (O9 d t) (G7 D n c d t).2 else zeros 256)) (J4 (G7 D n c d t).2 (C5 (O9 d t)))
def oB(D:Dev)(n:Int)(c:Cl)(ino:Int):Cl:=
 if (K4 D n c ino).2=0 then V4 D n c ino else
  aX D n (V4 D n c ino) ino (K4 D n c ino).2 (getD (blk D ((drV D n ino).getD 0 0))) (O0 (blk D ((drV D n ino).getD 0 0)) 32)
def C2p{D:Dev}:∀ {L:List Int},(xI D L).length<=7*(l_ L)
 | []=>by simp [xI]
 | no::L=>by
  have h1:=C2p (D:=D) (L:=L);have h2:=kE (blk D no);rw [C8L,E58,List.length_map,E6g];omega
def D0M:(S5 D X L).length<=7*(l_ L):=by
 have h1:=C2p (D:=D) (L:=L);have h2:=C1E (D:=D) (X:=X) (s:=xI D L);unfold S5;rw [List.length_map];have h3:=B0K (P5 D X (xI D L));omega
structure Small(c:Cl)(R B S L:Nat):Prop where
 row:c.row.length<=R
 lnk:BndL c B
 blocks:c.blocks.length<=S
 made:c.made.length<=S
 lost0:0<=c.lost
 lost:c.lost<=(L:Int)
section
variable {D:Dev} {n m:Int} {f:Cell} {g:A9} {r:Nat} {c:Cl} {h:A9}
def D9i{pi R B S Lo:Nat}{k s:Int}{tl:List Int}(hD:okD D)(hv:IsView g f D)(ht:l_ t=32)(hq:300<=q)(h0g:l_ g<=h0.length)(ax:h0.length<=px)(npx:px≠pi)
  (hR:R<=50000) (hB:B<=500000) (hS:S<=50000) (hLo:Lo<=500000) (sm:Small c R B S Lo) (P:WP D n m f g r c h) (F:Fr r h0 h) (hi:LocV h r pi (C8 k l s p (no::tl))) (htl:tl.length=6) (hx:LocV h r px (encI (d::t))) :
  ∃ h',(bnd (D1 h 33 (.c (.p px 0))) λv48=>bnd (dX [.c (.p r 0),v48] h) λp49=>bnd (F9 p49.2 33 (.c (.p px 0)) p49.1) λh50=>bnd (D1 (h50++[A4 (P6 [])]) 33 (.c (.p px 0))) λv51=>bnd (iX [.c (.p r 0),v51] (h50++[A4 (P6 [])])) λp52=>bnd (B8H p52.1) λv53=>mK q q (.c (.p r 0)) (.c (cI ino)) (.c (.p pi 0)) (.c (.p px 0)) (.c (.m h50.length)) p52.1 v53 (.c o0) p52.2)=A4 (.t [],h') /\
   WP D n m f g r (aX D n c ino no d t) h'/\Fr r h0 h'/\Small (aX D n c ino no d t) (R+224) (B+224) (S+33) (Lo+224)/\(aX D n c ino no d t).ino=c.ino:=by
 have hv2:=hv.get;have h33:(encI (d::t)).length=33:=by simp [C1,ht]
 have l33:=C7 (n:=33) hx.2 h33;obtain ⟨hA,a1,a2,a3⟩:=D4g (d:=d) (t:=t) hv2 P ht;have hbs:=bC (D:=D) (n:=n) (L:=J4 (bL d t) (C5 (O9 d t))) (s:=(c,bL d t));have hbl:=C09 (D:=D) (n:=n) (L:=J4 (bL d t) (C5 (O9 d t))) (s:=(c,bL d t));have eb:V6 D n (c,bL d t) (J4 (bL d t) (C5 (O9 d t)))=G7 D n c d t:=rfl;rw [eb] at a1 a2 hbs hbl;have hbT:(G7 D n c d t).2.length=32:=hbl.trans B3x;obtain ⟨d',hd'⟩:=xEq (O9 d t);unfold aX bodyT;rw [<-hd'] at a1 ⊢;obtain ⟨s1,hs1⟩:=xEq (G7 D n c d t);rw [<-hs1] at a1 a2 hbs hbT ⊢;dsimp only at hbs;have xA:=hx.fr a3;have iA:=hi.fr a3;have D2t:(encI (d'::s1.2)).length=33:=by simp [C1,hbT]
 have st:=storeAll (n:=33) (xs:=encI (d'::s1.2)) xA.2 h33 D2t;obtain ⟨hB',hBe⟩:=xEq (hA.set px (rT (encI (d'::s1.2))));rw [<-hBe] at st;have PB:WP D n m f g r s1.1 hB':=by rw [hBe];exact a2.set xA.1 (by omega)
 have FB:Fr r h0 hB':=by rw [hBe];exact (F.trans a3).set xA.1 ax
 have xB:LocV hB' r px (encI (d'::s1.2)):=by rw [hBe];exact xA.self
 have iB:LocV hB' r pi (C8 k l s p (no::tl)):=by rw [hBe];exact iA.set npx xA.1.2.1
 obtain ⟨L,hL⟩:=xEq (J4 s1.2 (C5 d'));have hLl:l_ L<=32:=by rw [hL];exact E6J (iL _ _) (T2 _)
 obtain ⟨N,hN⟩:=xEq (S5 D (d'::s1.2) L);have hNl:N.length<=224:=by
  have:=D0M (D:=D) (X:=d'::s1.2) (L:=L);rw [hN];omega
 have PC:=PB.more hv2 [A4 (P6 [])];have FC:Fr r hB' (hB'++[A4 (P6 [])]):=Fr.low ((Low.refl (E56 _)).new _) PB.rlt;have nmE:=D93 (n:=n) (m:=m) (f:=f) (r:=r) (d:=d') (t:=s1.2) (h:=hB'++[A4 (P6 [])]) hD (hv.since PC.lo) (PC.vw hv2) hbT;rw [<-hL,<-hN] at nmE;have PD:=PC.more hv2 [rT (J8 N)];have FD:Fr r (hB'++[A4 (P6 [])]) (hB'++[A4 (P6 [])]++[rT (J8 N)]):=Fr.low ((Low.refl (E56 _)).new _) PC.rlt;have hCl:(hB'++[A4 (P6 [])]).length=hB'.length+1:=by simp
 have LD:LocV (hB'++[A4 (P6 [])]++[rT (J8 N)]) r (hB'.length+1) (J8 N):=by
  have:=LocV.new (h:=hB'++[A4 (P6 [])]) (t:=[rT (J8 N)]) (k:=0) (cs:=J8 N) hv2 PC rfl;rw [hCl] at this;exact this
 have mkD:LocM (hB'++[A4 (P6 [])]++[rT (J8 N)]) r hB'.length []:=by
  refine LocM.fr (h:=hB'++[A4 (P6 [])]) ⟨⟨by simp,by have:=PB.rlt;omega,λhn=>?_⟩,by simp⟩ FD;have:=C1C hv2 PB ((Nam.same (D3 PB.rlt)).1 hn);omega
 have hpx:=xB.1.1;have hpi:=iB.1.1;have bl0:BndL s1.1 B:=λi=>by rw [hbs.lnk];exact sm.lnk i
 have r0:s1.1.row.length<=R:=by rw [hbs.row];exact sm.row
 have hh0:=FB.size;obtain ⟨M',es',hE,e1,e2,e3,e4,e5,e6,e7,e8,e9,e10⟩:=D5F (q:=q) (ino:=ino) (L:=N) (pi:=pi) (px:=px) (mk:=hB'.length) (lst:=hB'.length+1) (h0:=h0) hD hv h0g hh0 (by omega) (by omega) (by omega) (by omega) N.length 0 q B (s1.1,λ_=>A7) [] _ (by omega) (by omega) (by dsimp only;omega) (by omega) bl0 PD (FB.trans (FC.trans FD)) mkD MapK.nil (iB.fr (FC.trans FD)) (xB.fr (FC.trans FD)) LD;rw [E6i] at e2 e5 e8 e9 e10;rw [<-hL,<-hN];obtain ⟨s2,hs2⟩:=xEq (O3 D n ino (s1.1,λ_=>A7) N);rw [<-hs2] at e2 e5 e8 e9 e10 ⊢;dsimp only at e9 e10;have E1C:=B9a (d:=d') (t:=s1.2) (h:=hE) hbT;obtain ⟨ib,hib⟩:=xEq ((bif okX d' s1.2 then oJ d' s1.2 else zeros 256));have E4i:ib.length=256:=by
  rw [hib];cases okX d' s1.2 with
  | true=>exact A6j hbT
  | false=>exact zeros_length
 rw [<-hib] at E1C ⊢;have hIl:(B5 ib).length=256:=by rw [B6,E4i]
 have PF:=e2.more hv2 [rT (B5 ib)];have FF:Fr r hE (hE++[rT (B5 ib)]):=Fr.low ((Low.refl (E56 _)).new _) e2.rlt;have iF:=e6.fr FF;have xF:=e7.fr FF;have mF:=e4.fr FF;have lXE:D1 hE 33 (.c (.p px 0))=A4 (.a (encI (d'::s1.2))):=C7 e7.2 D2t;have li:B9 (hE++[rT (B5 ib)]) (.c (.p pi 4))=A4 (.c (cI no)):=C4 iF.2 rfl rfl;have lib:D1 (hE++[rT (B5 ib)]) 256 (.c (.p hE.length 0))=A4 (.a (B5 ib)):=by rw [G8];exact K8 hIl
 have sib:F9 (hE++[rT (E55 256 (Cell.i .u8 0))]) 256 (.c (.p hE.length 0)) (.a (B5 ib))=A4 (hE++[rT (B5 ib)]):=by
  rw [G9];show mp (stN (rT (E55 256 (Cell.i .u8 0))) 0 256 (B5 ib)) _=_;rw [fD E6y hIl];rfl
 obtain ⟨hG,g1,g2,g3⟩:=D0N (no:=no) hv2 PF E4i (by rw [e10.blocks,hbs.blocks];have:=sm.blocks;omega) (by rw [e10.made,hbs.made];have:=sm.made;omega);have xG:=xF.fr g3;have mG:=mF.fr g3;have lXG:D1 hG 33 (.c (.p px 0))=A4 (.a (encI (d'::s1.2))):=C7 xG.2 D2t;have hBu:=gP (d:=d') (t:=s1.2) (h:=hG) hbT;rw [<-hL] at hBu;have PH:=g2.more hv2 [rT (encI L)];have FH:Fr r hG (hG++[rT (encI L)]):=Fr.low ((Low.refl (E56 _)).new _) g2.rlt;have lH:LocV (hG++[rT (encI L)]) r (hG.length+0) (encI L):=LocV.new (k:=0) hv2 g2 rfl;rw [E7a] at lH;have cb:(dG s2.1 no ib).blocks.length=c.blocks.length+1:=by show (s2.1.blocks++[no]).length=_;rw [e10.blocks,hbs.blocks];simp
 have cm:(dG s2.1 no ib).made.length=c.made.length+1:=by show (s2.1.made++[ib]).length=_;rw [e10.made,hbs.made];simp
 have cl:(dG s2.1 no ib).lost=c.lost:=by show s2.1.lost=_;rw [e10.lost,hbs.lost]
 have sb:=sm.blocks;have smd:=sm.made;have sl0:=sm.lost0;have sl1:=sm.lost;obtain ⟨hZ,z1,z2,z3,z4,z5,z6,z7,z8,z9,z10⟩:=D11 (q:=q) (d:=d') (t:=s1.2) (L:=L) (K:=s2.2) (es:=es') (mk:=hB'.length) (px:=px) (sid:=hG.length) (h0:=h0) hD hv hbT e5 (by omega) (l_ L) 0 q (dG s2.1 no ib) _ (by omega) (by omega) (by rw [cl];omega) (by rw [cl];omega) (by omega) (by omega) PH (e3.trans (FF.trans (g3.trans FH))) (mG.fr FH) (xG.fr FH) lH;rw [E6i] at z2 z4 z5 z6 z7 z8 z9 z10;refine ⟨hZ,?_,z2,z3,⟨?_,?_,by omega,by omega,z4,by omega⟩,?_⟩
 ·have lXB:D1 (hB'++[A4 (P6 [])]) 33 (.c (.p px 0))=A4 (.a (encI (d'::s1.2))):=C7 (B7 xB.2) D2t;have e00:((0:Nat):Int)=0:=rfl;rw [e00] at e1 z1;have cN:¬ ((N.length:Nat):Int)<(N.length:Nat):=by omega
  rw [hCl] at nmE;rw [nW q M'] at e1;generalize encI (d::t)=X at *;generalize encI (d'::s1.2)=X' at *;generalize B5 ib=IB at *;generalize E55 256 (Cell.i .u8 0)=Z at *;simp only [C6,l33,a1,st,lXB,nmE,B0c];refine e1.trans ?_;simp only [esc,cN,lXE,E1C,sib,lib];have ad0:∀ j,K5 6 1 (.c (.p j 4)) (.c o0)=A4 (.c (.p j 4)):=λj=>Q1 (j:=0) (by omega)
  simp only [esc,ad0,li,g1,lXG,hBu];exact z1
 ·rw [z8];show s2.1.row.length<=_;omega
 ·intro i;have:=e8 i;rw [z9];show 0<=(s2.1.lnk i).getD 0/\(s2.1.lnk i).getD 0<=_;omega
 ·rw [z10];show s2.1.ino=_;rw [e10.ino,hbs.ino]
end
section
variable {D:Dev} {n m:Int} {f:Cell} {g:A9} {r:Nat} {c:Cl} {h:A9}
def D9g{ino:Nat}{p0:Int}{R B S Lo:Nat}(hD:okD D)(hv:IsView g f D)(ht:l_ t=32)(hq:300<=q)(h0g:l_ g<=h0.length)(i1:ino<c.ino.length)
  (hR:R<=50000) (hB:B<=500000) (hS:S<=50000) (hLo:Lo<=500000) (sm:Small c R B S Lo) (P:WP D n m f g r c h) (F:Fr r h0 h) (hi:LocV h r h0.length (C8 2 1 0 p0 (no::zI 6))) (hx:LocV h r (h0.length+2) (encI (d::t))) :
  ∃ h',mH q (pV r 0) (iV (ino:Int)) (pV h0.length 0) (pV (h0.length+2) 0) h=A4 (.t [],h') /\
   WP D n m f g r (if no=0 then { c with ino:=c.ino.set ino (2::1::0::p0::no::zI 6) } else aX D n { c with ino:=c.ino.set ino (2::1::0::p0::no::zI 6) } ino no d t) h'/\Fr r h0 h' /\
   Small (if no=0 then { c with ino:=c.ino.set ino (2::1::0::p0::no::zI 6) } else aX D n { c with ino:=c.ino.set ino (2::1::0::p0::no::zI 6) } ino no d t) (R+224) (B+224) (S+33) (Lo+224):=by
 have hv2:=hv.get;obtain ⟨id,hC,c1,c2,c3,PC,FC⟩:=P.setIno hv2 (k:=ino) (l:=2::1::0::p0::no::zI 6) i1 rfl;have iC:=hi.fr FC;have xC:=hx.fr FC;have lI:D1 h 11 (pV h0.length 0)=A4 (.a (encI (2::1::0::p0::no::zI 6))):=C7 hi.2 rfl;have adI:E9 11 (sV id 0 c.ino.length 11) (iV (ino:Int))=A4 (pV id (ino*11)):=by rw [E3 i1];simp
 have lC4:B9 hC (pV h0.length 4)=A4 (iV no):=C4 iC.2 rfl rfl;have ad0:∀ j,K5 6 1 (pV j 4) (iV 0)=A4 (pV j 4):=λj=>Q1 (j:=0) (by omega)
 have sm':Small { c with ino:=c.ino.set ino (2::1::0::p0::no::zI 6) } R B S Lo:=⟨sm.row,sm.lnk,sm.blocks,sm.made,sm.lost0,sm.lost⟩;rw [B3o];by_cases cz:no=0
 ·rw [if_pos cz];refine ⟨hC,?_,PC,F.trans FC,⟨E6J sm.row (by omega),sm'.lnk.mono (by omega),E6J sm.blocks (by omega),E6J sm.made (by omega),sm.lost0,by have:=sm.lost;show c.lost<=_;omega⟩⟩;rw [cz] at lC4;simp only [esc,Nat.reduceAdd,c1,lI,adI,c3,ad0,lC4];rfl
 ·rw [if_neg cz];obtain ⟨h',e1,e2,e3,e4,e5⟩:=D9i (ino:=(ino:Int)) (no:=no) (pi:=h0.length) (px:=h0.length+2) (q:=q) (h0:=h0) hD hv ht hq h0g (by omega) (by omega) hR hB hS hLo sm' PC (F.trans FC) iC (tl:=zI 6) rfl xC;refine ⟨h',?_,e2,e3,e4⟩;simp only [esc,Nat.reduceAdd,c1,lI,adI,c3,ad0,lC4,cz];exact e1
def D9f{R B S Lo:Nat}(hD:okD D)(hv:IsView g f D)(P:WP D n m f g r c h)(i0:0<=ino)(i1:ino.toNat<c.ino.length)(hR:R<=50000)(hB:B<=500000)(hS:S<=50000)(hLo:Lo<=500000)(sm:Small c R B S Lo) :
  ∃ h',pE [pV r 0,iV ino] h=A4 (.t [],h')/\WP D n m f g r (oB D n c ino) h'/\Fr r h h'/\Small (oB D n c ino) (R+224) (B+224) (S+33) (Lo+224):=by
 have hv2:=hv.get;obtain ⟨k,rfl⟩:=E61 i0;rw [E6q] at i1;obtain ⟨mp,hq9,q1,q2,_⟩:=P.setPar hv2 0 0;have q2':=q2 A6 k;obtain ⟨p0,hp0⟩:=xEq ((c.par k).getD 0);rw [<-hp0] at q2';obtain ⟨d0,hd0⟩:=xEq ((drV D n k).getD 0 0);obtain ⟨b,hb⟩:=xEq (blk D d0);have hbl:l_ b=256:=by rw [hb];exact J9 hD
 obtain ⟨I,hI⟩:=xEq (C8 (kdV D n k) (lnV D n k) (szV D n k) (paV D n k) (drV D n k));have hIl:l_ I=11:=by rw [hI];simp [C8,C1,O8]
 have I0:I[0]?=A4 (cI (kdV D n k)):=by rw [hI];rfl
 have I4:I[4]?=A4 (cI d0):=by
  rw [hI];simp only [C8,E6o];rw [G6,hd0,E54,E51 (by rw [O8];omega)];rfl
 have hVI:=λt=>V1 (n:=n) (m:=m) (i:=(k:Int)) (h:=h++t) hD ((hv.since P.lo).more t)
 rw [pN,<-hI] at hVI;have lV:=λt=>(P.more hv2 t).view
 have hBk:=λt=>M7 (n:=n) (m:=m) (no:=d0) (h:=h++t) hD ((hv.since P.lo).more t)
 rw [<-hb] at hBk;have D4F:=λh=>B87 (b:=b) (h:=h) hbl
 obtain ⟨X,hX⟩:=xEq ((bif Q6 b then getD b::O0 b 32 else 0::zI 32));rw [<-hX] at D4F;obtain ⟨dd,tt,hXt,htt⟩:∃ dd tt,X=dd::tt/\tt.length=32:=by
  rw [hX];cases Q6 b with
  | true=>exact ⟨_,_,rfl,A1c b⟩
  | false=>exact ⟨_,_,rfl,N2⟩
 have hXl:(encI X).length=33:=by rw [hXt];simp [C1,htt]
 obtain ⟨z,hz⟩:=xEq (C8 2 1 0 p0 (0::zI 6));have hzl:z.length=11:=by rw [hz];rfl
 have z11:[o0,o0,o0,o0,o0,o0,o0,o0,o0,o0,o0].length=11:=rfl;have ef:F5 [o0,o0,o0,o0,o0,o0,o0,o0,o0,o0,o0] [(0,1,iV 2),(1,1,iV 1),(3,1,iV p0)]=A4 z:=by rw [hz];rfl
 obtain ⟨T,hT⟩:=xEq ([rT z,rT I,rT (encI X)]);have P1:=P.more hv2 T;have F1:Fr r h (h++T):=Fr.low ((Low.refl (E56 _)).new _) P.rlt;have L0:LocV (h++T) r (l_ h+0) z:=LocV.new (k:=0) hv2 P (by rw [hT];rfl);have L1:LocV (h++T) r (l_ h+1) I:=LocV.new (k:=1) hv2 P (by rw [hT];rfl);have L2:LocV (h++T) r (l_ h+2) (encI X):=LocV.new (k:=2) hv2 P (by rw [hT];rfl);rw [E7a] at L0;have ad0:∀ j,K5 6 1 (pV j 4) (iV 0)=A4 (pV j 4):=λj=>Q1 (j:=0) (by omega)
 have eO:K4 D n c k=(bif decide (kdV D n k=2)&&Q6 b then (J7 D n c d0,K3 D n c d0) else (c,0)):=by unfold K4;rw [<-hd0,<-hb]
 have eI:∀ s:Cl × Int,K4 D n c k=s->V4 D n c k={ s.1 with ino:=s.1.ino.set k (2::1::0::p0::s.2::zI 6) }:=by
  intro s hs;unfold V4;rw [hs,<-hp0,E6q]
 have eC:∀ s:Cl × Int,K4 D n c k=s->(s.2≠0->Q6 b=A5)->oB D n c k=(if s.2=0 then { s.1 with ino:=s.1.ino.set k (2::1::0::p0::s.2::zI 6) } else aX D n { s.1 with ino:=s.1.ino.set k (2::1::0::p0::s.2::zI 6) } k s.2 dd tt):=by
  intro s hs hg;unfold oB;rw [hs,eI s hs,<-hd0,<-hb];split
  ·rfl
  ·rename_i aR;have h1:=hg aR;rw [h1,cond_true,hXt] at hX;cases hX;rfl
 have pre:∀ {v:Val} {h':A9},(cnd (bV (decide (kdV D n k=2)&&Q6 b)) (bnd (W7 [pV r 0,iV d0] (h++T)) λp33=>bnd (I8 p33.2 (pV (l_ h) 4) p33.1) λh36=>mH 300 (pV r 0) (iV (k:Int)) (pV (l_ h) 0) (pV (l_ h+2) 0) h36)
   (mH 300 (pV r 0) (iV (k:Int)) (pV (l_ h) 0) (pV (l_ h+2) 0) (h++T)))=A4 (v,h')->pE [pV r 0,iV (k:Int)] h=A4 (v,h'):=by
  intro v h' hj;refine B5a (n:=300) ?_;rw [B44];rw [hT] at hj;have l0:ld1 (rT I) 0=A4 (iV (kdV D n k)):=by rw [yB,I0];rfl
  have l4:ld1 (rT I) 4=A4 (iV d0):=by rw [yB,I4];rfl
  have E3s:(o0::E55 32 o0).length=33:=by simp
  have s33:stN (rT (o0::E55 32 o0)) 0 33 (encI X)=rT (encI X):=fD E3s hXl;generalize [o0,o0,o0,o0,o0,o0,o0,o0,o0,o0,o0]=zz at *;generalize E55 32 o0=z32 at *;generalize B5 b=BB at *;generalize encI X=XX at *;generalize vwC (l_ D) n m f=V at *;cases hgd:Q6 b with
  | true =>
   rw [hgd] at hj;simp only [hgd,cond_true] at D4F;by_cases ck:kdV D n k=2
   ·simp only [esc,O7,G8,Y9,I7,S3,G9,K8,fD,Nat.reduceAdd,q1,q2',vB,ef,hzl,z11,lV,hVI,hIl,ad0,l4,hBk,D4F,s33,l0,ck] at hj ⊢;exact hj
   ·simp only [esc,O7,G8,Y9,I7,S3,G9,K8,fD,Nat.reduceAdd,q1,q2',vB,ef,hzl,z11,lV,hVI,hIl,ad0,l4,hBk,D4F,s33,l0,ck] at hj ⊢;exact hj
  | false =>
   rw [hgd,Bool.and_false] at hj;simp only [hgd,cond_false] at D4F;have n14:¬ (14:Int)=0:=by decide
   by_cases ck:kdV D n k=2
   ·simp only [esc,O7,G8,Y9,I7,S3,G9,K8,fD,Nat.reduceAdd,q1,q2',vB,ef,hzl,z11,lV,hVI,hIl,ad0,l4,hBk,D4F,s33,l0,ck,n14] at hj ⊢;exact hj
   ·simp only [esc,O7,G8,Y9,I7,S3,G9,K8,fD,Nat.reduceAdd,q1,q2',vB,ef,hzl,z11,lV,hVI,hIl,ad0,l4,hBk,D4F,s33,l0,ck] at hj ⊢;exact hj
 cases vA:(decide (kdV D n k=2)&&Q6 b) with
 | true =>
  rw [vA] at pre eO;rw [cond_true] at eO;obtain ⟨h1,f1,f2,f3⟩:=B9i (no:=d0) P1;have A0:=L0.fr f3;have A2:=L2.fr f3;have s1:=I9 (x:=cI (K3 D n c d0)) (off:=4) A0.2 (by rw [hzl];omega);have es:z.set 4 (cI (K3 D n c d0))=C8 2 1 0 p0 (K3 D n c d0::zI 6):=by rw [hz];rfl
  rw [es] at s1;have hsame:=A0r D n c d0;rw [hXt] at A2;have sm':Small (J7 D n c d0) R B S Lo:=⟨by rw [hsame.row];exact sm.row,λi=>by rw [hsame.lnk];exact sm.lnk i,by rw [hsame.blocks];exact sm.blocks,by rw [hsame.made];exact sm.made,by rw [hsame.lost];exact sm.lost0,by rw [hsame.lost];exact sm.lost⟩;obtain ⟨h',e1,e2,e3,e4⟩:=D9g (ino:=k) (no:=K3 D n c d0) (q:=300) (h0:=h) hD hv htt (by omega) P.lo.2.1 (by rw [hsame.ino];exact i1) hR hB hS hLo sm' (f2.set A0.1 (by have:=P.lo.2.1;omega)) ((F1.trans f3).set A0.1 (E56 _)) A0.self (A2.set (by omega) A0.1.2.1);rw [eC _ eO (λ_=>by
   simp only [E53] at vA;exact vA.2)]
  refine ⟨h',pre ?_,e2,e3,e4⟩;simp only [W9,f1,C6,s1];exact e1
 | false =>
  rw [vA] at pre eO;rw [cond_false] at eO;rw [hz] at L0;rw [hXt] at L2;obtain ⟨h',e1,e2,e3,e4⟩:=D9g (ino:=k) (no:=0) (q:=300) (h0:=h) hD hv htt (by omega) P.lo.2.1 i1 hR hB hS hLo sm P1 F1 L0 L2;rw [eC _ eO (λaR=>absurd rfl aR)];refine ⟨h',pre ?_,e2,e3,e4⟩;simp only [Y0];exact e1
end
structure RowW(n:Int)(c:Cl):Prop where
 nd:c.row.Nodup
 par:∀ i,(c.par i).isSome=A5↔i∈c.row
 rg:∀ i∈c.row,1<=i/\i<=n
def RowW.same(h:RowW n c)(h1:c'.row=c.row)(h2:c'.par=c.par):RowW n c' :=
 ⟨by rw [h1];exact h.nd,λi=>by rw [h1,h2];exact h.par i,by rw [h1];exact h.rg⟩
def C9Q{dir:Int}(h:RowW n c):RowW n (T4 D n c dir ino):=by
 unfold T4;cases ht:Q7 D n c ino with
 | false=>exact h
 | true =>
  rw [cond_true];cases hs:(c.par ino).isSome with
  | true=>exact h.same rfl rfl
  | false =>
   rw [cond_false];have Y3:ino ∉ c.row:=λhm=>by
    rw [(h.par ino).2 hm] at hs;cases hs
   have hk:kdV D n ino≠0:=by
    intro e;unfold Q7 at ht;rw [e] at ht;simp at ht
   have hr:=(D4O hk).2;refine ⟨?_,λi=>?_,λi hi=>?_⟩
   ·show (c.row++[ino]).Nodup;rw [List.nodup_append];exact ⟨h.nd,by simp,λa ha b hb e=>by simp at hb;subst hb;subst e;exact Y3 ha⟩
   ·show (A0J c.par ino dir i).isSome=A5↔i∈c.row++[ino];unfold A0J;by_cases e:i=ino
    ·subst e;simp
    ·rw [if_neg e,h.par i];simp [e]
   ·have hi:i∈c.row++[ino]:=hi;rcases List.mem_append.1 hi with h1 | h1
    ·exact h.rg i h1
    ·simp at h1;subst h1;exact hr
def C9T{D:Dev}{n ino:Int}:∀ {L:List Ent} {s:Cl × (List UInt8->Option Int)},RowW n s.1->RowW n (O3 D n ino s L).1
 | [],_,h=>h
 | x::L,s,h=>by
  have h1:RowW n (J6 D n ino s x).1:=by
   unfold J6;cases Q7 D n s.1 x.2 with
   | false=>exact h
   | true=>exact C9Q h
  exact C9T (L:=L) (s:=J6 D n ino s x) h1
def nY{D:Dev}{X:List Int}{K:List UInt8->Option Int}:∀ {L:List Int} {c:Cl},(O6 D X K c L).row=c.row/\(O6 D X K c L).par=c.par
 | [],_=>⟨rfl,rfl⟩
 | no::L,c=>by
  have h1:=nY (D:=D) (X:=X) (K:=K) (L:=L) (c:=cU D X K c no);have h2:=A1F (D:=D) (X:=X) (no:=no) (K:=K) (l:=J1 (blk D no)) (s:=(c,dF []));exact ⟨h1.1.trans h2.row,h1.2.trans h2.par⟩
def uK:SameC c (K4 D n c ino).1:=by
 unfold K4;cases (decide (kdV D n ino=2)&&Q6 (blk D ((drV D n ino).getD 0 0))) with
 | true=>exact A0r ..
 | false=>exact .rfl' _
def D9a(h:RowW n c):RowW n (oB D n c ino):=by
 have hs:=uK (D:=D) (n:=n) (ino:=ino) (c:=c);have hI:RowW n (V4 D n c ino):=h.same hs.row hs.par;unfold oB;split
 ·exact hI
 ·unfold aX;have hb:=bC (D:=D) (n:=n) (L:=J4 (bL (getD (blk D ((drV D n ino).getD 0 0))) (O0 (blk D ((drV D n ino).getD 0 0)) 32)) (C5 (O9 (getD (blk D ((drV D n ino).getD 0 0))) (O0 (blk D ((drV D n ino).getD 0 0)) 32)))) (s:=(V4 D n c ino,bL (getD (blk D ((drV D n ino).getD 0 0))) (O0 (blk D ((drV D n ino).getD 0 0)) 32)));have h1:RowW n (G7 D n (V4 D n c ino) (getD (blk D ((drV D n ino).getD 0 0))) (O0 (blk D ((drV D n ino).getD 0 0)) 32)).1:=hI.same hb.row hb.par;have h2:RowW n (bodyT D n (V4 D n c ino) ino (getD (blk D ((drV D n ino).getD 0 0))) (O0 (blk D ((drV D n ino).getD 0 0)) 32)).1:=C9T (by exact h1);generalize bodyT D n (V4 D n c ino) ino (getD (blk D ((drV D n ino).getD 0 0))) (O0 (blk D ((drV D n ino).getD 0 0)) 32)=s2 at *;refine h2.same (nY.1.trans rfl) (nY.2.trans rfl)
def A0u:(U8 D n c ino).row=c.row/\(U8 D n c ino).par=c.par/\(U8 D n c ino).lnk=c.lnk/\(U8 D n c ino).lost=c.lost/\(U8 D n c ino).ino.length=c.ino.length/\(U8 D n c ino).blocks.length<=c.blocks.length+1/\(U8 D n c ino).made.length<=c.made.length+1:=by
 have hf:=oD (D:=D) (n:=n) (ino:=ino) (c:=c);have e1:(L8 D n c ino).row=c.row:=hf.1.row;have e2:(L8 D n c ino).par=c.par:=hf.1.par;have e3:(L8 D n c ino).lnk=c.lnk:=hf.1.lnk;have e4:(L8 D n c ino).lost=c.lost:=hf.1.lost;have e5:(L8 D n c ino).ino.length=c.ino.length:=by unfold L8;simp [hf.1.ino]
 have e6:(L8 D n c ino).blocks=c.blocks:=hf.1.blocks;have e7:(L8 D n c ino).made=c.made:=hf.1.made;unfold U8;split
 ·exact ⟨e1,e2,e3,e4,e5,by rw [e6];omega,by rw [e7];omega⟩
 ·have hs:=jF (D:=D) (n:=n) (many:=T5 (szV D n ino)) (e:=128) (k:=0) (s:=(L8 D n c ino,blk D ((H9 D n c ino).2.getD 6 0)));dsimp only at hs;generalize L9 D n (T5 (szV D n ino)) 128 0 (L8 D n c ino,blk D ((H9 D n c ino).2.getD 6 0))=s at *;refine ⟨hs.row.trans e1,hs.par.trans e2,hs.lnk.trans e3,hs.lost.trans e4,?_,?_,?_⟩
  ·show s.1.ino.length=_;rw [hs.ino];exact e5
  ·show (s.1.blocks++[_]).length<=_;rw [E58,hs.blocks,e6];simp
  ·show (s.1.made++[_]).length<=_;rw [E58,hs.made,e7];simp
def U0(D:Dev)(n:Int)(c:Cl)(ino:Int):Cl:=if ino≠1/\kdV D n ino=1 then U8 D n c ino else oB D n c ino
def ofR(D:Dev)(n:Int):Nat->Nat->Cl->Cl
 | 0,_,c=>c
 | e+1,i,c=>match c.row[i]? with
  | none=>c
  | some a=>ofR D n e (i+1) (U0 D n c a)
def C9U{D:Dev}{n ino:Int}:∀ {L:List Ent} {s:Cl × (List UInt8->Option Int)},s.1.row.length<=(O3 D n ino s L).1.row.length
 | [],_=>E56 _
 | x::L,s=>by
  have h1:s.1.row.length<=(J6 D n ino s x).1.row.length:=by
   unfold J6 T4;cases Q7 D n s.1 x.2 with
   | false=>exact E56 _
   | true =>
    simp only [cond_true];cases (s.1.par x.2).isSome with
    | true=>exact E56 _
    | false=>simp [C3Y,A1V]
  exact E6J h1 (C9U (L:=L) (s:=J6 D n ino s x))
def C1z:(dG c no b).row=c.row:=rfl
def D9b:c.row.length<=(oB D n c ino).row.length:=by
 have hs:=uK (D:=D) (n:=n) (ino:=ino) (c:=c);have e1:(V4 D n c ino).row=c.row:=hs.row;unfold oB;split
 ·rw [e1];exact E56 _
 ·unfold aX;rw [nY.1,C1z,<-e1];unfold bodyT;refine E6J (Nat.le_of_eq ?_) C9U;unfold G7;exact congrArg List.length (bC (D:=D) (n:=n) (s:=(V4 D n c ino,_)) (L:=_)).row.symm
def D24:c.row.length<=(U0 D n c ino).row.length:=by
 unfold U0;split
 ·rw [A0u.1];exact E56 _
 ·exact D9b
section
variable {D:Dev} {n m:Int} {f:Cell} {g:A9} {r:Nat} {h:A9}
def C2B{D:Dev}{X:List Int}{K:List UInt8->Option Int}:∀ {L:List Int} {c:Cl},(O6 D X K c L).ino=c.ino
 | [],_=>rfl
 | no::L,c=>by
  have h1:=C2B (D:=D) (X:=X) (K:=K) (L:=L) (c:=cU D X K c no);have h2:=A1F (D:=D) (X:=X) (no:=no) (K:=K) (l:=J1 (blk D no)) (s:=(c,dF []));exact h1.trans h2.ino
def gT{D:Dev}{n:Int}(h:RowW n c):RowW n (U0 D n c ino):=by
 unfold U0;split
 ·exact h.same A0u.1 A0u.2.1
 ·exact D9a h
def E1U{pv pr:Nat}{zr:List Cell}(hD:okD D)(hv:IsView g f D)(hn:n<=128) :
  ∀ (e i M:Nat) (c:Cl) (h:A9),i+e=129->e<M->i<=c.row.length->RowW n c->Small c 128 (224*i) (33*i) (224*i)->WP D n m f g r c h->Fr r h0 h->LocV h r pv (vwC (l_ D) n m f)->LocV h r pr zr ->
  ∃ M' h',uI q M (pV pv 0) (pV pr 0) (pV r 0) (iV (i:Int)) h=uI q (M'+1) (pV pv 0) (pV pr 0) (pV r 0) (iV ((ofR D n e i c).row.length:Nat)) h' /\
   WP D n m f g r (ofR D n e i c) h'/\Fr r h0 h'/\LocV h' r pv (vwC (l_ D) n m f)/\LocV h' r pr zr/\RowW n (ofR D n e i c)/\Small (ofR D n e i c) 128 (224*129) (33*129) (224*129):=by
 intro e
 induction e with
 | zero =>
  intro i M c h hi hM kX hR sm;have:=A6s hR.nd λa ha=>⟨(hR.rg a ha).1,by have:=(hR.rg a ha).2;omega⟩
  omega
 | succ e ih =>
  intro i M c h hi hM kX hR sm P F hpv hpr;obtain ⟨M,rfl⟩:=aP M (by omega);unfold ofR;cases hc:c.row[i]? with
  | none =>
   have hlen:=List.getElem?_eq_none_iff.1 hc;have ei:i=c.row.length:=by omega
   dsimp only;rw [<-ei];exact ⟨M,h,rfl,P,F,hpv,hpr,hR,⟨sm.row,sm.lnk.mono (by omega),E6J sm.blocks (by omega),E6J sm.made (by omega),sm.lost0,by have:=sm.lost;omega⟩⟩
  | some a =>
   dsimp only;have K7:i<c.row.length:=(List.getElem?_eq_some_iff.1 hc).1;have ha:a∈c.row:=E6n hc;obtain ⟨ra1,ra2⟩:=hR.rg a ha;obtain ⟨xr,xi,xt,xb,xm,ml,mp,es1,es2,g1,g2,g3,g4,g5,g6,g7,g8,g9,g10,g11⟩:=id P.row;have w1:=D9 (a:=i) (by omega);have c0:((i:Int)<(c.row.length:Nat)):=by omega
   rcases g3 with ⟨e0,_,_⟩ | ⟨rid,rfl,r1,r2,r3⟩
   ·omega
   ·have l4:B9 h (pV r 4)=A4 (sV rid 0 c.row.length 1):=C4 g1 rfl rfl;have ad:E9 1 (sV rid 0 c.row.length 1) (iV (i:Int))=A4 (pV rid i):=by rw [E3 K7];simp
    have la:B9 h (pV rid i)=A4 (iV a):=C4 r1 (by rw [G6,hc];rfl) rfl;have lV:D1 h 4 (pV pv 0)=A4 (.a (vwC (l_ D) n m f)):=C7 hpv.2 rfl;have hI:=V1 (n:=n) (m:=m) (i:=a) hD (hv.since P.lo);rw [pN] at hI;have f0:∀ k l s p d,B5S (.a (C8 k l s p d)) 0=A4 (iV k):=λ_ _ _ _ _=>rfl
    have hin:a.toNat<c.ino.length:=by rw [P.ilen];omega
    have hR':=gT (D:=D) (ino:=a) hR;have r128:=A6s hR'.nd λa ha=>⟨(hR'.rg a ha).1,by have:=(hR'.rg a ha).2;omega⟩
    have step:∃ h1,WP D n m f g r (U0 D n c a) h1/\Fr r h h1/\Small (U0 D n c a) 128 (224*(i+1)) (33*(i+1)) (224*(i+1)) /\
      uI q (M+1) (pV pv 0) (pV pr 0) (pV r 0) (iV (i:Int)) h=uI q M (pV pv 0) (pV pr 0) (pV r 0) (iV ((i+1:Nat):Int)) h1:=by
     rw [B3l];have hs:=A0u (D:=D) (n:=n) (ino:=a) (c:=c);have sb:=sm.blocks;have smd:=sm.made;have sl:=sm.lost;by_cases c1:a=1
     ·obtain ⟨h1,f1,f2,f3,f4⟩:=D9f hD hv P (by omega) hin (by omega) (by omega) (by omega) (by omega) sm;have eo:U0 D n c a=oB D n c a:=by unfold U0;rw [if_neg (by simp [c1])]
      rw [eo] at r128 ⊢;refine ⟨h1,f2,f3,⟨r128,f4.lnk.mono (by omega),by have:=f4.blocks;omega,by have:=f4.made;omega,f4.lost0,by have:=f4.lost;omega⟩,?_⟩;rw [c1] at la f1;generalize vwC (l_ D) n m f=V at *;simp only [esc,l4,c0,ad,la,eq_self,f1,A4D,w1]
     ·by_cases c2:kdV D n a=1
      ·obtain ⟨h1,f1,f2,f3⟩:=E1y hD hv P (by omega) (by omega) (by omega) hin;have eo:U0 D n c a=U8 D n c a:=by unfold U0;rw [if_pos ⟨c1,c2⟩]
       rw [eo] at r128 ⊢;refine ⟨h1,f2,f3,⟨r128,λj=>by rw [hs.2.2.1];have:=sm.lnk j;omega,by have:=hs.2.2.2.2.2.1;omega,by have:=hs.2.2.2.2.2.2;omega,by rw [hs.2.2.2.1];exact sm.lost0,by rw [hs.2.2.2.1];omega⟩,?_⟩;generalize vwC (l_ D) n m f=V at *;simp only [esc,l4,c0,ad,la,c1,lV,hI,f0,c2,f1,A4D,w1]
      ·obtain ⟨h1,f1,f2,f3,f4⟩:=D9f hD hv P (by omega) hin (by omega) (by omega) (by omega) (by omega) sm;have eo:U0 D n c a=oB D n c a:=by unfold U0;rw [if_neg (by simp [c2])]
       rw [eo] at r128 ⊢;refine ⟨h1,f2,f3,⟨r128,f4.lnk.mono (by omega),by have:=f4.blocks;omega,by have:=f4.made;omega,f4.lost0,by have:=f4.lost;omega⟩,?_⟩;generalize vwC (l_ D) n m f=V at *;simp only [esc,l4,c0,ad,la,c1,lV,hI,f0,c2,f1,A4D,w1]
    obtain ⟨h1,s1,s2,s3,s4⟩:=step;have hlen:i+1<=(U0 D n c a).row.length:=by
     have:c.row.length<=(U0 D n c a).row.length:=D24;omega
    obtain ⟨M',h',e1,e2⟩:=ih (i+1) M (U0 D n c a) h1 (by omega) (by omega) hlen hR' s3 s1 (F.trans s2) (hpv.fr s2) (hpr.fr s2);exact ⟨M',h',s4.trans e1,e2⟩
end
def D3C:∀ {l:List (List Int)} {i k:Nat} {v:Int} (h:∀ x∈l,x.length=11) (hi:i<l_ l) (hk:k<11),(oL l).set (i*11+k) (cI v)=oL (l.set i ((l.getD i []).set k v))
 | x::l,0,k,v,h,_,hk=>by
  have hx:=h x (E6e ..);rw [bF,Nat.zero_mul,E6j,List.set_append_left _ _ (by rw [C1];omega),A1H];rfl
 | x::l,i+1,k,v,h,hi,hk=>by
  have hx:=h x (E6e ..);have ih:=D3C (l:=l) (i:=i) (k:=k) (v:=v) (λy hy=>h y (E59 _ hy)) (by simpa using hi) hk;rw [bF,E6O _ _ (by rw [C1,hx];omega),C1,hx,show (i+1)*11+k-11=i*11+k by omega,ih];rfl
def D2r:∀ {l:List (List Int)} {i k:Nat} (h:∀ x∈l,x.length=11) (hi:i<l_ l) (hk:k<11),(oL l)[i*11+k]?=A4 (cI ((l.getD i []).getD k 0))
 | x::l,0,k,h,_,hk=>by
  have hx:=h x (E6e ..);rw [bF,Nat.zero_mul,E6j,E6H (by rw [C1];omega),G6,E51 (by omega)];simp [List.getD,show k<x.length by omega]
 | x::l,i+1,k,h,hi,hk=>by
  have hx:=h x (E6e ..);have ih:=D2r (l:=l) (i:=i) (k:=k) (λy hy=>h y (E59 _ hy)) (by simpa using hi) hk;rw [bF,E6r (by rw [C1,hx];omega),C1,hx,show (i+1)*11+k-11=i*11+k by omega,ih];rfl
def aJ(c:Cl)(a:Int):Cl:=if (c.ino.getD a.toNat []).getD 0 0=1 then { c with ino:=c.ino.set a.toNat ((c.ino.getD a.toNat []).set 1 ((c.lnk a).getD 0)) } else c
def bP(c:Cl)(L:List Int):Cl:=L.foldl aJ c
section
variable {D:Dev} {n m:Int} {f:Cell} {g:A9} {r:Nat} {c:Cl} {h:A9}
def WP.setLink(hv:∃ id cs,f=.f id cs)(P:WP D n m f g r c h)(hk:k<c.ino.length)(v:Int) :
  ∃ id h',B9 h (pV r 5)=A4 (sV id 0 c.ino.length 11)/\rd h id=rT (oL c.ino)/\I8 h (pV id (k*11+1)) (iV v)=A4 h'/\WP D n m f g r { c with ino:=c.ino.set k ((c.ino.getD k []).set 1 v) } h'/\Fr r h h' /\
   ∀ rid nn,rd h r≠A7->(∃ cs,rd h r=rT cs/\cs[4]?=A4 (.sl rid 0 nn 1))->rd h' r=rd h r/\rd h' rid=rd h rid:=by
 obtain ⟨xr,xi,xt,xb,xm,ml,mp,es1,es2,g1,g2,g3,g4,g5,g6,g7,g8,g9,g10,g11⟩:=id P.row;rcases g4 with ⟨e,_,_⟩ | ⟨t,rfl,t1,t2,t3⟩
 ·omega
 ·have l1:B9 h (pV r 5)=A4 (sV t 0 c.ino.length 11):=C4 g1 rfl rfl;have st:=I9 (x:=cI v) (off:=k*11+1) t1 (by rw [t2];omega);rw [D3C P.il hk (by omega)] at st;obtain ⟨q1,q2,q3,q4,q5⟩:=P.mod (off:=5) (x:=.sl t 0 c.ino.length 11) hv g1 rfl rfl (rT (oL (c.ino.set k ((c.ino.getD k []).set 1 v))));have hkl:(c.ino.getD k []).length=11:=by
   rw [E54,E51 hk];exact P.il _ (E6w hk)
  have K7:∀ x∈c.ino.set k ((c.ino.getD k []).set 1 v),x.length=11:=λx hx=>by
   rcases List.mem_or_eq_of_mem_set hx with h1 | h1
   ·exact P.il x h1
   ·rw [h1,E6F];exact hkl
  refine ⟨t,_,l1,t1,st,⟨q2,P.ge,λid hn=>P.low id ((Nam.same q3).1 hn),K7,by simpa using P.ilen,P.tlen,xr,_,xt,xb,xm,ml,mp,es1,es2,by rw [q3];exact g1,g2,g3.kept λid e=>q4 4 _ _ (by decide) rfl e,.inr ⟨t,by simp,q5,by rw [xZ K7],t3⟩,g5.kept λid e=>q4 6 _ _ (by decide) rfl e,g6.kept λid e=>q4 7 _ _ (by decide) rfl e,g7.kept λid e=>q4 8 _ _ (by decide) rfl e,?_,g9,?_,g11⟩,q1,λrid nn _ hc=>⟨q3,?_⟩⟩
  ·rw [q4 10 (.m ml) ml (by decide) rfl rfl];exact g8
  ·rw [q4 11 (.m mp) mp (by decide) rfl rfl];exact g10
  ·obtain ⟨cs,hc1,hc2⟩:=hc;rw [g1] at hc1;cases hc1;exact q4 4 _ rid (by decide) hc2 rfl
def D7v{pr rid:Nat}{R:List Int}(hv:IsView g f D)(hR:l_ R<=1000)(hrg:∀ a∈R,1<=a/\a<=n) :
  ∀ (e i M:Nat) (c:Cl) (h:A9),i+e=l_ R->e<M->WP D n m f g r c h->Fr r h0 h->(∃ z,z.length=6/\LocV h r pr z)->(∃ cs,rd h r=rT cs/\cs[4]?=A4 (.sl rid 0 (l_ R) 1))->rd h rid=rT (encI R) ->
  ∃ M' h',B3m q M (pV pr 0) (pV r 0) (sV rid 0 (l_ R) 1) (iV (l_ R:Nat)) (iV (i:Int)) h=B3m q (M'+1) (pV pr 0) (pV r 0) (sV rid 0 (l_ R) 1) (iV (l_ R:Nat)) (iV (l_ R:Nat)) h' /\
   WP D n m f g r (bP c (R.drop i)) h'/\Fr r h0 h'/\(∃ z,z.length=6/\LocV h' r pr z):=by
 intro e
 induction e with
 | zero =>
  intro i M c h hi hM P F hz hc hr;obtain ⟨M,rfl⟩:=aP M (by omega);have ei:i=(l_ R):=by omega
  subst ei;rw [List.drop_length];exact ⟨M,h,rfl,P,F,hz⟩
 | succ e ih =>
  intro i M c h hi hM P F hz hc hr;obtain ⟨M,rfl⟩:=aP M (by omega);have K7:i<(l_ R):=by omega
  have hv2:=hv.get;have c0:((i:Int)<(l_ R:Nat)):=by omega
  have w1:=D9 (a:=i) (by omega);have ad:E9 1 (sV rid 0 (l_ R) 1) (iV (i:Int))=A4 (pV rid i):=by rw [E3 K7];simp
  have la:B9 h (pV rid i)=A4 (iV R[i]):=C4 hr (by rw [G6,E51 K7];rfl) rfl;obtain ⟨ra1,ra2⟩:=hrg _ (E6w K7);rw [E6b K7];have er:∀ T,bP c (R[i]::T)=bP (aJ c R[i]) T:=λT=>rfl
  rw [er];obtain ⟨k,hk⟩:=E61 (show 0<=R[i] by omega);rw [hk] at la ra1 ra2 ⊢;have hin:k<c.ino.length:=by rw [P.ilen];omega
  obtain ⟨id,h1,a1,a2,a3,a4,a5,a6⟩:=P.setLink hv2 hin ((c.lnk k).getD 0);obtain ⟨ml,hx,b1,b2,_⟩:=P.setLnk hv2 0 0;have b2':=b2 A6 k;have adI:E9 11 (sV id 0 c.ino.length 11) (iV (k:Int))=A4 (pV id (k*11)):=by rw [E3 hin];simp
  have lk:B9 h (pV id (k*11))=A4 (iV ((c.ino.getD k []).getD 0 0)):=C4 a2 (by have:=D2r (l:=c.ino) (i:=k) (k:=0) P.il hin (by omega);simpa using this) rfl;rw [B3n];by_cases c1:(c.ino.getD k []).getD 0 0=1
  ·have ec:aJ c (k:Int)={ c with ino:=c.ino.set k ((c.ino.getD k []).set 1 ((c.lnk k).getD 0)) }:=by unfold aJ;rw [E6q,if_pos c1]
   rw [ec];have aR:rd h r≠A7:=by obtain ⟨cs,h1,_⟩:=hc;rw [h1];simp
   obtain ⟨k1,k2⟩:=a6 rid (l_ R) aR hc;obtain ⟨z,hzl,hz⟩:=hz;obtain ⟨M',h',e1,e2⟩:=ih (i+1) M _ h1 (by omega) (by omega) a4 (F.trans a5) ⟨z,hzl,hz.fr a5⟩ (by rw [k1];exact hc) (by rw [k2];exact hr);refine ⟨M',h',?_,e2⟩;simp only [esc,Nat.reduceAdd,c0,ad,la,a1,adI,lk,c1,b1,b2',vB,a3,B3j,w1];exact e1
  ·have ec:aJ c (k:Int)=c:=by unfold aJ;rw [E6q,if_neg c1]
   rw [ec];obtain ⟨M',h',e1,e2⟩:=ih (i+1) M c h (by omega) (by omega) P F hz hc hr;refine ⟨M',h',?_,e2⟩;simp only [esc,Nat.reduceAdd,c0,ad,la,a1,adI,lk,c1,B3j,w1];exact e1
def yP(c:Cl):Nat->Cl
 | 0=>c
 | k+1=>{ yP c k with taken:=(yP c k).taken.set k A5 }
def E0d{pv pr sid K:Nat}{cv cr:List Cell}(hv:IsView g f D)(hK:K<=l_ D)(hK2:K<=1000) :
  ∀ (e i M:Nat) (h:A9),i+e=K->e<M->WP D n m f g r (yP c i) h->Fr r h0 h->LocV h r pv cv->LocV h r pr cr->LocV h r sid (encI (upto K)) ->
  ∃ h',C2z q M (pV pv 0) (pV pr 0) (pV r 0) (sV sid 0 K 1) (iV (K:Nat)) (iV (i:Int)) h=uI q q (pV pv 0) (pV pr 0) (pV r 0) (iV 0) h' /\
   WP D n m f g r (yP c K) h'/\Fr r h0 h'/\LocV h' r pv cv/\LocV h' r pr cr:=by
 intro e
 induction e with
 | zero =>
  intro i M h hi hM P F hp hr hs;obtain ⟨M,rfl⟩:=aP M (by omega);have ei:i=K:=by omega
  subst ei;refine ⟨h,?_,P,F,hp,hr⟩;have c0:¬ ((i:Int)<(i:Nat)):=by omega
  rw [B3k];simp only [esc,c0]
 | succ e ih =>
  intro i M h hi hM P F hp hr hs;obtain ⟨M,rfl⟩:=aP M (by omega);have hiK:i<K:=by omega
  have c0:((i:Int)<(K:Nat)):=by omega
  have w1:=D9 (a:=i) (by omega);have ad:E9 1 (sV sid 0 K 1) (iV (i:Int))=A4 (pV sid i):=by rw [E3 hiK];simp
  have la:B9 h (pV sid i)=A4 (iV (i:Int)):=C4 hs.2 (by rw [G6];simp [upto,hiK]) rfl;obtain ⟨xr,xi,xt,xb,xm,ml,mp,es1,es2,g1,_⟩:=id P.row;obtain ⟨t,rfl,t1,t2,t3⟩:=P.take (k:=i) (v:=A5) g1 (by omega);have lT:B9 h (pV r 6)=A4 (sV t 0 (l_ D) 1):=C4 g1 rfl rfl;have hit:i<(yP c i).taken.length:=by rw [P.tlen];omega
  have adT:E9 1 (sV t 0 (l_ D) 1) (iV (i:Int))=A4 (pV t i):=by rw [E3 (show i<(l_ D) by omega)];simp
  have s1:I8 h (pV t i) (bV A5)=A4 (h.set t (rT (gJ ((yP c i).taken.set i A5)))):=by
   rw [I9 t1 (by simp [gJ,hit])];simp [gJ,List.map_set]
  obtain ⟨h',e1,e2⟩:=ih (i+1) M _ (by omega) (by omega) t2 (F.trans t3) (hp.fr t3) (hr.fr t3) (hs.fr t3);refine ⟨h',?_,e2⟩;rw [B3k];simp only [esc,Nat.reduceAdd,c0,ad,la,lT,adT,s1,w1];exact e1
end
def B65{h2:A9}{b:Nat}:∀ (l:List Cell) (seen:List Nat),(∀ x∈l,x.flat=A5\/∃ id off n sz cs,x=.sl id off n sz/\b<=id/\rd h2 id=rT cs/\N8 cs=A5) ->
  (∀ (i j a:Nat) (x y:Cell),l[i]?=A4 x->l[j]?=A4 y->nmC x=A4 a->nmC y=A4 a->i=j)->(∀ x∈l,∀ a,nmC x=A4 a->a ∉ seen) ->
  ∃ l2 fin,Q2 h2 b seen l=A4 (l2,fin)/\seen <+: fin/\l2.length=l_ l/\∀ (i:Nat) (x:Cell),l[i]?=A4 x->(x.flat=A5/\l2[i]?=A4 x)\/∃ id off n sz j,x=.sl id off n sz/\l2[i]?=A4 (.sl (b+j) off n sz)/\fin[j]?=A4 id
 | [],seen,_,_,_=>⟨[],seen,rfl,E6T _,rfl,λi x h=>by simp at h⟩
 | c::l,seen,hf,hd,hs=>by
  have hd':∀ (i j a:Nat) (x y:Cell),l[i]?=A4 x->l[j]?=A4 y->nmC x=A4 a->nmC y=A4 a->i=j:=λi j a x y h1 h2 h3 h4=>by
   have:=hd (i+1) (j+1) a x y (by simpa using h1) (by simpa using h2) h3 h4;omega
  rcases hf c (E6e ..) with hc | ⟨id,off,n,sz,cs,rfl,hb,hr,hfl⟩
  ·obtain ⟨l2,fin,e1,e2,e3,e4⟩:=B65 l seen (λx hx=>hf x (E59 _ hx)) hd' λx hx=>hs x (E59 _ hx)
   refine ⟨c::l2,fin,?_,e2,by simp [e3],λi x hi=>?_⟩
   ·unfold Q2;rw [if_pos (Cell.low_of_flat hc),e1];rfl
   ·cases i with
    | zero=>simp at hi;subst hi;exact .inl ⟨hc,rfl⟩
    | succ i=>simpa using e4 i x (by simpa using hi)
  ·have hns:id ∉ seen:=hs _ (E6e ..) id rfl;obtain ⟨l2,fin,e1,e2,e3,e4⟩:=B65 l (seen++[id]) (λx hx=>hf x (E59 _ hx)) hd' λx hx a ha=>by
    rw [List.mem_append];rintro (h1 | h1)
    ·exact hs x (E59 _ hx) a ha h1
    ·simp at h1;subst h1;obtain ⟨j,hj⟩:=List.mem_iff_getElem?.1 hx;have:=hd 0 (j+1) a _ x rfl (by simpa using hj) rfl ha;omega
   have hlow:¬ (Cell.sl id off n sz).low b=A5:=by simp [Cell.low];omega
   refine ⟨.sl (b+seen.length) off n sz::l2,fin,?_,(List.prefix_append _ _).trans e2,by simp [e3],λi x hi=>?_⟩
   ·unfold Q2;rw [if_neg hlow];dsimp only;rw [if_pos ⟨hb,hns,pP hr hfl⟩,e1];rfl
   ·cases i with
    | zero =>
     simp at hi;subst hi;refine .inr ⟨id,off,n,sz,seen.length,rfl,rfl,?_⟩;obtain ⟨t,rfl⟩:=e2;simp
    | succ i=>simpa using e4 i x (by simpa using hi)
structure IsCl(h:A9)(cs:List Cell)(c:Cl):Prop where
 form:∃ xr xi xt xb xm,cs=[xr,xi,xt,xb,xm,cI c.lost]/\Has h (.c xr) 1 c.row.length (encI c.row)/\Has h (.c xi) 11 c.ino.length (oL c.ino)/\Has h (.c xt) 1 c.taken.length (gJ c.taken)/\Has h (.c xb) 1 c.blocks.length (encI c.blocks)/\Has h (.c xm) 256 c.made.length (E8 c.made)
def H8(D:Dev)(n:Int):Cl:=⟨[1],E55 (n+1).toNat (zI 11),E55 (l_ D) A6,[],[],0,λ_=>A7,A0J (λ_=>A7) 1 1⟩
def F6(D:Dev)(n:Int):Cl:=ofR D n 129 0 (yP (H8 D n) (bD (l_ D) n).toNat)
def F7(D:Dev)(n:Int):Cl:=bP (F6 D n) (F6 D n).row
def HeldX.canon{x:Cell}{l:List Cell}{n sz r:Nat}(hx:HeldX h x l n sz r)(hf:N8 l=A5)(hlow:∀ id,nmC x=A4 id->l_ g<=id):x.flat=A5\/∃ id off n sz cs,x=.sl id off n sz/\(l_ g)<=id/\rd h id=rT cs/\N8 cs=A5:=by
 rcases hx with ⟨_,_,rfl⟩ | ⟨id,rfl,h1,h2,h3⟩
 ·exact .inl rfl
 ·exact .inr ⟨id,0,n,sz,l,rfl,hlow id rfl,h1,hf⟩
def HeldX.moved{h2:A9}{x y:Cell}{l:List Cell}{n sz r:Nat}{fin:List Nat}(hx:HeldX h2 x l n sz r)(hn:noX l=A5)(hy:(x.flat=A5/\y=x)\/∃ id off n sz j,x=.sl id off n sz/\y=.sl (l_ h+j) off n sz/\fin[j]?=A4 id):Has (h++fin.map (rd h2)) (.c y) sz n l:=by
 rcases hx with ⟨h1,h3,h4⟩ | ⟨id,rfl,h1,h3,h4⟩
 ·subst h4;rcases hy with ⟨_,rfl⟩ | ⟨_,_,_,_,_,e,_⟩
  ·exact .inl ⟨rfl,h1,h3⟩
  ·cases e
 ·rcases hy with ⟨e,_⟩ | ⟨dM,off,n',sz',j,e,rfl,hj⟩
  ·cases e
  ·cases e;refine Has.row (rw:=A5) ?_ h3 hn;unfold rd;rw [E6r (by omega),show (l_ h)+j-l_ h=j by omega,List.getElem?_map,hj];exact h1
def D01{D:Dev}{n:Int}:∀ {e i:Nat} {c:Cl},c.row.length<=(ofR D n e i c).row.length
 | 0,_,_=>E56 _
 | e+1,i,c=>by
  unfold ofR;cases c.row[i]? with
  | none=>exact E56 _
  | some a=>exact E6J D24 D01
def E1r{b:Int}(h:P7 b n=A5):bD b n<=b:=by
 obtain ⟨_,_,_,_,_,h6⟩:=I1.1 h;have:=I1.1 h;unfold bD bH mP;rw [h];simp only [cond_true];omega
def ownR_same{c:Cl}:∀ {k:Nat},SameC c (yP c k)
 | 0=>.rfl' _
 | k+1=>by
  have h:=ownR_same (c:=c) (k:=k);exact ⟨h.row,h.ino,h.blocks,h.made,h.lost,h.lnk,h.par⟩
section
variable {D:Dev} {n m:Int} {f:Cell} {h:A9}
def C81(hD:okD D)(hv:IsView g f D)(hm:P7 (l_ D) n=A5) :
  ∃ six g',B6r 1200 [.a (vwC (l_ D) n m f)] g=A4 (.a six,g')/\WP D n m f g (l_ g+4) (F7 D n) g'/\∃ V t,rd g' (l_ g+4)=rT (V++six++t)/\(l_ V)=4/\six.length=6/\RowW n (F6 D n)/\Small (F6 D n) 128 (224*129) (33*129) (224*129):=by
 have hv2:=hv.get;obtain ⟨b16,b512,n8,n128,_,_⟩:=I1.1 hm;obtain ⟨N,hN⟩:∃ N:Nat,n+1=(N:Int):=E61 (by omega);have hCk:=λh=>cY (b:=l_ D) (n:=n) (m:=m) (h:=h)
 rw [hm,cond_true] at hCk;obtain ⟨W,hW⟩:=xEq (wkC D n m f (.sl (l_ g+5) 0 1 1) (.sl (l_ g+6) 0 N 11) (.sl (l_ g+7) 0 (l_ D) 1) .ns .ns 0 (l_ g+2) (l_ g+3));obtain ⟨T,hT⟩:∃ T:A9,T=[rT (vwC (l_ D) n m f),rT [.ns,.ns,.ns,.ns,.ns,o0],A4 (P6 []),A4 (P6 [(cI 1,.c (cI 1))]),rT W,rT [cI 1],rT (oL (E55 N (zI 11))),rT (gJ (E55 (l_ D) A6))]:=⟨_,rfl⟩;have at_:∀ (k:Nat) (x:Option Row),T[k]?=A4 x->rd (g++T) (l_ g+k)=x:=λk x hk=>by
  unfold rd;rw [E6r (by omega),show (l_ g)+k-l_ g=k by omega,hk];rfl
 have K7:∀ x∈E55 N (zI 11),x.length=11:=λx hx=>by rw [List.eq_of_mem_replicate hx];simp [zI]
 have P0:WP D n m f g (l_ g+4) (H8 D n) (g++T):=by
  have r4:=at_ 4 (rT W) (by rw [hT];rfl);rw [hW] at r4;refine ⟨(Low.refl (E56 _)).new _,by omega,λid hn=>?_,?_,?_,?_,?_⟩
  ·obtain ⟨R,x,hR,hx,hnm⟩:=hn;rw [r4] at hR;cases hR;obtain ⟨fi,fc,rfl⟩:=hv2;simp only [wkC,E68,List.not_mem_nil,or_false] at hx;rcases hx with rfl | rfl | rfl | rfl | rfl | rfl | rfl | rfl | rfl | rfl | rfl | rfl<;>cases hnm<;>omega
  ·intro x hx;exact K7 x (by unfold H8 at hx;dsimp only at hx;rw [hN] at hx;simpa using hx)
  ·simp [H8]
  ·simp [H8]
  ·refine ⟨_,_,_,_,_,_,_,[],[(cI 1,.c (cI 1))],r4,⟨λi j a x y hi hj hx hy=>?_,λx hx=>?_⟩,.inr ⟨_,rfl,at_ 5 _ (by rw [hT];rfl),rfl,by omega⟩,?_,?_,.inl ⟨rfl,rfl,rfl⟩,.inl ⟨rfl,rfl,rfl⟩,at_ 2 _ (by rw [hT];rfl),MapI.nil,at_ 3 _ (by rw [hT];rfl),MapI.nil.put 1 1⟩
   ·obtain ⟨fi,fc,rfl⟩:=hv2;have hi2:=(List.getElem?_eq_some_iff.1 hi).1;have hj2:=(List.getElem?_eq_some_iff.1 hj).1;simp only [wkC,E6g,E6E] at hi2 hj2;have cases12:∀ k:Nat,k<12->k=0\/k=1\/k=2\/k=3\/k=4\/k=5\/k=6\/k=7\/k=8\/k=9\/k=10\/k=11:=λk hk=>by omega
    rcases cases12 i (by omega) with rfl | rfl | rfl | rfl | rfl | rfl | rfl | rfl | rfl | rfl | rfl | rfl<;>(cases hi;try cases hx) <;>
     (rcases cases12 j (by omega) with rfl | rfl | rfl | rfl | rfl | rfl | rfl | rfl | rfl | rfl | rfl | rfl<;>(cases hj;try simp [nmC] at hy)<;>first | rfl | omega)
   ·obtain ⟨fi,fc,rfl⟩:=hv2;simp only [wkC,E68,List.not_mem_nil,or_false] at hx;rcases hx with rfl | rfl | rfl | rfl | rfl | rfl | rfl | rfl | rfl | rfl | rfl | rfl<;>simp [nmC]
   ·have e:(H8 D n).ino=E55 N (zI 11):=by unfold H8;rw [hN];simp
    rw [e,E6y];exact .inr ⟨_,rfl,at_ 6 _ (by rw [hT];rfl),by rw [xZ K7,E6y],by omega⟩
   ·have e:(H8 D n).taken=E55 (l_ D) A6:=rfl;rw [e,E6y];exact .inr ⟨_,rfl,at_ 7 _ (by rw [hT];rfl),by simp [gJ],by omega⟩
 have r4:=at_ 4 (rT W) (by rw [hT];rfl);have noN:∀ k:Nat,k<2->¬ Nam (g++T) (l_ g+4) (l_ g+k):=by
  rintro k hk ⟨R,x,hR,hx,hnm⟩;rw [r4,hW] at hR;cases hR;obtain ⟨fi,fc,rfl⟩:=hv2;simp only [wkC,E68,List.not_mem_nil,or_false] at hx;rcases hx with rfl | rfl | rfl | rfl | rfl | rfl | rfl | rfl | rfl | rfl | rfl | rfl<;>simp [nmC] at hnm<;>omega
 have hTl:l_ T=8:=by rw [hT];rfl
 have hGl:(g++T).length=l_ g+8:=by rw [E58,hTl]
 have LV:LocV (g++T) (l_ g+4) (l_ g) (vwC (l_ D) n m f):=⟨⟨by omega,by omega,by simpa using noN 0 (by omega)⟩,by simpa using at_ 0 _ (by rw [hT];rfl)⟩;have LR:LocV (g++T) (l_ g+4) (l_ g+1) [.ns,.ns,.ns,.ns,.ns,o0]:=⟨⟨by omega,by omega,noN 1 (by omega)⟩,at_ 1 _ (by rw [hT];rfl)⟩;obtain ⟨K,hK⟩:=xEq ((bD (l_ D) n).toNat);have hKr:=oA (b:=(l_ D:Int)) (n:=n);have hKD:K<=l_ D/\K<=1000:=by
  rw [hK];have:bD (l_ D:Int) n<=(l_ D):=E1r hm;omega
 have E1B:=B3A (b:=l_ D) (n:=n) (m:=m) (h:=g++T);rw [<-hK] at E1B;have eu:(upto K).length=K:=by simp [upto]
 have P1:=P0.more hv2 [rT (encI (upto K))];have F1:Fr (l_ g+4) (g++T) (g++T++[rT (encI (upto K))]):=Fr.low ((Low.refl (E56 _)).new _) P0.rlt;have LO:LocV (g++T++[rT (encI (upto K))]) (l_ g+4) ((g++T).length+0) (encI (upto K)):=LocV.new (k:=0) hv2 P0 rfl;rw [E7a] at LO;obtain ⟨h1,e1,P2,F2,LV2,LR2⟩:=E0d (c:=H8 D n) (q:=1200) (pv:=l_ g) (pr:=l_ g+1) (sid:=(g++T).length) (h0:=g++T) hv hKD.1 hKD.2 K 0 1200 _ (by omega) (by omega) P1 F1 (LV.fr F1) (LR.fr F1) LO;have hsO:=ownR_same (c:=H8 D n) (k:=K);have rI:RowW n (yP (H8 D n) K):=by
  refine RowW.same (c:=H8 D n) ⟨by simp [H8],λi=>?_,λi hi=>?_⟩ hsO.row hsO.par
  ·by_cases c1:i=1
   ·subst c1;simp [H8,A0J]
   ·simp [H8,A0J,c1]
  ·simp [H8] at hi;omega
 have smI:Small (yP (H8 D n) K) 128 (224*0) (33*0) (224*0):=⟨by rw [hsO.row];simp [H8],λi=>by rw [hsO.lnk];simp [H8],by rw [hsO.blocks];simp [H8],by rw [hsO.made];simp [H8],by rw [hsO.lost];simp [H8],by rw [hsO.lost];simp [H8]⟩;obtain ⟨M',h2,e2,P3,F3,LV3,LR3,rO,smO⟩:=E1U (q:=1200) (pv:=l_ g) (pr:=l_ g+1) (h0:=g++T) hD hv n128 129 0 1200 (yP (H8 D n) K) h1 (by omega) (by omega) (by omega) rI smI P2 F2 LV2 LR2;have ecO:ofR D n 129 0 (yP (H8 D n) K)=F6 D n:=by unfold F6;rw [<-hK]
 rw [ecO] at e2 P3 rO smO;obtain ⟨c,hc⟩:=xEq (F6 D n);rw [<-hc] at e2 P3 rO smO;have oG:1<=c.row.length:=by
  have:(yP (H8 D n) K).row.length<=c.row.length:=by rw [hc,<-ecO];exact D01
  rw [hsO.row] at this;simpa [H8] using this
 obtain ⟨xr,xi,xt,xb,xm,ml,mp,es1,es2,g1,g2,g3,g4,g5,g6,g7,g8,g9,g10,g11⟩:=id P3.row;rcases g3 with ⟨e0,_,_⟩ | ⟨rid,rfl,r1,r2,r3⟩
 ·omega
 have l4:B9 h2 (.c (.p (l_ g+4) 4))=A4 (.c (.sl rid 0 c.row.length 1)):=C4 g1 rfl rfl;have c0:¬ ((c.row.length:Nat):Int)<(c.row.length:Nat):=by omega
 have r128:=A6s rO.nd λa ha=>⟨(rO.rg a ha).1,by have:=(rO.rg a ha).2;omega⟩
 obtain ⟨M2,h3,e3,P4,F4,z,hzl,LR4⟩:=D7v (q:=1200) (pr:=l_ g+1) (rid:=rid) (R:=c.row) (h0:=g++T) hv (by omega) rO.rg c.row.length 0 1200 c h2 (by omega) (by omega) P3 F3 ⟨_,rfl,LR3⟩ ⟨_,g1,rfl⟩ r1;rw [E6i] at P4;have ecF:bP c c.row=F7 D n:=by unfold F7;rw [<-hc]
 rw [ecF] at P4;obtain ⟨yr,yi,yt,yb,ym,nl,np,fs1,fs2,k1,k2,_⟩:=id P4.row;have l6:D1 h3 6 (.c (.p (l_ g+4) 4))=A4 (.a [yr,yi,yt,yb,ym,cI (F7 D n).lost]):=by rw [T1 k1 (by simp [wkC]) rfl];rfl
 have s6:=storeAll (n:=6) (xs:=[yr,yi,yt,yb,ym,cI (F7 D n).lost]) LR4.2 hzl rfl;have LR5:=LR4.self (cs':=[yr,yi,yt,yb,ym,cI (F7 D n).lost]);have l6':=C7 (n:=6) LR5.2 rfl;refine ⟨[yr,yi,yt,yb,ym,cI (F7 D n).lost],h3.set (l_ g+1) (rT [yr,yi,yt,yb,ym,cI (F7 D n).lost]),?_,P4.set LR4.1 (by omega),vwC (l_ D) n m f,[.m nl,.m np],?_,rfl,rfl,by rw [<-hc];exact rO,by rw [<-hc];exact smO⟩
 rotate_left
 ·rw [B8 LR4.1.2.1,k1];rfl
 rw [C7F];rw [B3l 1200 M'] at e2;rw [B3n 1200 M2] at e3;have C79:A2A (g++[rT (vwC (l_ D) n m f),rT [Cell.ns,.ns,.ns,.ns,.ns,o0],A4 (P6 []),A4 (P6 [])]) (A4 .i64) (.c (.m (l_ g+3))) (.c (cI 1)) (.c (cI 1))=A4 (g++[rT (vwC (l_ D) n m f),rT [Cell.ns,.ns,.ns,.ns,.ns,o0],A4 (P6 []),A4 (P6 [(cI 1,.c (cI 1))])]):=by
  rw [E3O (F:=λ_=>A7) (es:=[]) (by simp) MapI.nil];simp [A82,A81,mgo]
 have ef1:F5 [o0,o0,.i .u64 0,.nf,.ns,.ns,.ns,.ns,.ns,o0,.nm,.nm] [(0,4,.a (vwC (l_ D) n m f)),(10,1,.c (.m (l_ g+2))),(11,1,.c (.m (l_ g+3)))]=A4 (vwC (l_ D) n m f++[.ns,.ns,.ns,.ns,.ns,o0,.m (l_ g+2),.m (l_ g+3)]):=rfl;have ef2:F5 [o0] [(0,1,.c (cI 1))]=A4 [cI 1]:=rfl;have lv0:ld1 (rT (vwC (l_ D) n m f)) 0=A4 (.c (cI (l_ D:Int))):=rfl;have lv1:ld1 (rT (vwC (l_ D) n m f)) 1=A4 (.c (cI n)):=rfl;have l4v:=B6m (b:=l_ D) (n:=n) (m:=m) (f:=f);have l3v:=C27 (b:=l_ D) (n:=n) (m:=m) (f:=f);have wn:E6a .i64 (n+1)=(N:Int):=by rw [wrap_i64 (by omega) (by omega),hN]
 have nt:∀ k:Nat,k<=1000->B5o (.c (cI (k:Int)))=A4 k:=λk hk=>by
  simp only [B5o];rw [if_pos (by omega)];simp
 have am1:C3M (.c (cI (N:Int))) (.c (cI (N:Int)))=A4 N:=by simp only [C3M,nt N (by omega),E6h];rw [if_pos (E56 _)]
 have am2:C3M (.c (cI (l_ D:Int))) (.c (cI (l_ D:Int)))=A4 (l_ D):=by simp only [C3M,nt (l_ D) (by omega),E6h];rw [if_pos (E56 _)]
 have ef3:F5 [Cell.ns,.ns,.ns,.ns,.ns,o0] [(0,1,.c (.sl (l_ g+5) 0 1 1)),(1,1,.c (.sl (l_ g+6) 0 N 11)),(2,1,.c (.sl (l_ g+7) 0 (l_ D) 1))]=A4 [.sl (l_ g+5) 0 1 1,.sl (l_ g+6) 0 N 11,.sl (l_ g+7) 0 (l_ D) 1,.ns,.ns,o0]:=rfl;have sw:stN (rT (vwC (l_ D) n m f++[.ns,.ns,.ns,.ns,.ns,o0,.m (l_ g+2),.m (l_ g+3)])) 4 6 [.sl (l_ g+5) 0 1 1,.sl (l_ g+6) 0 N 11,.sl (l_ g+7) 0 (l_ D) 1,.ns,.ns,o0]=rT W:=by rw [hW];rfl
 have rz1:rows [o0,o0,o0,o0,o0,o0,o0,o0,o0,o0,o0] N=oL (E55 N (zI 11)):=by unfold rows oL;rw [List.map_replicate];rfl
 have rz2:rows [Cell.b A6] (l_ D)=gJ (E55 (l_ D) A6):=by unfold rows gJ;rw [List.map_replicate,List.flatten_replicate_singleton]
 rw [hT] at e1;rw [hT] at E1B;simp only [esc,Nat.reduceAdd] at E1B;have c00:((0:Nat):Int)=0:=rfl;rw [c00] at e1 e2 e3;generalize oL (E55 N (zI 11))=ZI at *;generalize gJ (E55 (l_ D) A6)=ZB at *;generalize vwC (l_ D) n m f=V at *;simp only [esc,O7,G8,Y9,I7,S3,G9,Nat.reduceAdd,l3v,l4v,hCk,C79,ef1,ef2,lv0,lv1,wn,am1,am2,ef3,sw,rz1,rz2,Nat.add_assoc];simp only [esc,E1B];simp only [esc,Nat.reduceAdd] at e1;refine e1.trans ?_;refine e2.trans ?_;simp only [esc,l4,c0];refine e3.trans ?_;simp only [esc,Nat.reduceAdd,c0,l6,s6,l6']
end
def D2o(l:List (List Int)):N8 (oL l)=A5:=by
 induction l with
 | nil=>rfl
 | cons x l ih =>
  rw [bF,pM,ih];simp [N8,encI,Cell.flat]
def D2n(l:List Bool):N8 (gJ l)=A5:=by simp [N8,gJ,Cell.flat]
def D7H(l:List Bool):noX (gJ l)=A5:=by simp [noX,gJ,Cell.isX]
def B3i{m:Int}{f:Cell}(hD:okD D)(hv:IsView h f D)(hm:P7 (l_ D) n=A5) :
  ∃ cs t,A4g [.a (vwC (l_ D) n m f)] h=A4 (.a cs,h++t)/\IsCl (h++t) cs (F7 D n)/\t.all B33=A5:=by
 obtain ⟨six,g',e,P,V,t,hr,hV,h6,_,_⟩:=C81 (n:=n) (m:=m) hD hv.ro hm;obtain ⟨xr,xi,xt,xb,xm,ml,mp,es1,es2,g1,g2,g3,g4,g5,g6,g7,_⟩:=id P.row;obtain ⟨c,hc⟩:=xEq (F7 D n);rw [<-hc] at g1 g2 g3 g4 g5 g6 g7 P ⊢;rw [g1] at hr;simp only [E57,Row.mk.injEq,and_true] at hr;have e6:six=[xr,xi,xt,xb,xm,cI c.lost]:=by
  have h1:(wkC D n m f xr xi xt xb xm c.lost ml mp).drop 4=(six++t):=by rw [hr,E6d,List.drop_left' hV]
  have h2:((wkC D n m f xr xi xt xb xm c.lost ml mp).drop 4).take 6=six:=by rw [h1,List.take_left' h6]
  rw [<-h2];rfl
 have low:∀ (i:Nat) (x:Cell) (id:Nat),(wkC D n m f xr xi xt xb xm c.lost ml mp)[i]?=A4 x->nmC x=A4 id->(ro h).length<=id:=λi x id hi hx=>P.low id (B7n g1 hi hx)
 obtain ⟨l2,fin,c1,_,c3,c4⟩:=B65 (h2:=g') (b:=(ro h).length) six [] (λx hx=>by
   rw [e6] at hx;simp only [E68,List.not_mem_nil,or_false] at hx;rcases hx with rfl | rfl | rfl | rfl | rfl | rfl
   ·exact g3.canon (by simp [N8,encI,Cell.flat]) λid e=>low 4 _ _ rfl e
   ·exact g4.canon (D2o _) λid e=>low 5 _ _ rfl e
   ·exact g5.canon (D2n _) λid e=>low 6 _ _ rfl e
   ·exact g6.canon (by simp [N8,encI,Cell.flat]) λid e=>low 7 _ _ rfl e
   ·exact g7.canon jG λid e=>low 8 _ _ rfl e
   ·exact .inl rfl) (λi j a x y hi hj hx hy=>by
   have sh:∀ (i:Nat) (x:Cell),six[i]?=A4 x->(wkC D n m f xr xi xt xb xm c.lost ml mp)[4+i]?=A4 x:=λi x hi=>by
    rw [hr,E6d,E6r (by omega),hV,show 4+i-4=i by omega,E6H (List.getElem?_eq_some_iff.1 hi).1];exact hi
   have:=g2.1 (4+i) (4+j) a x y (sh i x hi) (sh j y hj) hx hy;omega) (λx hx a ha=>by simp)
 have hgood:=(A8s (μ:=λ_=>A7) (μ':=λ_=>A7) (λ_ _=>rfl) _ _ _ _ c1 Good.nil).1;have D2x:(fin.map (rd g')).all B33=A5:=by
  rw [E6X];intro x hx;obtain ⟨j,hj,rfl⟩:=List.mem_map.1 hx;obtain ⟨_,r,h1,h2,_⟩:=hgood.ok j hj;rw [h1];exact Row.own_rw h2
 rw [H6] at c1 c4;have hS:=C3z e (v2:=.a l2) (ids:=fin) (by simp only [Y2,c1,E6I]);refine ⟨l2,_,hS,?_⟩;rw [e6] at c3 c4;have q0:=c4 0 _ rfl;have q1:=c4 1 _ rfl;have q2:=c4 2 _ rfl;have q3:=c4 3 _ rfl;have q4:=c4 4 _ rfl;have q5:=c4 5 _ rfl;obtain ⟨y0,y1,y2,y3,y4,y5,rfl⟩:∃ y0 y1 y2 y3 y4 y5,l2=[y0,y1,y2,y3,y4,y5]:=by
  match l2,c3 with
  | [a,b,c,d,e,f],_=>exact ⟨a,b,c,d,e,f,rfl⟩
 simp only [E6K,E6o,E57] at q0 q1 q2 q3 q4 q5;have e5:y5=cI c.lost:=by
  rcases q5 with ⟨_,h1⟩ | ⟨_,_,_,_,_,h1,_⟩
  ·exact h1
  ·cases h1
 subst e5;exact ⟨⟨_,_,_,_,_,rfl,g3.moved (A4U _) q0,g4.moved (D7I _) q1,g5.moved (D7H _) q2,g6.moved (A4U _) q3,g7.moved (cV _) q4⟩,D2x⟩
def C9m{R:List Int}{a:Int}{y:Cell}{q:Nat}{h:A9}(hy:∀ i,i<l_ R->∃ ad,E9 1 (.c y) (iV (i:Int))=A4 ad/\B9 h ad=A4 (iV (R.getD i 0)))(hR:l_ R<=1000):∀ (e i M:Nat),i+e=l_ R->e<M ->
  B5Y q M (iV a) (.c y) (iV (l_ R:Nat)) (iV (i:Int)) h=A4 (bV (decide (a∈R.drop i)),h)
 | e,i,0,_,hM=>by omega
 | 0,i,M+1,hi,_=>by
  have c0:¬ ((i:Int)<(l_ R:Nat)):=by omega
  rw [A8y,E6f (by omega)];simp only [esc,c0];simp
 | e+1,i,M+1,hi,hM=>by
  have K7:i<(l_ R):=by omega
  have c0:((i:Int)<(l_ R:Nat)):=by omega
  have w1:=D9 (a:=i) (by omega);obtain ⟨ad,a1,a2⟩:=hy i K7;have eg:R.getD i 0=R[i]:=by simp [List.getD,K7]
  rw [eg] at a2;rw [A8y,E6b K7];by_cases c1:R[i]=a
  ·rw [c1] at a2 ⊢;simp only [esc,c0,a1,a2,eq_self];simp
  ·have ih:=C9m (q:=q) (a:=a) hy hR e (i+1) M (by omega) (by omega);simp only [esc,c0,a1,a2,c1,w1];rw [ih];have:(a∈R[i]::R.drop (i+1))↔a∈R.drop (i+1):=by
    rw [E68];constructor
    ·rintro (h | h)
     ·exact absurd h.symm c1
     ·exact h
    ·exact .inr
   simp only [this]
def B5X(hc:IsCl h cs c)(hR:c.row.length<=1000):A9S [.a cs,iV a] h=A4 (bV (decide (a∈c.row)),h):=by
 obtain ⟨xr,xi,xt,xb,xm,rfl,h1,_⟩:=hc.form;have key:∃ g',A9v 1100 [.a [xr,xi,xt,xb,xm,cI c.lost],iV a] (ro h)=A4 (bV (decide (a∈c.row)),g'):=by
  have h2:=h1.ro.more [rT [xr,xi,xt,xb,xm,cI c.lost]];have hl:=h2.len;have k:=C9m (q:=1100) (a:=a) (R:=c.row) (y:=xr) (h:=ro h++[rT [xr,xi,xt,xb,xm,cI c.lost]]) (λi hi=>by
   obtain ⟨id,off,e,_,hA,_⟩:=h2.sl (by omega);cases e;refine ⟨pV id (off+i*1),E3 hi,?_⟩;rw [E69];exact hA i _ (by rw [G6,E54,E51 hi];rfl)) hR c.row.length 0 1100 (by omega) (by omega)
  rw [E6i] at k;refine ⟨ro h++[rT [xr,xi,xt,xb,xm,cI c.lost]],?_⟩
  ·rw [C3f];have l0:B9 (ro h++[rT [xr,xi,xt,xb,xm,cI c.lost]]) (pV (ro h).length 0)=A4 (.c xr):=by rw [I7];exact yB
   simp only [esc,l0,hl];exact k
 obtain ⟨g',e⟩:=key;exact B8g e rfl
def A3q(O:Dev)(no:Int)(b:List UInt8):Dev:=if 0<=no/\no<(l_ O) then O.set no.toNat b else O
def fB:(A3q O no b).length=(l_ O):=by unfold A3q;split<;>simp
def okD.put(h:okD O)(hb:l_ b=256):okD (A3q O no b):=by
 unfold A3q;split
 ·exact h.set hb
 ·exact h
structure OutD(g:A9)(p id:Nat)(O:Dev)(h:A9):Prop where
 lo:Low (l_ g) g h
 gp:l_ g<=p
 gid:l_ g<=id
 ne:p≠id
 var:rd h p=rT [.sl id 0 (l_ O) 256]
 blk:rd h id=rT (E8 O)
def OutD.more{p id:Nat}(k:OutD g p id O h)(t:A9):OutD g p id O (h++t) :=
 ⟨k.lo.new t,k.gp,k.gid,k.ne,B7 k.var,B7 k.blk⟩
def OutD.set{g h:A9}{p id:Nat}{O O':Dev}(k:OutD g p id O h)(hl:O'.length=l_ O):OutD g p id O' (h.set id (rT (E8 O'))) :=
 ⟨k.lo.set k.gid _,k.gp,k.gid,k.ne,by rw [B8 (Ne.symm k.ne),hl];exact k.var,by rw [D6 (E1 k.blk)]⟩
def put_eq{p id:Nat}(k:OutD g p id O h)(hO:okD O)(hb:l_ b=256) :
  ∃ h',sN [iV no,.a (B5 b),pV p 0] h=A4 (.t [],h')/\OutD g p id (A3q O no b) h'/\(l_ h)<=l_ h'/\∀ j,j<l_ h->j≠id->rd h' j=rd h j:=by
 obtain ⟨H,hH⟩:=xEq (h++[rT (B5 b)]);have kH:OutD g p id O H:=by rw [hH];exact k.more _
 have lV:B9 H (pV p 0)=A4 (sV id 0 (l_ O) 256):=C4 kH.var rfl rfl;have lB:D1 H 256 (pV (l_ h) 0)=A4 (.a (B5 b)):=C7 (by rw [hH,I5];rfl) (by rw [B6,hb]);have cl:cells? (.a (B5 b))=A4 (B5 b):=rfl;have same:∀ j,j<l_ h->rd H j=rd h j:=λj hj=>by rw [hH,D3 hj]
 have len:l_ H=l_ h+1:=by rw [hH];simp
 by_cases c0:0<=no
 ·by_cases c1:no<(l_ O:Nat)
  ·obtain ⟨i,rfl⟩:=E61 c0;have hi:i<(l_ O):=by omega
   have ad:E9 256 (sV id 0 (l_ O) 256) (iV (i:Int))=A4 (pV id (i*256)):=by rw [E3 hi];simp
   have sd:F9 H 256 (pV id (i*256)) (.a (B5 b))=A4 (H.set id (rT (E8 (O.set i b)))):=B4Z kH.blk hO hb hi;have ep:A3q O (i:Int) b=O.set i b:=by unfold A3q;rw [if_pos ⟨c0,c1⟩];simp
   rw [ep];refine ⟨_,sW (n:=0) (p:=(.t [],H.set id (rT (E8 (O.set i b))))) ?_,kH.set (by simp),by simp;omega,λj hj aR=>by rw [B8 (Ne.symm aR)];exact same j hj⟩;rw [sS];have c0':(i:Int)>=0:=c0;simp only [esc,cl,<-hH,c0',lV,c1,lB,ad,sd];rfl
  ·have ep:A3q O no b=O:=by unfold A3q;rw [if_neg (by omega)]
   rw [ep];refine ⟨_,sW (n:=0) (p:=(.t [],H)) ?_,kH,by omega,λj hj aR=>same j hj⟩;rw [sS];have c0':no>=0:=c0;simp only [esc,cl,<-hH,c0',lV,c1];rfl
 ·have ep:A3q O no b=O:=by unfold A3q;rw [if_neg (by omega)]
  rw [ep];refine ⟨_,sW (n:=0) (p:=(.t [],H)) ?_,kH,by omega,λj hj aR=>same j hj⟩;rw [sS];have c0':¬ no>=0:=c0;simp only [esc,cl,<-hH,c0'];rfl
def D2R(x:List Int):Prop:=x.length=11/\A5k (x.getD 0 0) (x.getD 1 0) (x.getD 2 0) (x.getD 3 0) (x.drop 4)=A5
def B1O(x:List Int):List UInt8:=cF (x.getD 0 0) (x.getD 1 0) (x.getD 2 0) (x.getD 3 0) (x.drop 4)
def D60{x:List Int}(h:x.length=11):encI x=C8 (x.getD 0 0) (x.getD 1 0) (x.getD 2 0) (x.getD 3 0) (x.drop 4):=by
 match x,h with
 | [a,b,c,d,e,f,g,i,j,k,l],_=>rfl
def B3O{x:List Int}(h:x.length=11):(B1O x).length=32:=by
 unfold B1O cF;rw [E58,E58,oK,uN,List.length_drop,h,zeros_length]
def C2X(O:Dev):List Int->List (List UInt8)->Dev
 | no::l,b::m=>C2X (A3q O no b) l m
 | _,_=>O
def B7C(O:Dev)(no:Int):Nat->Dev
 | 0=>O
 | e+1=>B7C (A3q O no (zeros 256)) (no+1) e
def C1w(n:Int)(O:Dev)(i:Nat)(x:List Int):Dev :=
 if Q9 (l_ O) n i=A5 then A3q O (aQ (l_ O) n i) (H5 (blk O (aQ (l_ O) n i)) (32*(jK (l_ O) n i).toNat) (B1O x)) else O
def B9g(n:Int):Dev->Nat->List (List Int)->Dev
 | O,_,[]=>O
 | O,i,x::l=>B9g n (C1w n O i x) (i+1) l
def yQ:Nat->List Bool->List Nat
 | _,[]=>[]
 | i,b::l=>if b=A5 then i::yQ (i+1) l else yQ (i+1) l
def kZ(D:Dev)(n:Int)(c:Cl):Dev:=
 A3q (B9g n (B7C (C2X D c.blocks c.made) (bH (l_ D) n) (mP (l_ D) n).toNat) 0 c.ino) 1 (dH (yQ 0 c.taken))
def C1L{m:List (List UInt8)}:C2X O [] m=O:=by cases m<;>rfl
def B38:∀ {l:List Int} {m:List (List UInt8)} {O:Dev},okD O->(∀ b∈m,l_ b=256)->okD (C2X O l m)/\(C2X O l m).length=(l_ O)
 | [],_,O,h,_=>by rw [C1L];exact ⟨h,rfl⟩
 | _::_,[],O,h,_=>⟨h,rfl⟩
 | no::l,b::m,O,h,hm=>by
  obtain ⟨h1,h2⟩:=B38 (l:=l) (m:=m) (O:=A3q O no b) (h.put (hm b (E6e ..))) λx hx=>hm x (E59 _ hx)
  exact ⟨h1,h2.trans fB⟩
def A9d:∀ {e:Nat} {no:Int} {O:Dev},okD O->okD (B7C O no e)/\(B7C O no e).length=(l_ O)
 | 0,_,O,h=>⟨h,rfl⟩
 | e+1,no,O,h=>by
  obtain ⟨h1,h2⟩:=A9d (e:=e) (no:=no+1) (h.put (no:=no) zeros_length);exact ⟨h1,h2.trans fB⟩
def D0E{x:List Int}(h:okD O)(hx:x.length=11)(hn:n<=128):okD (C1w n O i x)/\(C1w n O i x).length=(l_ O):=by
 unfold C1w;split
 ·refine ⟨h.put ?_,fB⟩;rename_i hc;have hk:(jK (l_ O) n i).toNat<8:=by unfold jK;rw [hc];simp only [cond_true];omega
  rw [O2 (by rw [J9 h,B3O hx];omega),J9 h]
 ·exact ⟨h,rfl⟩
def B3S{n:Int}(hn:n<=128):∀ {l:List (List Int)} {i:Nat} {O:Dev},okD O->(∀ x∈l,x.length=11)->okD (B9g n O i l)/\(B9g n O i l).length=(l_ O)
 | [],_,O,h,_=>⟨h,rfl⟩
 | x::l,i,O,h,hx=>by
  have h1:=D0E (n:=n) (i:=i) h (hx x (E6e ..)) hn;have h2:=B3S (n:=n) hn (l:=l) (i:=i+1) h1.1 λy hy=>hx y (E59 _ hy)
  exact ⟨h2.1,h2.2.trans h1.2⟩
section
variable {D:Dev} {n m:Int} {f:Cell} {g:A9} {p id q pv pc:Nat} {xr xi xt xb xm:Cell} {lost:Int} {c:Cl}
def C1c{a b:Val}:aD vD (.c (.f 29 [(p,0)])) [a,b] h=sN [a,b,pV p 0] h:=rfl
def E3t(hpc:rd g pc=rT [xr,xi,xt,xb,xm,cI lost]){bl:List Int}{md:List (List UInt8)}(hb:Has g (.c xb) 1 (l_ bl) (encI bl))(hm:Has g (.c xm) 256 md.length (E8 md))(hl:l_ bl=md.length)(hmd:∀ b∈md,l_ b=256)(hB:l_ bl<=1000000) :
  ∀ (e i M:Nat) (O:Dev) (h:A9),i+e=l_ bl->e<M->okD O->OutD g p id O h ->
  ∃ h' M',gK q M (pV pv 0) (pV pc 0) (pV p 0) (.c (.f 29 [(p,0)])) (.c xb) (iV (l_ bl:Nat)) (iV (i:Int)) h =
   gK q (M'+1) (pV pv 0) (pV pc 0) (pV p 0) (.c (.f 29 [(p,0)])) (.c xb) (iV (l_ bl:Nat)) (iV (l_ bl:Nat)) h'/\OutD g p id (C2X O (bl.drop i) (md.drop i)) h':=by
 intro e
 induction e with
 | zero =>
  intro i M O h hi hM hO k;obtain ⟨M,rfl⟩:=aP M (by omega);have ei:i=(l_ bl):=by omega
  subst ei;refine ⟨h,M,rfl,?_⟩;rw [List.drop_length,C1L];exact k
 | succ e ih =>
  intro i M O h hi hM hO k;obtain ⟨M,rfl⟩:=aP M (by omega);have K7:i<(l_ bl):=by omega
  have him:i<md.length:=by omega
  have c0:(i:Int)<(l_ bl:Nat):=by omega
  have c1:(i:Int)<(md.length:Nat):=by omega
  have w1:=D9 (a:=i) (by omega);have hb':=hb.since k.lo;have hm':=hm.since k.lo;obtain ⟨ib,ob,eb,_,hA,_⟩:=hb'.sl (by omega);cases eb;obtain ⟨im,om,em,_,_,hC⟩:=hm'.sl (by omega);cases em;have a1:E9 1 (sV ib ob (l_ bl) 1) (iV (i:Int))=A4 (pV ib (ob+i)):=by rw [E3 K7];simp
  have a2:B9 h (pV ib (ob+i))=A4 (iV bl[i]):=hA i _ (by rw [G6,E51 K7];rfl);have a3:B9 h (pV pc 4)=A4 (sV im om md.length 256):=C4 (k.lo.rd hpc) rfl rfl;have a4:E9 256 (sV im om md.length 256) (iV (i:Int))=A4 (pV im (om+i*256)):=E3 him;have okm:okD md:=hmd;have a5:D1 h 256 (pV im (om+i*256))=A4 (.a (B5 md[i])):=by
   rw [hC (i*256) 256 (by rw [I6 okm];omega),pL okm him]
  obtain ⟨h1,b1,b2,_⟩:=put_eq (no:=bl[i]) (b:=md[i]) k hO (hmd _ (E6w him));obtain ⟨h',M',e1,e2⟩:=ih (i+1) M _ h1 (by omega) (by omega) (hO.put (hmd _ (E6w him))) b2;rw [E6b K7,E6b him];refine ⟨h',M',?_,e2⟩;rw [nU];simp only [esc,c0,a1,a2,a3,c1,a4,a5,C1c,b1,A4C,w1];exact e1
def E3u(t0 tn:Int)(h0:0<=t0/\t0<=100)(hn:0<=tn/\tn<=100) :
  ∀ (e:Nat) (i:Int) (M:Nat) (O:Dev) (h:A9),i+e=t0+tn->t0<=i->e<M->okD O->OutD g p id O h ->
  ∃ h' M',gL q M (pV pv 0) (pV pc 0) (pV p 0) (.c (.f 29 [(p,0)])) (iV t0) (iV tn) (iV i) h =
   gL q (M'+1) (pV pv 0) (pV pc 0) (pV p 0) (.c (.f 29 [(p,0)])) (iV t0) (iV tn) (iV (t0+tn)) h'/\OutD g p id (B7C O i e) h':=by
 intro e
 induction e with
 | zero =>
  intro i M O h hi hi0 hM hO k;obtain ⟨M,rfl⟩:=aP M (by omega);have ei:i=t0+tn:=by omega
  subst ei;exact ⟨h,M,rfl,k⟩
 | succ e ih =>
  intro i M O h hi hi0 hM hO k;obtain ⟨M,rfl⟩:=aP M (by omega);have w0:E6a .i64 (t0+tn)=t0+tn:=wrap_i64 (by omega) (by omega);have w1:E6a .i64 (i+1)=i+1:=wrap_i64 (by omega) (by omega);have c0:i<t0+tn:=by omega
  have ef:F5 (B5 (zeros 256)) []=A4 (B5 (zeros 256)):=rfl;obtain ⟨h1,b1,b2,_⟩:=put_eq (no:=i) (b:=zeros 256) k hO zeros_length;obtain ⟨h',M',e1,e2⟩:=ih (i+1) M _ h1 (by omega) (by omega) (by omega) (hO.put zeros_length) b2;refine ⟨h',M',?_,e2⟩;rw [nV,J3];generalize B5 (zeros 256)=Z at *;simp only [esc,w0,c0,ef,C1c,b1,w1];exact e1
end
def C90{b i:Int}(h:Q9 b n i=A5):2<=aQ b n i/\aQ b n i<b/\0<=jK b n i/\jK b n i<8:=by
 obtain ⟨h1,h2,h3⟩:=O1.1 h;obtain ⟨_,_,_,_,h4,h5⟩:=I1.1 h1;unfold aQ jK;rw [h];simp only [cond_true];omega
section
variable {D:Dev} {n m:Int} {f:Cell} {g:A9} {p id q pv pc:Nat} {xr xi xt xb xm:Cell} {lost:Int} {c:Cl}
def E3v(hpv:rd g pv=rT (vwC (l_ D) n m f)){R:List (List Int)}(hx:Has g (.c xi) 11 (l_ R) (oL R))(hR:∀ x∈R,D2R x)(hn:n<=128)(hB:l_ R<=1000000) :
  ∀ (e i M:Nat) (O:Dev) (h:A9),i+e=l_ R->e<M->okD O->l_ O=l_ D->OutD g p id O h ->
  ∃ h' M',gM q M (pV pv 0) (pV pc 0) (pV p 0) (.c (.f 29 [(p,0)])) (.c xi) (iV (l_ R:Nat)) (iV (i:Int)) h =
   gM q (M'+1) (pV pv 0) (pV pc 0) (pV p 0) (.c (.f 29 [(p,0)])) (.c xi) (iV (l_ R:Nat)) (iV (l_ R:Nat)) h'/\OutD g p id (B9g n O i (R.drop i)) h':=by
 intro e
 induction e with
 | zero =>
  intro i M O h hi hM hO hlen k;obtain ⟨M,rfl⟩:=aP M (by omega);have ei:i=(l_ R):=by omega
  subst ei;refine ⟨h,M,rfl,?_⟩;rw [List.drop_length];exact k
 | succ e ih =>
  intro i M O h hi hM hO hlen k;obtain ⟨M,rfl⟩:=aP M (by omega);have K7:i<(l_ R):=by omega
  have c0:(i:Int)<(l_ R:Nat):=by omega
  have w1:=D9 (a:=i) (by omega);obtain ⟨x,ex⟩:=xEq (R[i]);obtain ⟨xl,xm⟩:=hR R[i] (E6w K7);have h11:∀ x∈R,x.length=11:=λx hx=>(hR x hx).1
  have hx':=hx.since k.lo;obtain ⟨ii,oi,ei,_,_,hC⟩:=hx'.sl (by omega);cases ei;have a1:E9 11 (sV ii oi (l_ R) 11) (iV (i:Int))=A4 (pV ii (oi+i*11)):=E3 K7;have a2:D1 h 11 (pV ii (oi+i*11))=A4 (.a (encI R[i])):=by
   rw [hC (i*11) 11 (by rw [xZ h11];omega),D2C h11 K7]
  rw [<-ex] at a2 xl xm;obtain ⟨G,hG⟩:=xEq (h++[rT (encI x)]);have st:F9 (h++[rT [o0,o0,o0,o0,o0,o0,o0,o0,o0,o0,o0]]) 11 (pV (l_ h) 0) (.a (encI x))=A4 G:=by
   rw [storeAll (n:=11) (cs:=[o0,o0,o0,o0,o0,o0,o0,o0,o0,o0,o0]) (by rw [I5];rfl) rfl (by rw [C1,xl]),yD,hG];rfl
  have kG:OutD g p id O G:=by rw [hG];exact k.more _
  have lv3:D1 G 3 (pV pv 0)=A4 (.a (K9 (l_ D) n m)):=by rw [T1 (kG.lo.rd hpv) (by simp [vwC]) rfl];rfl
  have hW:=A7z (b:=l_ D) (n:=n) (m:=m) (i:=(i:Int)) (h:=G);have lx:D1 G 11 (pV (l_ h) 0)=A4 (.a (encI x)):=C7 (by rw [hG,I5];rfl) (by rw [C1,xl]);rw [E6b K7,<-ex];have es:B9g n O i (x::R.drop (i+1))=B9g n (C1w n O i x) (i+1) (R.drop (i+1)):=rfl;rw [es];obtain ⟨okS,lenS⟩:=D0E (n:=n) (i:=i) (x:=x) hO xl hn;have lV:B9 G (pV p 0)=A4 (sV id 0 (l_ O) 256):=C4 kG.var rfl rfl;cases hc:Q9 (l_ D:Int) n (i:Int) with
  | false =>
   rw [hc] at hW;have e1:C1w n O i x=O:=by unfold C1w;rw [hlen,hc];simp
   rw [e1] at okS lenS ⊢;obtain ⟨h',M',b1,b2⟩:=ih (i+1) M O G (by omega) (by omega) hO hlen kG;refine ⟨h',M',?_,b2⟩;rw [cO];generalize encI x=X at *;generalize K9 (l_ D) n m=L at *;simp only [esc,c0,a1,a2,st,lv3,hW,nS,w1];exact b1
  | true =>
   rw [hc] at hW;obtain ⟨w2,wb,k0,k8⟩:=C90 hc;obtain ⟨wB,hwB⟩:=E61 (show 0<=aQ (l_ D) n i by omega);obtain ⟨wK,hwK⟩:=E61 k0;rw [hwB,hwK] at hW;have hwl:wB<(l_ O):=by omega
   have cW:(wB:Int)<(l_ O:Nat):=by omega
   have hk8:wK<8:=by omega
   have ad:E9 256 (sV id 0 (l_ O) 256) (iV (wB:Int))=A4 (pV id (wB*256)):=by rw [E3 hwl];simp
   have lb:D1 G 256 (pV id (wB*256))=A4 (.a (B5 O[wB])):=by
    rw [T1 kG.blk (by rw [I6 hO];omega) rfl,pL hO hwl]
   have hT:=B6j (j:=wK) (k:=x.getD 0 0) (l:=x.getD 1 0) (s:=x.getD 2 0) (p:=x.getD 3 0) (d:=x.drop 4) (b:=O[wB]) (h:=G) (hO.at hwl) (by rw [List.length_drop,xl]) hk8 xm;rw [<-D60 xl] at hT;have ei:cF (x.getD 0 0) (x.getD 1 0) (x.getD 2 0) (x.getD 3 0) (x.drop 4)=B1O x:=rfl;rw [ei] at hT;have hbl:(H5 O[wB] (32*wK) (B1O x)).length=256:=by
    rw [O2 (by rw [hO.at hwl,B3O xl];omega),hO.at hwl]
   have sd:F9 G 256 (pV id (wB*256)) (.a (B5 (H5 O[wB] (32*wK) (B1O x))))=A4 (G.set id (rT (E8 (O.set wB (H5 O[wB] (32*wK) (B1O x)))))):=B4Z kG.blk hO hbl hwl;have e1:C1w n O i x=O.set wB (H5 O[wB] (32*wK) (B1O x)):=by
    unfold C1w;rw [hlen,hc,if_pos rfl,hwB,hwK,B26 hwl];unfold A3q;rw [if_pos ⟨by omega,cW⟩];simp
   have kS:=kG.set (O':=C1w n O i x) lenS;obtain ⟨h',M',b1,b2⟩:=ih (i+1) M _ _ (by omega) (by omega) okS (by rw [lenS,hlen]) kS;refine ⟨h',M',?_,b2⟩;rw [e1] at b1;rw [cO];generalize encI x=X at *;generalize K9 (l_ D) n m=L at *;simp only [esc,c0,a1,a2,st,lv3,hW,lV,cW,ad,lb,lx,hT,sd,nS,w1];exact b1
def D78{l:List Bool}(hi:i<l_ l):yQ i (l.drop i)=if l[i]=A5 then i::yQ (i+1) (l.drop (i+1)) else yQ (i+1) (l.drop (i+1)):=by
 rw [E6b hi];rfl
def E3w{T:List Bool}{N:Nat}(hx:Has g (.c xt) 1 (l_ T) (gJ T))(hT:l_ T<=2048)(hO:okD O) :
  ∀ (e i M:Nat) (S:List Nat) (sid:Nat) (h:A9),i+e=l_ T->e<M->l_ S<=i->(∀ x∈S,x<2048)->rd h sid=rT (encI (S.map λx:Nat=>(x:Int)))->l_ g<=sid->sid≠p->sid≠id->OutD g p id O h ->
  ∃ h',uH q M (pV p 0) (.c (.f 29 [(p,0)])) (sV sid 0 (l_ S) 1) (.c xt) (iV (l_ T:Nat)) (iV (i:Int)) h=A4 (sV id 0 (l_ O) 256,h') /\
   OutD g p id (A3q O 1 (dH (S++yQ i (T.drop i)))) h':=by
 intro e
 induction e with
 | zero =>
  intro i M S sid h hi hM hS hS2 hr hg n1 n2 k;obtain ⟨M,rfl⟩:=aP M (by omega);have ei:i=(l_ T):=by omega
  subst ei;have c0:¬ ((l_ T:Nat):Int)<(l_ T:Nat):=by omega
  have hC:=A7s (v:=sV sid 0 (l_ S) 1) (nv:=l_ S) (l:=S) (h:=h) hS2 (by omega) (Has.tr hr (by simp [encI]) (A4U _));have hml:(dH S).length=256:=by unfold dH;rw [eV,zeros_length]
  obtain ⟨h1,b1,b2,_⟩:=put_eq (no:=1) (b:=dH S) k hO hml;have lV:B9 h1 (pV p 0)=A4 (sV id 0 (A3q O 1 (dH S)).length 256):=C4 b2.var rfl rfl;rw [fB] at lV;refine ⟨h1,?_,?_⟩
  ·rw [cP];simp only [esc,c0,uM,hC,C1c,b1,lV]
  ·rw [List.drop_length];have:S++yQ (l_ T) []=S:=by simp [yQ]
   rw [this];exact b2
 | succ e ih =>
  intro i M S sid h hi hM hS hS2 hr hg n1 n2 k;obtain ⟨M,rfl⟩:=aP M (by omega);have K7:i<(l_ T):=by omega
  have c0:(i:Int)<(l_ T:Nat):=by omega
  have w1:=D9 (a:=i) (by omega);have hx':=hx.since k.lo;obtain ⟨ii,oi,ei,_,hA,_⟩:=hx'.sl (by omega);cases ei;have a1:E9 1 (sV ii oi (l_ T) 1) (iV (i:Int))=A4 (pV ii (oi+i)):=by rw [E3 K7];simp
  have a2:B9 h (pV ii (oi+i))=A4 (bV T[i]):=hA i _ (by simp [gJ,K7]);rw [D78 K7];cases hb:T[i] with
  | false =>
   rw [hb] at a2;obtain ⟨h',b1,b2⟩:=ih (i+1) M S sid h (by omega) (by omega) (by omega) hS2 hr hg n1 n2 k;refine ⟨h',?_,by simpa using b2⟩;rw [cP];simp only [esc,c0,a1,a2,nT,w1];exact b1
  | true =>
   rw [hb] at a2;obtain ⟨h1,p1,p2,p3,p4⟩:=B7t (n:=l_ S) (sz:=1) (ys:=[cI (i:Int)]) hr (by simp [encI]) rfl (by omega) (by omega);have hpl:=E1 k.var;have E5X:=E1 k.blk;have kk:OutD g p id O h1:=⟨k.lo.trans (p4 (l_ g) hg (by have:=k.lo.2.1;omega)),k.gp,k.gid,k.ne,p3 _ _ (Ne.symm n1) k.var,p3 _ _ (Ne.symm n2) k.blk⟩;have er:encI (S.map λx:Nat=>(x:Int))++[cI (i:Int)]=encI ((S++[i]).map λx:Nat=>(x:Int)):=by simp [encI]
   rw [er] at p2;have ls:(S++[i]).length=l_ S+1:=by simp
   obtain ⟨h',b1,b2⟩:=ih (i+1) M (S++[i]) (l_ h+1) h1 (by omega) (by omega) (by rw [ls];omega) (λx hx=>by
    rcases List.mem_append.1 hx with hx | hx
    ·exact hS2 x hx
    ·simp at hx;omega) p2 (by have:=k.lo.2.1;omega) (by omega) (by omega) kk
   rw [ls] at b1;refine ⟨h',?_,by simpa using b2⟩;have ef:F5 [o0] [(0,1,iV (i:Int))]=A4 [cI (i:Int)]:=rfl;rw [cP];simp only [esc,c0,a1,a2,ef,p1,nT,w1];exact b1
structure ImgOk(D:Dev)(n:Int)(c:Cl):Prop where
 row:0<c.row.length
 tak:c.taken.length=(l_ D)
 ino:∀ x∈c.ino,D2R x
 il:c.ino.length<=1000
 bm:c.blocks.length=c.made.length
 bl:c.blocks.length<=1000000
 md:∀ b∈c.made,l_ b=256
def C5y(hD:okD D)(hv:IsView h f D)(hm:P7 (l_ D) n=A5)(hc:IsCl h cs c)(ok:ImgOk D n c) :
  T7 [.a (vwC (l_ D) n m f),.a cs] h=A4 (sV (l_ h) 0 (l_ D) 256,h++[rT (E8 (kZ D n c))]):=by
 obtain ⟨b16,b512,n8,n128,_,_⟩:=I1.1 hm;obtain ⟨xr,xi,xt,xb,xm,rfl,hr,hi,ht,hb,hmd⟩:=hc.form;obtain ⟨g,hg⟩:=xEq (ro h++[rT (vwC (l_ D) n m f),rT [xr,xi,xt,xb,xm,cI c.lost],rT []]);have lg:l_ g=(ro h).length+3:=by rw [hg];simp
 have rv:rd g (ro h).length=rT (vwC (l_ D) n m f):=by rw [hg,I5];rfl
 have rc:rd g ((ro h).length+1)=rT [xr,xi,xt,xb,xm,cI c.lost]:=by rw [hg,qK];rfl
 have hvg:IsView g f D:=by rw [hg];exact hv.ro.more _
 have hr':Has g (.c xr) 1 c.row.length (encI c.row):=by rw [hg];exact hr.ro.more _
 have hi':Has g (.c xi) 11 c.ino.length (oL c.ino):=by rw [hg];exact hi.ro.more _
 have ht':Has g (.c xt) 1 c.taken.length (gJ c.taken):=by rw [hg];exact ht.ro.more _
 have hb':Has g (.c xb) 1 c.blocks.length (encI c.blocks):=by rw [hg];exact hb.ro.more _
 have hm':Has g (.c xm) 256 c.made.length (E8 c.made):=by rw [hg];exact hmd.ro.more _
 have hI:=C8m (m:=m) hD hvg hm;obtain ⟨H,hH⟩:=xEq (g++[rT (E8 D),rT [.sl (l_ g) 0 (l_ D) 256]]);have k0:OutD g (l_ g+1) (l_ g) D H:=by
  refine ⟨by rw [hH];exact (Low.refl (E56 _)).new _,by omega,E56 _,by omega,?_,?_⟩
  ·rw [hH,qK];rfl
  ·rw [hH,I5];rfl
 obtain ⟨h1,M1,e1,k1⟩:=E3t (q:=1000002) (pv:=(ro h).length) rc hb' hm' ok.bm ok.md ok.bl c.blocks.length 0 1000002 D H (by omega) (by have:=ok.bl;omega) hD k0;obtain ⟨ok1,len1⟩:=B38 (l:=c.blocks) (m:=c.made) hD ok.md;obtain ⟨t0,t2,tn0,tn16⟩:=C1U (b:=l_ D) (n:=n);obtain ⟨tN,htN⟩:=E61 tn0;obtain ⟨h2,M2,e2,k2⟩:=E3u (q:=1000002) (pv:=(ro h).length) (pc:=(ro h).length+1) (bH (l_ D) n) (mP (l_ D) n) ⟨by omega,by omega⟩ ⟨by omega,by omega⟩ tN (bH (l_ D) n) 1000002 _ h1 (by omega) (by omega) (by omega) ok1 (by simpa using k1);obtain ⟨ok2,len2⟩:=A9d (e:=tN) (no:=bH (l_ D) n) ok1;obtain ⟨h3,M3,e3,k3⟩:=E3v (q:=1000002) (pc:=(ro h).length+1) rv hi' ok.ino n128 (by have:=ok.il;omega) c.ino.length 0 1000002 _ h2 (by omega) (by have:=ok.il;omega) ok2 (by rw [len2,len1]) k2;obtain ⟨ok3,len3⟩:=B3S (n:=n) n128 (l:=c.ino) (i:=0) ok2 (λx hx=>(ok.ino x hx).1);have k3':=(k3.more [rT ([]:List Cell)]);obtain ⟨h4,e4,k4⟩:=E3w (q:=1000002) (N:=0) (p:=l_ g+1) (id:=l_ g) (g:=g) ht' (by rw [ok.tak];omega) ok3 c.taken.length 0 1000002 [] h3.length (h3++[rT ([]:List Cell)]) (by omega) (by rw [ok.tak];omega) (by simp) (by simp) (by rw [I5];rfl) (by have:=k3.lo.2.1;omega) (by have:=E1 k3.var;omega) (by have:=E1 k3.blk;omega) (by simpa using k3');have eimg:kZ D n c=A3q (B9g n (B7C (C2X D c.blocks c.made) (bH (l_ D) n) tN) 0 c.ino) 1 (dH ([]++yQ 0 (c.taken.drop 0))):=by
  unfold kZ;rw [htN];simp
 have lenF:(kZ D n c).length=(l_ D):=by rw [eimg,fB,len3,len2,len1]
 have key:iW 1000002 [.a (vwC (l_ D) n m f),.a [xr,xi,xt,xb,xm,cI c.lost]] (ro h)=A4 (sV (l_ g) 0 (l_ D) 256,h4):=by
  have l0:B9 g (pV ((ro h).length+1) 0)=A4 (.c xr):=C4 rc rfl (by rfl);have l2:B9 g (pV ((ro h).length+1) 2)=A4 (.c xt):=C4 rc rfl (by rfl);have lv0:B9 g (pV (ro h).length 0)=A4 (iV (l_ D:Nat)):=C4 rv rfl rfl;have lv4:D1 g 4 (pV (ro h).length 0)=A4 (.a (vwC (l_ D) n m f)):=C7 rv rfl;have s1:I8 (g++[rT (E8 D),rT [Cell.ns]]) (pV (l_ g+1) 0) (sV (l_ g) 0 (l_ D) 256)=A4 H:=by
   rw [I9 (cs:=[Cell.ns]) (by rw [qK];rfl) (by simp),B7w,hH];rfl
  have l3:B9 H (pV ((ro h).length+1) 3)=A4 (.c xb):=C4 (k0.lo.rd rc) rfl (by rfl);have mf:A3f 29 [pV (l_ g+1) 0]=A4 (.c (.f 29 [(l_ g+1,0)])):=rfl;have n1:B9 h2 (pV ((ro h).length+1) 1)=A4 (.c xi):=C4 (k2.lo.rd rc) rfl (by rfl);have n2:B9 (h3++[rT ([]:List Cell)]) (pV ((ro h).length+1) 2)=A4 (.c xt):=C4 ((k3.lo.new _).rd rc) rfl (by rfl);have v3:D1 h1 3 (pV (ro h).length 0)=A4 (.a (K9 (l_ D) n m)):=by rw [T1 (k1.lo.rd rv) (by simp [vwC]) rfl];rfl
  have hTb:=A1b (b:=l_ D) (n:=n) (m:=m) (h:=h1);have c1:¬ ((c.row.length:Nat):Int)=0:=by have:=ok.row;omega
  have c2:((c.taken.length:Nat):Int)=(l_ D:Nat):=by rw [ok.tak]
  have lr:=hr'.len;have lt:=ht'.len;have lb:=(hb'.since k0.lo).len;have lx:=(hi'.since k2.lo).len;have lt3:=(ht'.since (k3.lo.new [rT ([]:List Cell)])).len;have cl1:cells? (.a (vwC (l_ D) n m f))=A4 (vwC (l_ D) n m f):=rfl;rw [A5c];simp only [E58,E6g,E6E,E6j,E6d,E6Y,E6s,cl1,eH,C6,<-hg];generalize vwC (l_ D) n m f=V at *;have c00:((0:Nat):Int)=0:=rfl;rw [c00] at e1 e3 e4;rw [lenF.symm] at e4;simp only [esc,l0,lr,c1,l2,lt,lv0,c2,lv4,hI,s1,mf,l3,lb];refine e1.trans ?_;have cB:¬ ((c.blocks.length:Nat):Int)<(c.blocks.length:Nat):=by omega
  rw [nU];simp only [esc,cB,v3,hTb];refine e2.trans ?_;have wT:E6a .i64 (bH (l_ D) n+mP (l_ D) n)=bH (l_ D) n+mP (l_ D) n:=wrap_i64 (by omega) (by omega);have cT:¬ bH (l_ D) n+mP (l_ D) n<bH (l_ D) n+mP (l_ D) n:=by omega
  rw [nV];simp only [esc,wT,cT,n1,lx];refine e3.trans ?_;have cI:¬ ((c.ino.length:Nat):Int)<(c.ino.length:Nat):=by omega
  rw [cO];simp only [esc,cI,n2,lt3];have eL:([]:List Nat).length=0:=rfl;rw [eL] at e4;rw [e4,lenF,len3,len2,len1]
 have ho:Out (l_ h) h4 (sV (l_ g) 0 (l_ D) 256) 256 (l_ D) (E8 (kZ D n c)):=by
  refine ⟨?_,l_ g,rfl,by rw [lg,H6];omega,?_⟩
  ·rw [I6,lenF];rw [eimg];refine okD.put ok3 ?_;unfold dH;rw [eV,zeros_length]
  ·rw [eimg];exact k4.blk
 exact A4f key ho jG
end
structure MayC(c:Cl):Prop where
 ino:∀ x∈c.ino,D2R x
 par:∀ i,0<=(c.par i).getD 0/\(c.par i).getD 0<=65535
 bm:c.blocks.length=c.made.length
 md:∀ b∈c.made,l_ b=256
def B7d(hm:P7 (l_ D) n=A5):V0 (K3 D n c no)=A5:=by
 rw [A6t];obtain ⟨_,b512,_⟩:=I1.1 hm;unfold K3 cR;cases hd:G5 (l_ D) n no with
 | false=>simp
 | true =>
  have:=D2E hd;cases c.taken.getD no.toNat A5 with
  | true=>simp
  | false=>simp;omega
def D5K{l:List Int}(h:l.all V0=A5)(hx:V0 x=A5):(l.set i x).all V0=A5:=by
 rw [E6X] at h ⊢;intro y hy;rcases List.mem_or_eq_of_mem_set hy with h1 | h1
 ·exact h y h1
 ·rw [h1];exact hx
def C5N{D:Dev}{n:Int}{d:List Int}(hm:P7 (l_ D) n=A5):∀ {e k:Nat} {s:Cl × List Int},s.2.all V0=A5->(dD D n d e k s).2.all V0=A5
 | 0,_,s,h=>h
 | e+1,k,s,h=>by
  rw [dD];exact C5N hm (D5K h (B7d hm))
def D2i(hm:P7 (l_ D) n=A5):(H9 D n c ino).2.all V0=A5:=by
 have h1:=C5N (d:=drV D n ino) (e:=(min (T5 (szV D n ino)) 6).toNat) (k:=0) (s:=(c,zI 7)) hm (by show (zI 7).all V0=A5;decide);unfold H9 A1R;split
 ·exact D5K h1 (B7d hm)
 ·exact h1
def D8f{i:Int}:0<=szV D n i/\szV D n i<=34304:=by
 unfold szV;cases hc:B7a D n i with
 | false=>simp
 | true =>
  simp only [cond_true];unfold B7a cQ A5k at hc;simp only [E53] at hc;obtain ⟨_,h1,_⟩:=hc;split at h1
  ·unfold D3Z at h1;have:=of_decide_eq_true h1;omega
  ·unfold B9O at h1;simp only [E53,decide_eq_true_eq] at h1;exact h1.2.2.2.1
def D7C{s:Int}{d:List Int}(hs:0<=s/\s<=34304)(hd:l_ d=7)(ha:d.all V0=A5)(hl:V0 l=A5):D2R (1::l::s::0::d):=by
 refine ⟨by simp [hd],?_⟩;show A5k 1 l s 0 d=A5;unfold A5k B9O;have h0:V0 0=A5:=by decide
 simp [hl,ha,h0,hs]
def D90(hp:V0 p=A5)(hn:V0 no=A5):D2R (2::1::0::p::no::zI 6):=by
 refine ⟨by simp [zI],?_⟩;show A5k 2 1 0 p (no::zI 6)=A5;unfold A5k B9O;have h1:V0 1=A5:=by decide
 have hz:(zI 6).all V0=A5:=by decide
 simp [E62,hn,hz,hp,h1]
def D7D:D2R (zI 11):=⟨by simp [zI],by decide⟩
def C6C{α:Type}{l:List α}{x y:α}(h:y∈l.set i x):y∈l\/y=x:=List.mem_or_eq_of_mem_set h
section
variable {D:Dev} {n:Int} {c:Cl} {ino:Int}
def D65(hm:P7 (l_ D) n=A5)(h:MayC c):MayC (L8 D n c ino):=by
 have hs:=(oD (D:=D) (n:=n) (ino:=ino) (c:=c));refine ⟨λx hx=>?_,λi=>?_,?_,λb hb=>?_⟩
 ·rcases C6C hx with h1 | h1
  ·rw [hs.1.ino] at h1;exact h.ino x h1
  ·rw [h1];exact D7C D8f hs.2 (D2i hm) (by decide)
 ·have:(L8 D n c ino).par=c.par:=hs.1.par;rw [this];exact h.par i
 ·have e1:(L8 D n c ino).blocks=c.blocks:=hs.1.blocks;have e2:(L8 D n c ino).made=c.made:=hs.1.made;rw [e1,e2];exact h.bm
 ·have e2:(L8 D n c ino).made=c.made:=hs.1.made;rw [e2] at hb;exact h.md b hb
def MayC.same(h:MayC c)(s:SameC c c'):MayC c':=⟨by rw [s.ino];exact h.ino,by rw [s.par];exact h.par,by rw [s.blocks,s.made];exact h.bm,by rw [s.made];exact h.md⟩
def MayC.md'(h:MayC c)(hb:l_ b=256):MayC (dG c no b):=by
 refine ⟨h.ino,h.par,?_,λx hx=>?_⟩
 ·show (c.blocks++[no]).length=(c.made++[b]).length;simp [h.bm]
 ·rcases List.mem_append.1 (show x∈c.made++[b] from hx) with h1 | h1
  ·exact h.md x h1
  ·simp at h1;rw [h1];exact hb
def D64(hD:okD D)(hm:P7 (l_ D) n=A5)(h:MayC c):MayC (U8 D n c ino):=by
 have h1:=D65 (ino:=ino) hm h;unfold U8;split
 ·exact h1
 ·exact MayC.md' (h1.same (jF (D:=D) (n:=n) (many:=T5 (szV D n ino)) (e:=128) (k:=0) (s:=(L8 D n c ino,blk D ((H9 D n c ino).2.getD 6 0))))) (C1o (by omega) (J9 hD))
def D9e(hm:P7 (l_ D) n=A5)(h:MayC c):MayC (V4 D n c ino):=by
 have hs:=uK (D:=D) (n:=n) (ino:=ino) (c:=c);have hn:V0 (K4 D n c ino).2=A5:=by
  unfold K4;cases (decide (kdV D n ino=2)&&Q6 (blk D ((drV D n ino).getD 0 0))) with
  | true=>exact B7d hm
  | false=>show V0 0=A5;decide
 refine ⟨λx hx=>?_,λi=>?_,?_,λb hb=>?_⟩
 ·rcases C6C hx with h1 | h1
  ·rw [hs.ino] at h1;exact h.ino x h1
  ·rw [h1];exact D90 (A6t.2 (h.par ino)) hn
 ·have:(V4 D n c ino).par=c.par:=hs.par;rw [this];exact h.par i
 ·have e1:(V4 D n c ino).blocks=c.blocks:=hs.blocks;have e2:(V4 D n c ino).made=c.made:=hs.made;rw [e1,e2];exact h.bm
 ·have e2:(V4 D n c ino).made=c.made:=hs.made;rw [e2] at hb;exact h.md b hb
def C9V(hi:0<=ino/\ino<=65535):∀ {L:List Ent} {s:Cl × (List UInt8->Option Int)},MayC s.1->MayC (O3 D n ino s L).1
 | [],_,h=>h
 | x::L,s,h=>by
  have h1:MayC (J6 D n ino s x).1:=by
   unfold J6 T4;cases Q7 D n s.1 x.2 with
   | false=>exact h
   | true =>
    simp only [cond_true];cases (s.1.par x.2).isSome with
    | true=>exact ⟨h.ino,h.par,h.bm,h.md⟩
    | false =>
     refine ⟨h.ino,λi=>?_,h.bm,h.md⟩;show 0<=(A0J s.1.par x.2 ino i).getD 0/\(A0J s.1.par x.2 ino i).getD 0<=65535;unfold A0J;split
     ·exact hi
     ·exact h.par i
  exact C9V hi (L:=L) (s:=J6 D n ino s x) h1
def C2C{X:List Int}{K:List UInt8->Option Int}:∀ {L:List Int} {c:Cl},MayC c->MayC (O6 D X K c L)
 | [],_,h=>h
 | no::L,c,h=>by
  have hs:=A1F (D:=D) (X:=X) (no:=no) (K:=K) (l:=J1 (blk D no)) (s:=(c,dF []));have hl:=B7b (D:=D) (X:=X) (no:=no) (K:=K) (l:=J1 (blk D no)) (s:=(c,dF [])) (A6r (l:=[])) λx hx=>(B9R x hx).1
  have h1:MayC (U7 D X no K (c,dF []) (J1 (blk D no))).1:=⟨by rw [hs.ino];exact h.ino,by rw [hs.par];exact h.par,by rw [hs.blocks,hs.made];exact h.bm,by rw [hs.made];exact h.md⟩;exact C2C (L:=L) (c:=cU D X K c no) (h1.md' hl)
def D9c(hi:0<=ino/\ino<=65535)(hm:P7 (l_ D) n=A5)(h:MayC c):MayC (oB D n c ino):=by
 have h1:=D9e (ino:=ino) hm h;unfold oB;split
 ·exact h1
 ·unfold aX;have hb:=h1.same (bC (D:=D) (n:=n) (L:=J4 (bL (getD (blk D ((drV D n ino).getD 0 0))) (O0 (blk D ((drV D n ino).getD 0 0)) 32)) (C5 (O9 (getD (blk D ((drV D n ino).getD 0 0))) (O0 (blk D ((drV D n ino).getD 0 0)) 32)))) (s:=(V4 D n c ino,bL (getD (blk D ((drV D n ino).getD 0 0))) (O0 (blk D ((drV D n ino).getD 0 0)) 32))));refine C2C (MayC.md' (C9V (s:=(_,_)) hi hb) ?_);have hl:=C09 (D:=D) (n:=n) (L:=J4 (bL (getD (blk D ((drV D n ino).getD 0 0))) (O0 (blk D ((drV D n ino).getD 0 0)) 32)) (C5 (O9 (getD (blk D ((drV D n ino).getD 0 0))) (O0 (blk D ((drV D n ino).getD 0 0)) 32)))) (s:=(V4 D n c ino,bL (getD (blk D ((drV D n ino).getD 0 0))) (O0 (blk D ((drV D n ino).getD 0 0)) 32)));cases okX (O9 (getD (blk D ((drV D n ino).getD 0 0))) (O0 (blk D ((drV D n ino).getD 0 0)) 32)) (G7 D n (V4 D n c ino) (getD (blk D ((drV D n ino).getD 0 0))) (O0 (blk D ((drV D n ino).getD 0 0)) 32)).2 with
  | true=>exact A6j (hl.trans B3x)
  | false=>exact zeros_length
def E0c(hi:0<=ino/\ino<=65535)(hD:okD D)(hm:P7 (l_ D) n=A5)(h:MayC c):MayC (U0 D n c ino):=by
 unfold U0;split
 ·exact D64 hD hm h
 ·exact D9c hi hm h
def D6j(hD:okD D)(hm:P7 (l_ D) n=A5):∀ {e i:Nat} {c:Cl},RowW n c->MayC c->MayC (ofR D n e i c)
 | 0,_,_,_,h=>h
 | e+1,i,c,hr,h=>by
  obtain ⟨_,_,_,n128,_⟩:=I1.1 hm;unfold ofR;cases hc:c.row[i]? with
  | none=>exact h
  | some a =>
   have ha:=hr.rg a (E6n hc);exact D6j hD hm (gT hr) (E0c ⟨by omega,by omega⟩ hD hm h)
end
def D8I(D:Dev):IsView [rT (E8 D),rT [.sl 0 0 (l_ D) 256]] (.f 27 [(1,0)]) D :=
 ⟨1,0,A5,A5,rfl,rfl,rfl⟩
section
variable {D:Dev} {n:Int}
def eJ(hD:okD D)(hm:P7 (l_ D) n=A5):RowW n (F6 D n)/\Small (F6 D n) 128 (224*129) (33*129) (224*129)/\(∀ x∈(F7 D n).ino,x.length=11)/\(F7 D n).ino.length=(n+1).toNat/\(F7 D n).taken.length=(l_ D):=by
 obtain ⟨_,_,_,P,_,_,_,_,_,h1,h2⟩:=C81 (n:=n) (m:=0) hD (D8I D) hm;exact ⟨h1,h2,P.il,P.ilen,P.tlen⟩
def claimI_may:MayC (H8 D n):=by
 refine ⟨λx hx=>?_,λi=>?_,rfl,λb hb=>by cases hb⟩
 ·rw [List.eq_of_mem_replicate hx];exact D7D
 ·have e:((H8 D n).par i).getD 0=if i=1 then 1 else 0:=by
   show ((A0J (λ_=>A7) 1 1) i).getD 0=_;unfold A0J;split<;>rfl
  rw [e];split<;>omega
def D4l(hD:okD D)(hm:P7 (l_ D) n=A5):MayC (F6 D n):=by
 obtain ⟨_,_,_,n128,_⟩:=I1.1 hm;unfold F6;have hs:=ownR_same (c:=H8 D n) (k:=(bD (l_ D) n).toNat);refine D6j hD hm ?_ (claimI_may.same hs);refine RowW.same (c:=H8 D n) ⟨by simp [H8],λi=>?_,λi hi=>?_⟩ hs.row hs.par
 ·by_cases c1:i=1
  ·subst c1;simp [H8,A0J]
  ·simp [H8,A0J,c1]
 ·obtain ⟨_,_,n8,_⟩:=I1.1 hm;simp [H8] at hi;omega
def D7u(hl:∀ i,V0 ((c.lnk i).getD 0)=A5)(h:MayC c):MayC (aJ c a):=by
 unfold aJ;split
 ·rename_i h1;refine ⟨λx hx=>?_,h.par,h.bm,h.md⟩;rcases C6C hx with h2 | h2
  ·exact h.ino x h2
  ·have hin:c.ino.getD a.toNat []∈c.ino:=by
    by_cases hl:a.toNat<c.ino.length
    ·rw [E54,E51 hl];exact E6w hl
    ·rw [E54 (l:=c.ino),E6u (by omega)] at h1;simp at h1
   obtain ⟨h3,h4⟩:=h.ino _ hin;generalize c.ino.getD a.toNat []=y at *;rw [h2]
   match y,h3 with
   | [y0,y1,y2,y3,y4,y5,y6,y7,y8,y9,y10],_ =>
    have e:y0=1:=h1;subst e;have h5:B9O 1 y1 y2 y3 [y4,y5,y6,y7,y8,y9,y10]=A5:=h4;refine ⟨rfl,?_⟩;show B9O 1 ((c.lnk a).getD 0) y2 y3 [y4,y5,y6,y7,y8,y9,y10]=A5;unfold B9O at h5 ⊢;simp only [E53] at h5 ⊢;exact ⟨h5.1,hl a,h5.2.2⟩
 ·exact h
def C6w:(aJ c a).row=c.row/\(aJ c a).taken=c.taken/\(aJ c a).blocks=c.blocks/\(aJ c a).made=c.made/\(aJ c a).lost=c.lost/\(aJ c a).lnk=c.lnk/\(aJ c a).par=c.par:=by
 unfold aJ;split<;>exact ⟨rfl,rfl,rfl,rfl,rfl,rfl,rfl⟩
def uS:∀ {L:List Int} {c:Cl},(bP c L).row=c.row/\(bP c L).taken=c.taken/\(bP c L).blocks=c.blocks/\(bP c L).made=c.made/\(bP c L).lost=c.lost/\(bP c L).lnk=c.lnk/\(bP c L).par=c.par
 | [],c=>⟨rfl,rfl,rfl,rfl,rfl,rfl,rfl⟩
 | a::L,c=>by
  obtain ⟨a1,a2,a3,a4,a5,a6,a7⟩:=uS (L:=L) (c:=aJ c a);obtain ⟨b1,b2,b3,b4,b5,b6,b7⟩:=C6w (c:=c) (a:=a);exact ⟨a1.trans b1,a2.trans b2,a3.trans b3,a4.trans b4,a5.trans b5,a6.trans b6,a7.trans b7⟩
def C6x:∀ {L:List Int} {c:Cl},(∀ i,V0 ((c.lnk i).getD 0)=A5)->MayC c->MayC (bP c L)
 | [],_,_,h=>h
 | a::L,c,hl,h=>C6x (L:=L) (c:=aJ c a) (by rw [(C6w (c:=c) (a:=a)).2.2.2.2.2.1];exact hl) (D7u hl h)
def D4k(hD:okD D)(hm:P7 (l_ D) n=A5):MayC (F7 D n):=by
 obtain ⟨h1,h2,_⟩:=eJ hD hm;refine C6x (λi=>?_) (D4l hD hm);rw [A6t];have:=h2.lnk i;omega
def D27:(yP c k).row=c.row:=ownR_same.row
def uG(hD:okD D)(hm:P7 (l_ D) n=A5):ImgOk D n (F7 D n):=by
 obtain ⟨h1,h2,h3,h4,h5⟩:=eJ hD hm;obtain ⟨_,_,_,n128,_⟩:=I1.1 hm;have hc:=D4k hD hm;obtain ⟨s1,s2,s3,s4,s5,s6,s7⟩:=uS (L:=(F6 D n).row) (c:=F6 D n);have hr:1<=(F6 D n).row.length:=by
  have:(yP (H8 D n) (bD (l_ D) n).toNat).row.length<=(F6 D n).row.length:=D01;rw [D27] at this;simpa [H8] using this
 refine ⟨?_,h5,hc.ino,by rw [h4];omega,hc.bm,?_,hc.md⟩
 ·show 0<(bP _ _).row.length;rw [s1];omega
 ·show (bP _ _).blocks.length<=_;rw [s3];have:=h2.blocks;omega
def A7t{m:Int}{f:Cell}(hD:okD D)(hv:IsView h f D)(hm:P7 (l_ D) n=A5)(hc:IsCl h cs (F7 D n)) :
  T7 [.a (vwC (l_ D) n m f),.a cs] h=A4 (sV (l_ h) 0 (l_ D) 256,h++[rT (E8 (kZ D n (F7 D n)))]) :=
 C5y hD hv hm hc (uG hD hm)
end
def Cl.wl(c:Cl)(x:Int):Cl:={ c with lost:=x }
section
variable {D E:Dev} {n:Int} {c:Cl} {x:Int}
def E1n:cR D n (c.wl x) no=cR D n c no:=rfl
def B4D:K3 D n (c.wl x) no=K3 D n c no:=rfl
def B4A:J7 D n (c.wl x) no=(J7 D n c no).wl x:=by
 unfold J7;rw [E1n];cases cR D n c no<;>rfl
def D12(h:l_ E=l_ D):cR E n c no=cR D n c no:=by unfold cR;rw [h]
def A8A(h:l_ E=l_ D):K3 E n c no=K3 D n c no:=by unfold K3;rw [D12 h]
def A8z(h:l_ E=l_ D):J7 E n c no=J7 D n c no:=by unfold J7;rw [D12 h]
def bG:G5 (l_ D) n 0=A6:=by
 cases h:G5 (l_ D) n 0 with
 | false=>rfl
 | true =>
  obtain ⟨h1,h2,_⟩:=uP.1 h;unfold bD bH mP at h2;rw [h1] at h2;have:=I1.1 h1;simp only [cond_true] at h2;omega
def A8B:K3 D n c 0=0/\J7 D n c 0=c:=by
 unfold K3 J7 cR;rw [bG];exact ⟨rfl,rfl⟩
def B4E:K3 D n c (K3 D n c no)=K3 D n c no/\J7 D n c (K3 D n c no)=J7 D n c no:=by
 cases h:cR D n c no with
 | true =>
  have e:K3 D n c no=no:=by unfold K3;rw [h];rfl
  rw [e];exact ⟨e,rfl⟩
 | false =>
  have e:K3 D n c no=0:=by unfold K3;rw [h];rfl
  have e2:J7 D n c no=c:=by unfold J7;rw [h];rfl
  rw [e,e2];exact A8B
def B4C(h:K3 D n c no≠0):K3 D n c no=no/\cR D n c no=A5:=by
 cases hb:cR D n c no with
 | true=>exact ⟨by unfold K3;rw [hb];rfl,rfl⟩
 | false=>exact absurd (by unfold K3;rw [hb];rfl) h
def D5U{d:List Int}:∀ {e k:Nat} {c:Cl} {l:List Int},dD D n d e k (c.wl x,l)=((dD D n d e k (c,l)).1.wl x,(dD D n d e k (c,l)).2)
 | 0,_,_,_=>rfl
 | e+1,k,c,l=>by
  show dD D n d e (k+1) (J7 D n (c.wl x) (d.getD k 0),l.set k (K3 D n (c.wl x) (d.getD k 0)))=_;rw [B4A,B4D,D5U];rfl
def D19(h:l_ E=l_ D){d:List Int}:∀ {e k:Nat} {s:Cl × List Int},dD E n d e k s=dD D n d e k s
 | 0,_,_=>rfl
 | e+1,k,s=>by
  show dD E n d e (k+1) (J7 E n s.1 (d.getD k 0),s.2.set k (K3 E n s.1 (d.getD k 0)))=_;rw [A8z h,A8A h,D19 h];rfl
def fP{d:List Int}{j:Nat}:∀ {e k:Nat} {s:Cl × List Int},j<k\/k+e<=j->(dD D n d e k s).2.getD j 0=s.2.getD j 0
 | 0,_,_,_=>rfl
 | e+1,k,s,h=>by
  show (dD D n d e (k+1) _).2.getD j 0=_;rw [fP (by omega)];show (s.2.set k _).getD j 0=_;rw [E54,E60 (by omega),<-E54]
def C5L{d d':List Int}:∀ {e k:Nat} {s:Cl × List Int},k+e<=s.2.length->(∀ j,k<=j->j<k+e->d'.getD j 0=(dD D n d e k s).2.getD j 0)->dD D n d' e k s=dD D n d e k s
 | 0,_,_,_,_=>rfl
 | e+1,k,s,hl,h=>by
  have h0:=h k (E56 _) (by omega);have e1:(dD D n d (e+1) k s).2.getD k 0=K3 D n s.1 (d.getD k 0):=by
   show (dD D n d e (k+1) (J7 D n s.1 (d.getD k 0),s.2.set k (K3 D n s.1 (d.getD k 0)))).2.getD k 0=_;rw [fP (by omega)];show (s.2.set k _).getD k 0=_;rw [E54,E63,if_pos rfl,if_pos (by omega)];rfl
  rw [e1] at h0;have ih:=C5L (d:=d) (d':=d') (e:=e) (k:=k+1) (s:=(J7 D n s.1 (d.getD k 0),s.2.set k (K3 D n s.1 (d.getD k 0)))) (by show k+1+e<=(s.2.set k _).length;rw [E6F];omega) (λj h1 h2=>h j (by omega) (by omega));show dD D n d' e (k+1) (J7 D n s.1 (d'.getD k 0),s.2.set k (K3 D n s.1 (d'.getD k 0)))=dD D n d e (k+1) (J7 D n s.1 (d.getD k 0),s.2.set k (K3 D n s.1 (d.getD k 0)));rw [h0,B4E.1,B4E.2];exact ih
def A2F(D:Dev)(n sz:Int)(d:List Int)(c:Cl):Cl × List Int:=A1R D n d (T5 sz) (dD D n d (min (T5 sz) 6).toNat 0 (c,zI 7))
def A4H:H9 D n c ino=A2F D n (szV D n ino) (drV D n ino) c:=rfl
def D99{sz:Int}{d:List Int}:A2F D n sz d (c.wl x)=((A2F D n sz d c).1.wl x,(A2F D n sz d c).2):=by
 unfold A2F A1R;rw [D5U];split
 ·rw [B4A,B4D]
 ·rfl
def D7K(h:l_ E=l_ D){sz:Int}{d:List Int}:A2F E n sz d c=A2F D n sz d c:=by
 unfold A2F A1R;rw [D19 h,A8z h,A8A h]
def D21{sz:Int}{d:List Int}:A2F D n sz (A2F D n sz d c).2 c=A2F D n sz d c:=by
 obtain ⟨m,hm⟩:=xEq ((min (T5 sz) 6).toNat);have m6:m<=6:=by omega
 obtain ⟨s,hs⟩:=xEq (dD D n d m 0 (c,zI 7));have sl:s.2.length=7:=by rw [hs,A0t.2];simp [zI]
 have key:∀ d':List Int,(∀ j,j<6->d'.getD j 0=s.2.getD j 0)->dD D n d' m 0 (c,zI 7)=s:=by
  intro d' h;rw [hs];refine C5L (by simp [zI];omega) λj _ h2=>?_
  rw [h j (by omega),hs]
 have hN:A2F D n sz d c=A1R D n d (T5 sz) s:=by unfold A2F;rw [<-hm,<-hs]
 rw [hN];unfold A2F;rw [<-hm];by_cases h6:6<T5 sz
 ·have e1:A1R D n d (T5 sz) s=(J7 D n s.1 (d.getD 6 0),s.2.set 6 (K3 D n s.1 (d.getD 6 0))):=by unfold A1R;rw [if_pos h6]
  rw [e1,key _ (λj hj=>by rw [E54,E60 (by omega),<-E54])];unfold A1R;rw [if_pos h6];have e2:(s.2.set 6 (K3 D n s.1 (d.getD 6 0))).getD 6 0=K3 D n s.1 (d.getD 6 0):=by
   rw [E54,E63,if_pos rfl,if_pos (by omega)];rfl
  show (J7 D n s.1 ((s.2.set 6 (K3 D n s.1 (d.getD 6 0))).getD 6 0),s.2.set 6 (K3 D n s.1 ((s.2.set 6 (K3 D n s.1 (d.getD 6 0))).getD 6 0)))=_;rw [e2,B4E.1,B4E.2]
 ·have e1:A1R D n d (T5 sz) s=s:=by unfold A1R;rw [if_neg h6]
  rw [e1,key _ (λj hj=>rfl)];unfold A1R;rw [if_neg h6]
def D9w:R5 D n many (c.wl x,b) k=((R5 D n many (c,b) k).1.wl x,(R5 D n many (c,b) k).2):=by
 unfold R5;split
 ·rfl
 ·rw [B4A,B4D];split<;>rfl
def D2k{many:Int}:∀ {e k:Nat} {c:Cl} {b:List UInt8},L9 D n many e k (c.wl x,b)=((L9 D n many e k (c,b)).1.wl x,(L9 D n many e k (c,b)).2)
 | 0,_,_,_=>rfl
 | e+1,k,c,b=>by
  show L9 D n many e (k+1) (R5 D n many (c.wl x,b) k)=_;rw [D9w];exact D2k
def C87(h:l_ E=l_ D){many:Int}:∀ {e k:Nat} {s:Cl × List UInt8},L9 E n many e k s=L9 D n many e k s
 | 0,_,_=>rfl
 | e+1,k,s=>by
  show L9 E n many e (k+1) (R5 E n many s k)=L9 D n many e (k+1) (R5 D n many s k);have:R5 E n many s k=R5 D n many s k:=by unfold R5;rw [A8z h,A8A h]
  rw [this];exact C87 h
def B80{s:Cl × List UInt8}(hb:s.2.length=256)(hk:k<128)(hi:i<128) :
  ptP (R5 D n many s k).2 i=if i=k then (if ptP s.2 k≠0/\(k:Int)+6<many/\K3 D n s.1 (ptP s.2 k)≠0 then ptP s.2 k else 0) else ptP s.2 i:=by
 obtain ⟨V,hV⟩:=xEq (if ptP s.2 k≠0/\(k:Int)+6<many/\K3 D n s.1 (ptP s.2 k)≠0 then ptP s.2 k else 0);rw [<-hV];unfold R5;by_cases h0:ptP s.2 k=0
 ·rw [if_pos h0];rw [if_neg (λh=>h.1 h0)] at hV;by_cases e:i=k
  ·subst e;rw [if_pos rfl,hV,h0]
  ·rw [if_neg e]
 ·rw [if_neg h0];have hz:ptP (H5 s.2 (2*k) (D4 2 0)) i=if i=k then 0 else ptP s.2 i:=E1Y hb hk hi
  by_cases hm:(k:Int)+6<many
  ·rw [if_pos hm,decide_eq_true hm,E6t];by_cases hc:K3 D n s.1 (ptP s.2 k)=0
   ·show ptP (bif !decide (K3 D n s.1 (ptP s.2 k)=0) then s.2 else H5 s.2 (2*k) (D4 2 0)) i=_;rw [if_neg (λh=>h.2.2 hc)] at hV;rw [decide_eq_true hc,Bool.not_true,cond_false,hz,hV]
   ·show ptP (bif !decide (K3 D n s.1 (ptP s.2 k)=0) then s.2 else H5 s.2 (2*k) (D4 2 0)) i=_;rw [if_pos ⟨h0,hm,hc⟩] at hV;rw [decide_eq_false hc,Bool.not_false,cond_true,hV];by_cases e:i=k
    ·subst e;rw [if_pos rfl]
    ·rw [if_neg e]
  ·rw [if_neg (λh=>hm h.2.1)] at hV;rw [if_neg hm,decide_eq_false hm,E6p];show ptP (H5 s.2 (2*k) (D4 2 0)) i=_;rw [hz,hV]
def A6e{many:Int}{i:Nat}(hi:i<128):∀ {e k:Nat} {s:Cl × List UInt8},s.2.length=256->k+e<=128->i<k\/k+e<=i->ptP (L9 D n many e k s).2 i=ptP s.2 i
 | 0,_,_,_,_,_=>rfl
 | e+1,k,s,hb,hk,h=>by
  show ptP (L9 D n many e (k+1) (R5 D n many s k)).2 i=_;rw [A6e hi (A3D hb (by omega)) (by omega) (by omega),B80 hb (by omega) hi,if_neg (by omega)]
def C2H{many:Int}:∀ {e k:Nat} {c:Cl} {b b':List UInt8},l_ b=256->b'.length=256->k+e<=128->(∀ j,k<=j->j<k+e->ptP b' j=ptP (L9 D n many e k (c,b)).2 j) ->
  L9 D n many e k (c,b')=((L9 D n many e k (c,b)).1,b')
 | 0,_,_,_,_,_,_,_,_=>rfl
 | e+1,k,c,b,b',hb,hb',hk,h=>by
  have hl:=A3D (D:=D) (n:=n) (many:=many) (s:=(c,b)) (k:=k) hb (by omega);have hp:ptP b' k=if ptP b k≠0/\(k:Int)+6<many/\K3 D n c (ptP b k)≠0 then ptP b k else 0:=by
   rw [h k (E56 _) (by omega)];show ptP (L9 D n many e (k+1) (R5 D n many (c,b) k)).2 k=_;rw [A6e (by omega) hl (by omega) (by omega),B80 (s:=(c,b)) hb (by omega) (by omega),if_pos rfl]
  have key:R5 D n many (c,b') k=((R5 D n many (c,b) k).1,b'):=by
   by_cases h0:ptP b k=0
   ·rw [if_neg (λq=>q.1 h0)] at hp;unfold R5;rw [if_pos hp,if_pos h0]
   ·by_cases hm:(k:Int)+6<many
    ·by_cases hc:K3 D n c (ptP b k)=0
     ·rw [if_neg (λq=>q.2.2 hc)] at hp;have ec:J7 D n c (ptP b k)=c:=by
       cases hB:cR D n c (ptP b k) with
       | true =>
        have e9:K3 D n c (ptP b k)=ptP b k:=by unfold K3;rw [hB];rfl
        exact absurd (e9.symm.trans hc) h0
       | false=>unfold J7;rw [hB];rfl
      unfold R5;rw [if_pos hp,if_neg h0];show (c,b')=(if (k:Int)+6<many then J7 D n c (ptP b k) else c,b');rw [if_pos hm,ec]
     ·rw [if_pos ⟨h0,hm,hc⟩] at hp;unfold R5;rw [if_neg (by rw [hp];exact h0),if_neg h0];show (if (k:Int)+6<many then J7 D n c (ptP b' k) else c,bif decide ((k:Int)+6<many) && !decide (K3 D n c (ptP b' k)=0) then b' else H5 b' (2*k) (D4 2 0))=(if (k:Int)+6<many then J7 D n c (ptP b k) else c,b');rw [hp,decide_eq_true hm,decide_eq_false hc];rfl
    ·rw [if_neg (λq=>hm q.2.1)] at hp;unfold R5;rw [if_pos hp,if_neg h0];show (c,b')=(if (k:Int)+6<many then J7 D n c (ptP b k) else c,b');rw [if_neg hm]
  show L9 D n many e (k+1) (R5 D n many (c,b') k)=((L9 D n many e (k+1) (R5 D n many (c,b) k)).1,b');rw [key];exact C2H (b:=(R5 D n many (c,b) k).2) hl hb' (by omega) λj h1 h2=>h j (by omega) (by omega)
def D2j(hb:l_ b=256)(D0x:l_ D<=512):ptP (L9 D n many 128 0 (c,b)).2 0<512:=by
 have hl:=A3D (D:=D) (n:=n) (many:=many) (s:=(c,b)) (k:=0) hb (by omega);show ptP (L9 D n many 127 1 (R5 D n many (c,b) 0)).2 0<512;rw [A6e (by omega) hl (by omega) (by omega),B80 (s:=(c,b)) hb (by omega) (by omega),if_pos rfl];split
 ·rename_i h;obtain ⟨_,hB⟩:=B4C h.2.2;unfold cR at hB;rw [E53] at hB;have:=(uP.1 hB.1).2.2;show ptP b 0<512;have h2:ptP (c,b).2 0=ptP b 0:=rfl;rw [h2] at this;omega
 ·omega
end
def D1O{c:Nat}(h:A8k (C5 d) t i c=A5):X8 d t i<=c:=by
 false_or_by_contra
 have:=B24 (d:=d) (t:=t) (p:=i) (c:=c) (by omega);rw [h] at this;cases this
def E0V{c:Nat}(hi:i<C5 d)(hc:A8k (C5 d) t i c=A5\/eR d<=c)(h:∀ k,k<C5 d->toX t k=toX t i->k%2 ^ c=i%2 ^ c):B6n d t i=A5:=by
 have hb:X8 d t i<=c:=by
  rcases hc with hc | hc
  ·exact D1O hc
  ·exact E6J B8K hc
 rw [A0K hi];exact λk hk hs=>C6D hb (h k hk hs)
structure Fair(d:Int)(t:List Int):Prop where
 len:l_ t=32
 fine:∀ i,i<C5 d->toX t i≠0->B7f (toX t i)=A5
 whole:∀ i,i<C5 d->toX t i≠0->B6n d t i=A5
 beyond:∀ i,C5 d<=i->toX t i=0
def E1x(ht:l_ t=32)(hr:A0F d t=A5):Fair d t:=by
 obtain ⟨h0,h5,hf⟩:=C9D.1 hr;have hm:=T2 d;unfold A8J at hf;rw [if_pos ⟨h0,h5⟩] at hf;have hf:mN d t (C5 d)=t:=by simpa using hf
 have hk:∀ i,i<C5 d->toX t i≠0->yA d t i=A5:=by
  intro i hi hz;have:=A44 (d:=d) (t:=t) (i:=i) hm;rw [hf,if_pos hi] at this;unfold yN at this;cases c:yA d t i with
  | true=>rfl
  | false=>rw [c] at this;exact absurd this hz
 have later:∀ i j,i<j->j<C5 d->toX t j=toX t i->toX t j≠0->B6n d t j=A5:=by
  intro i j hij hj hs hz;obtain ⟨_,_,h3⟩:=A0A.1 (hk j hj hz);rcases h3 with h3 | h3
  ·exact absurd hs.symm (fQ.1 h3 i hij)
  ·exact h3
 refine ⟨ht,λi hi hz=>(A0A.1 (hk i hi hz)).2.1,λi hi hz=>?_,λi hi=>?_⟩
 ·obtain ⟨_,_,h3⟩:=A0A.1 (hk i hi hz);rcases h3 with h3 | h3
  ·rw [A0K hi];intro k hkm hs;rcases Nat.lt_trichotomy k i with h | h | h
   ·exact absurd hs (fQ.1 h3 k h)
   ·rw [h]
   ·have hw:=(A0K hkm).1 (later i k h hkm hs (by rw [hs];exact hz)) i hi hs.symm;have hb:=D1P hkm hi hw;rw [hb];exact hw.symm
  ·exact h3
 ·have:=A44 (d:=d) (t:=t) (i:=i) hm;rw [hf,if_neg (by omega)] at this;exact this
def D3q(h0:0<=d)(h5:d<=5)(hf:Fair d t):A0F d t=A5:=by
 refine C20 h0 h5 ?_;unfold A8J;rw [if_pos ⟨h0,h5⟩]
 congr 1
 refine D2m (T2 d) (λi hi=>?_) hf.len hf.beyond;by_cases hz:toX t i=0
 ·unfold yN;rw [hz];cases yA d t i<;>rfl
 ·have:yA d t i=A5:=A0A.2 ⟨hz,hf.fine i hi hz,.inr (hf.whole i hi hz)⟩;unfold yN;rw [this];rfl
def E2p{v:Int}:toX (t.set k v) i=if k=i/\i<(l_ t) then v else toX t i:=by
 unfold toX;rw [E54,E54,E63];by_cases c:k=i
 ·subst c;by_cases c2:k<(l_ t)
  ·simp [c2]
  ·simp [c2]
 ·simp [c]
def C5Y{a c:List UInt8}{w:Nat}{v:Int}:fieldN (R0 256 (a++D4 w v++c)) a.length w=v%256 ^ w:=by
 unfold fieldN R0;rw [E6d,E6d,List.drop_left,List.take_left' R2];exact B4M w v
def D4Y(hi:i<l_ t):oO t=oO (t.take i)++D4 2 t[i]++oO (t.drop (i+1)):=by
 have E4a:∀ a b:List Int,oO (a++b)=oO a++oO b:=by intro a b;simp [oO]
 have e:t=t.take i++([t[i]]++t.drop (i+1)):=by rw [List.singleton_append,<-E6b hi,List.take_append_drop]
 have h1:oO t=oO (t.take i++([t[i]]++t.drop (i+1))):=congrArg oO e;rw [h1,E4a,E4a,<-E6d]
 congr 2
def C6a(h0:0<=d)(h5:d<=5):getD (oJ d t)=d:=by
 unfold getD oJ A4Q;have:=C5Y (a:=magX) (c:=zeros 27++oO t) (w:=1) (v:=d);rw [show magX.length=4 from rfl] at this;rw [E6d (magX++D4 1 d),this];omega
def D9t:B7f n=A5↔0<=n/\n<=65535:=by unfold B7f;simp
def C6c(ht:l_ t=32)(hf:t.all B7f=A5):O0 (oJ d t) 32=t:=by
 apply E7b;intro i;by_cases hi:i<32
 ·unfold O0;rw [E6H (by simpa using hi),List.getElem?_map,List.getElem?_range hi,E51 (by omega)];have:=C5Y (a:=A4Q d++oO (t.take i)) (c:=oO (t.drop (i+1))) (w:=2) (v:=t[i]);rw [E6d (A4Q d),E6d (A4Q d),<-D4Y (by omega)] at this;have hl:(A4Q d++oO (t.take i)).length=32+2*i:=by rw [E58,A1Q,A1W,E6A];omega
  rw [hl] at this;have h1:=D9t.1 (List.all_eq_true.1 hf t[i] (E6w (by omega)));rw [show t[i]%256 ^ 2=t[i] by omega] at this;show A4 (E29 (oJ d t) i)=A4 t[i];rw [<-this];rfl
 ·rw [E6u (by rw [A1N (E56 _)];omega),E6u (by omega)]
def C5X(hf:Fair d t):t.all B7f=A5:=by
 rw [E6X];intro x hx;obtain ⟨i,hi⟩:=List.mem_iff_getElem?.1 hx;have hl:=(List.getElem?_eq_some_iff.1 hi).1;rw [C4l hl] at hi;have hi:=Option.some.inj hi;by_cases hz:toX t i=0
 ·rw [<-hi,hz];decide
 ·by_cases hm:i<C5 d
  ·rw [<-hi];exact hf.fine i hm hz
  ·exact absurd (hf.beyond i (by omega)) hz
def D2s(h0:0<=d)(h5:d<=5)(hf:Fair d t):okX d t=A5/\Q6 (oJ d t)=A5:=by
 have ha:=C5X hf;have ho:okX d t=A5:=by unfold okX;rw [decide_eq_true h0,decide_eq_true h5,ha];rfl
 refine ⟨ho,?_⟩;unfold Q6;rw [C6a h0 h5,C6c hf.len ha,ho,decide_eq_true rfl,E6t,E6t];unfold B9P;rw [E6X];intro i hi;have:=List.mem_range'_1.1 hi;rw [hf.beyond i this.1];rfl
def D30{no:Int}{j:Nat}:∀ {e i:Nat} {t:List Int},i+e<=l_ t->toX (A0a no e i t) j=if i<=j/\j<i+e/\toX t j=no then 0 else toX t j
 | 0,i,t,_=>by rw [if_neg (by omega)];rfl
 | e+1,i,t,h=>by
  show toX (A0a no e (i+1) (if t.getD i 0=no then t.set i 0 else t)) j=_;have hl:(if t.getD i 0=no then t.set i 0 else t).length=(l_ t):=by split<;>simp
  rw [D30 (by rw [hl];omega)];have e1:toX (if t.getD i 0=no then t.set i 0 else t) j=if j=i/\toX t i=no then 0 else toX t j:=by
   by_cases c:t.getD i 0=no
   ·rw [if_pos c,E2p];have c':toX t i=no:=c;by_cases e2:i=j
    ·subst e2;rw [if_pos ⟨rfl,by omega⟩,if_pos ⟨rfl,c'⟩]
    ·rw [if_neg (λh=>e2 h.1),if_neg (λh=>e2 h.1.symm)]
   ·rw [if_neg c,if_neg (λh=>c h.2)]
  by_cases e2:j=i
  ·subst e2;rw [if_neg (by omega),e1];by_cases c:toX t j=no
   ·rw [if_pos ⟨rfl,c⟩,if_pos ⟨by omega,by omega,c⟩]
   ·rw [if_neg (λh=>c h.2),if_neg (λh=>c h.2.2)]
  ·have e3:toX (if t.getD i 0=no then t.set i 0 else t) j=toX t j:=by rw [e1,if_neg (λh=>e2 h.1)]
   rw [e3];by_cases c:i+1<=j/\j<i+1+e/\toX t j=no
   ·rw [if_pos c,if_pos ⟨by omega,by omega,c.2.2⟩]
   ·rw [if_neg c,if_neg (λh=>c ⟨by omega,by omega,h.2.2⟩)]
structure LessQ(q:Int->Bool)(u T:List Int):Prop where
 len:l_ T=32
 get:∀ i,toX T i=if q (toX u i)=A5 then toX u i else 0
def E2o(h:l_ t<=i):toX t i=0:=by
 unfold toX;rw [E54,E6u h];rfl
section
variable {d:Int} {q:Int->Bool} {u T:List Int}
def D63(hf:Fair d u)(h:LessQ q u T):Fair d T:=by
 have nz:∀ i,toX T i≠0->q (toX u i)=A5/\toX T i=toX u i:=λi hz=>by
  have:=h.get i;cases hq:q (toX u i) with
  | true=>rw [hq,if_pos rfl] at this;exact ⟨rfl,this⟩
  | false=>rw [hq,if_neg (by decide)] at this;exact absurd this hz
 refine ⟨h.len,λi hi hz=>?_,λi hi hz=>?_,λi hi=>?_⟩
 ·obtain ⟨_,e⟩:=nz i hz;rw [e] at hz ⊢;exact hf.fine i hi hz
 ·obtain ⟨hq,e⟩:=nz i hz;have hz':toX u i≠0:=by rw [<-e];exact hz
  have hw:=(A0K hi).1 (hf.whole i hi hz');refine E0V (c:=X8 d u i) hi ?_ λk hk hs=>?_
  ·by_cases hb:X8 d u i<eR d
   ·refine .inl (A4u.2 ⟨hz,λk hk hm=>?_⟩);have:=(A4u.1 (B4x hb)).2 k hk hm;rw [h.get k,h.get i,this]
   ·exact .inr (by omega)
  ·obtain ⟨_,e2⟩:=nz k (by rw [hs];exact hz);exact hw k hk (by rw [<-e2,hs,e])
 ·have:=h.get i;rw [hf.beyond i hi] at this;rw [this];split<;>rfl
def C8U(h:LessQ q u T){n:Nat}:J4 T n=(J4 u n).filter q:=by
 have nz:∀ i,xM T i=(xM u i&&q (toX u i)):=by
  intro i;unfold xM;have hi:=h.get i;cases hq:q (toX u i) with
  | false =>
   rw [hq,if_neg (by decide)] at hi;rw [hi,Bool.and_false];rfl
  | true =>
   rw [hq,if_pos rfl] at hi;rw [hi,Bool.and_true];by_cases hz:toX u i=0
   ·rw [hz];rfl
   ·congr 1
    rw [Bool.eq_iff_iff,fQ,fQ];constructor
    ·intro hk k hki e;refine hk k hki ?_;rw [h.get k,e,hq,if_pos rfl,hi]
    ·intro hk k hki e;have hg:=h.get k;rw [hi] at e;cases hqk:q (toX u k) with
     | true=>rw [hqk,if_pos rfl] at hg;exact hk k hki (by rw [<-hg,e])
     | false=>rw [hqk,if_neg (by decide)] at hg;rw [hg] at e;exact hz e.symm
 unfold J4;rw [List.filter_map,List.filter_filter];have e1:(E6z n).filter (xM T)=(E6z n).filter λa=>(q∘toX u) a&&xM u a:=by
  refine List.filter_congr λx _=>?_
  rw [nz x,Bool.and_comm];rfl
 rw [e1];refine List.map_congr_left λx hx=>?_
 have hx:=(List.mem_filter.1 hx).2;rw [E53] at hx;have hq:q (toX u x)=A5:=hx.1;rw [h.get x,hq,if_pos rfl]
end
def A1B{n:Nat}(h:x∈J4 t n):x≠0:=by
 unfold J4 at h;obtain ⟨i,hi,rfl⟩:=List.mem_map.1 h;have:=(List.mem_filter.1 hi).2;unfold xM at this;rw [E53] at this;simpa using this.1
def C39{n:Nat}:(J4 t n).Nodup:=by
 unfold J4;rw [List.Nodup,List.pairwise_map,List.pairwise_filter];refine List.Pairwise.imp ?_ (List.pairwise_lt_range (n:=n));intro a b hab ha hb e;unfold xM at hb;rw [E53] at hb;exact fQ.1 hb.2 a hab e
def C51{l k:List Int}(h:List.Sublist k l)(hn:l.Nodup):l.filter (λx=>decide (x∈k))=k:=by
 induction h with
 | slnil=>rfl
 | @cons k l a h ih =>
  have ha:=List.nodup_cons.1 hn;have:a ∉ k:=λhk=>ha.1 (h.subset hk)
  rw [List.filter_cons,decide_eq_false this,if_neg (by decide)];exact ih ha.2
 | @cons_cons k l a h ih =>
  have ha:=List.nodup_cons.1 hn;rw [List.filter_cons,decide_eq_true (E6e ..),if_pos rfl]
  congr 1
  have e:l.filter (λx=>decide (x∈a::k))=l.filter λx=>decide (x∈k):=by
   refine List.filter_congr λx hx=>?_
   have:x≠a:=λe=>ha.1 (by rw [<-e];exact hx)
   simp [this]
  rw [e,ih ha.2]
section
variable {D E:Dev} {n:Int}
def J5(D:Dev)(n:Int)(c:Cl):List Int->List Int
 | []=>[]
 | no::L=>if cR D n c no=A5 then no::J5 D n (J7 D n c no) L else J5 D n c L
def cE(D:Dev)(n:Int)(c:Cl)(L:List Int):Cl:=L.foldl (J7 D n) c
def B0g(h:cR D n c no=A6):J7 D n c no=c:=by unfold J7;rw [h];rfl
def D5S(h:cR D n c no=A6):K3 D n c no=0:=by unfold K3;rw [h];rfl
def xS(h:cR D n c no=A5):K3 D n c no=no:=by unfold K3;rw [h];rfl
def keptL_sub:∀ {L:List Int} {c:Cl},List.Sublist (J5 D n c L) L
 | [],_=>.slnil
 | no::L,c=>by
  unfold J5;split
  ·exact keptL_sub.cons_cons _
  ·exact keptL_sub.cons _
def B3T:∀ {L:List Int} {c:Cl},J5 D n c (J5 D n c L)=J5 D n c L
 | [],_=>rfl
 | no::L,c=>by
  cases h:cR D n c no with
  | true =>
   have e:J5 D n c (no::L)=no::J5 D n (J7 D n c no) L:=by show (if _ then _ else _)=_;rw [if_pos h]
   rw [e];show (if cR D n c no=A5 then _ else _)=_;rw [if_pos h,B3T]
  | false =>
   have e:J5 D n c (no::L)=J5 D n c L:=by show (if _ then _ else _)=_;rw [if_neg (by rw [h];decide)]
   rw [e,B3T]
def C1h:∀ {L:List Int} {c:Cl},cE D n c (J5 D n c L)=cE D n c L
 | [],_=>rfl
 | no::L,c=>by
  cases h:cR D n c no with
  | true =>
   have e:J5 D n c (no::L)=no::J5 D n (J7 D n c no) L:=by show (if _ then _ else _)=_;rw [if_pos h]
   rw [e];exact C1h (L:=L) (c:=J7 D n c no)
  | false =>
   have e:J5 D n c (no::L)=J5 D n c L:=by show (if _ then _ else _)=_;rw [if_neg (by rw [h];decide)]
   rw [e,C1h];show _=cE D n (J7 D n c no) L;rw [B0g h]
def A8p:∀ {L:List Int} {c:Cl} {t:List Int},l_ t=32->L.Nodup->(∀ x∈L,x≠0) ->
  (V6 D n (c,t) L).1=cE D n c L/\LessQ (λx=>!(decide (x∈L) && !decide (x∈J5 D n c L))) t (V6 D n (c,t) L).2
 | [],c,t,ht,_,_=>⟨rfl,ht,λi=>by simp [V6]⟩
 | no::L,c,t,ht,hn,hz=>by
  obtain ⟨h1,h2⟩:=List.nodup_cons.1 hn;have Y3:=hz no (E6e ..);have hL:∀ x∈L,x≠0:=λx hx=>hz x (E59 _ hx)
  have hk:∀ {c},no ∉ J5 D n c L:=λh=>h1 (keptL_sub.subset h)
  cases h:cR D n c no with
  | true =>
   have e:V6 D n (c,t) (no::L)=V6 D n (J7 D n c no,t) L:=by
    show V6 D n (J7 D n c no,if K3 D n c no=0 then A0a no 32 0 t else t) L=_;rw [xS h,if_neg Y3]
   have e2:J5 D n c (no::L)=no::J5 D n (J7 D n c no) L:=by show (if _ then _ else _)=_;rw [if_pos h]
   obtain ⟨a1,a2⟩:=A8p (L:=L) (c:=J7 D n c no) ht h2 hL;rw [e,e2];refine ⟨a1,a2.len,λi=>?_⟩;rw [a2.get i];have:(!(decide (toX t i∈L) && !decide (toX t i∈J5 D n (J7 D n c no) L)))=(!(decide (toX t i∈no::L) && !decide (toX t i∈no::J5 D n (J7 D n c no) L))):=by
    by_cases e3:toX t i=no
    ·rw [e3,decide_eq_false h1,decide_eq_true (E6e ..),decide_eq_true (E6e ..)];rfl
    ·simp [e3]
   rw [this]
  | false =>
   have e:V6 D n (c,t) (no::L)=V6 D n (c,A0a no 32 0 t) L:=by
    show V6 D n (J7 D n c no,if K3 D n c no=0 then A0a no 32 0 t else t) L=_;rw [D5S h,if_pos rfl,B0g h]
   have e2:J5 D n c (no::L)=J5 D n c L:=by show (if _ then _ else _)=_;rw [if_neg (by rw [h];decide)]
   have hzl:(A0a no 32 0 t).length=32:=by rw [A3t,ht]
   have hza:∀ i,toX (A0a no 32 0 t) i=if toX t i=no then 0 else toX t i:=λi=>by
    rw [D30 (by omega)];by_cases c1:toX t i=no
    ·by_cases c2:i<32
     ·rw [if_pos ⟨by omega,by omega,c1⟩,if_pos c1]
     ·exact absurd (E2o (t:=t) (i:=i) (by omega)) (by rw [c1];exact Y3)
    ·rw [if_neg (λh=>c1 h.2.2),if_neg c1]
   obtain ⟨a1,a2⟩:=A8p (L:=L) (c:=c) hzl h2 hL;rw [e,e2];refine ⟨?_,a2.len,λi=>?_⟩
   ·rw [a1];show _=cE D n (J7 D n c no) L;rw [B0g h]
   ·rw [a2.get i,hza i];by_cases c1:toX t i=no
    ·have:(!(decide (toX t i∈no::L) && !decide (toX t i∈J5 D n c L)))=A6:=by
      rw [c1,decide_eq_true (E6e ..),decide_eq_false hk];rfl
     rw [this];have e0:(if toX t i=no then (0:Int) else toX t i)=0:=if_pos c1;rw [e0];split<;>rfl
    ·rw [if_neg c1];have:(!(decide (toX t i∈L) && !decide (toX t i∈J5 D n c L)))=(!(decide (toX t i∈no::L) && !decide (toX t i∈J5 D n c L))):=by simp [c1]
     rw [this]
def A57:∀ {L:List Int} {c:Cl} {t:List Int},(∀ x∈L,x≠0)->J5 D n c L=L->V6 D n (c,t) L=(cE D n c L,t)
 | [],_,_,_,_=>rfl
 | no::L,c,t,hz,h=>by
  have Y3:=hz no (E6e ..);cases hb:cR D n c no with
  | true =>
   have e2:J5 D n c (no::L)=no::J5 D n (J7 D n c no) L:=by show (if _ then _ else _)=_;rw [if_pos hb]
   rw [e2] at h;have h:=(List.cons.inj h).2;have e:V6 D n (c,t) (no::L)=V6 D n (J7 D n c no,t) L:=by
    show V6 D n (J7 D n c no,if K3 D n c no=0 then A0a no 32 0 t else t) L=_;rw [xS hb,if_neg Y3]
   rw [e,A57 (λx hx=>hz x (E59 _ hx)) h];rfl
  | false =>
   have e2:J5 D n c (no::L)=J5 D n c L:=by show (if _ then _ else _)=_;rw [if_neg (by rw [hb];decide)]
   rw [e2] at h;have:=keptL_sub (D:=D) (n:=n) (L:=L) (c:=c);rw [h] at this;have:=this.length_le;simp at this;omega
end
def D87(h:B7e D=A5):P7 (l_ D) (B5l D)=A5:=by
 unfold B7e at h;rw [E53] at h;have h1:=h.1;unfold okS at h1;rw [E53,of_decide_eq_true h.2] at h1;exact h1.1
abbrev Wr:=Int × List UInt8
def B1o:Dev->Dev->Nat->List Wr
 | w::W,d::D,i=>if w=d then B1o W D (i+1) else ((i:Int),w)::B1o W D (i+1)
 | _,_,_=>[]
section
variable {D W:Dev} {n m:Int} {g:A9} {q:Nat} {x0 x20:Val}
def C4f{D:Dev}{n:Int}(hD:okD D)(hm:P7 (l_ D) n=A5):okD (kZ D n (F7 D n))/\(kZ D n (F7 D n)).length=(l_ D):=by
 have okf:=uG hD hm;obtain ⟨_,_,_,n128,_⟩:=I1.1 hm;have h1:=B38 (l:=(F7 D n).blocks) (m:=(F7 D n).made) hD okf.md;have h2:=A9d (e:=(mP (l_ D) n).toNat) (no:=bH (l_ D) n) h1.1;have h3:=B3S (n:=n) n128 (l:=(F7 D n).ino) (i:=0) h2.1 λx hx=>(okf.ino x hx).1
 unfold kZ;refine ⟨h3.1.put ?_,by rw [fB,h3.2,h2.2,h1.2]⟩;unfold dH;rw [eV,zeros_length]
end
def zS(p:Slt->Bool)(cur:List UInt8)(l:List Slt):List UInt8:=l.foldl (λcur x=>bif p x then H5 cur (H7 x.1) (T6 x.2.1 x.2.2) else cur) cur
def clB(b:List UInt8)(p:Slt->Bool):List UInt8:=zS p hdB (J1 b)
def A1T(b:List UInt8)(p:Slt->Bool)(k:Nat):Option Ent:=match N9 b k with
 | some x=>bif p (k,x) then A4 x else A7
 | none=>A7
def E4H(o:Option Ent)(cur:List UInt8)(k:Nat):List UInt8:=match o with
 | some x=>H5 cur (H7 k) (T6 x.1 x.2)
 | none=>cur
def B7l{p:Slt->Bool}(hx:N9 b k=A7):A1T b p k=A7:=by unfold A1T;rw [hx]
def B0x{p:Slt->Bool}{x:Ent}(hx:N9 b k=A4 x):A1T b p k=bif p (k,x) then A4 x else A7:=by unfold A1T;rw [hx]
def C9L{b:List UInt8}{p:Slt->Bool}{j:Nat}(hj:j<7):∀ (e k:Nat) (cur:List UInt8),k+e<=7->cur.length=256 ->
  gX (zS p cur (Q0 b e k)) j=if k<=j/\j<k+e then E2M (A1T b p j) (gX cur j) else gX cur j
 | 0,k,cur,h,hc=>by rw [if_neg (by omega)];rfl
 | e+1,k,cur,h,hc=>by
  obtain ⟨cur',h'⟩:=xEq (E4H (A1T b p k) cur k);have hs:zS p cur (Q0 b (e+1) k)=zS p cur' (Q0 b e (k+1)):=by
   rw [h'];cases hx:N9 b k with
   | none =>
    have:A1T b p k=A7:=by unfold A1T;rw [hx]
    rw [Z3 hx,this];rfl
   | some x =>
    rw [Z4 hx];show zS p (bif p (k,x) then H5 cur (H7 k) (T6 x.1 x.2) else cur) _=_;have:A1T b p k=bif p (k,x) then A4 x else A7:=by unfold A1T;rw [hx]
    rw [this];cases p (k,x)<;>rfl
  have hl:cur'.length=256:=by
   rw [h'];cases A1T b p k with
   | none=>exact hc
   | some x=>exact A3g (by omega) hc
  have hc':gX cur' j=if j=k then E2M (A1T b p j) (gX cur j) else gX cur j:=by
   rw [h'];by_cases c:j=k
   ·subst c;rw [if_pos rfl];cases A1T b p j with
    | none=>rfl
    | some x=>show gX (H5 cur (H7 j) (T6 x.1 x.2)) j=_;rw [C9K hc U4 hj hj,if_pos rfl];rfl
   ·rw [if_neg c];cases A1T b p k with
    | none=>rfl
    | some x=>show gX (H5 cur (H7 k) (T6 x.1 x.2)) j=_;rw [C9K hc U4 (by omega) hj,if_neg c]
  rw [hs,C9L hj e (k+1) _ (by omega) hl,hc'];by_cases c:j=k
  ·subst c;rw [if_neg (by omega),if_pos rfl,if_pos ⟨by omega,by omega⟩]
  ·rw [if_neg c];by_cases c2:k+1<=j/\j<k+1+e
   ·rw [if_pos c2,if_pos ⟨by omega,by omega⟩]
   ·rw [if_neg c2,if_neg (by omega)]
section
variable {b:List UInt8} {p:Slt->Bool}
def D6o(hj:j<7):N9 (clB b p) j=A1T b p j:=by
 rw [D5e];unfold clB J1;rw [C9L hj 7 0 hdB (by omega) oH,if_pos ⟨by omega,by omega⟩,D8c j hj];cases hx:N9 b j with
 | none=>rw [B7l hx];exact C2Z
 | some x =>
  rw [B0x hx];cases p (j,x) with
  | true=>exact D7Z (C1M hx)
  | false=>exact C2Z
def B9m{b':List UInt8}:∀ (e k:Nat),(∀ j,k<=j->j<k+e->N9 b' j=A1T b p j)->Q0 b' e k=(Q0 b e k).filter p
 | 0,_,_=>rfl
 | e+1,k,h=>by
  have ih:=B9m e (k+1) λj h1 h2=>h j (by omega) (by omega)
  have h0:=h k (E56 _) (by omega);cases hx:N9 b k with
  | none=>rw [B7l hx] at h0;rw [Z3 hx,Z3 h0,ih]
  | some x =>
   rw [B0x hx] at h0;rw [Z4 hx,List.filter_cons];cases hp:p (k,x) with
   | true=>rw [hp] at h0;rw [Z4 h0,ih,if_pos rfl]
   | false=>rw [hp] at h0;rw [Z3 h0,ih,if_neg (by decide)]
def D6d:J1 (clB b p)=(J1 b).filter p:=B9m 7 0 λj _ h=>D6o (by omega)
def D50(hp:∀ y,p y=A5->T9 b y.2.1=A4 y)(nm:List UInt8):T9 (clB b p) nm=match T9 b nm with
  | some x=>bif p x then A4 x else A7
  | none=>A7:=by
 have hr:∀ j,j<7->N9 (clB b p) j=A1T b p j:=λj hj=>D6o hj
 have back:∀ j y,j<7->N9 (clB b p) j=A4 y->N9 b j=A4 y/\p (j,y)=A5:=by
  intro j y hj hy;rw [hr j hj] at hy;cases hx:N9 b j with
  | none=>rw [B7l hx] at hy;cases hy
  | some z =>
   rw [B0x hx] at hy;cases hq:p (j,z) with
   | true =>
    rw [hq] at hy;have:z=y:=Option.some.inj hy;subst this;exact ⟨rfl,hq⟩
   | false=>rw [hq] at hy;cases hy
 cases hf:T9 b nm with
 | none =>
  refine A4I 7 0 λj y _ h2 hy=>?_
  obtain ⟨h3,_⟩:=back j y (by omega) hy;exact B3v 7 0 hf j y (Nat.zero_le _) (by omega) h3
 | some x =>
  obtain ⟨h1,h2,_,h4,h5⟩:=A3j 7 0 hf;show _=bif p x then A4 x else A7
  cases hq:p x with
  | true =>
   refine C2I (i:=x.1) (x:=x.2) ?_ h2 7 0 (Nat.zero_le _) (by omega) λj y _ hj2 hy=>?_
   ·rw [hr _ (by omega),B0x h1];have:(x.1,x.2)=x:=rfl;rw [this,hq];rfl
   ·obtain ⟨h6,_⟩:=back j y (by omega) hy;exact h5 j y (Nat.zero_le _) hj2 h6
  | false =>
   refine A4I 7 0 λj y _ hj2 hy e=>?_
   obtain ⟨h6,h7⟩:=back j y (by omega) hy;have:=hp (j,y) h7;rw [show ((j,y):Slt).2.1=nm from e,hf] at this;cases this;rw [h7] at hq;cases hq
def B3V{p':Slt->Bool}:∀ {l:List Slt} {cur:List UInt8},(∀ y∈l,p y=A5->p' y=A5)->zS p' cur (l.filter p)=zS p cur l
 | [],_,_=>rfl
 | y::l,cur,h=>by
  have hl:=λz hz=>h z (E59 _ hz)
  rw [List.filter_cons];cases hq:p y with
  | true =>
   rw [if_pos rfl];show zS p' (bif p' y then H5 cur (H7 y.1) (T6 y.2.1 y.2.2) else cur) (l.filter p)=zS p (bif p y then H5 cur (H7 y.1) (T6 y.2.1 y.2.2) else cur) l;rw [h y (E6e ..) hq,hq];exact B3V hl
  | false =>
   rw [if_neg (by decide)];show _=zS p (bif p y then H5 cur (H7 y.1) (T6 y.2.1 y.2.2) else cur) l;rw [hq];exact B3V hl
def D82{p':Slt->Bool}(h:∀ y∈J1 b,p y=A5->p' y=A5):clB (clB b p) p'=clB b p:=by
 have e:clB (clB b p) p'=zS p' hdB (J1 (clB b p)):=rfl;rw [e,D6d];exact B3V h
def C1f{p':Slt->Bool}(h:∀ y∈J1 b,p' y=p y):clB b p'=clB b p:=by
 unfold clB zS;generalize hdB=cur;generalize J1 b=l at h
 induction l generalizing cur with
 | nil=>rfl
 | cons y l ih =>
  rw [E64,E64,h y (E6e ..)];exact ih _ (λz hz=>h z (E59 _ hz))
def C6d(h:Q6 b=A5):ptP b 0=25705:=by
 unfold Q6 at h;rw [E53,E53] at h;have e:=of_decide_eq_true h.2.1;rw [<-e];unfold ptP fieldN oJ R0 A4Q magX;simp only [Nat.mul_zero,E6i,E6Y,List.take_succ_cons,E6S];rfl
def D7r{l:List Slt}:∀ {cur:List UInt8},(∀ x∈l,x.1<7)->cur.length=256->ptP (zS p cur l) 0=ptP cur 0:=by
 induction l with
 | nil=>intro cur _ _;rfl
 | cons x l ih =>
  intro cur hl hc;have hx:=hl x (E6e ..);show ptP (zS p (bif p x then H5 cur (H7 x.1) (T6 x.2.1 x.2.2) else cur) l) 0=_;cases p x with
  | false=>exact ih (λy hy=>hl y (E59 _ hy)) hc
  | true =>
   have:=ih (cur:=H5 cur (H7 x.1) (T6 x.2.1 x.2.2)) (λy hy=>hl y (E59 _ hy)) (A3g hx hc);refine this.trans ?_;unfold ptP fieldN;have hl:=C9n (l:=cur) (xs:=T6 x.2.1 x.2.2) (a:=H7 x.1) (c:=2*0) (n:=2) (by rw [U4,hc];unfold H7;omega) (.inl (by unfold H7;omega));rw [hl]
def E1m:Q6 (clB b p)=A6:=by
 cases h:Q6 (clB b p) with
 | false=>rfl
 | true =>
  have h1:=C6d h;unfold clB at h1;rw [D7r (λx hx=>(B9R x hx).1) oH] at h1;have:ptP hdB 0=27490:=by decide +kernel
  rw [this] at h1;cases h1
def D66(hb:l_ b=256)(D0x:l_ D<=512):Q6 (L9 D n many 128 0 (c,b)).2=A6:=by
 cases h:Q6 (L9 D n many 128 0 (c,b)).2 with
 | false=>rfl
 | true =>
  have h1:=C6d h;have:=D2j (D:=D) (n:=n) (many:=many) (c:=c) hb D0x;omega
end
def B9q{b:List UInt8}{x:Slt}:∀ (e k:Nat),k<=x.1->x.1<k+e->N9 b x.1=A4 x.2->x∈Q0 b e k
 | 0,k,h1,h2,_=>by omega
 | e+1,k,h1,h2,hx=>by
  by_cases c:x.1=k
  ·rw [<-c,Z4 hx];exact E6e ..
  ·have ih:=B9q e (k+1) (by omega) (by omega) hx;cases hk:N9 b k with
   | none=>rw [Z3 hk];exact ih
   | some z=>rw [Z4 hk];exact E59 _ ih
section
variable {D E:Dev} {X L:List Int} {K:List UInt8->Option Int} {n:Int} {nm:List UInt8}
def xY(h:R6 X nm=no)(hz:no≠0):hmS D X nm=T9 (blk D no) nm:=by
 unfold hmS;rw [h,if_neg hz]
def B82{y:Slt}(h:hmS D X nm=A4 y):R6 X nm≠0/\y∈J1 (blk D (R6 X nm))/\y.2.1=nm/\1<=y.2.2:=by
 by_cases hz:R6 X nm=0
 ·unfold hmS at h;rw [if_pos hz] at h;cases h
 ·rw [xY rfl hz] at h;obtain ⟨h1,h2,_,h4,_⟩:=A3j 7 0 h;refine ⟨hz,B9q 7 0 (Nat.zero_le _) (by omega) h1,h2,?_⟩;have:=C1M h1;unfold B5n at this;simp only [E53,decide_eq_true_eq] at this;exact this.2.1
def B4w{x:Slt}:atH D X (no,x)=A5↔R6 X x.2.1=no/\hmS D X x.2.1=A4 x:=by
 unfold atH;rw [E53,decide_eq_true_eq,decide_eq_true_eq]
def A0z{x:Slt}:U9 D X no K x=A5↔(R6 X x.2.1=no/\hmS D X x.2.1=A4 x)/\(K x.2.1).getD 0=x.2.2:=by
 unfold U9;rw [E53,B4w,decide_eq_true_eq]
def oN(hz:∀ no∈L,no≠0):nm∈P5 D X (xI D L)↔R6 X nm∈L/\(hmS D X nm).isSome=A5:=by
 unfold P5 xI;constructor
 ·intro h;obtain ⟨⟨no,x⟩,he,rfl⟩:=List.mem_map.1 h;obtain ⟨h1,h2⟩:=List.mem_filter.1 he;obtain ⟨no',hL,h3⟩:=List.mem_flatMap.1 h1;obtain ⟨x',_,h4⟩:=List.mem_map.1 h3;cases h4;obtain ⟨h5,h6⟩:=B4w.1 h2;exact ⟨by show R6 X x.2.1∈L;rw [h5];exact hL,by show (hmS D X x.2.1).isSome=A5;rw [h6];rfl⟩
 ·rintro ⟨h1,h2⟩;obtain ⟨y,hy⟩:=Option.isSome_iff_exists.1 h2;obtain ⟨_,h3,h4,_⟩:=B82 hy;refine List.mem_map.2 ⟨(R6 X nm,y),List.mem_filter.2 ⟨List.mem_flatMap.2 ⟨_,h1,List.mem_map.2 ⟨y,h3,rfl⟩⟩,B4w.2 ?_⟩,h4⟩;rw [h4];exact ⟨rfl,hy⟩
structure Bk(D E:Dev)(X:List Int)(K:List UInt8->Option Int)(L:List Int):Prop where
 nz:∀ no∈L,no≠0
 blk:∀ no∈L,blk E no=blk D no\/blk E no=clB (blk D no) (U9 D X no K)
 kn:∀ s v,K s=A4 v->v=B3G D X s
def B7k(hz:no≠0):∀ y,U9 D X no K y=A5->T9 (blk D no) y.2.1=A4 y:=by
 intro y hy;obtain ⟨⟨h1,h2⟩,_⟩:=A0z.1 hy;rw [<-xY h1 hz];exact h2
def Bk.home(h:Bk D E X K L)(hL:R6 X nm∈L):hmS E X nm=hmS D X nm\/hmS E X nm=A7/\K nm=A7:=by
 have hz:=h.nz _ hL;rw [xY rfl hz,xY rfl hz];rcases h.blk _ hL with e | e
 ·rw [e];exact .inl rfl
 ·rw [e,D50 (B7k hz) nm];cases hf:T9 (Go.Proofs.YtbipebfdappanaaGreat.blk D (R6 X nm)) nm with
  | none=>exact .inl rfl
  | some y =>
   have hy:hmS D X nm=A4 y:=by rw [xY rfl hz];exact hf
   obtain ⟨_,_,h4,h5⟩:=B82 hy;show (bif U9 D X (R6 X nm) K y then A4 y else A7)=A4 y\/(bif U9 D X (R6 X nm) K y then A4 y else A7)=A7/\_;cases hk:U9 D X (R6 X nm) K y with
   | true=>exact .inl rfl
   | false =>
    refine .inr ⟨rfl,?_⟩;cases hK:K nm with
    | none=>rfl
    | some v =>
     have hv:=h.kn nm v hK;have e2:B3G D X nm=y.2.2:=by unfold B3G;rw [hy];rfl
     have:U9 D X (R6 X nm) K y=A5:=A0z.2 ⟨⟨by rw [h4],by rw [h4];exact hy⟩,by rw [h4,hK,hv,e2];rfl⟩;rw [this] at hk;cases hk
def Bk.list(h:Bk D E X K L):S5 E X L=(S5 D X L).filter λe=>(hmS E X e.1).isSome:=by
 have e1:fC (P5 E X (xI E L))=(fC (P5 D X (xI D L))).filter λs=>(hmS E X s).isSome:=by
  refine E30 (B9T _) ((B9T _).filter _) λs=>?_
  rw [List.mem_filter,dT,dT,oN h.nz,oN h.nz];constructor
  ·rintro ⟨h1,h2⟩;rcases h.home h1 with e | ⟨e,_⟩
   ·exact ⟨⟨h1,by rw [<-e];exact h2⟩,h2⟩
   ·rw [e] at h2;cases h2
  ·rintro ⟨⟨h1,_⟩,h2⟩;exact ⟨h1,h2⟩
 unfold S5;rw [e1,List.filter_map];show ((fC (P5 D X (xI D L))).filter λs=>(hmS E X s).isSome).map _=((fC (P5 D X (xI D L))).filter λs=>(hmS E X s).isSome).map _;refine List.map_congr_left λs hs=>?_
 obtain ⟨h1,h2⟩:=List.mem_filter.1 hs;have h3:=((oN h.nz).1 ((dT _ _).1 h1)).1;rcases h.home h3 with e | ⟨e,_⟩
 ·show (s,B3G E X s)=(s,B3G D X s);unfold B3G;rw [e]
 ·have h2:(hmS E X s).isSome=A5:=h2;rw [e] at h2;cases h2
def D94:dF []=hdB:=by
 have e:D0Y []=0:=by decide +kernel
 unfold dF;rw [if_pos e];rfl
def C1g{no:Int}:∀ {l:List Slt} {s:Cl × List UInt8},∃ y,U7 D X no K s l=(s.1.wl y,zS (U9 D X no K) s.2 l)
 | [],s=>⟨s.1.lost,rfl⟩
 | x::l,s=>by
  cases hk:U9 D X no K x with
  | true =>
   have e:eQ D X no K s x=(s.1,H5 s.2 (H7 x.1) (T6 x.2.1 x.2.2)):=by unfold eQ;rw [hk];rfl
   obtain ⟨y,hy⟩:=C1g (no:=no) (l:=l) (s:=(s.1,H5 s.2 (H7 x.1) (T6 x.2.1 x.2.2)));refine ⟨y,?_⟩;show U7 D X no K (eQ D X no K s x) l=(_,zS _ (bif U9 D X no K x then _ else _) l);rw [e,hk];exact hy
  | false =>
   have e:eQ D X no K s x=(s.1.wl (s.1.lost+1),s.2):=by unfold eQ;rw [hk];rfl
   obtain ⟨y,hy⟩:=C1g (no:=no) (l:=l) (s:=(s.1.wl (s.1.lost+1),s.2));refine ⟨y,?_⟩;show U7 D X no K (eQ D X no K s x) l=(_,zS _ (bif U9 D X no K x then _ else _) l);rw [e,hk];exact hy
def B9r:∃ y,cU D X K c no=(dG c no (clB (blk D no) (U9 D X no K))).wl y:=by
 obtain ⟨y,hy⟩:=C1g (D:=D) (X:=X) (K:=K) (no:=no) (l:=J1 (blk D no)) (s:=(c,dF []));refine ⟨y,?_⟩;unfold cU;rw [hy,D94];rfl
def Bk.clear(h:Bk D E X K L)(hL:no∈L):clB (Go.Proofs.YtbipebfdappanaaGreat.blk E no) (U9 E X no K)=clB (Go.Proofs.YtbipebfdappanaaGreat.blk D no) (U9 D X no K):=by
 have hz:=h.nz _ hL;rcases h.blk _ hL with e | e
 ·rw [e];refine C1f λy _=>?_
  rw [Bool.eq_iff_iff,A0z,A0z];constructor
  ·rintro ⟨⟨h1,h2⟩,h3⟩;rw [xY h1 hz,e] at h2;exact ⟨⟨h1,by rw [xY h1 hz];exact h2⟩,h3⟩
  ·rintro ⟨⟨h1,h2⟩,h3⟩;rw [xY h1 hz] at h2;exact ⟨⟨h1,by rw [xY h1 hz,e];exact h2⟩,h3⟩
 ·rw [e];refine D82 λy _ hk=>?_
  obtain ⟨⟨h1,h2⟩,h3⟩:=A0z.1 hk;refine A0z.2 ⟨⟨h1,?_⟩,h3⟩;rw [xY h1 hz,e,D50 (B7k hz),B7k hz y hk];show (bif U9 D X no K y then A4 y else A7)=A4 y;rw [hk];rfl
def Bk.clears:∀ {L:List Int} (_:Bk D E X K L) {c:Cl} {x:Int},∃ x',O6 E X K (c.wl x) L=(O6 D X K c L).wl x'
 | [],_,c,x=>⟨x,rfl⟩
 | no::L,h,c,x=>by
  have h':Bk D E X K L:=⟨λa ha=>h.nz a (E59 _ ha),λa ha=>h.blk a (E59 _ ha),h.kn⟩;obtain ⟨y,hy⟩:=B9r (D:=D) (X:=X) (K:=K) (no:=no) (c:=c);obtain ⟨y2,hy2⟩:=B9r (D:=E) (X:=X) (K:=K) (no:=no) (c:=c.wl x);rw [h.clear (E6e ..)] at hy2;have e2:cU E X K (c.wl x) no=(cU D X K c no).wl y2:=by rw [hy2,hy];rfl
  show ∃ x',O6 E X K (cU E X K (c.wl x) no) L=(O6 D X K (cU D X K c no) L).wl x';rw [e2];exact Bk.clears h'
def E0Q{dir:Int}:T4 D n (c.wl x) dir ino=(T4 D n c dir ino).wl x:=by
 have e:Q7 D n (c.wl x) ino=Q7 D n c ino:=rfl;unfold T4;rw [e];cases Q7 D n c ino with
 | false=>rfl
 | true =>
  show (bif (c.par ino).isSome then _ else _)=(bif (c.par ino).isSome then _ else _:Cl).wl x;cases (c.par ino).isSome<;>rfl
def A6y{a:Int}{s0:List UInt8}:∀ {L:List Ent} {s:Cl × (List UInt8->Option Int)},(∀ e∈L,e.1≠s0)->(O3 D n a s L).2 s0=s.2 s0
 | [],_,_=>rfl
 | e::L,s,h=>by
  have h1:=A6y (a:=a) (s0:=s0) (L:=L) (s:=J6 D n a s e) λx hx=>h x (E59 _ hx)
  refine h1.trans ?_;unfold J6;cases Q7 D n s.1 e.2 with
  | false=>rfl
  | true =>
   show (B4j s.2 e.1 e.2) s0=_;unfold B4j;rw [if_neg (λh2=>h e (E6e ..) h2.symm)]
def B6k{a i:Int}:∀ {L:List Ent} {s:Cl × (List UInt8->Option Int)},i∈s.1.row->i∈(O3 D n a s L).1.row
 | [],_,h=>h
 | e::L,s,h=>by
  refine B6k (L:=L) (s:=J6 D n a s e) ?_;unfold J6;cases Q7 D n s.1 e.2 with
  | false=>exact h
  | true =>
   show i∈(T4 D n s.1 a e.2).row;unfold T4;cases Q7 D n s.1 e.2 with
   | false=>exact h
   | true =>
    show i∈(bif (s.1.par e.2).isSome then _ else _:Cl).row;cases (s.1.par e.2).isSome with
    | true=>exact h
    | false=>exact E6C _ h
def D8j{i:Int}(w:RowW n c)(h:Q7 D n c i=A5):i∈(T4 D n c a i).row:=by
 unfold T4;rw [h];show i∈(bif (c.par i).isSome then A1V c i else C3Y (A1V c i) a i).row;cases hp:(c.par i).isSome with
 | true=>exact (w.par i).1 hp
 | false=>exact E6B _ (List.mem_singleton.2 rfl)
def C7m{Rf:List Int}{a x:Int}{p:Ent->Bool}(hk:∀ i,i≠1->kdV E n i=kdV D n i\/(i ∉ Rf/\kdV E n i=0)) :
  ∀ {L:List Ent} {s:Cl × (List UInt8->Option Int)},RowW n s.1->(∀ i∈(O3 D n a s L).1.row,i∈Rf)->L.Pairwise (λe f=>e.1≠f.1)->(∀ e∈L,p e=A6->(O3 D n a s L).2 e.1=A7) ->
  O3 E n a (s.1.wl x,s.2) (L.filter p)=((O3 D n a s L).1.wl x,(O3 D n a s L).2)
 | [],_,_,_,_,_=>rfl
 | e::L,s,w,hR,hd,hp=>by
  obtain ⟨d1,d2⟩:=List.pairwise_cons.1 hd;have hp':∀ f∈L,p f=A6->(O3 D n a (J6 D n a s e) L).2 f.1=A7:=λf hf=>hp f (E59 _ hf)
  rw [List.filter_cons];cases hB:Q7 D n s.1 e.2 with
  | true =>
   have et:J6 D n a s e=(T4 D n s.1 a e.2,B4j s.2 e.1 e.2):=by unfold J6;rw [hB];rfl
   have hKe:(O3 D n a s (e::L)).2 e.1=A4 e.2:=by
    show (O3 D n a (J6 D n a s e) L).2 e.1=_;rw [et,A6y (λf hf h=>d1 f hf h.symm)];show (if e.1=e.1 then A4 e.2 else s.2 e.1)=A4 e.2;rw [if_pos rfl]
   have hpe:p e=A5:=by
    cases h:p e with
    | true=>rfl
    | false=>rw [hp e (E6e ..) h] at hKe;cases hKe
   rw [hpe,if_pos rfl];have hin:e.2∈Rf:=hR _ (by
    show e.2∈(O3 D n a (J6 D n a s e) L).1.row;rw [et];exact B6k (D8j w hB))
   have ne1:e.2≠1:=λh=>by
    unfold Q7 at hB;rw [decide_eq_true h] at hB;simp at hB
   have hkd:kdV E n e.2=kdV D n e.2:=(hk _ ne1).resolve_right λh=>h.1 hin
   have hBE:Q7 E n (s.1.wl x) e.2=A5:=by
    unfold Q7 at hB ⊢;rw [hkd];exact hB
   have eE:T4 E n (s.1.wl x) a e.2=(T4 D n s.1 a e.2).wl x:=by
    rw [<-E0Q];unfold T4;have:Q7 D n (s.1.wl x) e.2=A5:=hB;rw [hBE,this]
   have etE:J6 E n a (s.1.wl x,s.2) e=((T4 D n s.1 a e.2).wl x,B4j s.2 e.1 e.2):=by
    unfold J6;show (bif Q7 E n (s.1.wl x) e.2 then (T4 E n (s.1.wl x) a e.2,B4j s.2 e.1 e.2) else _)=_;rw [hBE,eE];rfl
   show O3 E n a (J6 E n a (s.1.wl x,s.2) e) (L.filter p)=((O3 D n a (J6 D n a s e) L).1.wl x,(O3 D n a (J6 D n a s e) L).2);rw [etE];have:=C7m (x:=x) hk (L:=L) (s:=J6 D n a s e) (by rw [et];exact C9Q w) hR d2 hp';rw [et] at this ⊢;exact this
  | false =>
   have et:J6 D n a s e=s:=by unfold J6;rw [hB];rfl
   have ih:=C7m (x:=x) hk (L:=L) (s:=J6 D n a s e) (by rw [et];exact w) hR d2 hp';rw [et] at ih;have ef:O3 D n a s (e::L)=O3 D n a s L:=by show O3 D n a (J6 D n a s e) L=_;rw [et]
   rw [ef];cases hpe:p e with
   | false=>rw [if_neg (by decide)];exact ih
   | true =>
    rw [if_pos rfl];have hBE:Q7 E n (s.1.wl x) e.2=A6:=by
     by_cases h1:e.2=1
     ·unfold Q7;rw [decide_eq_true h1];rfl
     ·rcases hk _ h1 with h | ⟨_,h⟩
      ·unfold Q7 at hB ⊢;rw [h];exact hB
      ·unfold Q7;rw [decide_eq_true h];simp
    have etE:J6 E n a (s.1.wl x,s.2) e=(s.1.wl x,s.2):=by
     unfold J6;show (bif Q7 E n (s.1.wl x) e.2 then _ else _)=_;rw [hBE];rfl
    show O3 E n a (J6 E n a (s.1.wl x,s.2) e) (L.filter p)=_;rw [etE];exact ih
end
def B8Y(d:Int)(t:List Int):0<=O9 d t/\O9 d t<=5/\Fair (O9 d t) (bL d t):=by
 obtain ⟨e,u,h1,h2,h3,h4,h5,_⟩:=D7e d t;rw [B0n] at h1;obtain ⟨rfl,rfl⟩:=List.cons.inj h1;exact ⟨h4,h5,E1x h2 (C20 h4 h5 h3)⟩
def C54(h0:0<=d)(h5:d<=5)(hf:Fair d t):O9 d t=d/\bL d t=t:=by
 have:=(C9D.1 (D3q h0 h5 hf)).2.2;rw [B0n] at this;exact List.cons.inj this
def gZ(c:Cl):List (Int × List UInt8):=c.blocks.zip c.made
def A0E(h:c.blocks.length=c.made.length):gZ (dG c no b)=gZ c++[(no,b)]:=by
 show (c.blocks++[no]).zip (c.made++[b])=_;rw [List.zip_append h];rfl
section
variable {D E:Dev} {n:Int} {c:Cl}
def D1S{x:Int}:∀ {L:List Int} {c:Cl} {t:List Int},V6 D n (c.wl x,t) L=((V6 D n (c,t) L).1.wl x,(V6 D n (c,t) L).2)
 | [],_,_=>rfl
 | no::L,c,t=>by
  show V6 D n (J7 D n (c.wl x) no,if K3 D n (c.wl x) no=0 then _ else _) L=_;rw [B4A,B4D];exact D1S
def C8V(h:l_ E=l_ D):∀ {L:List Int} {s:Cl × List Int},V6 E n s L=V6 D n s L
 | [],_=>rfl
 | no::L,s=>by
  show V6 E n (J7 E n s.1 no,if K3 E n s.1 no=0 then _ else _) L=_;rw [A8z h,A8A h];exact C8V h
def D1R(h:l_ E=l_ D):G7 E n (c.wl x) d t=((G7 D n c d t).1.wl x,(G7 D n c d t).2):=by
 unfold G7;rw [C8V h,D1S]
def B27:Fair (O9 d t) (G7 D n c d t).2/\G7 D n c (O9 d t) (G7 D n c d t).2=G7 D n c d t/\O9 (O9 d t) (G7 D n c d t).2=O9 d t:=by
 obtain ⟨h0,h5,hf⟩:=B8Y d t;obtain ⟨L,hL⟩:=xEq (J4 (bL d t) (C5 (O9 d t)));have nd:L.Nodup:=by rw [hL];exact C39
 have nz:∀ x∈L,x≠0:=by rw [hL];exact λx=>A1B
 have eB:G7 D n c d t=V6 D n (c,bL d t) L:=by rw [hL];rfl
 obtain ⟨a1,a2⟩:=A8p (D:=D) (n:=n) (c:=c) hf.len nd nz;have fT:=D63 hf a2;obtain ⟨s1,s2⟩:=C54 h0 h5 fT;have ek:J4 (V6 D n (c,bL d t) L).2 (C5 (O9 d t))=J5 D n c L:=by
  rw [C8U a2,<-hL];have:L.filter (λx=>!(decide (x∈L) && !decide (x∈J5 D n c L)))=L.filter λx=>decide (x∈J5 D n c L):=List.filter_congr λx hx=>by simp [hx]
  rw [this];exact C51 keptL_sub nd
 rw [eB];refine ⟨fT,?_,s1⟩;unfold G7;rw [s1,s2,ek,A57 (λx hx=>nz x (keptL_sub.subset hx)) B3T,C1h,<-a1]
def C1j(h:(K4 D n c a).2=0):K4 D n c a=(c,0):=by
 unfold K4 at h ⊢;cases hb:(decide (kdV D n a=2)&&Q6 (blk D ((drV D n a).getD 0 0))) with
 | false=>rfl
 | true =>
  rw [hb] at h;have h:K3 D n c ((drV D n a).getD 0 0)=0:=h;show (J7 D n c _,K3 D n c _)=_;rw [h];cases hc:cR D n c ((drV D n a).getD 0 0) with
  | false=>rw [B0g hc]
  | true =>
   rw [xS hc] at h;rw [h] at hc;unfold cR at hc;rw [bG] at hc;cases hc
def A8D(h:(K4 D n c a).2≠0):kdV D n a=2/\Q6 (blk D ((drV D n a).getD 0 0))=A5/\(K4 D n c a).2=(drV D n a).getD 0 0/\cR D n c ((drV D n a).getD 0 0)=A5/\K4 D n c a=(J7 D n c ((drV D n a).getD 0 0),(drV D n a).getD 0 0):=by
 unfold K4 at h ⊢;cases hb:(decide (kdV D n a=2)&&Q6 (blk D ((drV D n a).getD 0 0))) with
 | false=>rw [hb] at h;exact absurd rfl h
 | true =>
  rw [hb] at h;have h:K3 D n c ((drV D n a).getD 0 0)≠0:=h;obtain ⟨h1,h2⟩:=B4C h;rw [E53] at hb;refine ⟨of_decide_eq_true hb.1,hb.2,h1,h2,?_⟩;show (J7 D n c _,K3 D n c _)=_;rw [h1]
def D17(hl:l_ E=l_ D)(hE:(kdV E n a=kdV D n a/\drV E n a=drV D n a)\/(kdV E n a=2/\drV E n a=(K4 D n c a).2::zI 6))
  (hG:∀ no,G5 (l_ D) n no=A5->Q6 (blk E no)=A5->Q6 (blk D no)=A5) (hP:(K4 D n c a).2≠0->Q6 (blk E (K4 D n c a).2)=A5) :
  K4 E n (c.wl x) a=((K4 D n c a).1.wl x,(K4 D n c a).2):=by
 by_cases h0:(K4 D n c a).2=0
 ·rw [C1j h0];unfold K4;show _=(c.wl x,0);cases hb:(decide (kdV E n a=2)&&Q6 (blk E ((drV E n a).getD 0 0))) with
  | false=>rfl
  | true =>
   show (J7 E n (c.wl x) _,K3 E n (c.wl x) _)=_;rw [A8z hl,A8A hl,B4A,B4D];cases hc:cR D n c ((drV E n a).getD 0 0) with
   | false=>rw [B0g hc,D5S hc]
   | true =>
    exfalso;have hd:G5 (l_ D) n ((drV E n a).getD 0 0)=A5:=by
     unfold cR at hc;rw [E53] at hc;exact hc.1
    rw [E53] at hb;have hg:=hG _ hd hb.2;have hk:=of_decide_eq_true hb.1;rcases hE with ⟨e1,e2⟩ | ⟨_,e2⟩
    ·rw [e1] at hk;rw [e2] at hg hc hd;have:(K4 D n c a).2=(drV D n a).getD 0 0:=by
      unfold K4;rw [decide_eq_true hk,hg];show K3 D n c _=_;exact xS hc
     rw [h0] at this;rw [<-this,bG] at hd;cases hd
    ·rw [e2,h0] at hd;rw [show ((0:Int)::zI 6).getD 0 0=0 from rfl,bG] at hd;cases hd
 ·obtain ⟨h1,h2,h3,h4,h5⟩:=A8D h0;have hg:=hP h0;have e1:kdV E n a=2/\(drV E n a).getD 0 0=(drV D n a).getD 0 0:=by
   rcases hE with ⟨e1,e2⟩ | ⟨e1,e2⟩
   ·rw [e1,e2];exact ⟨h1,rfl⟩
   ·rw [e2,<-h3];exact ⟨e1,rfl⟩
  rw [h3] at hg;rw [h5];unfold K4;rw [e1.1,e1.2,hg];show (J7 E n (c.wl x) _,K3 E n (c.wl x) _)=_;rw [A8z hl,A8A hl,B4A,B4D,xS h4]
def D16(h:K4 E n (c.wl x) a=((K4 D n c a).1.wl x,(K4 D n c a).2)):V4 E n (c.wl x) a=(V4 D n c a).wl x:=by
 unfold V4;rw [h];rfl
def C9Y{a v:Int}{s0:List UInt8}:∀ {L:List Ent} {s:Cl × (List UInt8->Option Int)},(O3 D n a s L).2 s0=A4 v->s.2 s0=A4 v\/(s0,v)∈L
 | [],_,h=>.inl h
 | e::L,s,h=>by
  rcases C9Y (L:=L) (s:=J6 D n a s e) h with h1 | h1
  ·unfold J6 at h1;cases hB:Q7 D n s.1 e.2 with
   | false=>rw [hB] at h1;exact .inl h1
   | true =>
    rw [hB] at h1;have h1:(if s0=e.1 then A4 e.2 else s.2 s0)=A4 v:=h1;by_cases he:s0=e.1
    ·rw [if_pos he] at h1;refine .inr ?_;cases h1;rw [he];exact E6e ..
    ·rw [if_neg he] at h1;exact .inl h1
  ·exact .inr (E59 _ h1)
def C9q(h:e∈S5 D X L):e.2=B3G D X e.1:=by
 unfold S5 at h;obtain ⟨s,_,rfl⟩:=List.mem_map.1 h;rfl
def B3Z:(S5 D X L).Pairwise λe f=>e.1≠f.1:=by
 unfold S5;rw [List.pairwise_map];refine List.Pairwise.imp ?_ (B9T (P5 D X (xI D L)));intro a b h e;have e:a=b:=e;subst e;rw [A8n] at h;cases h
def C7j{a:Int}:∀ {L:List Ent} {s:Cl × (List UInt8->Option Int)},(O3 D n a s L).1.blocks=s.1.blocks/\(O3 D n a s L).1.made=s.1.made
 | [],_=>⟨rfl,rfl⟩
 | e::L,s=>by
  obtain ⟨h1,h2⟩:=C7j (a:=a) (L:=L) (s:=J6 D n a s e);have h3:(J6 D n a s e).1.blocks=s.1.blocks/\(J6 D n a s e).1.made=s.1.made:=by
   unfold J6 T4;cases Q7 D n s.1 e.2 with
   | false=>exact ⟨rfl,rfl⟩
   | true =>
    show (bif (s.1.par e.2).isSome then A1V s.1 e.2 else C3Y (A1V s.1 e.2) a e.2).blocks=_/\(bif (s.1.par e.2).isSome then A1V s.1 e.2 else C3Y (A1V s.1 e.2) a e.2).made=_;cases (s.1.par e.2).isSome<;>exact ⟨rfl,rfl⟩
  exact ⟨h1.trans h3.1,h2.trans h3.2⟩
def C9S{a:Int}:∀ {L:List Ent} {s:Cl × (List UInt8->Option Int)},(O3 D n a s L).1.ino=s.1.ino
 | [],_=>rfl
 | e::L,s=>by
  have h1:=C9S (a:=a) (L:=L) (s:=J6 D n a s e);have h3:(J6 D n a s e).1.ino=s.1.ino:=by
   unfold J6 T4;cases Q7 D n s.1 e.2 with
   | false=>rfl
   | true =>
    show (bif (s.1.par e.2).isSome then A1V s.1 e.2 else C3Y (A1V s.1 e.2) a e.2).ino=_;cases (s.1.par e.2).isSome<;>rfl
  exact h1.trans h3
def C5B{X:List Int}{K:List UInt8->Option Int}:∀ {L:List Int} {c:Cl},c.blocks.length=c.made.length ->
  gZ (O6 D X K c L)=gZ c++L.map (λno=>(no,clB (blk D no) (U9 D X no K)))/\(O6 D X K c L).blocks.length=(O6 D X K c L).made.length
 | [],c,h=>⟨by simp [O6],h⟩
 | no::L,c,h=>by
  obtain ⟨y,hy⟩:=B9r (D:=D) (X:=X) (K:=K) (no:=no) (c:=c);have hm:(cU D X K c no).blocks.length=(cU D X K c no).made.length:=by
   rw [hy];show (c.blocks++[no]).length=(c.made++[_]).length;simp [h]
  obtain ⟨h1,h2⟩:=C5B (X:=X) (K:=K) (L:=L) hm;refine ⟨?_,h2⟩;have e:O6 D X K c (no::L)=O6 D X K (cU D X K c no) L:=rfl;have e2:gZ (cU D X K c no)=gZ c++[(no,clB (blk D no) (U9 D X no K))]:=by rw [hy];exact A0E h
  rw [e,h1,e2,E6N,E6d];rfl
end
section
variable {D E:Dev} {n:Int} {c:Cl}
def A8o(h:c.blocks.length=c.made.length):
  gZ (aX D n c a no d t)=gZ c++(no,bif okX (O9 d t) (G7 D n c d t).2 then oJ (O9 d t) (G7 D n c d t).2 else zeros 256)::(J4 (G7 D n c d t).2 (C5 (O9 d t))).map (λno=>(no,clB (blk D no) (U9 D (O9 d t::(G7 D n c d t).2) no (bodyT D n c a d t).2))) /\
   (aX D n c a no d t).blocks.length=(aX D n c a no d t).made.length:=by
 have hs:=bC (D:=D) (n:=n) (L:=J4 (bL d t) (C5 (O9 d t))) (s:=(c,bL d t));have eb:V6 D n (c,bL d t) (J4 (bL d t) (C5 (O9 d t)))=G7 D n c d t:=rfl;rw [eb] at hs;have ht:=C7j (D:=D) (n:=n) (a:=a) (L:=S5 D (O9 d t::(G7 D n c d t).2) (J4 (G7 D n c d t).2 (C5 (O9 d t)))) (s:=((G7 D n c d t).1,λ_=>A7));have et:O3 D n a ((G7 D n c d t).1,λ_=>A7) (S5 D (O9 d t::(G7 D n c d t).2) (J4 (G7 D n c d t).2 (C5 (O9 d t))))=bodyT D n c a d t:=rfl;rw [et] at ht;have hbm:(bodyT D n c a d t).1.blocks.length=(bodyT D n c a d t).1.made.length:=by
  rw [ht.1,ht.2];show (G7 D n c d t).1.blocks.length=(G7 D n c d t).1.made.length;rw [hs.blocks,hs.made];exact h
 have hp:gZ (bodyT D n c a d t).1=gZ c:=by
  unfold gZ;rw [ht.1,ht.2];show (G7 D n c d t).1.blocks.zip (G7 D n c d t).1.made=_;rw [hs.blocks,hs.made]
 unfold aX;obtain ⟨h1,h2⟩:=C5B (D:=D) (X:=O9 d t::(G7 D n c d t).2) (K:=(bodyT D n c a d t).2) (L:=J4 (G7 D n c d t).2 (C5 (O9 d t)))
  (c:=dG (bodyT D n c a d t).1 no (bif okX (O9 d t) (G7 D n c d t).2 then oJ (O9 d t) (G7 D n c d t).2 else zeros 256)) (by
   show ((bodyT D n c a d t).1.blocks++[no]).length=((bodyT D n c a d t).1.made++[_]).length;simp [hbm])
 refine ⟨?_,h2⟩;rw [h1,A0E hbm,hp,E6d];rfl
def D8U{Rf:List Int}{dE:Int}{tE:List Int}(hl:l_ E=l_ D)(w:RowW n c)(hbm:c.blocks.length=c.made.length)
  (hd:(dE=d/\tE=t)\/(dE=O9 d t/\tE=(G7 D n c d t).2))
  (hk:∀ i,i≠1->kdV E n i=kdV D n i\/(i ∉ Rf/\kdV E n i=0)) (hR:∀ i∈(aX D n c a no d t).row,i∈Rf)
  (hB:∀ q∈gZ (aX D n c a no d t),blk E q.1=blk D q.1\/blk E q.1=q.2) :
  ∃ x',aX E n (c.wl x) a no dE tE=(aX D n c a no d t).wl x':=by
 have hb:G7 E n (c.wl x) dE tE=((G7 D n c d t).1.wl x,(G7 D n c d t).2)/\O9 dE tE=O9 d t:=by
  obtain ⟨h1,h2,h3⟩:=B27 (D:=D) (n:=n) (c:=c) (d:=d) (t:=t);rcases hd with ⟨rfl,rfl⟩ | ⟨rfl,rfl⟩
  ·exact ⟨D1R hl,rfl⟩
  ·rw [D1R hl,h2,h3];exact ⟨rfl,rfl⟩
 obtain ⟨hb1,hb2⟩:=hb;rw [(A8o hbm).1] at hB;obtain ⟨s1,hs1⟩:=xEq (G7 D n c d t);obtain ⟨d',hd'⟩:=xEq (O9 d t);obtain ⟨X,hX⟩:=xEq (d'::s1.2);obtain ⟨L,hL⟩:=xEq (J4 s1.2 (C5 d'));have hsb:=bC (D:=D) (n:=n) (L:=J4 (bL d t) (C5 (O9 d t))) (s:=(c,bL d t));have eb:V6 D n (c,bL d t) (J4 (bL d t) (C5 (O9 d t)))=s1:=by rw [hs1];rfl
 rw [eb] at hsb;have w1:RowW n s1.1:=w.same hsb.row hsb.par;have eT:bodyT D n c a d t=O3 D n a (s1.1,λ_=>A7) (S5 D X L):=by
  unfold bodyT;rw [<-hs1,<-hd',<-hL,<-hX]
 have eTE:bodyT E n (c.wl x) a dE tE=O3 E n a (s1.1.wl x,λ_=>A7) (S5 E X L):=by
  unfold bodyT;rw [hb1,hb2,<-hs1,<-hd'];show O3 E n a (s1.1.wl x,λ_=>A7) (S5 E (d'::s1.2) (J4 s1.2 (C5 d')))=_;rw [<-hL,<-hX]
 have eC:aX D n c a no d t=O6 D X (bodyT D n c a d t).2 (dG (bodyT D n c a d t).1 no (bif okX d' s1.2 then oJ d' s1.2 else zeros 256)) L:=by
  unfold aX;rw [<-hs1,<-hd',<-hL,<-hX]
 have eCE:aX E n (c.wl x) a no dE tE=O6 E X (bodyT E n (c.wl x) a dE tE).2 (dG (bodyT E n (c.wl x) a dE tE).1 no (bif okX d' s1.2 then oJ d' s1.2 else zeros 256)) L:=by
  unfold aX;rw [hb1,hb2,<-hs1,<-hd'];show O6 E (d'::s1.2) _ (dG _ no (bif okX d' s1.2 then oJ d' s1.2 else zeros 256)) (J4 s1.2 (C5 d'))=_;rw [<-hL,<-hX]
 rw [eC] at hR;rw [<-hs1,<-hd',<-hL,<-hX] at hB;obtain ⟨T,hT⟩:=xEq (bodyT D n c a d t);rw [<-hT] at hB eC eT hR;have bk:Bk D E X T.2 L:=by
  refine ⟨?_,λk hk=>?_,λs v hv=>?_⟩
  ·rw [hL];exact λk=>A1B
  ·exact hB (k,clB (blk D k) (U9 D X k T.2)) (E6B _ (E59 _ (List.mem_map.2 ⟨k,hk,rfl⟩)))
  ·rw [eT] at hv;rcases C9Y hv with h1 | h1
   ·cases h1
   ·exact C9q h1
 have E38:bodyT E n (c.wl x) a dE tE=(T.1.wl x,T.2):=by
  rw [eTE,bk.list,eT];refine C7m (s:=(s1.1,λ_=>A7)) hk w1 (λi hi=>hR i ?_) B3Z λe he hp=>?_
  ·rw [nY.1];show i∈T.1.row;rw [eT];exact hi
  ·rw [<-eT];have he2:R6 X e.1∈L:=by
    unfold S5 at he;obtain ⟨s,hs,rfl⟩:=List.mem_map.1 he;exact ((oN bk.nz).1 ((dT _ _).1 hs)).1
   rcases bk.home he2 with h1 | h1
   ·exfalso;unfold S5 at he;obtain ⟨s,hs,rfl⟩:=List.mem_map.1 he;have h3:(hmS D X s).isSome=A5:=((oN bk.nz).1 ((dT _ _).1 hs)).2;have h1:hmS E X s=hmS D X s:=h1;have hp:(hmS E X s).isSome=A6:=hp;rw [h1,h3] at hp;cases hp
   ·exact h1.2
 rw [eCE,E38,eC];exact Bk.clears bk (c:=dG T.1 no (bif okX d' s1.2 then oJ d' s1.2 else zeros 256)) (x:=x)
end
section
variable {D E:Dev} {n:Int} {c:Cl}
def A3B(h:(K4 D n c a).2=0):oB D n c a=V4 D n c a:=by unfold oB;rw [if_pos h]
def A0s(h:(K4 D n c a).2≠0):oB D n c a=aX D n (V4 D n c a) a (K4 D n c a).2 (getD (blk D (K4 D n c a).2)) (O0 (blk D (K4 D n c a).2) 32):=by
 obtain ⟨_,_,h3,_⟩:=A8D h;unfold oB;rw [if_neg h,h3]
def E1t{Rf:List Int}(hl:l_ E=l_ D)(w:RowW n c)(hbm:c.blocks.length=c.made.length)
  (hE:(kdV E n a=kdV D n a/\drV E n a=drV D n a)\/(kdV E n a=2/\drV E n a=(K4 D n c a).2::zI 6))
  (hG:∀ no,G5 (l_ D) n no=A5->Q6 (blk E no)=A5->Q6 (blk D no)=A5)
  (hk:∀ i,i≠1->kdV E n i=kdV D n i\/(i ∉ Rf/\kdV E n i=0)) (hR:∀ i∈(oB D n c a).row,i∈Rf)
  (hB:∀ q∈gZ (oB D n c a),blk E q.1=blk D q.1\/blk E q.1=q.2):∃ x',oB E n (c.wl x) a=(oB D n c a).wl x':=by
 have hs:=uK (D:=D) (n:=n) (ino:=a) (c:=c);have hib:(V4 D n c a).blocks.length=(V4 D n c a).made.length:=by
  show (K4 D n c a).1.blocks.length=(K4 D n c a).1.made.length;rw [hs.blocks,hs.made];exact hbm
 have wI:RowW n (V4 D n c a):=w.same hs.row hs.par;by_cases h0:(K4 D n c a).2=0
 ·have hp:=D17 (c:=c) (x:=x) hl hE hG (λh=>absurd h0 h);refine ⟨x,?_⟩;rw [A3B h0,A3B (by rw [hp];exact h0),D16 hp]
 ·obtain ⟨_,h2,h3,_⟩:=A8D h0;rw [<-h3] at h2;rw [A0s h0] at hB hR ⊢;obtain ⟨f0,f5,_⟩:=B8Y (getD (blk D (K4 D n c a).2)) (O0 (blk D (K4 D n c a).2) 32);obtain ⟨fT,_,_⟩:=B27 (D:=D) (n:=n) (c:=V4 D n c a) (d:=getD (blk D (K4 D n c a).2)) (t:=O0 (blk D (K4 D n c a).2) 32);obtain ⟨g1,g2⟩:=D2s f0 f5 fT;have Y3:=hB (_,_) (by rw [(A8o hib).1];exact E6B _ (E6e ..));rw [g1] at Y3;have Y3:blk E (K4 D n c a).2=blk D (K4 D n c a).2\/blk E (K4 D n c a).2=oJ (O9 (getD (blk D (K4 D n c a).2)) (O0 (blk D (K4 D n c a).2) 32)) (G7 D n (V4 D n c a) (getD (blk D (K4 D n c a).2)) (O0 (blk D (K4 D n c a).2) 32)).2:=Y3;have hp:=D17 (c:=c) (x:=x) hl hE hG (λ_=>by
   rcases Y3 with h | h
   ·rw [h];exact h2
   ·rw [h];exact g2)
  have hpE:(K4 E n (c.wl x) a).2=(K4 D n c a).2:=by rw [hp]
  rw [A0s (by rw [hpE];exact h0),hpE,D16 hp];refine D8U hl wI hib ?_ hk hR hB;rcases Y3 with h | h
  ·rw [h];exact .inl ⟨rfl,rfl⟩
  ·rw [h];exact .inr ⟨C6a f0 f5,C6c fT.len (C5X fT)⟩
def D9q(hD:okD D)(hOE:okD E)(hl:l_ E=l_ D)(hbm:c.blocks.length=c.made.length)
  (hS:szV E n a=szV D n a) (hE:drV E n a=drV D n a\/drV E n a=(H9 D n c a).2)
  (hB:∀ q∈gZ (U8 D n c a),blk E q.1=blk D q.1\/blk E q.1=q.2):U8 E n (c.wl x) a=(U8 D n c a).wl x:=by
 have e1:H9 E n (c.wl x) a=((H9 D n c a).1.wl x,(H9 D n c a).2):=by
  rw [A4H,A4H,hS,D7K hl,D99];rcases hE with h | h
  ·rw [h]
  ·rw [h,A4H,D21]
 have e2:L8 E n (c.wl x) a=(L8 D n c a).wl x:=by
  unfold L8;rw [e1,hS];rfl
 have hs:=oD (D:=D) (n:=n) (ino:=a) (c:=c);by_cases h0:(H9 D n c a).2.getD 6 0=0
 ·unfold U8;rw [if_pos h0,e1,if_pos h0,e2]
 ·obtain ⟨s,hs'⟩:=xEq (L9 D n (T5 (szV D n a)) 128 0 (L8 D n c a,blk D ((H9 D n c a).2.getD 6 0)));have eC:U8 D n c a=dG s.1 ((H9 D n c a).2.getD 6 0) s.2:=by
   unfold U8;rw [if_neg h0,<-hs']
  have eE:U8 E n (c.wl x) a=dG (L9 E n (T5 (szV D n a)) 128 0 ((L8 D n c a).wl x,blk E ((H9 D n c a).2.getD 6 0))).1 ((H9 D n c a).2.getD 6 0) (L9 E n (T5 (szV D n a)) 128 0 ((L8 D n c a).wl x,blk E ((H9 D n c a).2.getD 6 0))).2:=by
   unfold U8;rw [e1,if_neg h0,e2,hS]
  have hf:=jF (D:=D) (n:=n) (many:=T5 (szV D n a)) (e:=128) (k:=0) (s:=(L8 D n c a,blk D ((H9 D n c a).2.getD 6 0)));rw [<-hs'] at hf;have hfb:s.1.blocks.length=s.1.made.length:=by
   rw [hf.blocks,hf.made];show (H9 D n c a).1.blocks.length=(H9 D n c a).1.made.length;rw [hs.1.blocks,hs.1.made];exact hbm
  have key:s.2.length=256->L9 D n (T5 (szV D n a)) 128 0 (L8 D n c a,s.2)=(s.1,s.2):=by
   intro hb;have:=C2H (D:=D) (n:=n) (many:=T5 (szV D n a)) (e:=128) (k:=0) (c:=L8 D n c a) (b:=blk D ((H9 D n c a).2.getD 6 0)) (b':=s.2) (J9 hD) hb (by omega) λj _ _=>by rw [<-hs']
   rw [this,<-hs']
  have Y3:=hB ((H9 D n c a).2.getD 6 0,s.2) (by rw [eC,A0E hfb];exact E6B _ (List.mem_singleton.2 rfl));have Y3:blk E ((H9 D n c a).2.getD 6 0)=blk D ((H9 D n c a).2.getD 6 0)\/blk E ((H9 D n c a).2.getD 6 0)=s.2:=Y3;rw [eE,eC,C87 hl,D2k];rcases Y3 with h | h
  ·rw [h,<-hs'];rfl
  ·rw [h,key (by rw [<-h];exact J9 hOE)];rfl
def C9W{a:Int}:∀ {L:List Ent} {s:Cl × (List UInt8->Option Int)},s.1.row <+: (O3 D n a s L).1.row
 | [],s=>E6T _
 | e::L,s=>by
  have h3:s.1.row <+: (J6 D n a s e).1.row:=by
   unfold J6 T4;cases Q7 D n s.1 e.2 with
   | false=>exact E6T _
   | true =>
    show s.1.row <+: (bif (s.1.par e.2).isSome then A1V s.1 e.2 else C3Y (A1V s.1 e.2) a e.2).row;cases (s.1.par e.2).isSome with
    | true=>exact E6T _
    | false=>exact List.prefix_append _ _
  exact h3.trans (C9W (L:=L) (s:=J6 D n a s e))
structure Gro(c c':Cl)(a:Int):Prop where
 row:c.row <+: c'.row
 bm:c'.blocks.length=c'.made.length
 put:∀ q∈gZ c,q∈gZ c'
 il:c'.ino.length=c.ino.length
 ino:∀ j:Nat,j≠a.toNat->c'.ino.getD j []=c.ino.getD j []
def getD_set_ne{l:List (List Int)}{x:List Int}(h:j≠i):(l.set i x).getD j []=l.getD j []:=by
 rw [E54,E60 (by omega),<-E54]
def A6h{l:List (List Int)}{x:List Int}(h:i<l_ l):(l.set i x).getD i []=x:=by
 rw [E54,E63,if_pos rfl,if_pos h];rfl
def D7B{c:Cl}:(dG c no b).ino=c.ino:=rfl
def C08:(aX D n c a no d t).ino=c.ino:=by
 have hs:=bC (D:=D) (n:=n) (L:=J4 (bL d t) (C5 (O9 d t))) (s:=(c,bL d t));have eb:V6 D n (c,bL d t) (J4 (bL d t) (C5 (O9 d t)))=G7 D n c d t:=rfl;rw [eb] at hs;unfold aX;rw [C2B,D7B];have:=C9S (D:=D) (n:=n) (a:=a) (L:=S5 D (O9 d t::(G7 D n c d t).2) (J4 (G7 D n c d t).2 (C5 (O9 d t)))) (s:=((G7 D n c d t).1,λ_=>A7));have et:O3 D n a ((G7 D n c d t).1,λ_=>A7) (S5 D (O9 d t::(G7 D n c d t).2) (J4 (G7 D n c d t).2 (C5 (O9 d t))))=bodyT D n c a d t:=rfl;rw [et] at this;rw [this];exact hs.ino
def D6O:c.row <+: (aX D n c a no d t).row:=by
 have hs:=bC (D:=D) (n:=n) (L:=J4 (bL d t) (C5 (O9 d t))) (s:=(c,bL d t));have eb:V6 D n (c,bL d t) (J4 (bL d t) (C5 (O9 d t)))=G7 D n c d t:=rfl;rw [eb] at hs;unfold aX;rw [nY.1,C1z];have:=C9W (D:=D) (n:=n) (a:=a) (L:=S5 D (O9 d t::(G7 D n c d t).2) (J4 (G7 D n c d t).2 (C5 (O9 d t)))) (s:=((G7 D n c d t).1,λ_=>A7));have et:O3 D n a ((G7 D n c d t).1,λ_=>A7) (S5 D (O9 d t::(G7 D n c d t).2) (J4 (G7 D n c d t).2 (C5 (O9 d t))))=bodyT D n c a d t:=rfl;rw [et] at this;have e:(G7 D n c d t).1.row=c.row:=hs.row;rw [<-e];exact this
def D9d(hbm:c.blocks.length=c.made.length):Gro c (V4 D n c a) a/\(a.toNat<c.ino.length->(V4 D n c a).ino.getD a.toNat []=2::1::0::(c.par a).getD 0::(K4 D n c a).2::zI 6):=by
 have hs:=uK (D:=D) (n:=n) (ino:=a) (c:=c);refine ⟨⟨?_,?_,?_,?_,λj hj=>?_⟩,λh=>?_⟩
 ·show c.row <+: (K4 D n c a).1.row;rw [hs.row];exact E6T _
 ·show (K4 D n c a).1.blocks.length=(K4 D n c a).1.made.length;rw [hs.blocks,hs.made];exact hbm
 ·show ∀ q∈gZ c,q∈(K4 D n c a).1.blocks.zip (K4 D n c a).1.made;rw [hs.blocks,hs.made];exact λq h=>h
 ·show ((K4 D n c a).1.ino.set _ _).length=_;rw [E6F,hs.ino]
 ·show ((K4 D n c a).1.ino.set _ _).getD j []=_;rw [getD_set_ne hj,hs.ino]
 ·show ((K4 D n c a).1.ino.set _ _).getD a.toNat []=_;rw [A6h (by rw [hs.ino];exact h)]
def A8C(hbm:c.blocks.length=c.made.length):Gro c (oB D n c a) a/\(a.toNat<c.ino.length->(oB D n c a).ino.getD a.toNat []=2::1::0::(c.par a).getD 0::(K4 D n c a).2::zI 6):=by
 obtain ⟨g,hy⟩:=D9d (D:=D) (n:=n) (a:=a) hbm;by_cases h0:(K4 D n c a).2=0
 ·rw [A3B h0];exact ⟨g,hy⟩
 ·rw [A0s h0];obtain ⟨p1,p2⟩:=A8o (D:=D) (n:=n) (a:=a) (no:=(K4 D n c a).2) (d:=getD (blk D (K4 D n c a).2)) (t:=O0 (blk D (K4 D n c a).2) 32) g.bm;refine ⟨⟨g.row.trans D6O,p2,λq hq=>?_,by rw [C08];exact g.il,λj hj=>by rw [C08];exact g.ino j hj⟩,λh=>by rw [C08];exact hy h⟩;rw [p1];exact E6C _ (g.put q hq)
def A8I(hbm:c.blocks.length=c.made.length):Gro c (U8 D n c a) a/\(a.toNat<c.ino.length->(U8 D n c a).ino.getD a.toNat []=1::1::szV D n a::0::(H9 D n c a).2):=by
 have hs:=oD (D:=D) (n:=n) (ino:=a) (c:=c);have g:Gro c (L8 D n c a) a/\(a.toNat<c.ino.length->(L8 D n c a).ino.getD a.toNat []=1::1::szV D n a::0::(H9 D n c a).2):=by
  refine ⟨⟨?_,?_,?_,?_,λj hj=>?_⟩,λh=>?_⟩
  ·show c.row <+: (H9 D n c a).1.row;rw [hs.1.row];exact E6T _
  ·show (H9 D n c a).1.blocks.length=(H9 D n c a).1.made.length;rw [hs.1.blocks,hs.1.made];exact hbm
  ·show ∀ q∈gZ c,q∈(H9 D n c a).1.blocks.zip (H9 D n c a).1.made;rw [hs.1.blocks,hs.1.made];exact λq h=>h
  ·show ((H9 D n c a).1.ino.set _ _).length=_;rw [E6F,hs.1.ino]
  ·show ((H9 D n c a).1.ino.set _ _).getD j []=_;rw [getD_set_ne hj,hs.1.ino]
  ·show ((H9 D n c a).1.ino.set _ _).getD a.toNat []=_;rw [A6h (by rw [hs.1.ino];exact h)]
 by_cases h0:(H9 D n c a).2.getD 6 0=0
 ·unfold U8;rw [if_pos h0];exact g
 ·have hf:=jF (D:=D) (n:=n) (many:=T5 (szV D n a)) (e:=128) (k:=0) (s:=(L8 D n c a,blk D ((H9 D n c a).2.getD 6 0)));unfold U8;rw [if_neg h0];obtain ⟨g,hy⟩:=g;have hfb:(L9 D n (T5 (szV D n a)) 128 0 (L8 D n c a,blk D ((H9 D n c a).2.getD 6 0))).1.blocks.length=(L9 D n (T5 (szV D n a)) 128 0 (L8 D n c a,blk D ((H9 D n c a).2.getD 6 0))).1.made.length:=by
   rw [hf.blocks,hf.made];exact g.bm
  dsimp only at hf;generalize L9 D n (T5 (szV D n a)) 128 0 (L8 D n c a,blk D ((H9 D n c a).2.getD 6 0))=s at hf hfb ⊢;refine ⟨⟨?_,?_,λq hq=>?_,?_,λj hj=>?_⟩,λh=>?_⟩
  ·show c.row <+: s.1.row;rw [hf.row];exact g.row
  ·show (s.1.blocks++[_]).length=(s.1.made++[_]).length;rw [E58,E58,hfb];rfl
  ·rw [A0E hfb];refine E6C _ ?_;show q∈s.1.blocks.zip s.1.made;rw [hf.blocks,hf.made];exact g.put q hq
  ·show s.1.ino.length=_;rw [hf.ino];exact g.il
  ·show s.1.ino.getD j []=_;rw [hf.ino];exact g.ino j hj
  ·show s.1.ino.getD a.toNat []=_;rw [hf.ino];exact hy h
def A1X(hbm:c.blocks.length=c.made.length):Gro c (U0 D n c a) a:=by
 unfold U0;split
 ·exact (A8I hbm).1
 ·exact (A8C hbm).1
end
def E4S(D E:Dev)(n a:Int)(y:List Int):Prop:=(kdV E n a=kdV D n a/\szV E n a=szV D n a/\drV E n a=drV D n a)\/(kdV E n a=y.getD 0 0/\szV E n a=y.getD 2 0/\drV E n a=y.drop 4)
structure Half(D E:Dev)(n:Int)(F:Cl):Prop where
 okD:okD D
 okE:Go.Proofs.YtbipebfdappanaaGreat.okD E
 len:l_ E=(l_ D)
 ino:∀ a∈F.row,E4S D E n a (F.ino.getD a.toNat [])
 good:∀ no,G5 (l_ D) n no=A5->Q6 (blk E no)=A5->Q6 (blk D no)=A5
 kd:∀ i,i≠1->kdV E n i=kdV D n i\/(i ∉ F.row/\kdV E n i=0)
 put:∀ q∈gZ F,blk E q.1=blk D q.1\/blk E q.1=q.2
section
variable {D E:Dev} {n:Int} {F:Cl}
def E1V(H:Half D E n F)(w:RowW n c)(hbm:c.blocks.length=c.made.length)(ha:a∈F.row)(hal:a.toNat<c.ino.length)
  (hy:F.ino.getD a.toNat []=(U0 D n c a).ino.getD a.toNat []) (hR:∀ i∈(U0 D n c a).row,i∈F.row) (hB:∀ q∈gZ (U0 D n c a),q∈gZ F) :
  ∃ x',U0 E n (c.wl x) a=(U0 D n c a).wl x':=by
 have hI:=H.ino a ha;rw [hy] at hI;by_cases hc:a≠1/\kdV D n a=1
 ·have e:U0 D n c a=U8 D n c a:=by unfold U0;rw [if_pos hc]
  rw [e] at hI hB ⊢;have hyy:=(A8I (D:=D) (n:=n) (a:=a) hbm).2 hal;rw [hyy] at hI;have hcE:kdV E n a=1:=by
   rcases hI with ⟨h,_⟩ | ⟨h,_⟩
   ·rw [h];exact hc.2
   ·rw [h];rfl
  refine ⟨x,?_⟩;unfold U0;rw [if_pos ⟨hc.1,hcE⟩];refine D9q H.okD H.okE H.len hbm ?_ ?_ λq hq=>H.put q (hB q hq)
  ·rcases hI with ⟨_,h,_⟩ | ⟨_,h,_⟩
   ·exact h
   ·rw [h];rfl
  ·rcases hI with ⟨_,_,h⟩ | ⟨_,_,h⟩
   ·exact .inl h
   ·exact .inr (by rw [h];rfl)
 ·have e:U0 D n c a=oB D n c a:=by unfold U0;rw [if_neg hc]
  rw [e] at hI hB hR ⊢;have hyy:=(A8C (D:=D) (n:=n) (a:=a) hbm).2 hal;rw [hyy] at hI;have hcE:¬ (a≠1/\kdV E n a=1):=by
   rintro ⟨h1,h2⟩;rcases hI with ⟨h,_⟩ | ⟨h,_⟩
   ·rw [h] at h2;exact hc ⟨h1,h2⟩
   ·rw [h] at h2;exact absurd (show (2:Int)=1 from h2) (by decide)
  have eE:U0 E n (c.wl x) a=oB E n (c.wl x) a:=by unfold U0;rw [if_neg hcE]
  rw [eE];refine E1t H.len w hbm ?_ H.good H.kd hR λq hq=>H.put q (hB q hq)
  rcases hI with ⟨h1,_,h3⟩ | ⟨h1,_,h3⟩
  ·exact .inl ⟨h1,h3⟩
  ·exact .inr ⟨h1,h3⟩
def B9E:∀ {e i:Nat} {c:Cl},c.blocks.length=c.made.length->c.row <+: (ofR D n e i c).row/\(ofR D n e i c).blocks.length=(ofR D n e i c).made.length/\(∀ q∈gZ c,q∈gZ (ofR D n e i c))/\(ofR D n e i c).ino.length=c.ino.length
 | 0,_,c,h=>⟨E6T _,h,λ_ h=>h,rfl⟩
 | e+1,i,c,h=>by
  unfold ofR;cases hc:c.row[i]? with
  | none=>exact ⟨E6T _,h,λ_ h=>h,rfl⟩
  | some a =>
   have g:=A1X (D:=D) (n:=n) (a:=a) h;obtain ⟨h1,h2,h3,h4⟩:=B9E (e:=e) (i:=i+1) g.bm;exact ⟨g.row.trans h1,h2,λq hq=>h3 q (g.put q hq),h4.trans g.il⟩
def A0D{l m:List Int}(h:l <+: m)(hi:l[i]?=A4 a):m[i]?=A4 a:=by
 obtain ⟨t,rfl⟩:=h;rw [E6H (List.getElem?_eq_some_iff.1 hi).1];exact hi
def B4S{a:Int}(ha:1<=a):∀ {e i:Nat} {c:Cl},RowW n c->c.blocks.length=c.made.length->(∀ j,i<=j->(ofR D n e i c).row[j]?≠A4 a)->(ofR D n e i c).ino.getD a.toNat []=c.ino.getD a.toNat []
 | 0,_,_,_,_,_=>rfl
 | e+1,i,c,w,h,hn=>by
  unfold ofR at hn ⊢;cases hc:c.row[i]? with
  | none=>rfl
  | some b =>
   rw [hc] at hn;have g:=A1X (D:=D) (n:=n) (a:=b) h;have hg:=(B9E (D:=D) (n:=n) (e:=e) (i:=i+1) g.bm).1;have hb:=A0D (g.row.trans hg) hc;have aR:b≠a:=λe=>hn i (E56 _) (by rw [<-e];exact hb)
   have hb1:=(w.rg b (E6n hc)).1;have ih:=B4S ha (e:=e) (i:=i+1) (gT w) g.bm λj hj=>hn j (by omega)
   exact ih.trans (g.ino _ (by omega))
def A85:∀ {e i:Nat} {c:Cl},RowW n c->RowW n (ofR D n e i c)
 | 0,_,_,h=>h
 | e+1,i,c,h=>by
  unfold ofR;cases hc:c.row[i]? with
  | none=>exact h
  | some a=>exact A85 (gT h)
def E0a:∀ {e i:Nat} {c:Cl} {x:Int},RowW n c->c.blocks.length=c.made.length->c.ino.length=(n+1).toNat->Half D E n (ofR D n e i c)->∃ x',ofR E n e i (c.wl x)=(ofR D n e i c).wl x'
 | 0,_,c,x,_,_,_,_=>⟨x,rfl⟩
 | e+1,i,c,x,w,h,K7,H=>by
  unfold ofR at H ⊢;show ∃ x',(match c.row[i]? with
   | none=>c.wl x
   | some a=>ofR E n e (i+1) (U0 E n (c.wl x) a))=_
  cases hc:c.row[i]? with
  | none=>exact ⟨x,rfl⟩
  | some a =>
   rw [hc] at H;have H:Half D E n (ofR D n e (i+1) (U0 D n c a)):=H;have g:=A1X (D:=D) (n:=n) (a:=a) h;obtain ⟨h1,h2,h3,h4⟩:=B9E (D:=D) (n:=n) (e:=e) (i:=i+1) g.bm;have hrg:=w.rg a (E6n hc);have hat:=A0D (g.row.trans h1) hc;have wF:=A85 (D:=D) (n:=n) (e:=e) (i:=i+1) (gT (D:=D) (ino:=a) w);have D7h:=B4S (D:=D) (n:=n) hrg.1 (e:=e) (i:=i+1) (gT (D:=D) (ino:=a) w) g.bm λj hj he=>by
    have:=(List.getElem?_inj (List.getElem?_eq_some_iff.1 hat).1 wF.nd).1 (hat.trans he.symm);omega
   obtain ⟨x1,e1⟩:=E1V (x:=x) H w h (E6n hat) (by omega) D7h (λi hi=>h1.subset hi) h3;show ∃ x',ofR E n e (i+1) (U0 E n (c.wl x) a)=(ofR D n e (i+1) (U0 D n c a)).wl x';rw [e1];exact E0a (gT w) g.bm (g.il.trans K7) H
end
def uU:List Int->List (List UInt8)->Int->List UInt8->List UInt8
 | no::l,b::m,x,a=>uU l m x (if no=x then b else a)
 | _,_,_,a=>a
def D5y(ino:List (List Int))(b:Nat):Nat->Nat->List UInt8->List UInt8
 | 0,_,a=>a
 | e+1,k,a=>D5y ino b e (k+1) (H5 a (32*k) (B1O (ino.getD (b+k) [])))
def C8i(D:Dev)(n:Int)(c:Cl)(i:Nat):List UInt8 :=
 if B5T (l_ D) n i=3 then D5y c.ino (8*(i-2)+1) 8 0 (zeros 256) else uU c.blocks c.made i (D.getD i [])
def B9L(hi:i<l_ O):(A3q O no b)[i]?=if no=i then A4 b else O[i]? := by
 unfold A3q;by_cases h:0<=no/\no<(l_ O)
 ·rw [if_pos h,E63];by_cases e:no=i
  ·rw [if_pos (by omega),if_pos (by omega),if_pos e]
  ·rw [if_neg (by omega),if_neg e]
 ·rw [if_neg h,if_neg (by omega)]
def C9A{i:Nat}:∀ {l:List Int} {m:List (List UInt8)} {O:Dev},i<l_ O->(C2X O l m)[i]?=(O[i]?).map (uU l m i)
 | [],_,O,hi=>by rw [C1L,E51 hi];rfl
 | _::_,[],O,hi=>by rw [E51 hi];exact E51 hi
 | no::l,b::m,O,hi=>by
  have ih:=C9A (i:=i) (l:=l) (m:=m) (O:=A3q O no b) (by rw [fB];exact hi);rw [B9L hi] at ih;refine ih.trans ?_;rw [E51 hi];split<;>rename_i e
  ·show A4 _=A4 (uU l m i (if no=i then b else O[i]));rw [if_pos e]
  ·show A4 _=A4 (uU l m i (if no=i then b else O[i]));rw [if_neg e]
def C7E{i:Nat}:∀ {e:Nat} {no:Int} {O:Dev},i<l_ O->(B7C O no e)[i]?=if no<=i/\i<no+e then A4 (zeros 256) else O[i]?
 | 0,no,O,hi=>by rw [if_neg (by omega)];rfl
 | e+1,no,O,hi=>by
  have ih:=C7E (i:=i) (e:=e) (no:=no+1) (O:=A3q O no (zeros 256)) (by rw [fB];exact hi);rw [B9L hi] at ih;refine ih.trans ?_;by_cases h1:no=i
  ·rw [if_neg (by omega),if_pos h1,if_pos (by omega)]
  ·rw [if_neg h1];by_cases h2:no+1<=i/\i<no+1+e
   ·rw [if_pos h2,if_pos (by omega)]
   ·rw [if_neg h2,if_neg (by omega)]
def stI(b n:Int)(j:Nat)(i:Nat)(x:List Int)(a:List UInt8):List UInt8 :=
 if Q9 b n i=A5/\aQ b n i=j then H5 a (32*(jK b n i).toNat) (B1O x) else a
def foldI(b n:Int)(j:Nat):Nat->List (List Int)->List UInt8->List UInt8
 | _,[],a=>a
 | i,x::l,a=>foldI b n j (i+1) l (stI b n j i x a)
def C9j{n:Int}{j:Nat}(hn:n<=128):∀ {l:List (List Int)} {i:Nat} {O:Dev},okD O->(∀ x∈l,x.length=11)->j<l_ O->(B9g n O i l)[j]?=(O[j]?).map (foldI (l_ O) n j i l)
 | [],_,O,h,_,hj=>by rw [E51 hj];exact E51 hj
 | x::l,i,O,h,hx,hj=>by
  obtain ⟨h1,h2⟩:=D0E (n:=n) (i:=i) h (hx x (E6e ..)) hn;have ih:=C9j (n:=n) (j:=j) hn (l:=l) (i:=i+1) (O:=C1w n O i x) h1 (λy hy=>hx y (E59 _ hy)) (by rw [h2];exact hj);rw [h2] at ih;refine ih.trans ?_;have e:(C1w n O i x)[j]?=A4 (stI (l_ O) n j i x O[j]):=by
   unfold C1w stI;cases hc:Q9 (l_ O) n i with
   | false=>rw [if_neg (by decide),if_neg (λe=>by cases e.1)];exact E51 hj
   | true =>
    rw [if_pos rfl,B9L hj];by_cases e:aQ (l_ O) n i=j
    ·rw [if_pos e,if_pos ⟨rfl,e⟩,e,B26 hj]
    ·rw [if_neg e,if_neg (λq=>e q.2)];exact E51 hj
  rw [e,E51 hj];rfl
section
variable {b n:Int} {j:Nat}
def B0p:∀ {l m:List (List Int)} {i:Nat} {a:List UInt8},foldI b n j i (l++m) a=foldI b n j (i+l_ l) m (foldI b n j i l a)
 | [],m,i,a=>rfl
 | x::l,m,i,a=>by
  show foldI b n j (i+1) (l++m) _=foldI b n j (i+(l_ l+1)) m (foldI b n j (i+1) l _);rw [B0p,show i+1+l_ l=i+(l_ l+1) by omega]
def B0q:∀ {l:List (List Int)} {i:Nat} {a:List UInt8},(∀ k:Nat,i<=k->k<i+l_ l->¬ (Q9 b n k=A5/\aQ b n k=j))->foldI b n j i l a=a
 | [],i,a,_=>rfl
 | x::l,i,a,h=>by
  have e:stI b n j i x a=a:=by unfold stI;rw [if_neg (h i (E56 _) (by simp))]
  show foldI b n j (i+1) l (stI b n j i x a)=a;rw [e];exact B0q λk h1 h2=>h k (by omega) (by simp at h2 ⊢;omega)
def C88(hm:P7 b n=A5)(hj:2<=j)(hn:8*(j-2)+8<=n.toNat){ino:List (List Int)} :
  ∀ {e k:Nat} {a:List UInt8},k+e=8->8*(j-2)+9<=ino.length->foldI b n j (8*(j-2)+1+k) ((ino.drop (8*(j-2)+1+k)).take e) a=D5y ino (8*(j-2)+1) e k a
 | 0,k,a,_,_=>by rw [E6S];rfl
 | e+1,k,a,hk,hl=>by
  have W5:8*(j-2)+1+k<ino.length:=by omega
  rw [E6b W5,List.take_succ_cons];obtain ⟨_,_,n8,_⟩:=I1.1 hm;have hi:Q9 b n ((8*(j-2)+1+k:Nat):Int)=A5:=O1.2 ⟨hm,by omega,by omega⟩;have hw:aQ b n ((8*(j-2)+1+k:Nat):Int)=j:=by unfold aQ;rw [hi];simp only [cond_true];omega
  have hk2:(jK b n ((8*(j-2)+1+k:Nat):Int)).toNat=k:=by unfold jK;rw [hi];simp only [cond_true];omega
  have es:stI b n j (8*(j-2)+1+k) ino[8*(j-2)+1+k] a=H5 a (32*k) (B1O (ino.getD (8*(j-2)+1+k) [])):=by
   unfold stI;rw [if_pos ⟨hi,hw⟩,hk2,E54,E51 W5];rfl
  show foldI b n j (8*(j-2)+1+k+1) _ (stI b n j _ _ a)=D5y ino (8*(j-2)+1) e (k+1) _;rw [es];exact C88 hm hj hn (k:=k+1) (by omega) hl
end
def E3W{l:List (List Int)}:l=l.take q++((l.drop q).take 8++l.drop (q+8)):=by
 have e:l.drop (q+8)=(l.drop q).drop 8:=by rw [E7e]
 rw [e,List.take_append_drop,List.take_append_drop]
def B85(hD:okD D)(hm:P7 (l_ D) n=A5)(ok:ImgOk D n c)(K7:c.ino.length=(n+1).toNat)(hi:i<l_ D) :
  (kZ D n c)[i]?=A4 (if i=1 then dH (yQ 0 c.taken) else C8i D n c i):=by
 obtain ⟨b16,b512,n8,n128,nm8,nb⟩:=I1.1 hm;have hx:∀ x∈c.ino,x.length=11:=λx hx=>(ok.ino x hx).1
 obtain ⟨ok1,l1⟩:=B38 (l:=c.blocks) (m:=c.made) hD ok.md;obtain ⟨ok2,l2⟩:=A9d (e:=(mP (l_ D) n).toNat) (no:=bH (l_ D) n) ok1;obtain ⟨ok3,l3⟩:=B3S (n:=n) n128 (l:=c.ino) (i:=0) ok2 hx;have eF:bH (l_ D) n=2:=by unfold bH;rw [hm];rfl
 have eN:mP (l_ D) n=n/8:=by unfold mP;rw [hm];rfl
 unfold kZ;rw [B9L (by rw [l3,l2,l1];exact hi)];by_cases h1:i=1
 ·rw [if_pos (by omega),if_pos h1]
 ·rw [if_neg (by omega),if_neg h1,C9j n128 ok2 hx (by rw [l2,l1];exact hi),l2,l1,C7E (by rw [l1];exact hi),C9A hi,E51 hi,eF,eN];unfold C8i;have eD:D.getD i []=D[i]:=by rw [E54,E51 hi];rfl
  by_cases ha:B5T (l_ D) n i=3
  ·have h3:2<=i/\((i:Int)-2)*8<n:=by
    unfold B5T at ha;split at ha
    ·split at ha
     ·omega
     ·split at ha<;>omega
    ·omega
   rw [if_pos ha,if_pos (by omega)];have hs:c.ino=c.ino.take (8*(i-2)+1)++((c.ino.drop (8*(i-2)+1)).take 8++c.ino.drop (8*(i-2)+1+8)):=E3W;show A4 (foldI (l_ D) n i 0 c.ino (zeros 256))=_;rw [hs,B0p,B0p];have t1:(c.ino.take (8*(i-2)+1)).length=8*(i-2)+1:=by rw [E6A];omega
   have t2:((c.ino.drop (8*(i-2)+1)).take 8).length=8:=by rw [E6A,List.length_drop];omega
   rw [B0q (l:=c.ino.take (8*(i-2)+1)),t1,E6j,t2]
   ·have:=C88 (b:=l_ D) (n:=n) (j:=i) hm h3.1 (by omega) (ino:=c.ino) (e:=8) (k:=0) (a:=zeros 256) rfl (by omega);rw [E7a] at this;rw [this,B0q,<-hs];intro k k1 k2 q;have q2:=q.2;unfold aQ at q2;rw [q.1] at q2;simp only [cond_true] at q2;omega
   ·intro k k1 k2 q;have q2:=q.2;unfold aQ at q2;rw [q.1] at q2;simp only [cond_true] at q2;rw [t1] at k2;have:=(O1.1 q.1).2.1;omega
  ·rw [if_neg ha,if_neg (λq=>ha ?_)]
   ·show A4 (foldI (l_ D) n i 0 c.ino _)=_;rw [B0q,eD];intro k k1 k2 q;refine ha ?_;have q2:=q.2;unfold aQ at q2;rw [q.1] at q2;simp only [cond_true] at q2;obtain ⟨_,q3,q4⟩:=O1.1 q.1;unfold B5T;rw [if_pos ⟨hm,by omega,by omega⟩,if_neg (by omega),if_pos (by omega)]
   ·unfold B5T;rw [if_pos ⟨hm,by omega,by omega⟩,if_neg (by omega),if_pos (by omega)]
def oM{w:Nat}{v:Int}(h0:0<=v)(h1:v<256 ^ w):((le (D4 w v):Nat):Int)=v:=by
 rw [B4M,Int.emod_eq_of_lt h0 h1]
def B3t{a w:Nat}{x:List UInt8}{y z:List UInt8}(hx:x.length=a)(hy:y.length=w):fieldN (x++(y++z)) a w=((le y:Nat):Int):=by
 unfold fieldN;rw [List.drop_left' hx,List.take_left' hy]
def D4L{d:List Int}(hi:i<l_ d):rY d=rY (d.take i)++(D4 2 d[i]++rY (d.drop (i+1))):=by
 have h:d=d.take i++(d[i]::d.drop (i+1)):=by rw [<-E6b hi,List.take_append_drop]
 have e:rY (d.take i++(d[i]::d.drop (i+1)))=rY (d.take i)++(D4 2 d[i]++rY (d.drop (i+1))):=by
  simp only [rY,E6Q,List.flatten_append,E6N,E65]
 rw [<-e,<-h]
def C6z{k s:Int}{d:List Int}(hm:A5k k l s p d=A5):(0<=k/\k<=2)/\(0<=l/\l<=65535)/\(0<=s/\s<=34304)/\(0<=p/\p<=65535)/\∀ x∈d,0<=x/\x<=65535:=by
 unfold A5k at hm;split at hm
 ·have:=of_decide_eq_true hm;obtain ⟨rfl,rfl,rfl,rfl⟩:=this;refine ⟨by omega,by omega,by omega,by omega,λx hx=>?_⟩;have:=(List.mem_replicate.1 hx).2;omega
 ·unfold B9O at hm;simp only [E53,decide_eq_true_eq,A6t,E6X] at hm;obtain ⟨h1,h2,h3,h4,h5⟩:=hm;exact ⟨h1,h2,h4,h3,h5⟩
def D0w{k s:Int}{d:List Int}(hd:l_ d=7)(hm:A5k k l s p d=A5) :
  B1M (cF k l s p d)=k/\B3D (cF k l s p d)=l/\B3F (cF k l s p d)=s/\B3E (cF k l s p d)=p/\bM (cF k l s p d)=d:=by
 obtain ⟨h1,h2,h3,h4,h5⟩:=C6z hm;have eK:cF k l s p d=[]++(D4 1 k++(zeros 1++D4 2 l++D4 4 s++D4 2 p++rY d++zeros 8)):=by simp [cF,A5j]
 have eL:cF k l s p d=(D4 1 k++zeros 1)++(D4 2 l++(D4 4 s++D4 2 p++rY d++zeros 8)):=by simp [cF,A5j]
 have eS:cF k l s p d=(D4 1 k++zeros 1++D4 2 l)++(D4 4 s++(D4 2 p++rY d++zeros 8)):=by simp [cF,A5j]
 have eP:cF k l s p d=(D4 1 k++zeros 1++D4 2 l++D4 4 s)++(D4 2 p++(rY d++zeros 8)):=by simp [cF,A5j]
 refine ⟨?_,?_,?_,?_,?_⟩
 ·unfold B1M;rw [eK,B3t (by simp) (by simp),oM h1.1 (by omega)]
 ·unfold B3D;rw [eL,B3t (by simp) (by simp),oM h2.1 (by omega)]
 ·unfold B3F;rw [eS,B3t (by simp) (by simp),oM h3.1 (by omega)]
 ·unfold B3E;rw [eP,B3t (by simp) (by simp),oM h4.1 (by omega)]
 ·refine E7b λi=>?_
  by_cases hi:i<7
  ·rw [C1t hi,E51 (by omega)];have kY:=h5 d[i] (E6w (by omega));have e:cF k l s p d=(A5j k l s p++rY (d.take i))++(D4 2 d[i]++(rY (d.drop (i+1))++zeros 8)):=by
    unfold cF;rw [D4L (d:=d) (i:=i) (by omega)];simp
   rw [e,B3t (by rw [E58,oK,uN,E6A];omega) (by simp),oM kY.1 (by omega)]
  ·rw [E6u (by rw [M6];omega),E6u (by omega)]
def C82{k s:Int}{d:List Int}(hd:l_ d=7)(hm:A5k k l s p d=A5):cQ (cF k l s p d)=A5/\nX (cF k l s p d)=C8 k l s p d:=by
 obtain ⟨h1,h2,h3,h4,h5⟩:=D0w hd hm;have hc:cQ (cF k l s p d)=A5:=by
  unfold cQ;rw [h1,h2,h3,h4,h5,hm];simp
 refine ⟨hc,?_⟩;unfold nX;rw [hc,h1,h2,h3,h4,h5];rfl
def E0p{xs:List UInt8}(hb:l_ b=256)(hx:l_ xs=32)(hj:j<8)(hi:i<8):iD (H5 b (32*j) xs) i=if i=j then xs else iD b i:=by
 have hl:(H5 b (32*j) xs).length=256:=by rw [O2 (by omega),hb]
 apply E7b;intro n;by_cases hn:n<32
 ·have e1:∀ c:List UInt8,(iD c i)[n]?=c[32*i+n]? := λc=>by simp [iD,hn]
  rw [e1,C6u (by omega),hx];by_cases c:i=j
  ·subst c;rw [if_pos (by omega),if_pos rfl]
   congr 1;omega
  ·rw [if_neg (by omega),if_neg c,e1]
 ·have h1:=A1Y (b:=H5 b (32*j) xs) hl hi;have h2:=A1Y hb hi;rw [E6u (by omega),E6u];split<;>omega
def B4T{x:Int}:∀ {l:List Int} {m:List (List UInt8)} {a:List UInt8},x ∉ l->uU l m x a=a
 | [],m,a,_=>by cases m<;>rfl
 | _::_,[],a,_=>rfl
 | no::l,b::m,a,h=>by
  show uU l m x (if no=x then b else a)=a;rw [if_neg (λe=>h (by rw [<-e];exact E6e ..))];exact B4T λh2=>h (E59 _ h2)
def D3d{x:Int}{b:List UInt8}:∀ {l:List Int} {m:List (List UInt8)} {a:List UInt8},l.Nodup->(x,b)∈l.zip m->uU l m x a=b
 | [],_,_,_,h=>by cases h
 | _::_,[],_,_,h=>by cases h
 | no::l,b'::m,a,hn,h=>by
  obtain ⟨h1,h2⟩:=List.nodup_cons.1 hn;show uU l m x (if no=x then b' else a)=b;rcases List.mem_cons.1 (show (x,b)∈(no,b')::l.zip m from h) with e | h3
  ·cases e;rw [if_pos rfl];exact B4T h1
  ·exact D3d h2 h3
def D3e{x:Int}:∀ {l:List Int} {m:List (List UInt8)},(∀ a,uU l m x a=a)\/∃ b,∀ a,uU l m x a=b
 | [],m=>.inl λa=>by cases m<;>rfl
 | _::_,[]=>.inl λa=>rfl
 | no::l,b::m=>by
  rcases D3e (x:=x) (l:=l) (m:=m) with h | ⟨b',h⟩
  ·by_cases e:no=x
   ·refine .inr ⟨b,λa=>?_⟩;show uU l m x (if no=x then b else a)=b;rw [if_pos e,h]
   ·refine .inl λa=>?_
    show uU l m x (if no=x then b else a)=a;rw [if_neg e,h]
  ·exact .inr ⟨b',λa=>h _⟩
def D44{l:List Int}{m:List (List UInt8)}{a:List UInt8}:uU l m x (uU l m x a)=uU l m x a:=by
 rcases D3e (x:=x) (l:=l) (m:=m) with h | ⟨b',h⟩
 ·rw [h,h]
 ·rw [h,h]
def D3N{ino:List (List Int)}{b i:Nat}(hi:i<8):∀ {e k:Nat} {a:List UInt8},a.length=256->k+e<=8->(∀ j,j<8->(ino.getD (b+j) []).length=11) ->
  iD (D5y ino b e k a) i=if k<=i/\i<k+e then B1O (ino.getD (b+i) []) else iD a i
 | 0,k,a,_,_,_=>by rw [if_neg (by omega)];rfl
 | e+1,k,a,ha,hk,h=>by
  have hx:=B3O (h k (by omega));show iD (D5y ino b e (k+1) (H5 a (32*k) (B1O (ino.getD (b+k) [])))) i=_;rw [D3N hi (by rw [O2 (by rw [ha,hx];omega),ha]) (by omega) h,E0p ha hx (by omega) hi];by_cases e1:i=k
  ·subst e1;rw [if_neg (by omega),if_pos rfl,if_pos (by omega)]
  ·rw [if_neg e1];by_cases c:k+1<=i/\i<k+1+e
   ·rw [if_pos c,if_pos (by omega)]
   ·rw [if_neg c,if_neg (by omega)]
section
variable {D:Dev} {n:Int} {c:Cl}
def B4K(hD:okD D)(hm:P7 (l_ D) n=A5)(ok:ImgOk D n c):(kZ D n c).length=(l_ D):=by
 obtain ⟨_,_,_,n128,_⟩:=I1.1 hm;have hx:∀ x∈c.ino,x.length=11:=λx hx=>(ok.ino x hx).1
 obtain ⟨ok1,l1⟩:=B38 (l:=c.blocks) (m:=c.made) hD ok.md;obtain ⟨ok2,l2⟩:=A9d (e:=(mP (l_ D) n).toNat) (no:=bH (l_ D) n) ok1;obtain ⟨ok3,l3⟩:=B3S (n:=n) n128 (l:=c.ino) (i:=0) ok2 hx;unfold kZ;rw [fB,l3,l2,l1]
def C4g(hD:okD D)(hm:P7 (l_ D) n=A5)(ok:ImgOk D n c)(K7:c.ino.length=(n+1).toNat)(hi:i<l_ D) :
  blk (kZ D n c) i=if i=1 then dH (yQ 0 c.taken) else C8i D n c i:=by
 have h:=B85 hD hm ok K7 hi;have hl:=B4K hD hm ok;rw [B26 (by rw [hl];exact hi)];rw [E51 (by rw [hl];exact hi)] at h;exact Option.some.inj h
def D0B(hD:okD D)(hm:P7 (l_ D) n=A5)(ok:ImgOk D n c)(K7:c.ino.length=(n+1).toNat)(hd:G5 (l_ D) n no=A5) :
  blk (kZ D n c) no=uU c.blocks c.made no (blk D no):=by
 obtain ⟨_,h2,h3⟩:=uP.1 hd;obtain ⟨b16,b512,n8,n128,nm8,nb⟩:=I1.1 hm;have hF:bD (l_ D) n=2+n/8:=by unfold bD bH mP;rw [hm];rfl
 obtain ⟨k,rfl⟩:=E61 (show 0<=no by omega);rw [C4g hD hm ok K7 (by omega),if_neg (by omega)];unfold C8i;rw [if_neg ?_]
 ·congr 1
  rw [B26 (by omega),E54,E51 (by omega)];rfl
 ·unfold B5T;rw [if_pos ⟨hm,by omega,by omega⟩,if_neg (by omega),if_neg (by omega)];decide
def D0C(hD:okD D)(hm:P7 (l_ D) n=A5)(ok:ImgOk D n c)(K7:c.ino.length=(n+1).toNat){i:Int}(hi:Q9 (l_ D) n i=A5) :
  tQ (kZ D n c) n i=B1O (c.ino.getD i.toNat []):=by
 obtain ⟨w2,wb,k0,k8⟩:=C90 hi;obtain ⟨_,i1,i2⟩:=O1.1 hi;obtain ⟨b16,b512,n8,n128,nm8,nb⟩:=I1.1 hm;unfold tQ;rw [B4K hD hm ok];have hB:aQ (l_ D) n i=2+(i-1)/8:=by unfold aQ;rw [hi];rfl
 have hK:jK (l_ D) n i=(i-1)%8:=by unfold jK;rw [hi];rfl
 obtain ⟨k,hk⟩:=E61 (show 0<=aQ (l_ D) n i by omega);rw [hk,C4g hD hm ok K7 (by omega),if_neg (by omega)];unfold C8i;rw [if_pos (by unfold B5T;rw [if_pos ⟨hm,by omega,by omega⟩,if_neg (by omega),if_pos (by omega)])];rw [D3N (by omega) zeros_length (by omega) ?_,if_pos (by omega)]
 ·congr 2;omega
 ·intro j hj;rw [E54,E51 (by omega)];exact (ok.ino _ (E6w _)).1
end
def E0U{E:Dev}{i:Int}(hl:l_ E=l_ D)(h:tQ E n i=tQ D n i):kdV E n i=kdV D n i/\szV E n i=szV D n i/\drV E n i=drV D n i:=by
 unfold kdV szV drV B7a;rw [hl,h];exact ⟨rfl,rfl,rfl⟩
def D3T{E:Dev}{i:Int}{y:List Int}(hi:Q9 (l_ E) n i=A5)(hy:D2R y)(h:tQ E n i=B1O y):kdV E n i=y.getD 0 0/\szV E n i=y.getD 2 0/\drV E n i=y.drop 4:=by
 obtain ⟨hl,hm⟩:=hy;have hd:(y.drop 4).length=7:=by rw [List.length_drop,hl]
 obtain ⟨g1,g2,g3,g4,g5⟩:=D0w hd hm;obtain ⟨hc,_⟩:=C82 hd hm;unfold kdV szV drV B7a;rw [hi,h];unfold B1O;rw [hc,g1,g3,g5];exact ⟨rfl,rfl,rfl⟩
structure Pend(D:Dev)(n:Int)(c:Cl)(Q:List Int):Prop where
 nd:(c.blocks++Q).Nodup
 dat:∀ no∈c.blocks++Q,G5 (l_ D) n no=A5/\c.taken.getD no.toNat A5=A5
 bm:c.blocks.length=c.made.length
 good:∀ q∈gZ c,Q6 q.2=A5->Q6 (blk D q.1)=A5
section
variable {D:Dev} {n:Int} {c:Cl} {Q:List Int}
def D8g{l:List Bool}(h:l.getD j A5=A5):(l.set i A5).getD j A5=A5:=by
 rw [E54] at h ⊢;rw [E63];by_cases e:i=j
 ·rw [if_pos e];split<;>rfl
 ·rw [if_neg e];exact h
def D5z{l:List Bool}:(l.set i A5).getD i A5=A5:=by
 rw [E54,E63,if_pos rfl];split<;>rfl
def C5E(h:cR D n c no=A5):J7 D n c no={ c with taken:=c.taken.set no.toNat A5 }:=by unfold J7;rw [h];rfl
def D4o(h:cR D n c no=A5):G5 (l_ D) n no=A5/\c.taken.getD no.toNat A5=A6:=by
 unfold cR at h;rw [E53,E6M] at h;exact h
def Pend.same(h:Pend D n c Q)(s:SameC c c')(ht:∀ j,c.taken.getD j A5=A5->c'.taken.getD j A5=A5):Pend D n c' Q:=by
 refine ⟨by rw [s.blocks];exact h.nd,λno Y3=>?_,by rw [s.blocks,s.made];exact h.bm,?_⟩
 ·rw [s.blocks] at Y3;exact ⟨(h.dat no Y3).1,ht _ (h.dat no Y3).2⟩
 ·unfold gZ;rw [s.blocks,s.made];exact h.good
def B4z(j:Nat)(h:c.taken.getD j A5=A5):(J7 D n c no).taken.getD j A5=A5:=by
 cases hb:cR D n c no with
 | false=>rw [B0g hb];exact h
 | true=>rw [C5E hb];exact D8g h
def Pend.claimed(h:Pend D n c Q)(hb:cR D n c no=A5):Pend D n (J7 D n c no) (Q++[no]):=by
 obtain ⟨h1,h2⟩:=D4o hb;have hs:=A0r D n c no;refine ⟨?_,λk hk=>?_,by rw [hs.blocks,hs.made];exact h.bm,?_⟩
 ·rw [hs.blocks,<-E6d,List.nodup_append];refine ⟨h.nd,by simp,λa ha b hb' e=>?_⟩;rw [List.mem_singleton.1 hb'] at e;have:=(h.dat a ha).2;rw [e,h2] at this;cases this
 ·rw [hs.blocks,<-E6d] at hk;rcases List.mem_append.1 hk with hk | hk
  ·exact ⟨(h.dat k hk).1,B4z _ (h.dat k hk).2⟩
  ·rw [List.mem_singleton.1 hk,C5E hb];exact ⟨h1,D5z⟩
 ·unfold gZ;rw [hs.blocks,hs.made];exact h.good
def Pend.made{no:Int}{b:List UInt8}(h:Pend D n c (no::Q))(hg:Q6 b=A5->Q6 (blk D no)=A5):Pend D n (dG c no b) Q:=by
 have e:c.blocks++no::Q=(c.blocks++[no])++Q:=by simp
 refine ⟨?_,λk hk=>?_,?_,λq hq=>?_⟩
 ·show ((c.blocks++[no])++Q).Nodup;rw [<-e];exact h.nd
 ·exact h.dat k (by rw [e];exact hk)
 ·show (c.blocks++[no]).length=(c.made++[b]).length;simp [h.bm]
 ·rw [A0E h.bm] at hq;rcases List.mem_append.1 hq with hq | hq
  ·exact h.good q hq
  ·rw [List.mem_singleton.1 hq];exact hg
def Pend.claims:∀ {L:List Int} {c:Cl} {Q:List Int},Pend D n c Q->Pend D n (cE D n c L) (Q++J5 D n c L)
 | [],c,Q,h=>by
  show Pend D n c (Q++[]);rw [E6k];exact h
 | no::L,c,Q,h=>by
  cases hb:cR D n c no with
  | true =>
   have e2:J5 D n c (no::L)=no::J5 D n (J7 D n c no) L:=by show (if _ then _ else _)=_;rw [if_pos hb]
   rw [e2];have:=(h.claimed hb).claims (L:=L);rw [E6d] at this;exact this
  | false =>
   have e2:J5 D n c (no::L)=J5 D n c L:=by show (if _ then _ else _)=_;rw [if_neg (by rw [hb];decide)]
   rw [e2];have e3:cE D n c (no::L)=cE D n c L:=by show cE D n (J7 D n c no) L=_;rw [B0g hb]
   rw [e3];exact h.claims
def B4H{d:List Int}:∀ {e k:Nat} {s:Cl × List Int} (j:Nat),s.1.taken.getD j A5=A5->(dD D n d e k s).1.taken.getD j A5=A5
 | 0,_,_,_,h=>h
 | e+1,k,s,j,h=>by
  rw [dD];exact B4H j (B4z j h)
def D4D{s:Cl × List UInt8}(j:Nat)(h:s.1.taken.getD j A5=A5):(R5 D n many s k).1.taken.getD j A5=A5:=by
 unfold R5;split
 ·exact h
 ·dsimp only;split
  ·exact B4z j h
  ·exact h
def C5Z{many:Int}:∀ {e k:Nat} {s:Cl × List UInt8} (j:Nat),s.1.taken.getD j A5=A5->(L9 D n many e k s).1.taken.getD j A5=A5
 | 0,_,_,_,h=>h
 | e+1,k,s,j,h=>by
  rw [L9];exact C5Z j (D4D j h)
def D4x(h:Pend D n c [])(h0:(H9 D n c a).2.getD 6 0≠0):Pend D n (H9 D n c a).1 [(H9 D n c a).2.getD 6 0]:=by
 have hs:=A0t (D:=D) (n:=n) (d:=drV D n a) (e:=(min (T5 (szV D n a)) 6).toNat) (k:=0) (s:=(c,zI 7));have h6:=fP (D:=D) (n:=n) (d:=drV D n a) (j:=6) (e:=(min (T5 (szV D n a)) 6).toNat) (k:=0) (s:=(c,zI 7)) (by omega);have hp:Pend D n (dD D n (drV D n a) (min (T5 (szV D n a)) 6).toNat 0 (c,zI 7)).1 []:=h.same hs.1 λj hj=>B4H j hj
 unfold H9 at h0 ⊢;generalize dD D n (drV D n a) (min (T5 (szV D n a)) 6).toNat 0 (c,zI 7)=s at *;unfold A1R at h0 ⊢;by_cases hm:6<T5 (szV D n a)
 ·rw [if_pos hm] at h0 ⊢;have hl:s.2.length=7:=by rw [hs.2];rfl
  have e:(s.2.set 6 (K3 D n s.1 ((drV D n a).getD 6 0))).getD 6 0=K3 D n s.1 ((drV D n a).getD 6 0):=by
   rw [E54,E63,if_pos rfl,if_pos (by omega)];rfl
  have h0:(s.2.set 6 (K3 D n s.1 ((drV D n a).getD 6 0))).getD 6 0≠0:=h0;show Pend D n (J7 D n s.1 ((drV D n a).getD 6 0)) [(s.2.set 6 (K3 D n s.1 ((drV D n a).getD 6 0))).getD 6 0];rw [e] at h0 ⊢;obtain ⟨h1,h2⟩:=B4C h0;rw [h1];exact hp.claimed h2
 ·rw [if_neg hm] at h0;exact absurd (h6.trans rfl) h0
def D4w(j:Nat)(h:c.taken.getD j A5=A5):(H9 D n c a).1.taken.getD j A5=A5:=by
 unfold H9 A1R;split
 ·exact B4z j (B4H j h)
 ·exact B4H j h
def D4v(hD:okD D)(D0x:l_ D<=512)(h:Pend D n c []):Pend D n (U8 D n c a) []:=by
 have hs:=oD (D:=D) (n:=n) (ino:=a) (c:=c);by_cases h0:(H9 D n c a).2.getD 6 0=0
 ·have e:U8 D n c a=L8 D n c a:=by unfold U8;rw [if_pos h0]
  rw [e];have:=h.same hs.1 D4w;exact ⟨this.nd,this.dat,this.bm,this.good⟩
 ·have hp:=D4x h h0;have hI:Pend D n (L8 D n c a) [(H9 D n c a).2.getD 6 0]:=⟨hp.nd,hp.dat,hp.bm,hp.good⟩;have hf:=jF (D:=D) (n:=n) (many:=T5 (szV D n a)) (e:=128) (k:=0) (s:=(L8 D n c a,blk D ((H9 D n c a).2.getD 6 0)));have E4q:=C5Z (D:=D) (n:=n) (many:=T5 (szV D n a)) (e:=128) (k:=0) (s:=(L8 D n c a,blk D ((H9 D n c a).2.getD 6 0)));have E45:=D66 (D:=D) (n:=n) (many:=T5 (szV D n a)) (c:=L8 D n c a) (b:=blk D ((H9 D n c a).2.getD 6 0)) (J9 hD) D0x;unfold U8;rw [if_neg h0];generalize L9 D n (T5 (szV D n a)) 128 0 (L8 D n c a,blk D ((H9 D n c a).2.getD 6 0))=s at *;exact (hI.same hf E4q).made λh=>by rw [E45] at h;cases h
def D4d:∃ L,(G7 D n c d t).1=cE D n c L/\J4 (G7 D n c d t).2 (C5 (O9 d t))=J5 D n c L:=by
 obtain ⟨h0,h5,hf⟩:=B8Y d t;obtain ⟨L,hL⟩:=xEq (J4 (bL d t) (C5 (O9 d t)));have nd:L.Nodup:=by rw [hL];exact C39
 have nz:∀ x∈L,x≠0:=by rw [hL];exact λx=>A1B
 have eB:G7 D n c d t=V6 D n (c,bL d t) L:=by rw [hL];rfl
 obtain ⟨a1,a2⟩:=A8p (D:=D) (n:=n) (c:=c) hf.len nd nz;refine ⟨L,by rw [eB];exact a1,?_⟩;rw [eB,C8U a2,<-hL];have:L.filter (λx=>!(decide (x∈L) && !decide (x∈J5 D n c L)))=L.filter λx=>decide (x∈J5 D n c L):=List.filter_congr λx hx=>by simp [hx]
 rw [this];exact C51 keptL_sub nd
def C2D{X:List Int}{K:List UInt8->Option Int}:∀ {L:List Int} {c:Cl},Pend D n c L->Pend D n (O6 D X K c L) []
 | [],c,h=>h
 | no::L,c,h=>by
  obtain ⟨y,hy⟩:=B9r (D:=D) (X:=X) (K:=K) (no:=no) (c:=c);have h1:=h.made (b:=clB (blk D no) (U9 D X no K)) λh=>by rw [E1m] at h;cases h
  have h2:Pend D n (cU D X K c no) L:=by rw [hy];exact ⟨h1.nd,h1.dat,h1.bm,h1.good⟩
  exact C2D (L:=L) (c:=cU D X K c no) h2
def B4h{a:Int}:∀ {L:List Ent} {s:Cl × (List UInt8->Option Int)},(O3 D n a s L).1.taken=s.1.taken
 | [],_=>rfl
 | e::L,s=>by
  have h1:=B4h (a:=a) (L:=L) (s:=J6 D n a s e);have h3:(J6 D n a s e).1.taken=s.1.taken:=by
   unfold J6 T4;cases Q7 D n s.1 e.2 with
   | false=>rfl
   | true =>
    show (bif (s.1.par e.2).isSome then A1V s.1 e.2 else C3Y (A1V s.1 e.2) a e.2).taken=_;cases (s.1.par e.2).isSome<;>rfl
  exact h1.trans h3
def D4e(h:Pend D n c [no])(hg:Q6 (blk D no)=A5):Pend D n (aX D n c a no d t) []:=by
 obtain ⟨L,h1,h2⟩:=D4d (D:=D) (n:=n) (c:=c) (d:=d) (t:=t);have hc:=h.claims (L:=L);rw [<-h1,<-h2] at hc;have eT:bodyT D n c a d t=O3 D n a ((G7 D n c d t).1,λ_=>A7) (S5 D (O9 d t::(G7 D n c d t).2) (J4 (G7 D n c d t).2 (C5 (O9 d t)))):=rfl;have t1:=C7j (D:=D) (n:=n) (a:=a) (L:=S5 D (O9 d t::(G7 D n c d t).2) (J4 (G7 D n c d t).2 (C5 (O9 d t)))) (s:=((G7 D n c d t).1,λ_=>A7));have t2:=B4h (D:=D) (n:=n) (a:=a) (L:=S5 D (O9 d t::(G7 D n c d t).2) (J4 (G7 D n c d t).2 (C5 (O9 d t)))) (s:=((G7 D n c d t).1,λ_=>A7));rw [<-eT] at t1 t2;unfold aX;generalize bodyT D n c a d t=T at *;have hT:Pend D n T.1 ([no]++J4 (G7 D n c d t).2 (C5 (O9 d t))):=by
  refine ⟨?_,?_,?_,?_⟩
  ·rw [t1.1];exact hc.nd
  ·rw [t1.1,t2];exact hc.dat
  ·rw [t1.1,t1.2];exact hc.bm
  ·unfold gZ;rw [t1.1,t1.2];exact hc.good
 exact C2D (Pend.made hT λ_=>hg)
def D6W(h:Pend D n c []):Pend D n (oB D n c a) []:=by
 by_cases h0:(K4 D n c a).2=0
 ·rw [A3B h0];have hs:=C1j h0;have e1:(K4 D n c a).1=c:=by rw [hs]
  refine ⟨?_,?_,?_,?_⟩
  ·show ((K4 D n c a).1.blocks++[]).Nodup;rw [e1];exact h.nd
  ·show ∀ no∈(K4 D n c a).1.blocks++[],G5 (l_ D) n no=A5/\(K4 D n c a).1.taken.getD no.toNat A5=A5;rw [e1];exact h.dat
  ·show (K4 D n c a).1.blocks.length=(K4 D n c a).1.made.length;rw [e1];exact h.bm
  ·show ∀ q∈(K4 D n c a).1.blocks.zip (K4 D n c a).1.made,_;rw [e1];exact h.good
 ·rw [A0s h0];obtain ⟨_,h2,h3,h4,h5⟩:=A8D h0;rw [<-h3] at h2 h4;have hp:=h.claimed h4;have e1:(K4 D n c a).1=J7 D n c (K4 D n c a).2:=by rw [h3,h5]
  rw [<-e1] at hp;refine D4e ?_ h2;exact ⟨hp.nd,hp.dat,hp.bm,hp.good⟩
def D7N(hD:okD D)(D0x:l_ D<=512)(h:Pend D n c []):Pend D n (U0 D n c a) []:=by
 unfold U0;split
 ·exact D4v hD D0x h
 ·exact D6W h
def B9F(hD:okD D)(D0x:l_ D<=512):∀ {e i:Nat} {c:Cl},Pend D n c []->Pend D n (ofR D n e i c) []
 | 0,_,_,h=>h
 | e+1,i,c,h=>by
  unfold ofR;cases hc:c.row[i]? with
  | none=>exact h
  | some a=>exact B9F hD D0x (D7N hD D0x h)
end
section
variable {D E:Dev} {n:Int} {c:Cl}
structure RowK(D:Dev)(n:Int)(c:Cl):Prop where
 kd:∀ i∈c.row,i≠1->kdV D n i≠0
def RowK.same(h:RowK D n c)(e:c'.row=c.row):RowK D n c':=⟨by rw [e];exact h.kd⟩
def C7l{a:Int}:∀ {L:List Ent} {s:Cl × (List UInt8->Option Int)},RowK D n s.1->RowK D n (O3 D n a s L).1
 | [],_,h=>h
 | e::L,s,h=>by
  refine C7l (L:=L) (s:=J6 D n a s e) ?_;unfold J6 T4;cases hB:Q7 D n s.1 e.2 with
  | false=>exact h
  | true =>
   show RowK D n (bif (s.1.par e.2).isSome then A1V s.1 e.2 else C3Y (A1V s.1 e.2) a e.2);cases (s.1.par e.2).isSome with
   | true=>exact ⟨h.kd⟩
   | false =>
    refine ⟨λi hi aR=>?_⟩;rcases List.mem_append.1 (show i∈s.1.row++[e.2] from hi) with h1 | h1
    ·exact h.kd i h1 aR
    ·rw [List.mem_singleton.1 h1];intro h0;unfold Q7 at hB;rw [decide_eq_true h0] at hB;simp at hB
def D4f(h:RowK D n c):RowK D n (aX D n c a no d t):=by
 have hs:=bC (D:=D) (n:=n) (L:=J4 (bL d t) (C5 (O9 d t))) (s:=(c,bL d t));have eb:V6 D n (c,bL d t) (J4 (bL d t) (C5 (O9 d t)))=G7 D n c d t:=rfl;rw [eb] at hs;have ht:=C7l (D:=D) (n:=n) (a:=a) (L:=S5 D (O9 d t::(G7 D n c d t).2) (J4 (G7 D n c d t).2 (C5 (O9 d t)))) (s:=((G7 D n c d t).1,λ_=>A7)) (h.same hs.row);have et:O3 D n a ((G7 D n c d t).1,λ_=>A7) (S5 D (O9 d t::(G7 D n c d t).2) (J4 (G7 D n c d t).2 (C5 (O9 d t))))=bodyT D n c a d t:=rfl;rw [et] at ht;unfold aX;refine ht.same ?_;rw [nY.1,C1z]
def D7O(h:RowK D n c):RowK D n (U0 D n c a):=by
 unfold U0;split
 ·exact h.same A0u.1
 ·have hs:=uK (D:=D) (n:=n) (ino:=a) (c:=c);by_cases h0:(K4 D n c a).2=0
  ·rw [A3B h0];exact h.same hs.row
  ·rw [A0s h0];exact D4f (h.same hs.row)
def D0I{i:Int}:kdV D n i=0\/kdV D n i=1\/kdV D n i=2:=by
 rw [D56];cases hc:B7a D n i with
 | false=>exact .inl rfl
 | true =>
  rw [cond_true];unfold B7a cQ at hc;simp only [E53] at hc;have:=(C6z hc.2.1).1;omega
def D7M(h:RowK D n c)(hbm:c.blocks.length=c.made.length)(ha:a∈c.row)(hal:a.toNat<c.ino.length)(h1:a≠1):((U0 D n c a).ino.getD a.toNat []).getD 0 0=kdV D n a:=by
 have h0:=h.kd a ha h1;by_cases hc:a≠1/\kdV D n a=1
 ·have e:U0 D n c a=U8 D n c a:=by unfold U0;rw [if_pos hc]
  rw [e,(A8I hbm).2 hal,hc.2];rfl
 ·have e:U0 D n c a=oB D n c a:=by unfold U0;rw [if_neg hc]
  have h2:kdV D n a=2:=by
   rcases D0I (D:=D) (n:=n) (i:=a) with h | h | h
   ·exact absurd h h0
   ·exact absurd ⟨h1,h⟩ hc
   ·exact h
  rw [e,(A8C hbm).2 hal,h2];rfl
def D22(n128:n<=128):∀ {e i:Nat} {c:Cl},i+e=129->RowW n c->RowK D n c->c.blocks.length=c.made.length->c.ino.length=(n+1).toNat ->
  (∀ j,j<i->∀ a,c.row[j]?=A4 a->a≠1->(c.ino.getD a.toNat []).getD 0 0=kdV D n a)->∀ a∈(ofR D n e i c).row,a≠1->((ofR D n e i c).ino.getD a.toNat []).getD 0 0=kdV D n a
 | 0,i,c,hi,w,k,hbm,K7,h=>by
  intro a ha h1;obtain ⟨j,hj⟩:=List.mem_iff_getElem?.1 (show a∈c.row from ha);have hl:=A6s w.nd λb hb=>⟨(w.rg b hb).1,by have:=(w.rg b hb).2;omega⟩
  have hjl:=(List.getElem?_eq_some_iff.1 hj).1;exact h j (by omega) a hj h1
 | e+1,i,c,hi,w,k,hbm,K7,h=>by
  unfold ofR;cases hc:c.row[i]? with
  | none =>
   intro a ha h1;obtain ⟨j,hj⟩:=List.mem_iff_getElem?.1 (show a∈c.row from ha);have hjl:=(List.getElem?_eq_some_iff.1 hj).1;have:=List.getElem?_eq_none_iff.1 hc;exact h j (by omega) a hj h1
  | some b =>
   have g:=A1X (D:=D) (n:=n) (a:=b) hbm;have E4b:=E6n hc;have hrg:=w.rg b E4b;refine D22 n128 (by omega) (gT w) (D7O k) g.bm (g.il.trans K7) λj hj a ha h1=>?_
   have E5W:i<c.row.length:=(List.getElem?_eq_some_iff.1 hc).1;have hjc:c.row[j]?=A4 a:=by
    have hjl:j<c.row.length:=by omega
    have:=A0D g.row (E51 hjl);rw [this] at ha;rw [E51 hjl];exact ha
   by_cases e1:j=i
   ·rw [e1,hc] at hjc;have e2:=Option.some.inj hjc;subst e2;exact D7M k hbm E4b (by omega) h1
   ·have aR:a≠b:=λe2=>by
     have:=(List.getElem?_inj (by omega) w.nd).1 (hjc.trans ((congrArg A4 e2).trans hc.symm));omega
    have hra:=w.rg a (E6n hjc);rw [g.ino _ (by omega)];exact h j (by omega) a hjc h1
end
def C6b:((aJ c a).ino.getD j []).getD 0 0=(c.ino.getD j []).getD 0 0/\((aJ c a).ino.getD j []).getD 2 0=(c.ino.getD j []).getD 2 0/\((aJ c a).ino.getD j []).drop 4=(c.ino.getD j []).drop 4:=by
 unfold aJ;split
 ·by_cases e:j=a.toNat
  ·subst e;by_cases hl:a.toNat<c.ino.length
   ·show ((c.ino.set a.toNat _).getD a.toNat []).getD 0 0=_/\((c.ino.set a.toNat _).getD a.toNat []).getD 2 0=_/\((c.ino.set a.toNat _).getD a.toNat []).drop 4=_;rw [A6h hl];refine ⟨?_,?_,?_⟩
    ·rw [E54,E60 (by omega),<-E54]
    ·rw [E54,E60 (by omega),<-E54]
    ·rw [List.drop_set,if_pos (by omega)]
   ·have:c.ino.set a.toNat ((c.ino.getD a.toNat []).set 1 ((c.lnk a).getD 0))=c.ino:=List.set_eq_of_length_le (by omega);show ((c.ino.set a.toNat _).getD a.toNat []).getD 0 0=_/\((c.ino.set a.toNat _).getD a.toNat []).getD 2 0=_/\((c.ino.set a.toNat _).getD a.toNat []).drop 4=_;rw [this];exact ⟨rfl,rfl,rfl⟩
  ·show ((c.ino.set a.toNat _).getD j []).getD 0 0=_/\((c.ino.set a.toNat _).getD j []).getD 2 0=_/\((c.ino.set a.toNat _).getD j []).drop 4=_;rw [getD_set_ne e];exact ⟨rfl,rfl,rfl⟩
 ·exact ⟨rfl,rfl,rfl⟩
def A6g{j:Nat}:∀ {L:List Int} {c:Cl},((bP c L).ino.getD j []).getD 0 0=(c.ino.getD j []).getD 0 0/\((bP c L).ino.getD j []).getD 2 0=(c.ino.getD j []).getD 2 0/\((bP c L).ino.getD j []).drop 4=(c.ino.getD j []).drop 4
 | [],_=>⟨rfl,rfl,rfl⟩
 | a::L,c=>by
  obtain ⟨h1,h2,h3⟩:=A6g (j:=j) (L:=L) (c:=aJ c a);obtain ⟨k1,k2,k3⟩:=C6b (c:=c) (a:=a) (j:=j);exact ⟨h1.trans k1,h2.trans k2,h3.trans k3⟩
def C9p{x:Int}:∀ {L:List Int} {c:Cl},bP (c.wl x) L=(bP c L).wl x
 | [],_=>rfl
 | a::L,c=>by
  have e:aJ (c.wl x) a=(aJ c a).wl x:=by
   show (if (c.ino.getD a.toNat []).getD 0 0=1 then _ else _)=(if (c.ino.getD a.toNat []).getD 0 0=1 then _ else _:Cl).wl x;split<;>rfl
  show bP (aJ (c.wl x) a) L=(bP (aJ c a) L).wl x;rw [e];exact C9p
section
variable {D E:Dev} {n:Int}
structure Beg(D:Dev)(n:Int)(c:Cl):Prop where
 w:RowW n c
 k:RowK D n c
 bm:c.blocks.length=c.made.length
 il:c.ino.length=(n+1).toNat
 pend:Pend D n c []
 zero:∀ i:Int,1<=i->i<=n->c.ino.getD i.toNat []=zI 11
def A8m(hm:P7 (l_ D) n=A5):Beg D n (yP (H8 D n) (bD (l_ D) n).toNat):=by
 obtain ⟨_,_,n8,_⟩:=I1.1 hm;have hs:=ownR_same (c:=H8 D n) (k:=(bD (l_ D) n).toNat);refine ⟨?_,?_,?_,?_,⟨?_,?_,?_,?_⟩,?_⟩
 ·refine RowW.same (c:=H8 D n) ⟨by simp [H8],λi=>?_,λi hi=>?_⟩ hs.row hs.par
  ·by_cases c1:i=1
   ·subst c1;simp [H8,A0J]
   ·simp [H8,A0J,c1]
  ·simp [H8] at hi;omega
 ·refine RowK.same (c:=H8 D n) ⟨λi hi h1=>?_⟩ hs.row;exact absurd (List.mem_singleton.1 hi) h1
 ·rw [hs.blocks,hs.made];rfl
 ·rw [hs.ino];simp [H8]
 ·rw [hs.blocks];exact List.nodup_nil
 ·rw [hs.blocks];intro no Y3;cases Y3
 ·rw [hs.blocks,hs.made];rfl
 ·unfold gZ;rw [hs.blocks];intro q hq;cases hq
 ·intro i h1 h2;rw [hs.ino];show (E55 (n+1).toNat (zI 11)).getD i.toNat []=zI 11;rw [E54,List.getElem?_replicate,if_pos (by omega)];rfl
structure Mixed(D E:Dev)(n:Int):Prop where
 okD:okD D
 okE:Go.Proofs.YtbipebfdappanaaGreat.okD E
 len:l_ E=(l_ D)
 may:P7 (l_ D) n=A5
 blk:∀ no:Int,blk E no=blk D no\/blk E no=blk (kZ D n (F7 D n)) no
def Pend.pick{q:Int × List UInt8}{a:List UInt8}(P:Pend D n c [])(hq:q∈gZ c):uU c.blocks c.made q.1 a=q.2:=by
 have nd:c.blocks.Nodup:=by have:=P.nd;rw [E6k] at this;exact this
 exact D3d nd hq
def Pend.picked(P:Pend D n c [])(hg:Q6 (uU c.blocks c.made no (Go.Proofs.YtbipebfdappanaaGreat.blk D no))=A5):Q6 (Go.Proofs.YtbipebfdappanaaGreat.blk D no)=A5:=by
 by_cases hin:no∈c.blocks
 ·obtain ⟨j,hj⟩:=List.mem_iff_getElem?.1 hin;have hjl:=(List.getElem?_eq_some_iff.1 hj).1;have hjm:j<c.made.length:=by rw [<-P.bm];exact hjl
  have hq:(no,c.made[j])∈gZ c:=by
   unfold gZ;rw [List.mem_iff_getElem?];refine ⟨j,?_⟩;rw [List.getElem?_zip_eq_some];exact ⟨hj,E51 hjm⟩
  have:=P.pick (a:=Go.Proofs.YtbipebfdappanaaGreat.blk D no) hq;rw [this] at hg;exact P.good (no,c.made[j]) hq hg
 ·rw [B4T hin] at hg;exact hg
def Mixed.half(M:Mixed D E n):Half D E n (F6 D n):=by
 have hm:=M.may;obtain ⟨b16,b512,n8,n128,nm8,nb⟩:=I1.1 hm;have B:=A8m hm;have ok:=uG M.okD hm;obtain ⟨_,_,_,K7,_⟩:=eJ M.okD hm;obtain ⟨s1,s2,s3,s4,s5,s6,s7⟩:=uS (L:=(F6 D n).row) (c:=F6 D n);have w:RowW n (F6 D n):=by unfold F6;exact A85 B.w
 have P:Pend D n (F6 D n) []:=by unfold F6;exact B9F M.okD (by omega) B.pend
 have hb:(F7 D n).blocks=(F6 D n).blocks:=s3;have hmd:(F7 D n).made=(F6 D n).made:=s4;have hlk:∀ j,((F7 D n).ino.getD j []).getD 0 0=((F6 D n).ino.getD j []).getD 0 0/\((F7 D n).ino.getD j []).getD 2 0=((F6 D n).ino.getD j []).getD 2 0/\((F7 D n).ino.getD j []).drop 4=((F6 D n).ino.getD j []).drop 4:=λj=>A6g
 have D9J:∀ a∈(F6 D n).row,a≠1->((F6 D n).ino.getD a.toNat []).getD 0 0=kdV D n a:=by
  unfold F6;exact D22 (D:=D) n128 rfl B.w B.k B.bm B.il (λj hj=>by omega)
 have hz:∀ i,1<=i->i<=n->i ∉ (F6 D n).row->(F6 D n).ino.getD i.toNat []=zI 11:=by
  intro i i1 i2 hin;unfold F6 at hin ⊢;rw [B4S i1 B.w B.bm (λj _ hj=>hin (E6n hj))];exact B.zero i i1 i2
 have hV:∀ i,Q9 (l_ D) n i=A5->(kdV E n i=kdV D n i/\szV E n i=szV D n i/\drV E n i=drV D n i)\/(kdV E n i=((F7 D n).ino.getD i.toNat []).getD 0 0/\szV E n i=((F7 D n).ino.getD i.toNat []).getD 2 0/\drV E n i=((F7 D n).ino.getD i.toNat []).drop 4):=by
  intro i hi;obtain ⟨_,i1,i2⟩:=O1.1 hi;have hr:tQ E n i=tQ D n i\/tQ E n i=tQ (kZ D n (F7 D n)) n i:=by
   unfold tQ;rw [M.len,B4K M.okD hm ok];rcases M.blk (aQ (l_ D) n i) with h | h
   ·rw [h];exact .inl rfl
   ·rw [h];exact .inr rfl
  rcases hr with h | h
  ·exact .inl (E0U M.len h)
  ·rw [D0C M.okD hm ok K7 hi] at h;refine .inr (D3T (by rw [M.len];exact hi) ?_ h);rw [E54,E51 (by omega)];exact ok.ino _ (E6w _)
 have Y3:∀ i,Q9 (l_ D) n i=A6->kdV E n i=kdV D n i:=by
  intro i hi;unfold kdV;rw [M.len,hi];rfl
 refine ⟨M.okD,M.okE,M.len,λa ha=>?_,λno hd hg=>?_,λi h1=>?_,λq hq=>?_⟩
 ·have hr:=w.rg a ha;have hi:Q9 (l_ D) n a=A5:=O1.2 ⟨hm,hr.1,hr.2⟩;obtain ⟨k1,k2,k3⟩:=hlk a.toNat;rcases hV a hi with h | h
  ·exact .inl h
  ·rw [k1,k2,k3] at h;exact .inr h
 ·rcases M.blk no with h | h
  ·rw [<-h];exact hg
  ·rw [h,D0B M.okD hm ok K7 hd,hb,hmd] at hg;exact P.picked hg
 ·cases hi:Q9 (l_ D) n i with
  | false=>exact .inl (Y3 i hi)
  | true =>
   obtain ⟨_,i1,i2⟩:=O1.1 hi;rcases hV i hi with h | h
   ·exact .inl h.1
   ·rw [(hlk i.toNat).1] at h;by_cases hin:i∈(F6 D n).row
    ·exact .inl (h.1.trans (D9J i hin h1))
    ·refine .inr ⟨hin,h.1.trans ?_⟩;have e:=hz i i1 i2 hin;rw [e];rfl
 ·rcases M.blk q.1 with h | h
  ·exact .inl h
  ·refine .inr ?_;have hd:G5 (l_ D) n q.1=A5:=(P.dat q.1 (E6C _ (List.of_mem_zip hq).1)).1;rw [h,D0B M.okD hm ok K7 hd,hb,hmd];exact P.pick hq
def Mixed.claim(M:Mixed D E n):∃ x,F7 E n=(F7 D n).wl x:=by
 have B:=A8m M.may;obtain ⟨x,hx⟩:=E0a (x:=0) B.w B.bm B.il M.half;have e1:H8 E n=H8 D n:=by unfold H8;rw [M.len]
 have e2:F6 E n=(F6 D n).wl x:=by
  unfold F6;rw [e1,M.len];have hs:=ownR_same (c:=H8 D n) (k:=(bD (l_ D) n).toNat);have e3:(yP (H8 D n) (bD (l_ D) n).toNat).wl 0=yP (H8 D n) (bD (l_ D) n).toNat:=by
   have h0:=hs.lost;generalize yP (H8 D n) (bD (l_ D) n).toNat=c at *;cases c;have h0:_=(0:Int):=h0;subst h0;rfl
  rw [e3] at hx;exact hx
 refine ⟨x,?_⟩;unfold F7;rw [e2];exact C9p
def Mixed.img(M:Mixed D E n):kZ E n (F7 E n)=kZ D n (F7 D n):=by
 have hm:=M.may;have hmE:P7 (l_ E) n=A5:=by rw [M.len];exact hm
 have ok:=uG M.okD hm;have okE:=uG M.okE hmE;obtain ⟨_,_,_,K7,_⟩:=eJ M.okD hm;obtain ⟨_,_,_,E5e,_⟩:=eJ M.okE hmE;obtain ⟨x,hx⟩:=M.claim;have l1:=B4K M.okD hm ok;have l2:=B4K M.okE hmE okE;refine E7b λi=>?_
 by_cases hi:i<(l_ D)
 ·have hiE:i<(l_ E):=by rw [M.len];exact hi
  rw [B85 M.okD hm ok K7 hi,B85 M.okE hmE okE E5e hiE];by_cases h1:i=1
  ·rw [if_pos h1,if_pos h1,hx];rfl
  ·rw [if_neg h1,if_neg h1]
   congr 1
   have e0:C8i E n (F7 E n) i=if B5T (l_ D) n i=3 then D5y (F7 D n).ino (8*(i-2)+1) 8 0 (zeros 256) else uU (F7 D n).blocks (F7 D n).made i (E.getD i []):=by
    unfold C8i;rw [hx,M.len];rfl
   rw [e0];unfold C8i;by_cases ha:B5T (l_ D) n i=3
   ·rw [if_pos ha,if_pos ha]
   ·rw [if_neg ha,if_neg ha];have eD:D.getD i []=Go.Proofs.YtbipebfdappanaaGreat.blk D i:=by rw [B26 hi,E54,E51 hi];rfl
    have eE:E.getD i []=Go.Proofs.YtbipebfdappanaaGreat.blk E i:=by rw [B26 hiE,E54,E51 hiE];rfl
    rw [eD,eE];rcases M.blk i with h | h
    ·rw [h]
    ·rw [h,C4g M.okD hm ok K7 hi,if_neg h1];unfold C8i;rw [if_neg ha,eD,D44]
 ·rw [E6u (by rw [l2,M.len];omega),E6u (by rw [l1];omega)]
end
def C3X:Nat->Dev->Dev->Dev
 | m,w::W,d::D=>if w=d then d::C3X m W D else (if m=0 then d else w)::C3X (m-1) W D
 | _,_,D=>D
def B4P{m:Nat}:C3X m (w::W) (w::D)=w::C3X m W D:=if_pos rfl
def B4O{m:Nat}{d:List UInt8}(h:w≠d):C3X m (w::W) (d::D)=(if m=0 then d else w)::C3X (m-1) W D:=if_neg h
def D47:B1o (w::W) (w::D) i=B1o W D (i+1):=by
 conv=>lhs;unfold B1o
 rw [if_pos rfl]
def D46{d:List UInt8}(h:w≠d):B1o (w::W) (d::D) i=((i:Int),w)::B1o W D (i+1):=by
 conv=>lhs;unfold B1o
 rw [if_neg h]
def B31:∀ {W D:Dev} {m:Nat},(C3X m W D).length=(l_ D)
 | [],D,m=>by cases D<;>rfl
 | _::_,[],m=>rfl
 | w::W,d::D,m=>by
  by_cases h:w=d
  ·subst h;rw [B4P,E6g,E6g,B31]
  ·rw [B4O h,E6g,E6g,B31]
def D6g:∀ {W D:Dev} {m:Nat},W.length=l_ D->(C3X m W D)[j]?=D[j]?\/(C3X m W D)[j]?=W[j]? := by
 induction j with
 | zero =>
  intro W D m hl
  match W,D,hl with
  | [],[],_=>exact .inl rfl
  | w::W,d::D,_ =>
   by_cases h:w=d
   ·subst h;rw [B4P];exact .inl rfl
   ·rw [B4O h];by_cases hm:m=0
    ·rw [if_pos hm];exact .inl rfl
    ·rw [if_neg hm];exact .inr rfl
 | succ j ih =>
  intro W D m hl
  match W,D,hl with
  | [],[],_=>exact .inl rfl
  | w::W,d::D,hl =>
   have hl':W.length=(l_ D):=by simpa using hl
   by_cases h:w=d
   ·subst h;rw [B4P];simp only [E6o];exact ih hl'
   ·rw [B4O h];simp only [E6o];exact ih hl'
def D0T:∀ {W D:Dev} {m i:Nat},W.length=l_ D->(B1o W D i).length<=m->C3X m W D=W
 | [],[],m,i,_,_=>rfl
 | w::W,d::D,m,i,hl,h=>by
  have hl':W.length=(l_ D):=by simpa using hl
  by_cases e:w=d
  ·subst e;rw [D47] at h;rw [B4P,D0T hl' h]
  ·rw [D46 e,E6g] at h;rw [B4O e,if_neg (by omega),D0T hl' (by omega:(B1o W D (i+1)).length<=m-1)]
section
variable {D E:Dev} {n:Int}
def D0m(h0:0<=no):blk O no=(O[no.toNat]?).getD (zeros 256):=by
 unfold blk;rw [if_pos h0,E54]
def D92(hD:okD D)(hm:P7 (l_ D) n=A5){m:Nat}:Mixed D (C3X m (kZ D n (F7 D n)) D) n:=by
 obtain ⟨okI,lI⟩:=C4f hD hm;refine ⟨hD,λb hb=>?_,B31,hm,λno=>?_⟩
 ·obtain ⟨j,hj⟩:=List.mem_iff_getElem?.1 hb;rcases D6g (j:=j) (m:=m) lI with h | h
  ·rw [hj] at h;exact hD b (E6n h.symm)
  ·rw [hj] at h;exact okI b (E6n h.symm)
 ·by_cases h0:0<=no
  ·rw [D0m h0,D0m h0,D0m h0];rcases D6g (j:=no.toNat) (m:=m) lI with h | h
   ·exact .inl (by rw [h])
   ·exact .inr (by rw [h])
  ·left;unfold blk;rw [if_neg h0,if_neg h0]
def D9O(hD:okD D)(hm:P7 (l_ D) n=A5):(kZ D n (F7 D n))[0]?=D[0]? := by
 obtain ⟨b16,_⟩:=I1.1 hm;obtain ⟨_,b512,n8,n128,nm8,nb⟩:=I1.1 hm;have B:=A8m hm;have ok:=uG hD hm;obtain ⟨_,_,_,K7,_⟩:=eJ hD hm;have P:Pend D n (F6 D n) []:=by unfold F6;exact B9F hD (by omega) B.pend
 obtain ⟨s1,s2,s3,s4,s5,s6,s7⟩:=uS (L:=(F6 D n).row) (c:=F6 D n);have hb:(F7 D n).blocks=(F6 D n).blocks:=s3;rw [B85 hD hm ok K7 (by omega),if_neg (by omega)];unfold C8i;rw [if_neg ?_,B4T ?_,E54,E51 (by omega)]
 ·rfl
 ·rw [hb];intro h;have:=(P.dat _ (E6C _ h)).1;rw [show ((0:Nat):Int)=0 from rfl,bG] at this;cases this
 ·unfold B5T;rw [if_pos ⟨hm,by omega,by omega⟩,if_pos (by omega)];decide
def D88(hl:l_ E=l_ D)(h:E[0]?=D[0]?):B7e E=B7e D/\B5l E=B5l D/\C3Q E=C3Q D:=by
 have e:E.headD []=D.headD []:=by
  have:∀ O:Dev,O.headD []=(O[0]?).getD []:=λO=>by cases O<;>rfl
  rw [this,this,h]
 unfold B7e B5l C3Q;rw [e,hl];exact ⟨rfl,rfl,rfl⟩
def D9P(hD:okD D)(hm:P7 (l_ D) n=A5):kdV (kZ D n (F7 D n)) n 1=2:=by
 obtain ⟨b16,b512,n8,n128,nm8,nb⟩:=I1.1 hm;have B:=A8m hm;have ok:=uG hD hm;obtain ⟨_,_,_,K7,_⟩:=eJ hD hm;have hi:Q9 (l_ D) n 1=A5:=O1.2 ⟨hm,by omega,by omega⟩;have E5r:=D0C hD hm ok K7 hi;have hlk:((F7 D n).ino.getD (1:Int).toNat []).getD 0 0=((F6 D n).ino.getD (1:Int).toNat []).getD 0 0:=A6g.1;have hk:=D3T (E:=kZ D n (F7 D n)) (by rw [B4K hD hm ok];exact hi) (y:=(F7 D n).ino.getD (1:Int).toNat []) (by
  rw [E54,E51 (by rw [K7];omega)];exact ok.ino _ (E6w _)) E5r
 rw [hk.1,hlk];have hrow:(yP (H8 D n) (bD (l_ D) n).toNat).row=[1]:=D27;unfold F6;generalize yP (H8 D n) (bD (l_ D) n).toNat=c at *;have e1:ofR D n 129 0 c=ofR D n 128 1 (U0 D n c 1):=by
  show (match c.row[0]? with
   | none=>c
   | some a=>ofR D n 128 (0+1) (U0 D n c a))=_
  rw [hrow];rfl
 have g:=A1X (D:=D) (n:=n) (a:=1) B.bm;have hg:=B9E (D:=D) (n:=n) (e:=128) (i:=1) g.bm;have wF:RowW n (ofR D n 128 1 (U0 D n c 1)):=A85 (gT B.w);have hat:(ofR D n 128 1 (U0 D n c 1)).row[0]?=A4 1:=A0D (g.row.trans hg.1) (by rw [hrow];rfl);rw [e1,B4S (by omega) (gT B.w) g.bm λj hj he=>?_]
 ·have e2:U0 D n c 1=oB D n c 1:=by unfold U0;rw [if_neg (λh=>h.1 rfl)]
  rw [e2,(A8C B.bm).2 (by rw [B.il];omega)];rfl
 ·have:=(List.getElem?_inj (List.getElem?_eq_some_iff.1 hat).1 wF.nd).1 (hat.trans he.symm);omega
end
section
variable {D:Dev} {n a:Int}
inductive seqT(D:Dev)(n a:Int):List Ent->Cl->Prop where
 | nil (c:Cl):seqT D n a [] c
 | cons (e:Ent) (L:List Ent) (c:Cl) (h1:Q7 D n c e.2=A5) (h2:seqT D n a L (T4 D n c a e.2)):seqT D n a (e::L) c
def seqT.get{L:List Ent}(h:seqT D n a (e::L) c):Q7 D n c e.2=A5/\seqT D n a L (T4 D n c a e.2):=by
 cases h with
 | cons _ _ _ h1 h2=>exact ⟨h1,h2⟩
def B3p(L:List Ent)(x:Int):Nat:=(L.filter λe=>decide (e.2=x)).length
def C9P(D:Dev)(n a:Int)(c:Cl)(L:List Ent):Cl:=L.foldl (λc e=>T4 D n c a e.2) c
def D8h{i:Int}:Q7 D n c i=A5↔i≠1/\kdV D n i≠0/\(kdV D n i=2->c.par i=A7):=by
 unfold Q7;rw [E6M,Bool.or_eq_false_iff,Bool.or_eq_false_iff,decide_eq_false_iff_not,decide_eq_false_iff_not,Bool.and_eq_false_iff,decide_eq_false_iff_not];constructor
 ·rintro ⟨⟨h1,h2⟩,h3⟩;refine ⟨h1,h2,λhk=>?_⟩;rcases h3 with h | h
  ·exact absurd hk h
  ·cases hp:c.par i with
   | none=>rfl
   | some v=>rw [hp] at h;cases h
 ·rintro ⟨h1,h2,h3⟩;refine ⟨⟨h1,h2⟩,?_⟩;by_cases hk:kdV D n i=2
  ·right;rw [h3 hk];rfl
  ·exact .inl hk
def C1V{i:Int}(h:Q7 D n c i=A5):(T4 D n c a i).par x=if (c.par x).isSome=A5 then c.par x else if x=i then A4 a else A7:=by
 unfold T4;rw [h,cond_true];cases hs:(c.par i).isSome with
 | true =>
  show c.par x=_;by_cases e:x=i
  ·subst e;rw [if_pos hs]
  ·cases hx:c.par x with
   | none=>rw [if_neg (by simp),if_neg e]
   | some v=>simp
 | false =>
  show A0J c.par i a x=_;unfold A0J;by_cases e:x=i
  ·subst e;rw [if_pos rfl,hs,if_neg (by decide),if_pos rfl]
  ·rw [if_neg e];cases hx:c.par x with
   | none=>rw [if_neg (by simp),if_neg e]
   | some v=>simp
def D8i{i:Int}(h:Q7 D n c i=A5):((T4 D n c a i).lnk x).getD 0=(c.lnk x).getD 0+(if i=x then 1 else 0):=by
 have key:((A1V c i).lnk x).getD 0=(c.lnk x).getD 0+(if i=x then 1 else 0):=by
  show (A0J c.lnk i ((c.lnk i).getD 0+1) x).getD 0=_;unfold A0J;by_cases e:x=i
  ·subst e;rw [if_pos rfl,if_pos rfl];rfl
  ·rw [if_neg e,if_neg (λh=>e h.symm)];omega
 unfold T4;rw [h,cond_true];cases hs:(c.par i).isSome with
 | true=>exact key
 | false=>exact key
structure Told(D:Dev)(n a:Int)(L:List Ent)(c c':Cl):Prop where
 par:∀ x,c'.par x=if (c.par x).isSome=A5 then c.par x else if x∈L.map (·.2) then A4 a else A7
 lnk:∀ x,(c'.lnk x).getD 0=(c.lnk x).getD 0+(B3p L x:Int)
 one:∀ e∈L,e.2≠1/\kdV D n e.2≠0
 dir:∀ e∈L,kdV D n e.2=2->c.par e.2=A7/\B3p L e.2=1
def C1i{L:List Ent}:B3p (e::L) x=(if e.2=x then 1 else 0)+B3p L x:=by
 unfold B3p;by_cases h:e.2=x
 ·rw [E6W (by simpa using h),if_pos h,E6g];omega
 ·rw [E6V (by simpa using h),if_neg h];omega
def B4F{L:List Ent}(h:∀ e∈L,e.2≠x):B3p L x=0:=by
 unfold B3p;rw [List.filter_eq_nil_iff.2 λe he=>by simpa using h e he];rfl
def C4m:∀ {L:List Ent} {c:Cl},seqT D n a L c->Told D n a L c (C9P D n a c L)
 | [],c,_=>⟨λx=>by
   show c.par x=_;cases hx:c.par x with
   | none=>rw [if_neg (by simp),if_neg (by simp)]
   | some v=>simp,λx=>by show (c.lnk x).getD 0=_+((0:Nat):Int);omega,λe he=>by simp at he,λe he=>by simp at he⟩
 | e::L,c,h=>by
  obtain ⟨hb,hs⟩:=h.get;have ih:=C4m (L:=L) hs;have e1:C9P D n a c (e::L)=C9P D n a (T4 D n c a e.2) L:=rfl;rw [e1];obtain ⟨b1,b2,b3⟩:=D8h.1 hb;have aR:∀ f∈L,kdV D n f.2=2->f.2≠e.2:=λf hf hk rX=>by
   have:=(ih.dir f hf hk).1;rw [C1V hb] at this;exact absurd this (by
    cases hp:c.par f.2 with
    | none=>rw [if_neg (by simp),if_pos rX];simp
    | some v=>simp)
  refine ⟨λx=>?_,λx=>?_,λf hf=>?_,λf hf hk=>?_⟩
  ·rw [ih.par,C1V hb];cases hp:c.par x with
   | some v=>simp
   | none =>
    by_cases e2:x=e.2
    ·subst e2;simp
    ·rw [if_neg (by simp [e2])];by_cases h3:x∈L.map (·.2)
     ·rw [E6N,if_pos h3,if_neg (by simp),if_pos (E59 _ h3)]
     ·rw [E6N,if_neg h3,if_neg (by simp),if_neg (λh=>(List.mem_cons.1 h).elim e2 h3)]
  ·rw [ih.lnk,D8i hb,C1i];by_cases h:e.2=x
   ·rw [if_pos h,if_pos h];omega
   ·rw [if_neg h,if_neg h];omega
  ·rcases List.mem_cons.1 hf with rfl | hf
   ·exact ⟨b1,b2⟩
   ·exact ih.one f hf
  ·rcases List.mem_cons.1 hf with rfl | hf
   ·refine ⟨b3 hk,?_⟩;rw [C1i,if_pos rfl,B4F λg hg rX=>aR g hg (by rw [rX];exact hk) rX]
   ·obtain ⟨d1,d2⟩:=ih.dir f hf hk;have hn:=aR f hf hk;refine ⟨?_,by rw [C1i,if_neg (λh=>hn h.symm),d2]⟩;rw [C1V hb] at d1;cases hp:c.par f.2 with
    | none=>rfl
    | some v=>rw [hp] at d1;simp at d1
def C26{i:Int}(h:c'.par=c.par):Q7 D n c' i=Q7 D n c i:=by unfold Q7;rw [h]
def D3O{i:Int}(h:c'.par=c.par):(T4 D n c' a i).par=(T4 D n c a i).par:=by
 unfold T4;rw [C26 h,h];cases Q7 D n c i with
 | false=>exact h
 | true =>
  cases (c.par i).isSome with
  | true=>exact h
  | false=>show A0J c'.par i a=A0J c.par i a;rw [h]
def B7v:∀ {L:List Ent} {c c':Cl},c'.par=c.par->seqT D n a L c->seqT D n a L c'
 | [],_,_,_,_=>.nil _
 | e::L,c,c',h,hs=>.cons _ _ _ (by rw [C26 h];exact hs.get.1) (B7v (D3O h) hs.get.2)
def C9X:∀ {L:List Ent} {c:Cl} {K:List UInt8->Option Int},seqT D n a L c->(O3 D n a (c,K) L).1=C9P D n a c L
 | [],_,_,_=>rfl
 | e::L,c,K,h=>by
  have e1:J6 D n a (c,K) e=(T4 D n c a e.2,B4j K e.1 e.2):=by unfold J6;rw [h.get.1];rfl
  show (O3 D n a (J6 D n a (c,K) e) L).1=C9P D n a (T4 D n c a e.2) L;rw [e1];exact C9X h.get.2
def C9R:∀ {L:List Ent} {c:Cl} {K:List UInt8->Option Int},L.Pairwise (λe f=>e.1≠f.1)->seqT D n a L c->∀ e∈L,(O3 D n a (c,K) L).2 e.1=A4 e.2
 | [],_,_,_,_=>λe he=>by simp at he
 | e::L,c,K,hp,h=>by
  have e1:J6 D n a (c,K) e=(T4 D n c a e.2,B4j K e.1 e.2):=by unfold J6;rw [h.get.1];rfl
  obtain ⟨p1,p2⟩:=List.pairwise_cons.1 hp;intro f hf;show (O3 D n a (J6 D n a (c,K) e) L).2 f.1=A4 f.2;rw [e1];rcases List.mem_cons.1 hf with rfl | hf
  ·rw [A6y λg hg h=>p1 g hg h.symm];show B4j K f.1 f.2 f.1=A4 f.2;unfold B4j;rw [if_pos rfl]
  ·exact C9R p2 h.get.2 f hf
def D3B:∀ {L:List Ent} {c:Cl} {K:List UInt8->Option Int},L.Pairwise (λe f=>e.1≠f.1)->(∀ e∈L,K e.1=A7)->(∀ e∈L,(O3 D n a (c,K) L).2 e.1≠A7)->seqT D n a L c
 | [],_,_,_,_,_=>.nil _
 | e::L,c,K,hp,hK,h=>by
  obtain ⟨p1,p2⟩:=List.pairwise_cons.1 hp;have h0:=h e (E6e ..);have hb:Q7 D n c e.2=A5:=by
   cases hb:Q7 D n c e.2 with
   | true=>rfl
   | false =>
    have e1:J6 D n a (c,K) e=(c,K):=by unfold J6;rw [hb];rfl
    have h0:(O3 D n a (J6 D n a (c,K) e) L).2 e.1≠A7:=h0;rw [e1,A6y λg hg h=>p1 g hg h.symm] at h0;exact absurd (hK e (E6e ..)) h0
  have e1:J6 D n a (c,K) e=(T4 D n c a e.2,B4j K e.1 e.2):=by unfold J6;rw [hb];rfl
  refine .cons _ _ _ hb (D3B (K:=B4j K e.1 e.2) p2 (λf hf=>?_) λf hf=>?_)
  ·unfold B4j;rw [if_neg λh=>p1 f hf h.symm];exact hK f (E59 _ hf)
  ·have:=h f (E59 _ hf);have:(O3 D n a (J6 D n a (c,K) e) L).2 f.1≠A7:=this;rw [e1] at this;exact this
end
section
variable {D:Dev} {n:Int}
def A8W(h:G5 (l_ D) n x=A5):0<=x/\x<l_ D/\x≠0:=by
 obtain ⟨hm,h1,h2⟩:=uP.1 h;have:=(oA (b:=l_ D) (n:=n)).1;refine ⟨by omega,h2,λe=>?_⟩;rw [e,bG] at h;cases h
def B4c{l:List Bool}:(l.set i A5).getD j A5=A5↔l.getD j A5=A5\/j=i:=by
 rw [E54,E54,E63];by_cases h:i=j
 ·subst h;rw [if_pos rfl];by_cases hl:i<(l_ l)
  ·rw [if_pos hl];simp
  ·rw [if_neg hl];simp
 ·rw [if_neg h];constructor
  ·exact .inl
  ·rintro (h1 | rfl)
   ·exact h1
   ·exact absurd rfl h
def C5D(h:cR D n c x=A5):(J7 D n c x).taken=c.taken.set x.toNat A5:=by rw [C5E h]
def C5C:cR D n c x=A5↔G5 (l_ D) n x=A5/\c.taken.getD x.toNat A5=A6:=by
 unfold cR;rw [E53,E6M]
def D5Q(h:c'.taken=c.taken):cR D n c' x=cR D n c x:=by unfold cR;rw [h]
def D5R(h:c'.taken=c.taken):(J7 D n c' x).taken=(J7 D n c x).taken:=by
 unfold J7;rw [D5Q h];cases cR D n c x with
 | false=>exact h
 | true=>show c'.taken.set _ _=c.taken.set _ _;rw [h]
def A4S:∀ {L:List Int} {c c':Cl},c'.taken=c.taken->J5 D n c' L=J5 D n c L
 | [],_,_,_=>rfl
 | x::L,c,c',h=>by
  unfold J5;rw [D5Q h,A4S (D5R h),A4S h]
def D0p:∀ {L:List Int} {c c':Cl},c'.taken=c.taken->(cE D n c' L).taken=(cE D n c L).taken
 | [],_,_,h=>h
 | x::L,c,c',h=>by
  show (cE D n (J7 D n c' x) L).taken=(cE D n (J7 D n c x) L).taken;exact D0p (D5R h)
def dS:J5 D n c (x::L)=x::L↔cR D n c x=A5/\J5 D n (J7 D n c x) L=L:=by
 show (if cR D n c x=A5 then x::J5 D n (J7 D n c x) L else J5 D n c L)=x::L↔_;cases h:cR D n c x with
 | true=>rw [if_pos rfl];simp
 | false =>
  rw [if_neg (by decide)];constructor
  ·intro e;have:=(keptL_sub (D:=D) (n:=n) (c:=c) (L:=L)).length_le;rw [e] at this;simp at this;omega
  ·rintro ⟨h,_⟩;cases h
def A8X:∀ {L:List Int} {c:Cl},J5 D n c L=L↔L.Nodup/\∀ x∈L,G5 (l_ D) n x=A5/\c.taken.getD x.toNat A5=A6
 | [],c=>by simp [J5]
 | x::L,c=>by
  rw [dS,A8X,List.nodup_cons];constructor
  ·rintro ⟨hb,hn,hL⟩;obtain ⟨b1,b2⟩:=C5C.1 hb;rw [C5D hb] at hL;refine ⟨⟨λhx=>?_,hn⟩,λy hy=>?_⟩
   ·have:=(hL x hx).2;rw [B4c.2 (.inr rfl)] at this;cases this
   ·rcases List.mem_cons.1 hy with rfl | hy
    ·exact ⟨b1,b2⟩
    ·obtain ⟨h1,h2⟩:=hL y hy;refine ⟨h1,?_⟩;cases ht:c.taken.getD y.toNat A5 with
     | false=>rfl
     | true=>rw [B4c.2 (.inl ht)] at h2;cases h2
  ·rintro ⟨⟨hx,hn⟩,hL⟩;obtain ⟨b1,b2⟩:=hL x (E6e ..);have hb:=C5C.2 ⟨b1,b2⟩;refine ⟨hb,hn,λy hy=>?_⟩;obtain ⟨h1,h2⟩:=hL y (E59 _ hy);refine ⟨h1,?_⟩;rw [C5D hb];cases ht:(c.taken.set x.toNat A5).getD y.toNat A5 with
   | false=>rfl
   | true =>
    rcases B4c.1 ht with h | h
    ·rw [h] at h2;cases h2
    ·have e1:=A8W b1;have e2:=A8W h1;have:y=x:=by omega
     rw [this] at hy;exact absurd hy hx
def B7c:∀ {L:List Int} {c:Cl},J5 D n c L=L->∀ j:Nat,(cE D n c L).taken.getD j A5=A5↔c.taken.getD j A5=A5\/(j:Int)∈L
 | [],c,_,j=>by simp [cE]
 | x::L,c,h,j=>by
  obtain ⟨hb,hL⟩:=dS.1 h;have ih:=B7c hL j;have hx:=A8W (C5C.1 hb).1;show (cE D n (J7 D n c x) L).taken.getD j A5=A5↔_;rw [ih,C5D hb,B4c,E68];constructor
  ·rintro ((h1 | rfl) | h1)
   ·exact .inl h1
   ·exact .inr (.inl (by omega))
   ·exact .inr (.inr h1)
  ·rintro (h1 | h1 | h1)
   ·exact .inl (.inl h1)
   ·exact .inl (.inr (by omega))
   ·exact .inr h1
def B3U{c:Cl}:∀ {L M:List Int} {c:Cl},J5 D n c (L++M)=L++M↔J5 D n c L=L/\J5 D n (cE D n c L) M=M
 | [],M,c=>by
  show J5 D n c M=M↔_;simp [J5,cE]
 | x::L,M,c=>by
  rw [E6Y,dS,dS,B3U (c:=c)];exact ⟨λ⟨h1,h2,h3⟩=>⟨⟨h1,h2⟩,h3⟩,λ⟨⟨h1,h2⟩,h3⟩=>⟨h1,h2,h3⟩⟩
variable {no:Int}
def D0F{k:Int}{dr:List Int}(vA:Z0 D n k dr=A5)(hX:tP D n k dr=d::t)(hb:∀ b∈L,G5 (l_ D) n b=A5)
  {b:Int} (hL:b∈L) {s:Slt} (hs:s∈J1 (blk D b)):isL D n k dr ((b,s.1,s.2.2),s.2.1)=atH D (d::t) (b,s):=by
 have hz:=(A8W (hb b hL)).2.2;rw [Bool.eq_iff_iff];unfold isL;rw [decide_eq_true_iff,B4w];show A8Z D n k dr s.2.1=A4 (b,s.1,s.2.2)↔_;unfold A8Z;rw [hX];constructor
 ·intro h;by_cases c:Z0 D n k dr=A5/\G5 (l_ D) n (R6 (d::t) s.2.1)=A5
  ·rw [if_pos c] at h;cases hf:T9 (blk D (R6 (d::t) s.2.1)) s.2.1 with
   | none=>rw [hf] at h;cases h
   | some y =>
    rw [hf] at h;obtain ⟨e1,e2⟩:=Prod.mk.inj (Option.some.inj h);obtain ⟨e3,e4⟩:=Prod.mk.inj e2;refine ⟨e1,?_⟩;rw [xY e1 hz,<-e1,hf];have hn:=A7y (e:=7) (k:=0) hf
    congr 1
    exact Prod.ext e3 (Prod.ext hn e4)
  ·rw [if_neg c] at h;cases h
 ·rintro ⟨h1,h2⟩;rw [xY h1 hz] at h2;rw [if_pos ⟨vA,by rw [h1];exact hb b hL⟩,h1,h2];rfl
def D8F:C5i D L=(xI D L).map λe=>((e.1,e.2.1,e.2.2.2),e.2.2.1):=by
 unfold C5i xI B9Z;rw [List.map_flatMap]
 congr 1
 funext b
 rw [List.map_map];rfl
def C6B{e:Spt}:e∈xI D L↔e.1∈L/\e.2∈J1 (blk D e.1):=by
 unfold xI;rw [List.mem_flatMap];constructor
 ·rintro ⟨b,hb,he⟩;obtain ⟨s,hs,rfl⟩:=List.mem_map.1 he;exact ⟨hb,hs⟩
 ·rintro ⟨h1,h2⟩;exact ⟨e.1,h1,List.mem_map.2 ⟨e.2,h2,rfl⟩⟩
def D7y{k:Int}{dr:List Int}(vA:Z0 D n k dr=A5)(hX:tP D n k dr=d::t)(hB:S7 D n k dr=J4 t (C5 d)) :
  gQ D n k dr=S5 D (d::t) (J4 t (C5 d)):=by
 have hb:∀ b∈J4 t (C5 d),G5 (l_ D) n b=A5:=by
  intro b hb;rw [<-hB] at hb;unfold S7 at hb;rw [vA] at hb;exact (List.mem_filter.1 hb).2
 have e1:T3 D n k dr (qV D n k dr)=P5 D (d::t) (xI D (J4 t (C5 d))):=by
  unfold T3 P5 qV;rw [hB,D8F,List.filter_map,List.map_map];have:(xI D (J4 t (C5 d))).filter ((isL D n k dr)∘λe=>((e.1,e.2.1,e.2.2.2),e.2.2.1))=(xI D (J4 t (C5 d))).filter (atH D (d::t)) :=
   List.filter_congr λe he=>by
    obtain ⟨h1,h2⟩:=C6B.1 he;exact D0F vA hX hb h1 h2
  rw [this];rfl
 unfold gQ S5;rw [e1];refine List.map_congr_left λs hs=>?_
 rw [dT] at hs;have hm:=(oN (λno h=>A1B h)).1 hs;have hz:=A1B hm.1
 congr 1
 unfold D4M B3G A8Z;rw [hX,if_pos ⟨vA,hb _ hm.1⟩,xY rfl hz];cases T9 (blk D (R6 (d::t) s)) s with
 | none=>rfl
 | some y=>rfl
def D5v{k:Int}{dr:List Int}(vA:Z0 D n k dr=A5)(hX:tP D n k dr=d::t)(hB:S7 D n k dr=J4 t (C5 d)) :
  dO D n k dr (qV D n k dr)=[]↔∀ b∈J4 t (C5 d),∀ s∈J1 (blk D b),atH D (d::t) (b,s)=A5:=by
 have hb:∀ b∈J4 t (C5 d),G5 (l_ D) n b=A5:=by
  intro b hb;rw [<-hB] at hb;unfold S7 at hb;rw [vA] at hb;exact (List.mem_filter.1 hb).2
 unfold dO qV;rw [hB,D8F,List.map_eq_nil_iff,List.filter_eq_nil_iff];constructor
 ·intro h b h1 s h2;have:=h ((b,s.1,s.2.2),s.2.1) (List.mem_map.2 ⟨(b,s),C6B.2 ⟨h1,h2⟩,rfl⟩);rw [D0F vA hX hb h1 h2] at this;simpa using this
 ·intro h x hx;obtain ⟨e,he,rfl⟩:=List.mem_map.1 hx;obtain ⟨h1,h2⟩:=C6B.1 he;rw [D0F vA hX hb h1 h2];simpa using h e.1 h1 e.2 h2
end
end Go.Proofs.YtbipebfdappanaaGreat
