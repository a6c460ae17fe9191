/- What the proof of this claim leans on, part 6. -/
import Derived.Test.YtbnkgnfhgbhblaaGreatFMendCountsp5
set_option linter.all false
set_option maxRecDepth 100000
open Go Go.Esc
noncomputable section
open Bool renaming and_eq_true→E5S,and_false→E6T,false_and→E51,not_eq_true'→E6I,not_false→E6Q,not_true→E6V,or_eq_true→E6S,true_and→E55,false→A6,true→A5
open Int renaming eq_ofNat_of_zero_le→E6C,toNat_natCast→E6c
open IntKind renaming wrap→E5U
open List renaming all_cons→E6B,all_eq_true→E6M,append_assoc→E5Y,append_nil→E6m,cons_append→E6q,drop_eq_getElem_cons→E5X,drop_of_length_le→E56,drop_zero→E6a,getD_eq_getElem?_getD→E5Z,getElem?_append_right→E57,getElem?_cons_succ→E6F,getElem?_eq_getElem→E5P,getElem?_eq_none→E6x,getElem_mem→E6v,length_append→E5T,length_cons→E52,length_drop→E6O,length_nil→E6h,length_replicate→E6n,length_set→E6o,mem_cons_of_mem→E6f,mem_cons_self→E6g,mem_of_getElem?→E6j,mem_or_eq_of_mem_set→E6A,nil_append→E59,range→E6p,range'→E6y,replicate→E5R,set_cons_succ→E6H,take_of_length_le→E53,take_succ_eq_append_getElem→E58
open Nat renaming add_zero→E6E,le_refl→E5V,le_trans→E6w,zero_add→E6e
open Option renaming bind_some→E54,getD_none→E6L,getD_some→E6z,isSome_none→E6i,isSome_some→E6b,none→A7,some→A4
open Go.Proofs.Tryz renaming prog→A8
namespace Go.Proofs.YtbnkgnfhgbhblaaGreat
section
variable {D:Dev} {n m:Int} {g:B5} {v:Val} {Q:Nat->Prop} {H:B5} {c:Cl} {cs:List Cell}
def IsRC.lost (k:IsRC n Q H cs c) (a:Int):IsRC n Q H (cs.set 5 (.i .i64 a)) { c with lost:=a }:=by
 obtain ⟨xr,xi,xt,xb,xm,xl,xy,ys,rfl,k⟩:=k;exact ⟨xr,xi,xt,xb,xm,xl,xy,ys,rfl,⟨k.row,k.ino,k.tak,k.blk,k.mad,k.mds,k.tol,k.par,k.pr,k.pi,k.pt,k.pb,k.pm,k.pl,k.py⟩⟩
def IsRC.atLost (k:IsRC n Q H cs c):cs[5]?=A4 (.i .i64 c.lost):=by
 obtain ⟨xr,xi,xt,xb,xm,xl,xy,ys,rfl,k⟩:=k;rfl
def D7o {X:List Int} {K:List UInt8->Option Int} {kl:W8} (KR:KeptR D X K kl) {no:Int} {k:Nat} {s:List UInt8} {i:Int} (hi:1<=i):A37 D X no K (k,(s,i))=(atH D X (no,(k,(s,i)))&&decide (s∈kl)):=by
 unfold A37;cases ha:atH D X (no,(k,(s,i))) with
 | false=>rfl
 | true =>
  rw [E55,E55];have h1:hmS D X s=A4 (k,(s,i)):=by
   unfold atH at ha;simp only [E5S,decide_eq_true_eq] at ha;exact ha.2
  have h2:B1V D X s=i:=by unfold B1V;rw [h1];rfl
  show decide ((K s).getD 0=i)=decide (s∈kl);cases hK:K s with
  | none =>
   have:s ∉ kl:=λhm=>by have:=(KR.mem s).1 hm;rw [hK] at this;cases this
   rw [decide_eq_false this];simp;omega
  | some a =>
   have hm:s∈kl:=(KR.mem s).2 (by rw [hK];rfl);have ea:=KR.val s a hK;rw [h2] at ea;rw [decide_eq_true hm];simp [ea]
def D9v {s:List UInt8} {i:Int} (h:A2W s i=A5):1<=i:=by
 unfold A2W at h;simp only [E5S,decide_eq_true_eq] at h;omega
def E4q {lo:Nat} {P:Nat->Prop} {h:B5} {d:Int} {t L:List Int} {x6 x11 bid kid q M0 i:Nat} {x12:Val} {kl:W8} {KK:List UInt8->Option Int} (hv:Has h v 256 D.length (D5 D)) (hD:okD D) (ht:t.length=32) (h5:d<=5) (hi:i<L.length) (cU:L[i]≠0)
  (e6:h.length<=x6) (n2:x6≠x11) (n4:x6≠bid) (n5:x6≠kid) (KR:KeptR D (d::t) KK kl) (hkl:kl.length<=300) :
  ∀ (e k M:Nat) (s:Cl × List UInt8) (cs:List Cell) (y:Cell) (H:B5),k+e=7->e<M->Grows h H->IsRC n Q H cs s.1->¬ Q x6->lo<=H.length->(∀ id,nmC y=A4 id->lo<=id/\id≠x6/\id≠x11/\id≠bid/\id≠kid)->y.isX=A6->Has H (.c y) 1 256 (B4 s.2)->s.2.length=256->0<=s.1.lost/\s.1.lost+e<=900000 ->
   rd H x6=rT cs->rd H x11=rT (encI (d::t))->rd H bid=rT (encI L)->rd H kid=rT (encS kl) ->
  ∃ cs' y' H' M',A5g q M0 M v (pV x6 0) (pV x11 0) x12 (sV bid 0 L.length 1) (sV kid 0 kl.length 1) (iV (i:Int)) (.c y) (iV (k:Int)) H =
    A5g q M0 (M'+1) v (pV x6 0) (pV x11 0) x12 (sV bid 0 L.length 1) (sV kid 0 kl.length 1) (iV (i:Int)) (.c y') (iV 7) H' /\
   Grows h H'/\H.length<=H'.length/\IsRC n Q H' cs' (V3 D (d::t) L[i] KK s (N9 (blk D L[i]) e k)).1/\(∀ id,nmC y'=A4 id->lo<=id/\id≠x6/\id≠x11/\id≠bid/\id≠kid)/\y'.isX=A6/\Has H' (.c y') 1 256 (B4 (V3 D (d::t) L[i] KK s (N9 (blk D L[i]) e k)).2) /\
   rd H' x6=rT cs'/\(∀ j,j<H.length->j≠x6->rd H' j=rd H j):=by
 intro e
 induction e with
 | zero =>
  intro k M s cs y H hk hM G K nq hlow hy hyx hY oL hlo r6 r11 rb rk;obtain ⟨M,rfl⟩:∃ M',M=M'+1:=⟨M-1,by omega⟩;have ek:k=7:=by omega
  subst ek;exact ⟨cs,y,H,M,rfl,G,E5V _,K,hy,hyx,hY,r6,λ_ _ _=>rfl⟩
 | succ e ih =>
  intro k M s cs y H hk hM G K nq hlow hy hyx hY oL hlo r6 r11 rb rk;obtain ⟨M,rfl⟩:∃ M',M=M'+1:=⟨M-1,by omega⟩;have k7:k<7:=by omega
  have c0:(k:Int)<7:=by omega
  have w1:=D3 (show k+1<9223372036854775808 by omega);have hvH:=hv.grows G;have aL:D9 1 (sV bid 0 L.length 1) (iV (i:Int))=A4 (pV bid i):=by rw [C9 hi];simp
  have lL:∀ K:B5,rd K bid=rT (encI L)->B8 K (pV bid i)=A4 (iV L[i]):=λK hK=>B9 hK (by rw [I1,E5P hi];rfl) rfl
  obtain ⟨u,t1,b1,b2,b3,_⟩:=A1L (no:=L[i]) hvH hD;obtain ⟨K1,hK1⟩:∃ K1,K1=H++t1:=⟨_,rfl⟩;rw [<-hK1] at b1 b3;have GK1:Grows H K1:=by rw [hK1];exact U2 Grows.rfl' b2
  have hRd:=zD (k:=k) b3 (O9 hD) k7;have el2:(X1 (S7 (blk D L[i]) k)).length=2:=by cases S7 (blk D L[i]) k<;>rfl
  obtain ⟨K2,hK2⟩:∃ K2,K2=K1++[rT (X1 (S7 (blk D L[i]) k))]:=⟨_,rfl⟩;have s2:E5 (K1++[rT [Cell.s [],o0]]) 2 (pV K1.length 0) (.a (X1 (S7 (blk D L[i]) k)))=A4 K2:=by
   rw [storeAll (n:=2) (cs:=[Cell.s [],o0]) (by rw [E9];rfl) rfl el2,S3,hK2];rfl
  have G2:Grows H K2:=by rw [hK2];exact GK1.new _
  have E4L:=G2.len;have same2:∀ j,j<H.length->rd K2 j=rd H j:=λj hj=>by
   obtain ⟨tt,hh⟩:=G2.1;rw [<-hh,E1 hj]
  cases hr2:S7 (blk D L[i]) k with
  | none =>
   rw [hr2] at hRd s2;rw [zB hr2];obtain ⟨cs',y',H',M',f1,f2,f3,f4,f5,f6,f7,f8,f9⟩:=ih (k+1) M s cs y K2 (by omega) (by omega) (G.trans' G2) (K.grows G2) nq (by omega) hy hyx (hY.grows G2) oL ⟨hlo.1,by omega⟩ (G2.rd r6) (G2.rd r11) (G2.rd rb) (G2.rd rk);refine ⟨cs',y',H',M',?_,f2,by omega,f4,f5,f6,f7,f8,λj hj T1=>by rw [f9 j (by omega) T1,same2 j hj]⟩;rw [oH];simp only [esc,E6Q,c0,aL,lL H rb,b1,hRd,E6i,s2,bR,w1];exact f1
  | some x =>
   obtain ⟨nm,ii⟩:=x;rw [hr2] at hRd s2;have hnl:nm.length<=24:=A1M (x:=(nm,ii)) hr2;have E33:A2W nm ii=A5:=D0V (x:=(nm,ii)) hr2;have B6f:=D9v E33;rw [zC hr2];have ec:∀ T,V3 D (d::t) L[i] KK s ((k,(nm,ii))::T)=V3 D (d::t) L[i] KK (gT D (d::t) L[i] KK s (k,(nm,ii))) T:=λT=>rfl
   rw [ec];have hkE:=D7o KR (no:=L[i]) (k:=k) (s:=nm) B6f;have C0W:=D8t (X:=d::t) cU hr2;have lX:D4 K2 33 (pV x11 0)=A4 (.a (encI (d::t))):=C7 (G2.rd r11) (by rw [B7];simp [ht]);have rE:rd K2 K1.length=rT [.s nm,.i .i64 ii]:=by rw [hK2,E9,hr2];rfl
   have lnm:B8 K2 (pV K1.length 0)=A4 (.c (.s nm)):=B9 rE rfl rfl;have lE:D4 K2 2 (pV K1.length 0)=A4 (.a [.s nm,.i .i64 ii]):=C7 rE rfl;have hAt:=D5B (h:=K2) (d:=d) (t:=t) (nm:=nm) (hvH.grows G2) hD ht h5 (by omega);have lL2:=lL K2 (G2.rd rb);have hIn:=E3m (s:=nm) (h:=K2) (x:=sV kid 0 kl.length 1) (nv:=kl.length) (l:=kl) (Has.row (G2.rd rk) (by rw [N8];omega) (B8H _)) (by omega);cases hke:A37 D (d::t) L[i] KK (k,(nm,ii)) with
   | true =>
    rw [hke] at hkE;have hkE:=hkE.symm;rw [E5S,decide_eq_true_eq] at hkE;obtain ⟨ha,hm⟩:=hkE;rw [ha] at C0W;simp only [E5S,decide_eq_true_eq] at C0W;obtain ⟨⟨g1,g2⟩,g3⟩:=C0W;rw [decide_eq_true hm] at hIn;have es:gT D (d::t) L[i] KK s (k,(nm,ii))=(s.1,J7 s.2 (L9 k) (Z1 nm ii)):=by unfold gT;rw [hke];rfl
    rw [es];have hB:=B2u (h:=K2) E33;obtain ⟨K3,hK3⟩:∃ K3,K3=K2++[rT (B4 (Z1 nm ii))]:=⟨_,rfl⟩;rw [<-hK3] at hB;have lK3:K3.length=K2.length+1:=by rw [hK3];simp
    have G3:Grows H K3:=by rw [hK3];exact G2.new _
    have hEl:=Z2 (s:=nm) (n:=ii);have hL:=oS (v:=.c y) (u:=sV K2.length 0 32 1) (nv:=256) (nu:=32) (l:=s.2) (data:=Z1 nm ii) (h:=K3) (hY.grows G3) (by rw [hK3];exact Has.row (rw:=A5) (by rw [E9];rfl) (by rw [A9,hEl]) (G9 _)) (a:=((32+32*k:Nat):Int)) (by omega) (by omega);have eL:A9F s.2 ((32+32*k:Nat):Int) (Z1 nm ii)=J7 s.2 (L9 k) (Z1 nm ii):=by rw [A1H (by rw [hEl];omega)];rfl
    rw [eL,oL] at hL;obtain ⟨K4,hK4⟩:∃ K4,K4=K3++[rT (B4 (J7 s.2 (L9 k) (Z1 nm ii)))]:=⟨_,rfl⟩;rw [<-hK4] at hL;have G4:Grows H K4:=by rw [hK4];exact G3.new _
    have lK4:K4.length=K3.length+1:=by rw [hK4];simp
    have same4:∀ j,j<H.length->rd K4 j=rd H j:=λj hj=>by
     obtain ⟨tt,hh⟩:=G4.1;rw [<-hh,E1 hj]
    have nl:(J7 s.2 (L9 k) (Z1 nm ii)).length=256:=by rw [P9 (by rw [hEl,oL];unfold L9;omega)];exact oL
    have b6:=C8 r6;have b11:=C8 r11;have bb:=C8 rb;have bk:=C8 rk;obtain ⟨cs',y',H',M',f1,f2,f3,f4,f5,f6,f7,f8,f9⟩:=ih (k+1) M (s.1,J7 s.2 (L9 k) (Z1 nm ii)) cs (.sl K3.length 0 256 1) K4 (by omega) (by omega) (G.trans' G4) (K.grows G4) nq (by omega) (λid hid=>by cases hid;exact ⟨by omega,by omega,by omega,by omega,by omega⟩) rfl (by rw [hK4];exact Has.row (rw:=A5) (by rw [E9];rfl) (by rw [A9,nl]) (G9 _)) nl ⟨hlo.1,by have:=hlo.2;dsimp only;omega⟩ (G4.rd r6) (G4.rd r11) (G4.rd rb) (G4.rd rk);refine ⟨cs',y',H',M',?_,f2,by omega,f4,f5,f6,f7,f8,λj hj T1=>by rw [f9 j (by omega) T1,same4 j hj]⟩;have wm:E5U .i64 (32*(k:Int))=32*(k:Int):=wrap_i64 (by omega) (by omega);have wa:E5U .i64 (32+32*(k:Int))=((32+32*k:Nat):Int):=by rw [wrap_i64 (by omega) (by omega)];omega
    rw [oH];generalize encI (d::t)=X at *;generalize R8 (d::t) nm=hb at *;generalize B5Y D (d::t) nm=sl at *;generalize (hmS D (d::t) nm).isSome=hm2 at *;subst g1;simp only [esc,E6V,c0,aL,lL H rb,b1,hRd,E6b,s2,lX,lnm,hAt,lL2,g2,g3,hIn,wm,wa,lE,hB,hL,bR,w1,eq_self];exact f1
   | false =>
    have es:gT D (d::t) L[i] KK s (k,(nm,ii))=({ s.1 with lost:=s.1.lost+1 },s.2):=by unfold gT;rw [hke];rfl
    rw [es];rw [hke] at hkE;have wl:E5U .i64 (s.1.lost+1)=s.1.lost+1:=wrap_i64 (by omega) (by omega);have q6:=G2.rd r6;have c8:=K.length;have l5:B8 K2 (pV x6 5)=A4 (iV s.1.lost):=B9 q6 K.atLost rfl;obtain ⟨K3,hK3⟩:∃ K3,K3=K2.set x6 (rT (cs.set 5 (.i .i64 (s.1.lost+1)))):=⟨_,rfl⟩;have s5:I5 K2 (pV x6 5) (iV (s.1.lost+1))=A4 K3:=by rw [G8 q6 (by omega),hK3]
    have lK3:K3.length=K2.length:=by rw [hK3];simp
    have o3:∀ j,j≠x6->rd K3 j=rd K2 j:=λj hj=>by rw [hK3,B6 (Ne.symm hj)]
    have b6:=C8 r6;have hY3:Has K3 (.c y) 1 256 (B4 s.2):=by rw [hK3];exact has_set (hY.grows G2) (.inr λhh=>(hy _ hh).2.1 rfl)
    obtain ⟨cs',y',H',M',f1,f2,f3,f4,f5,f6,f7,f8,f9⟩:=ih (k+1) M ({ s.1 with lost:=s.1.lost+1 },s.2) (cs.set 5 (.i .i64 (s.1.lost+1))) y K3 (by omega) (by omega) (by rw [hK3];exact (G.trans' G2).set e6 _) (by rw [hK3];exact ((K.grows G2).set (.inr nq)).lost _) nq (by omega) hy hyx hY3 oL ⟨by have:=hlo.1;dsimp only;omega,by have:=hlo.2;dsimp only;omega⟩ (by rw [hK3];exact C6 (by omega)) (by rw [o3 _ (Ne.symm n2)];exact G2.rd r11) (by rw [o3 _ (Ne.symm n4)];exact G2.rd rb) (by rw [o3 _ (Ne.symm n5)];exact G2.rd rk);refine ⟨cs',y',H',M',?_,f2,by omega,f4,f5,f6,f7,f8,λj hj T1=>by rw [f9 j (by omega) T1,o3 j T1,same2 j hj]⟩;rw [oH];generalize encI (d::t)=X at *;generalize R8 (d::t) nm=hb at *;generalize B5Y D (d::t) nm=sl at *;generalize (hmS D (d::t) nm).isSome=hm2 at *;cases hm2 with
    | false =>
     simp only [esc,E6V,c0,aL,lL H rb,b1,hRd,E6b,s2,lX,lnm,hAt,l5,wl,s5,bR,w1];exact f1
    | true =>
     by_cases c1:hb=L[i]
     ·by_cases c2:sl=(k:Int)
      ·have hm3:decide (nm∈kl)=A6:=by
        have hat:atH D (d::t) (L[i],(k,(nm,ii)))=A5:=by rw [<-C0W];simp [c1,c2]
        rw [hat,E55] at hkE;exact hkE.symm
       rw [hm3] at hIn;simp only [esc,E6V,c0,aL,lL H rb,b1,hRd,E6b,s2,lX,lnm,hAt,lL2,c1,c2,hIn,l5,wl,s5,bR,w1,eq_self];exact f1
      ·simp only [esc,E6V,c0,aL,lL H rb,b1,hRd,E6b,s2,lX,lnm,hAt,lL2,c1,c2,l5,wl,s5,bR,w1,eq_self];exact f1
     ·simp only [esc,E6V,c0,aL,lL H rb,b1,hRd,E6b,s2,lX,lnm,hAt,lL2,c1,l5,wl,s5,bR,w1];exact f1
end
def kM (o:W8) (x:List UInt8):Bool:=match o.getLast? with | none=>A5 | some y=>N2 y x
def jC (o:W8) (a:Option (List UInt8)) (x:List UInt8):Option (List UInt8) :=
 bif kM o x then (match a with | none=>A4 x | some y=>bif N2 x y then A4 x else A4 y) else a
def A5o (o:W8) (l:W8) (a:Option (List UInt8)):Option (List UInt8):=l.foldl (jC o) a
def B4D {v:Val} {nv q m id:Nat} {l o:W8} {h:B5} (hv:Has h v 1 nv (encS l)) (hn:l.length=nv) (h62:nv<1073741824) (hb:∀ x∈l,x.length<9223372036854775807) (hr:rd h id=rT (encS o)) (hol:o.length<9223372036854775808) (hob:∀ x∈o,x.length<9223372036854775807) :
  ∀ (e i m2:Nat) (a:Option (List UInt8)),i+e=nv->e<m2 ->
  B8e q m m2 v (sV id 0 o.length 1) (bV a.isSome) (.c (.s (a.getD []))) (iV i) h =
   match A5o o (l.drop i) a with
   | none=>A4 (sV id 0 o.length 1,h)
   | some y=>bnd (kV (h++[rT [.s y]]) 1 (sV id 0 o.length 1) (sV h.length 0 1 1)) λp=>A8a q m v p.1 p.2
 | e,i,0,a,_,hm=>by omega
 | 0,i,m2+1,a,hi,hm=>by
  have e0:i=nv:=by omega
  subst e0;have c0:¬ (i:Int)<i:=by omega
  rw [A80,E56 (by omega)];unfold A5o;rw [List.foldl_nil];cases a with
  | none=>simp only [esc,hv.len,c0,E6i]
  | some y =>
   have ef:E6 [Cell.s []] [(0,1,.c (.s y))]=A4 [.s y]:=rfl;simp only [esc,hv.len,c0,E6b,E6z,ef]
 | e+1,i,m2+1,a,hi,hm=>by
  have ih:=λa=>B4D (q:=q) (m:=m) hv hn h62 hb hr hol hob e (i+1) m2 a (by omega) (by omega)
  have c0:(i:Int)<nv:=by omega
  have hlen:=hv.len;obtain ⟨jd,off,ev,hjd,k1,k2⟩:=hv.sl (by omega);have hx:=k1 i (.s l[i]) (by rw [A56,E5P (by omega)];rfl);have eb:D9 1 v (iV (i:Int))=A4 (pV jd (off+i)):=by rw [ev,C9 (by omega)];simp
  have w1:=D3 (show i+1<9223372036854775808 by omega);have hxb:=hb l[i] (E6v (by omega));have ed:A5o o (l.drop i) a=A5o o (l.drop (i+1)) (jC o a l[i]):=by
   unfold A5o;rw [E5X (by omega:i<l.length),List.foldl_cons]
  rw [ed,A80];generalize l[i]=s at *;rcases Nat.eq_zero_or_pos o.length with h0 | h0
  ·have eo:o=[]:=List.eq_nil_of_length_eq_zero h0;subst eo;have ea:kM [] s=A5:=rfl;have c1:¬ (0:Int)<((0:Nat):Int):=by omega
   cases a with
   | none =>
    have es:jC [] A7 s=A4 s:=rfl;have ih:=ih (A4 s);rw [es];simp only [E6b,E6z,E6i,E6L] at ih ⊢;simp only [esc,hlen,c0,c1,eb,hx,aT,w1] at ih ⊢;exact ih
   | some y =>
    have hL:=λh=>B6s (s:=s) (t:=y) hxb h
    cases cb:N2 s y with
    | true =>
     have es:jC [] (A4 y) s=A4 s:=by unfold jC;rw [ea,cond_true];simp only;rw [cb,cond_true]
     have ih:=ih (A4 s);rw [cb] at hL;rw [es];simp only [E6b,E6z] at ih ⊢;simp only [esc,hlen,c0,c1,eb,hx,hL,aT,w1] at ih ⊢;exact ih
    | false =>
     have es:jC [] (A4 y) s=A4 y:=by unfold jC;rw [ea,cond_true];simp only;rw [cb,cond_false]
     have ih:=ih (A4 y);rw [cb] at hL;rw [es];simp only [E6b,E6z] at ih ⊢;simp only [esc,hlen,c0,c1,eb,hx,hL,aT,w1] at ih ⊢;exact ih
  ·have c1:(0:Int)<(o.length:Nat):=by omega
   have w2:E5U .i64 ((o.length:Int)-1)=((o.length-1:Nat):Int):=by rw [wrap_i64 (by omega) (by omega)];omega
   have eg:o.getLast?=A4 o[o.length-1]:=by rw [List.getLast?_eq_getElem?,E5P (by omega)]
   have ea2:D9 1 (sV id 0 o.length 1) (iV ((o.length-1:Nat):Int))=A4 (pV id (o.length-1)):=by rw [C9 (by omega)];simp
   have hy:B8 h (pV id (o.length-1))=A4 (.c (.s o[o.length-1])):=B9 hr (by rw [A56,E5P (by omega)];rfl) rfl;have hL:=λh=>B6s (s:=o[o.length-1]) (t:=s) (hob _ (E6v (by omega))) h
   have eab:kM o s=N2 o[o.length-1] s:=by unfold kM;rw [eg]
   generalize o[o.length-1]=z at *;generalize o.length-1=k at *;cases ca:N2 z s with
   | false =>
    rw [ca] at hL eab;have es:jC o a s=a:=by unfold jC;rw [eab,cond_false]
    rw [es];have ih:=ih a;simp only [esc,hlen,c0,c1,w2,ea2,hy,eb,hx,hL,aT,w1] at ih ⊢;exact ih
   | true =>
    rw [ca] at hL eab;cases a with
    | none =>
     have es:jC o A7 s=A4 s:=by unfold jC;rw [eab,cond_true]
     have ih:=ih (A4 s);rw [es];simp only [E6b,E6z,E6i,E6L] at ih ⊢;simp only [esc,hlen,c0,c1,w2,ea2,hy,eb,hx,hL,aT,w1] at ih ⊢;exact ih
    | some y =>
     have hL2:=λh=>B6s (s:=s) (t:=y) hxb h
     cases cb:N2 s y with
     | true =>
      have es:jC o (A4 y) s=A4 s:=by unfold jC;rw [eab,cond_true];simp only;rw [cb,cond_true]
      have ih:=ih (A4 s);rw [cb] at hL2;rw [es];simp only [E6b,E6z] at ih ⊢;simp only [esc,hlen,c0,c1,w2,ea2,hy,eb,hx,hL,hL2,aT,w1] at ih ⊢;exact ih
     | false =>
      have es:jC o (A4 y) s=A4 y:=by unfold jC;rw [eab,cond_true];simp only;rw [cb,cond_false]
      have ih:=ih (A4 y);rw [cb] at hL2;rw [es];simp only [E6b,E6z] at ih ⊢;simp only [esc,hlen,c0,c1,w2,ea2,hy,eb,hx,hL,hL2,aT,w1] at ih ⊢;exact ih
def A4a (o:W8):∀ (l:W8) (y:List UInt8),∃ z,A5o o l (A4 y)=A4 z/\(z=y\/(z∈l/\kM o z=A5/\N2 z y=A5))/\∀ x∈l,kM o x=A5->N2 x z=A6
 | [],y=>⟨y,rfl,.inl rfl,by simp⟩
 | x::l,y=>by
  unfold A5o;rw [List.foldl_cons];cases ca:kM o x with
  | false =>
   have es:jC o (A4 y) x=A4 y:=by unfold jC;rw [ca,cond_false]
   obtain ⟨z,h1,h2,h3⟩:=A4a o l y;rw [es];refine ⟨z,h1,?_,λw hw haw=>?_⟩
   ·rcases h2 with h2 | ⟨h2,h4⟩
    ·exact .inl h2
    ·exact .inr ⟨E6f _ h2,h4⟩
   ·rcases List.mem_cons.1 hw with e | hw
    ·subst e;rw [ca] at haw;cases haw
    ·exact h3 w hw haw
  | true =>
   cases cb:N2 x y with
   | true =>
    have es:jC o (A4 y) x=A4 x:=by unfold jC;rw [ca,cond_true];simp only;rw [cb,cond_true]
    obtain ⟨z,h1,h2,h3⟩:=A4a o l x;rw [es];refine ⟨z,h1,.inr ?_,λw hw haw=>?_⟩
    ·rcases h2 with h2 | ⟨h2,h4,h5⟩
     ·subst h2;exact ⟨E6g ..,ca,cb⟩
     ·exact ⟨E6f _ h2,h4,mI h5 cb⟩
    ·rcases List.mem_cons.1 hw with e | hw
     ·subst e;rcases h2 with h2 | ⟨_,_,h5⟩
      ·subst h2;exact rM _
      ·cases c:N2 w z with
       | false=>rfl
       | true=>have:=mI c h5;rw [rM] at this;cases this
     ·exact h3 w hw haw
   | false =>
    have es:jC o (A4 y) x=A4 y:=by unfold jC;rw [ca,cond_true];simp only;rw [cb,cond_false]
    obtain ⟨z,h1,h2,h3⟩:=A4a o l y;rw [es];refine ⟨z,h1,?_,λw hw haw=>?_⟩
    ·rcases h2 with h2 | ⟨h2,h4⟩
     ·exact .inl h2
     ·exact .inr ⟨E6f _ h2,h4⟩
    ·rcases List.mem_cons.1 hw with e | hw
     ·subst e;rcases h2 with h2 | ⟨_,_,h5⟩
      ·subst h2;exact cb
      ·cases c:N2 w z with
       | false=>rfl
       | true=>have:=mI c h5;rw [cb] at this;cases this
     ·exact h3 w hw haw
def C2E (o:W8):∀ l:W8,(A5o o l A7=A7/\∀ x∈l,kM o x=A6)\/∃ z,A5o o l A7=A4 z/\z∈l/\kM o z=A5/\∀ x∈l,kM o x=A5->N2 x z=A6
 | []=>.inl ⟨rfl,by simp⟩
 | x::l=>by
  unfold A5o;rw [List.foldl_cons];cases ca:kM o x with
  | false =>
   have es:jC o A7 x=A7:=by unfold jC;rw [ca,cond_false]
   rw [es];rcases C2E o l with ⟨h1,h2⟩ | ⟨z,h1,h2,h3,h4⟩
   ·exact .inl ⟨h1,λw hw=>by rcases List.mem_cons.1 hw with e | hw;subst e;exact ca;exact h2 w hw⟩
   ·exact .inr ⟨z,h1,E6f _ h2,h3,λw hw haw=>by
     rcases List.mem_cons.1 hw with e | hw
     ·subst e;rw [ca] at haw;cases haw
     ·exact h4 w hw haw⟩
  | true =>
   have es:jC o A7 x=A4 x:=by unfold jC;rw [ca,cond_true]
   rw [es];obtain ⟨z,h1,h2,h3⟩:=A4a o l x;refine .inr ⟨z,h1,?_⟩;rcases h2 with h2 | ⟨h2,h4,h5⟩
   ·subst h2;exact ⟨E6g ..,ca,λw hw haw=>by
     rcases List.mem_cons.1 hw with e | hw
     ·subst e;exact rM _
     ·exact h3 w hw haw⟩
   ·exact ⟨E6f _ h2,h4,λw hw haw=>by
     rcases List.mem_cons.1 hw with e | hw
     ·subst e;cases c:N2 w z with
      | false=>rfl
      | true=>have:=mI c h5;rw [rM] at this;cases this
     ·exact h3 w hw haw⟩
def Part (l o:W8):Prop:=Up o/\(∀ x∈o,x∈l)/\∀ x∈l,kM o x=A6->x∈o
def B5Q {o:W8} {z x:List UInt8}:kM (o++[z]) x=N2 z x:=by unfold kM;simp
def E1N {o:W8} {z x:List UInt8} (ho:Up o) (ha:kM o z=A5) (hx:x∈o):N2 x z=A5:=by
 unfold kM at ha;cases hg:o.getLast? with
 | none=>rw [List.getLast?_eq_none_iff] at hg;subst hg;cases hx
 | some y =>
  rw [hg] at ha;obtain ⟨ini,rfl⟩:=List.getLast?_eq_some_iff.1 hg;rcases List.mem_append.1 hx with h | h
  ·have:=(List.pairwise_append.1 ho).2.2 x h y (by simp);exact mI this ha
  ·simp at h;subst h;exact ha
def D7G {l o:W8} {z:List UInt8} (hp:Part l o) (hz:z∈l) (ha:kM o z=A5) (hm:∀ x∈l,kM o x=A5->N2 x z=A6):Part l (o++[z]):=by
 obtain ⟨h1,h2,h3⟩:=hp;refine ⟨?_,?_,?_⟩
 ·show List.Pairwise _ _;rw [List.pairwise_append];exact ⟨h1,by simp,λx hx y hy=>by simp at hy;subst hy;exact E1N h1 ha hx⟩
 ·intro x hx;rcases List.mem_append.1 hx with h | h
  ·exact h2 x h
  ·simp at h;subst h;exact hz
 ·intro x hx hab;rw [B5Q] at hab;cases c:kM o x with
  | false=>exact List.mem_append_left _ (h3 x hx c)
  | true =>
   have k:=hm x hx c;rcases C0E x z with h | h | h
   ·rw [h] at k;cases k
   ·subst h;simp
   ·rw [h] at hab;cases hab
def D0G (l o:W8):Nat:=(l.filter (kM o)).length
def filter_lt {α:Type} {p r:α -> Bool}:∀ {l:List α} {z:α},(∀ x∈l,p x=A5->r x=A5)->z∈l->p z=A6->r z=A5->(l.filter p).length<(l.filter r).length
 | [],z,_,hz,_,_=>by cases hz
 | x::l,z,h,hz,hp,hr=>by
  have dF:∀ {l:List α},(∀ x∈l,p x=A5->r x=A5)->(l.filter p).length<=(l.filter r).length:=by
   intro l
   induction l with
   | nil=>intro _;simp
   | cons y l ih =>
    intro h;have h1:=ih λx hx=>h x (E6f _ hx)
    have h2:=h y (E6g ..);simp only [List.filter_cons];cases hy:p y with
    | true=>rw [h2 hy];simpa using h1
    | false=>cases r y<;>simp<;>omega
  have h1:=h x (E6g ..);have h':∀ y∈l,p y=A5->r y=A5:=λy hy=>h y (E6f _ hy)
  rcases List.mem_cons.1 hz with e | hz
  ·subst e;have:=dF h';simp only [List.filter_cons,hp,hr,if_true,E52];simp;omega
  ·have ih:=filter_lt h' hz hp hr;simp only [List.filter_cons];cases hx:p x with
   | true=>rw [h1 hx];simpa using ih
   | false=>cases r x<;>simp<;>omega
def D5g {l o:W8} {z:List UInt8} (hz:z∈l) (ha:kM o z=A5):D0G l (o++[z])<D0G l o:=by
 refine filter_lt (z:=z) (λx hx h=>?_) hz (by rw [B5Q,rM]) ha;rw [B5Q] at h;unfold kM at ha ⊢;cases hg:o.getLast? with
 | none=>rfl
 | some y=>rw [hg] at ha;exact mI ha h
def B4E {v:Val} {nv q:Nat} {l:W8} {g:B5} (hq:nv<q) (hv:Has g v 1 nv (encS l)) (hn:l.length=nv) (h62:nv<1073741824) (hb:∀ x∈l,x.length<9223372036854775807) :
  ∀ (f m:Nat) (o:W8) (h:B5) (id:Nat),D0G l o<=f->f<m->o.length+D0G l o<=nv->Part l o->Low g.length g h->g.length<=id->rd h id=rT (encS o) ->
  ∃ v2 h2,A8a q m v (.c (.sl id 0 o.length 1)) h=A4 (v2,h2)/\Out g.length h2 v2 1 (gX l).length (encS (gX l))
 | f,0,o,h,id,_,hm,_,_,_,_,_=>by omega
 | f,m+1,o,h,id,hf,hm,hol,hp,hlow,hid,hr=>by
  have e1:=B4D (q:=q) (m:=m) (hv.since hlow) hn h62 hb hr (by omega) (λx hx=>hb x (hp.2.1 x hx)) nv 0 q A7 (by omega) hq;rw [E6a] at e1;rw [C30];simp only [E6i,E6L] at e1;rw [show (((0:Nat):Int))=0 from rfl] at e1;rcases C2E o l with ⟨k1,k2⟩ | ⟨z,k1,k2,k3,k4⟩
  ·rw [k1] at e1;have eo:o=gX l:=E3A hp.1 (E0h l) λx=>by
    rw [B3a];exact ⟨hp.2.1 x,λhx=>hp.2.2 x hx (k2 x hx)⟩
   rw [<-eo];exact ⟨_,_,e1,by rw [N8];omega,_,rfl,hid,hr⟩
  ·rw [k1] at e1;have V7:=D5g k2 k3 (o:=o);obtain ⟨h1,a1,a2,a3,a4,a5⟩:=push (ys:=[.s z]) (sz:=1) (n:=o.length) hlow hr (by rw [N8];omega) hid rfl (by omega) (by omega);have he:encS o++[.s z]=encS (o++[z]):=by simp [encS]
   rw [he] at a2;have el:(o++[z]).length=o.length+1:=by simp
   obtain ⟨v2,h2,f1,f2⟩:=B4E hq hv hn h62 hb (f-1) m (o++[z]) h1 (h.length+1) (by omega) (by omega) (by omega) (D7G hp k2 k3 k4) a3 a4 a2;rw [el] at f1;refine ⟨v2,h2,?_,f2⟩;rw [e1];simp only [a1,M9];exact f1
def C9A {v:Val} {nv:Nat} {l:W8} {h:B5} (hv:Has h v 1 nv (encS l)) (h62:nv<1073741824) (hb:∀ x∈l,x.length<9223372036854775807) :
  B0M [v] h=A4 (sV h.length 0 (gX l).length 1,h++[rT (encS (gX l))]):=by
 have hn:l.length=nv:=by simpa [N8] using hv.length
 have key:∀ N,nv<N->∀ g,Has g v 1 nv (encS l)->∃ v2 g',A98 N [v] g=A4 (v2,g')/\Out g.length g' v2 1 (gX l).length (encS (gX l)):=by
  intro N hN g hv;have hf:D0G l []=nv:=by
   unfold D0G;have e:l.filter (kM [])=l:=List.filter_eq_self.2 λx _=>rfl
   rw [e,hn]
  obtain ⟨v2,g',f1,f2⟩:=B4E (q:=N) hN hv hn h62 hb nv N [] ((g++[rT []])++[rT []]) (g.length+1) (by omega) hN (by simp;omega)
   ⟨List.Pairwise.nil,by simp,λx _ h=>by cases h⟩ (((Low.refl (E5V _)).new _).new _) (by omega) (by simp [encS])
  rw [C4R];refine ⟨v2,g',?_,f2⟩;simpa using f1
 obtain ⟨v2,g',e,ho⟩:=key (nv+1) (by omega) (ro h) hv.ro;exact C3t e (by simpa [F7] using ho) (by simp)
def D9y:bU []=hdB:=by decide +kernel
def D88 {h:B5}:A3v [] h=A4 (sV h.length 0 256 1,h++[rT (B4 (bU []))]):=by rw [D9y];exact C9D
section
variable {D:Dev} {n m:Int} {v:Val}
def D6t {lo:Nat} {P:Nat->Prop} {h H:B5} {Q:Nat->Prop} {c:Cl} {cs:List Cell} {y:Cell} {b:List UInt8} {no:Int} {x6:Nat} (G:Grows h H) (e6:h.length<=x6) (K:IsRC n Q H cs c) (nq:¬ Q x6) (toP:∀ id,Q id->P id\/lo<=id) (hlo:lo<=H.length) (r6:rd H x6=rT cs) (hY:Has H (.c y) 1 256 (B4 b)) (hy:∀ id,nmC y=A4 id->lo<=id/\id≠x6) (hyx:y.isX=A6) (h1:c.blocks.length<=100000) (h2:c.made.length<=100000) :
  ∃ cs' H1 H2 Q',zN [.a cs,iV no,.c y] H=A4 (.a cs',H1)/\E5 H1 8 (pV x6 0) (.a cs')=A4 H2/\Grows h H2/\H.length<=H2.length/\IsRC n Q' H2 cs' (S9 c no b)/\¬ Q' x6/\(∀ id,Q' id->P id\/lo<=id)/\rd H2 x6=rT cs'/\(∀ j,j<H.length->j≠x6->rd H2 j=rd H j):=by
 have K1:IsRC n (λid=>Q id\/nmC y=A4 id) H cs c:=K.mono λ_=>.inl
 obtain ⟨cs',H1,m1,m2,m3⟩:=D4n (no:=no) K1 hY (λid hid=>.inr hid) h1 h2 hyx;have q6:=m2.rd r6;have b6:=C8 r6;obtain ⟨H2,hH2⟩:∃ H2,H2=H1.set x6 (rT cs'):=⟨_,rfl⟩;have hHl:=m2.len;have nq':¬ ((Q x6\/nmC y=A4 x6)\/H.length<=x6):=by
  intro hh;rcases hh with (hh | hh) | hh
  ·exact nq hh
  ·exact (hy _ hh).2 rfl
  ·omega
 refine ⟨cs',H1,H2,_,m1,by rw [storeAll (n:=8) q6 K.length m3.length,hH2],by rw [hH2];exact (G.trans' m2).set e6 _,by rw [hH2];simp;omega,by rw [hH2];exact m3.set (.inr nq'),nq',λid hid=>?_,by rw [hH2];exact C6 (by omega),λj hj T1=>?_⟩
 ·rcases hid with (hh | hh) | hh
  ·exact toP id hh
  ·exact .inr (hy _ hh).1
  ·exact .inr (by omega)
 ·rw [hH2,B6 (Ne.symm T1)];obtain ⟨tt,hh⟩:=m2.1;rw [<-hh,E1 hj]
def E4p {lo:Nat} {P:Nat->Prop} {h:B5} {d:Int} {t L:List Int} {x6 x11 x12 bid kid q:Nat} {kl:W8} {KK:List UInt8->Option Int} {r8:List Cell} (hv:Has h v 256 D.length (D5 D)) (hD:okD D) (ht:t.length=32) (h5:d<=5) (hLl:L.length<=32) (cU:∀ no∈L,no≠0) (hq:8<=q)
  (e6:h.length<=x6) (n2:x6≠x11) (n3:x6≠x12) (n4:x6≠bid) (n5:x6≠kid) (KR:KeptR D (d::t) KK kl) (hkl:kl.length<=300) :
  ∀ (e i M:Nat) (c:Cl) (cs:List Cell) (Q:Nat->Prop) (H:B5),i+e=L.length->e<M->Grows h H->IsRC n Q H cs c->¬ Q x6->(∀ id,Q id->P id\/lo<=id)->lo<=H.length->0<=c.lost/\c.lost+7*e<=900000->c.blocks.length+e<=100000->c.made.length+e<=100000 ->
   rd H x6=rT cs->rd H x11=rT (encI (d::t))->rd H x12=rT r8->rd H bid=rT (encI L)->rd H kid=rT (encS kl) ->
  ∃ cs' Q' H' M',A5f q M v (pV x6 0) (pV x11 0) (pV x12 0) (sV bid 0 L.length 1) (sV kid 0 kl.length 1) (iV (i:Int)) H =
    A5f q (M'+1) v (pV x6 0) (pV x11 0) (pV x12 0) (sV bid 0 L.length 1) (sV kid 0 kl.length 1) (iV (L.length:Nat)) H' /\
   Grows h H'/\IsRC n Q' H' cs' (O2 D (d::t) KK c (L.drop i))/\¬ Q' x6/\(∀ id,Q' id->P id\/lo<=id)/\rd H' x6=rT cs'/\(∀ j,j<H.length->j≠x6->rd H' j=rd H j):=by
 intro e
 induction e with
 | zero =>
  intro i M c cs Q H hi hM G K nq toP hlow hlo hb hmd r6 r11 r12 rb rk;obtain ⟨M,rfl⟩:∃ M',M=M'+1:=⟨M-1,by omega⟩;have ei:i=L.length:=by omega
  subst ei;rw [List.drop_length];exact ⟨cs,Q,H,M,rfl,G,K,nq,toP,r6,λ_ _ _=>rfl⟩
 | succ e ih =>
  intro i M c cs Q H hi hM G K nq toP hlow hlo hb hmd r6 r11 r12 rb rk;obtain ⟨M,rfl⟩:∃ M',M=M'+1:=⟨M-1,by omega⟩;have P6:i<L.length:=by omega
  have c0:(i:Int)<(L.length:Nat):=by omega
  have w1:=D3 (show i+1<9223372036854775808 by omega);have hHd:=D88 (h:=H);obtain ⟨K1,hK1⟩:∃ K1,K1=H++[rT (B4 (bU []))]:=⟨_,rfl⟩;rw [<-hK1] at hHd;have G1:Grows H K1:=by rw [hK1];exact (Grows.rfl').new _
  have b6:=C8 r6;have b11:=C8 r11;have bb:=C8 rb;have bk:=C8 rk;have lK1:K1.length=H.length+1:=by rw [hK1];simp
  obtain ⟨cs1,y,H2,M2,f1,f2,f3,f4,f5,f6,f7,f8,f9⟩:=E4q (lo:=lo) (P:=P) (n:=n) (Q:=Q) (M0:=M) (q:=q) (i:=i) (x12:=pV x12 0) (KK:=KK) hv hD ht h5 P6 (cU _ (E6v P6)) e6 n2 n4 n5 KR hkl 7 0 q (c,bU []) cs (.sl H.length 0 256 1) K1 (by omega) (by omega) (G.trans' G1) (K.grows G1) nq (by omega) (λid hid=>by cases hid;exact ⟨by omega,by omega,by omega,by omega,by omega⟩) rfl (by rw [hK1];exact Has.row (rw:=A5) (by rw [E9];rfl) (by rw [A9,rX]) (G9 _)) (rX (l:=[])) ⟨hlo.1,by have:=hlo.2;dsimp only;omega⟩ (G1.rd r6) (G1.rd r11) (G1.rd rb) (G1.rd rk);have eX:N9 (blk D L[i]) 7 0=O6 (blk D L[i]):=rfl;rw [eX] at f4 f7;have hs:=rR (D:=D) (X:=d::t) (no:=L[i]) (K:=KK) (l:=O6 (blk D L[i])) (s:=(c,bU []));have E3Z:=A3W (D:=D) (X:=d::t) (no:=L[i]) (K:=KK) (l:=O6 (blk D L[i])) (s:=(c,bU []));have h7:=eY (blk D L[i]);obtain ⟨S,hS⟩:∃ S,S=V3 D (d::t) L[i] KK (c,bU []) (O6 (blk D L[i])):=⟨_,rfl⟩;rw [<-hS] at f4 f7 hs E3Z;dsimp only at E3Z;have same2:∀ j,j<H.length->j≠x6->rd H2 j=rd H j:=λj hj T1=>by rw [f9 j (by omega) T1,hK1,E1 hj]
  have q11:rd H2 x11=rT (encI (d::t)):=by rw [same2 _ b11 (Ne.symm n2)];exact r11
  have q12:rd H2 x12=rT r8:=by rw [same2 _ (C8 r12) (Ne.symm n3)];exact r12
  have qb:rd H2 bid=rT (encI L):=by rw [same2 _ bb (Ne.symm n4)];exact rb
  have qk:rd H2 kid=rT (encS kl):=by rw [same2 _ bk (Ne.symm n5)];exact rk
  obtain ⟨cs2,H3,H4,Q2,m1,m2,m3,m4,m5,m6,m7,m8,m9⟩:=D6t (lo:=lo) (no:=L[i]) (P:=P) f2 e6 f4 nq toP (by omega) f8 f7 (λid hid=>⟨(f5 id hid).1,(f5 id hid).2.1⟩) f6 (by rw [hs.blocks];dsimp only;omega) (by rw [hs.made];dsimp only;omega);have ec:O2 D (d::t) KK c (L.drop i)=O2 D (d::t) KK (S9 S.1 L[i] S.2) (L.drop (i+1)):=by
   rw [E5X P6,hS];rfl
  rw [ec];have lb:(S9 S.1 L[i] S.2).blocks.length=c.blocks.length+1:=by show (S.1.blocks++[L[i]]).length=_;rw [E5T,hs.blocks];rfl
  have lm:(S9 S.1 L[i] S.2).made.length=c.made.length+1:=by show (S.1.made++[S.2]).length=_;rw [E5T,hs.made];rfl
  have ll:(S9 S.1 L[i] S.2).lost=S.1.lost:=rfl;obtain ⟨cs',Q',H',M',g1,g2,g3,g4,g5,g6,g7⟩:=ih (i+1) M (S9 S.1 L[i] S.2) cs2 Q2 H4 (by omega) (by omega) m3 m5 m6 m7 (by omega) (by rw [ll];omega) (by rw [lb];omega) (by rw [lm];omega) m8 (by rw [m9 _ (C8 q11) (Ne.symm n2)];exact q11) (by rw [m9 _ (C8 q12) (Ne.symm n3)];exact q12) (by rw [m9 _ (C8 qb) (Ne.symm n4)];exact qb) (by rw [m9 _ (C8 qk) (Ne.symm n5)];exact qk);refine ⟨cs',Q',H',M',?_,g2,g3,g4,g5,g6,λj hj T1=>by rw [g7 j (by omega) T1,m9 j (by omega) T1,same2 j hj T1]⟩;have l6:D4 H2 8 (pV x6 0)=A4 (.a cs1):=C7 f8 f4.length;have aL:D9 1 (sV bid 0 L.length 1) (iV (i:Int))=A4 (pV bid i):=by rw [C9 P6];simp
  have lL:B8 H2 (pV bid i)=A4 (iV L[i]):=B9 qb (by rw [I1,E5P P6];rfl) rfl;have c77:¬ (7:Int)<7:=by decide
  have c00:((0:Nat):Int)=0:=rfl;rw [c00] at f1;rw [A6n];simp only [esc,c0,hHd];refine f1.trans ?_;rw [oH];simp only [esc,c77,l6,aL,lL,m1,m2,w1];exact g1
def D7O {P:Nat->Prop} {h:B5} {c:Cl} {cs:List Cell} {d ino at_:Int} {t:List Int} (hv:Has h v 256 D.length (D5 D)) (hD:okD D) (K:IsRC n P h cs c) (ht:t.length=32) (h5:d<=5) (hok:okX d t=A5) (hn:n<=128) (hR:RowW n c) {Rr B S Lo:Nat} (sm:Small c Rr B S Lo) (hRr:Rr<=700) (hB:B<=500000) (hSs:S<=50000) (hLo:Lo<=500000) :
  ∃ cs' H',A7N [.a cs,v,.a (D7 D.length n m),.c (.i .i64 ino),.c (.i .i64 at_),.a (encI (d::t))] h=A4 (.a cs',H')/\Grows h H' /\
   IsRC n (λid=>P id\/h.length<=id) H' cs' (O2 D (d::t) (bC D n ino (c,λ_=>A7) (oZ D (d::t) (M7 t (D1 d)))).2 (S9 (bC D n ino (c,λ_=>A7) (oZ D (d::t) (M7 t (D1 d)))).1 at_ (bif okX d t then gE d t else zeros 256)) (M7 t (D1 d))):=by
 have h33:(encI (d::t)).length=33:=by rw [B7];simp [ht]
 obtain ⟨L,hL⟩:∃ L,L=M7 t (D1 d):=⟨_,rfl⟩;have hLl:L.length<=32:=by rw [hL];exact E6w (gQ ..) (P5 d)
 have cU:∀ no∈L,no≠0:=by rw [hL];exact D59
 rw [<-hL];obtain ⟨g1,hg1⟩:∃ g1,g1=h++[rT cs,rT (D7 D.length n m),rT (encI (d::t)),rT Z8]:=⟨_,rfl⟩;have lg1:g1.length=h.length+4:=by rw [hg1];simp
 have hB1:=A6I (d:=d) (t:=t) (h:=g1) ht;rw [<-hL] at hB1;obtain ⟨g2,hg2⟩:∃ g2,g2=g1++[rT (encI L)]:=⟨_,rfl⟩;rw [<-hg2] at hB1;have lg2:g2.length=h.length+5:=by rw [hg2];simp [lg1]
 have G2:Grows h g2:=by rw [hg2,hg1];exact (U2 Grows.rfl' rfl).new _
 have r6:rd g2 h.length=rT cs:=by rw [hg2];refine C5 ?_;rw [hg1,E9];rfl
 have r8:rd g2 (h.length+1)=rT (D7 D.length n m):=by rw [hg2];refine C5 ?_;rw [hg1,K9];rfl
 have r11:rd g2 (h.length+2)=rT (encI (d::t)):=by rw [hg2];refine C5 ?_;rw [hg1,K9];rfl
 have r12:rd g2 (h.length+3)=rT Z8:=by rw [hg2];refine C5 ?_;rw [hg1,K9];rfl
 have rb:rd g2 (h.length+4)=rT (encI L):=by rw [hg2,<-lg1,E9];rfl
 obtain ⟨nid,H1,M1,f1,f2,f3,f4⟩:=E4m (x3:=.c (.i .i64 ino)) (x4:=.c (.i .i64 at_)) (x6:=.c (.p h.length 0)) (x8:=.c (.p (h.length+1) 0)) (x12:=.c (.p (h.length+3) 0)) (x11:=h.length+2) (bid:=h.length+4) (q:=400) (hv.grows G2) hD r11 ht h5 rb hLl cU (by omega) L.length 0 400 [] g2.length (g2++[rT []]) (by omega) (by omega) (U2 Grows.rfl' rfl) (E5V _) (by rw [E9];rfl) (by simp;omega);rw [E6a,E59] at f1 f4;have hNl:(I7 D (d::t) (wY D L)).length<=224:=by
  have h1:=B1b (D:=D) (L:=L);have h2:=A6A (D:=D) (X:=d::t) (s:=wY D L);omega
 obtain ⟨N,hN⟩:∃ N,N=I7 D (d::t) (wY D L):=⟨_,rfl⟩;rw [<-hN] at f1 f4 hNl;have hNs:∀ x∈N,x.length<9223372036854775807:=λx hx=>by
  rw [hN] at hx;obtain ⟨no,y,_,hy,_,_,e⟩:=D9c (D:=D) (X:=d::t) (L:=L) (s:=x) (by rw [B3a];exact hx);have:=A1M (B22 hy).1;rw [e] at this;omega
 have hSt:=C9A (v:=.c (.sl nid 0 N.length 1)) (nv:=N.length) (l:=N) (h:=H1) (Has.row f4 (by rw [N8];omega) (B8H _)) (by omega) hNs;obtain ⟨S0,hS0⟩:∃ S0,S0=gX N:=⟨_,rfl⟩;rw [<-hS0] at hSt;have hSl:S0.length<=300:=by rw [hS0];have:=A8B N;omega
 obtain ⟨H2,hH2⟩:∃ H2,H2=H1++[rT (encS S0)]:=⟨_,rfl⟩;rw [<-hH2] at hSt;obtain ⟨H3,hH3⟩:∃ H3,H3=H2++[rT []]:=⟨_,rfl⟩;have lH2:H2.length=H1.length+1:=by rw [hH2];simp
 have lH3:H3.length=H2.length+1:=by rw [hH3];simp
 have G13:Grows g2 H3:=by rw [hH3,hH2];exact (f2.new _).new _
 have E5J:=f2.len;have to3:∀ {id r},rd g2 id=A4 r->rd H3 id=A4 r:=λhr=>G13.rd hr
 have GH3:Grows h H3:=G2.trans' G13;obtain ⟨Q0,hQ0⟩:∃ Q0:Nat->Prop,Q0=λid=>P id/\id<h.length:=⟨_,rfl⟩
 have K3:IsRC n Q0 H3 cs c:=by rw [hQ0];exact K.low.grows GH3
 have nq0:∀ id,h.length<=id->¬ Q0 id:=λid hid=>by rw [hQ0];intro hh;omega
 have rs3:rd H3 H1.length=rT (encS S0):=by rw [hH3,hH2];refine C5 ?_;rw [E9];rfl
 have rk3:rd H3 H2.length=rT (encS []):=by rw [hH3,E9];rfl
 have E5I:=GH3.len;obtain ⟨cs1,kl,kid,Q1,H4,M4,k1,k2,k3,k4,k5,k6,k6b,k7,k8,k9,k10,k11,k12,k13,k14,k15,k16,k17,k18⟩:=E4o (lo:=h.length+5) (P:=λid=>P id/\id<h.length) (m:=m) (n:=n) (ino:=ino) (x4:=.c (.i .i64 at_)) (x6:=h.length) (x8:=h.length+1) (x11:=h.length+2) (x12:=h.length+3) (bid:=h.length+4) (sid:=H1.length) (q:=400) (r8:=Z8) (L:=L) hv hD ht h5 cU hn (E5V _) (by omega) (by omega) (by omega) (by omega) (by omega) (S:=S0) (by rw [hS0,hN]) hSl
  S0.length 0 400 B (c,λ_=>A7) cs [] H2.length Q0 H3 (by omega) (by omega) GH3 K3 (nq0 _ (E5V _)) (nq0 _ (by omega)) (λid hid=>by rw [hQ0] at hid;exact .inl hid) (by omega) (λid hid=>by rw [hQ0] at hid;omega) hR (by have:=sm.row;dsimp only;omega) sm.lnk (by omega) (to3 r6) (to3 r8) (to3 r11) (to3 r12) (to3 rb) rs3 rk3 (by omega) (by omega) (by omega) (by omega) (by omega) (by omega) (by omega) (by simp) ⟨λs=>by simp,λs a ha=>by cases ha⟩
 rw [E6a] at k3 k18;have eLH:S0.map (λx=>(x,B1V D (d::t) x))=oZ D (d::t) L:=by unfold oZ;rw [hS0,hN]
 rw [eLH] at k3 k18;obtain ⟨T,hT⟩:∃ T,T=bC D n ino (c,λ_=>A7) (oZ D (d::t) L):=⟨_,rfl⟩;rw [<-hT] at k3 k18 ⊢;have hTs:SameT c T.1:=by
  rw [hT];have:∀ (l:List Ent) (s:Cl × (List UInt8->Option Int)) (Bx:Int),BndL s.1 Bx->SameT s.1 (bC D n ino s l).1:=by
   intro l
   induction l with
   | nil=>intro s Bx _;exact ⟨rfl,rfl,rfl,rfl,rfl⟩
   | cons x l ih =>
    intro s Bx hb;obtain ⟨a1,a2,_⟩:=A4g (D:=D) (n:=n) (ino:=ino) (e:=x) hb;have a3:=ih (aK D n ino s x) _ a2;exact ⟨a3.ino.trans a1.ino,a3.blocks.trans a1.blocks,a3.made.trans a1.made,a3.taken.trans a1.taken,a3.lost.trans a1.lost⟩
  exact this _ (c,λ_=>A7) _ sm.lnk
 have hP:=B82 (d:=d) (t:=t) (h:=H4) ht;rw [hok] at hP;simp only [cond_true] at hP;obtain ⟨H5,hH5⟩:∃ H5,H5=H4++[rT (B4 (gE d t))]:=⟨_,rfl⟩;rw [<-hH5] at hP;have il:=mY (d:=d) ht;have G45:Grows H4 H5:=by rw [hH5];exact (Grows.rfl').new _
 have E5M:=k2.len;obtain ⟨cs2,H6,H7,Q2,m1,m2,m3,m4,m5,m6,m7,m8,m9⟩:=D6t (lo:=h.length+5) (n:=n) (P:=λid=>P id/\id<h.length) (no:=at_) (b:=gE d t) (y:=.sl H4.length 0 256 1) (k2.trans' G45) (E5V _) (k3.grows G45) k4 k6 (by have:=G45.len;omega) (G45.rd k8) (by rw [hH5];exact Has.row (rw:=A5) (by rw [E9];rfl) (by rw [A9,il]) (G9 _)) (λid hid=>by cases hid;exact ⟨by omega,by have:=C8 k8;omega⟩) rfl (by rw [hTs.blocks];have:=sm.blocks;omega) (by rw [hTs.made];have:=sm.made;omega);have lH5:H5.length=H4.length+1:=by rw [hH5];simp
 have keep7:∀ {id r},rd H4 id=A4 r->id≠h.length->rd H7 id=A4 r:=λhr T1=>by
  rw [m9 _ (by have:=C8 hr;omega) T1];exact G45.rd hr
 have lbm:(S9 T.1 at_ (gE d t)).blocks.length=c.blocks.length+1:=by show (T.1.blocks++[at_]).length=_;rw [E5T,hTs.blocks];rfl
 have lmm:(S9 T.1 at_ (gE d t)).made.length=c.made.length+1:=by show (T.1.made++[_]).length=_;rw [E5T,hTs.made];rfl
 have llm:(S9 T.1 at_ (gE d t)).lost=c.lost:=hTs.lost;obtain ⟨cs3,Q3,H8,M8,o1,o2,o3,o4,o5,o6,o7⟩:=E4p (lo:=h.length+5) (n:=n) (P:=λid=>P id/\id<h.length) (x6:=h.length) (x11:=h.length+2) (x12:=h.length+3) (bid:=h.length+4) (kid:=kid) (q:=400) (r8:=Z8) (L:=L) hv hD ht h5 hLl cU (by omega) (E5V _) (by omega) (by omega) (by omega) (Ne.symm k13) k18 k17 L.length 0 400 (S9 T.1 at_ (gE d t)) cs2 Q2 H7 (by omega) (by omega) m3 m5 m6 m7 (by omega) (by rw [llm];have:=sm.lost0;have:=sm.lost;omega) (by rw [lbm];have:=sm.blocks;omega) (by rw [lmm];have:=sm.made;omega) m8 (keep7 k9 (by omega)) (keep7 k10 (by omega)) (keep7 k11 (by omega)) (keep7 k12 k13);rw [E6a] at o3;have q12:rd H8 (h.length+3)=rT Z8:=by rw [o7 _ (C8 (keep7 k10 (by omega))) (by omega)];exact keep7 k10 (by omega)
 obtain ⟨H9,hH9⟩:∃ H9,H9=H8.set (h.length+3) (rT cs3):=⟨_,rfl⟩;have s9:E5 H8 8 (.c (.p (h.length+3) 0)) (.a cs3)=A4 H9:=by rw [storeAll (n:=8) q12 rfl o3.length,hH9]
 have l9:D4 H9 8 (.c (.p (h.length+3) 0))=A4 (.a cs3):=C7 (by rw [hH9];exact C6 (C8 q12)) o3.length;have l8:D4 H8 8 (.c (.p h.length 0))=A4 (.a cs3):=C7 o6 o3.length;have o3':IsRC n (λid=>P id\/h.length<=id) H9 cs3 (O2 D (d::t) T.2 (S9 T.1 at_ (gE d t)) L):=by
  rw [hH9];refine (o3.set (.inr λhh=>?_)).mono λid hid=>?_
  ·rcases o5 _ hh with hh | hh<;>omega
  ·rcases o5 id hid with hh | hh
   ·exact .inl hh.1
   ·exact .inr (by omega)
 refine ⟨cs3,H9,C3M (n:=400) ?_,by rw [hH9];exact o2.set (by omega) _,by rw [hok];exact o3'⟩;have cl1:cells? (.a cs)=A4 cs:=rfl;have cl2:cells? (.a (D7 D.length n m))=A4 (D7 D.length n m):=rfl;have cl3:cells? (.a (encI (d::t)))=A4 (encI (d::t)):=rfl;have l33:D4 g1 33 (.c (.p (h.length+2) 0))=A4 (.a (encI (d::t))):=C7 (by rw [hg1,K9];rfl) h33;have l33':D4 H4 33 (.c (.p (h.length+2) 0))=A4 (.a (encI (d::t))):=C7 k9 h33;have l84:D4 H5 8 (.c (.p h.length 0))=A4 (.a cs1):=C7 (G45.rd k8) k3.length;have cL:¬ ((L.length:Nat):Int)<(L.length:Nat):=by omega
 have cS:¬ ((S0.length:Nat):Int)<(S0.length:Nat):=by omega
 have c00:((0:Nat):Int)=0:=rfl;have l0:([]:W8).length=0:=rfl;rw [c00,l0] at f1 k1;rw [c00] at o1;rw [lg1] at hB1;rw [C29,A5S];generalize hXX:encI (d::t)=X at *;generalize Z8=E8 at *;simp only [cl1,cl2,cl3,M9,E5Y,E6q,E59,E5T,E52,E6h,E6e,Nat.reduceAdd,<-hg1];simp only [esc,l33,hB1];refine f1.trans ?_;rw [A6m];simp only [esc,cL,hSt,<-hH3];refine k1.trans ?_;rw [xK];simp only [esc,cS,l33',hP,l84,m1,m2];refine o1.trans ?_;rw [A6n];simp only [esc,cL,l8,s9,l9]
end
def set_self {h:B5} {id:Nat} {r:Row} (hr:rd h id=A4 r):h.set id (A4 r)=h:=by
 refine List.ext_getElem? λi=>?_
 rw [List.getElem?_set];by_cases e:id=i
 ·subst e;rw [if_pos rfl,if_pos (C8 hr)];unfold rd at hr;cases hh:h[id]? with
  | none=>rw [hh] at hr;cases hr
  | some x=>rw [hh] at hr;exact congrArg A4 hr.symm
 ·rw [if_neg e]
def D7f {d:Int} {t:List Int}:(gD d t).all xQ=A5:=by
 have z:∀ k,(zI k).all xQ=A5:=λk=>List.all_eq_true.2 λx hx=>by rw [List.eq_of_mem_replicate hx];rfl
 unfold gD;split
 ·unfold sG;rw [List.all_append,z,Bool.and_true,E6M];intro x hx;obtain ⟨i,_,rfl⟩:=List.mem_map.1 hx;unfold uT;cases hk:A38 d t i with
  | true=>exact (D7p.1 hk).2.1
  | false=>rfl
 ·exact z 32
def C8l {no:Int}:∀ {e i:Nat} {t:List Int},t.all xQ=A5->(A0p no e i t).all xQ=A5
 | 0,_,_,h=>h
 | e+1,i,t,h=>by
  rw [A0p];refine C8l ?_;split
  ·rw [E6M] at h ⊢;intro x hx;rcases E6A hx with h1 | h1
   ·exact h x h1
   ·rw [h1];rfl
  ·exact h
def C6p {D:Dev} {n:Int}:∀ {L:List Int} {s:Cl × List Int},s.2.all xQ=A5->(oW D n s L).2.all xQ=A5
 | [],_,h=>h
 | no::L,s,h=>by
  show (oW D n (mK D n s no) L).2.all xQ=A5;refine C6p ?_;unfold mK;dsimp only;split
  ·exact C8l h
  ·exact h
def C6V {d:Int} {t:List Int}:0<=X7 d t/\X7 d t<=5:=by unfold X7;split<;>omega
def E0J {D:Dev} {n:Int} {c:Cl} {d:Int} {t:List Int}:okX (X7 d t) (V5 D n c d t).2=A5:=by
 have h1:=C6V (d:=d) (t:=t);have h2:(V5 D n c d t).2.all xQ=A5:=C6p D7f;unfold okX;rw [decide_eq_true h1.1,decide_eq_true h1.2,h2];rfl
def B1e {D:Dev} {n:Int}:∀ {L:List Int} {s:Cl × List Int},(oW D n s L).1.taken.length=s.1.taken.length
 | [],_=>rfl
 | no::L,s=>by
  show (oW D n (mK D n s no) L).1.taken.length=_;rw [B1e];exact iP
section
variable {D:Dev} {n m:Int} {P Q:Nat->Prop} {g h:B5} {v:Val}
def B6u {L:List Int} {no d:Int} {k q M x11 bid:Nat} {x1 x3 x4 x6 x8 x9:Val} (hk:k<L.length) (cU:L[k]=no) (hL:L.length<=32) (nb:bid≠x11) :
  ∀ (e i M2:Nat) (t:List Int) (H:B5),i+e=32->e<M2->t.length=32->rd H x11=rT (encI (d::t))->rd H bid=rT (encI L) ->
   B1P q M M2 x1 x3 x4 x6 x8 x9 (pV x11 0) (sV bid 0 L.length 1) (iV (k:Int)) (iV 0) (iV (i:Int)) H =
    zX q M x1 x3 x4 x6 x8 x9 (pV x11 0) (sV bid 0 L.length 1) (iV ((k+1:Nat):Int)) (H.set x11 (rT (encI (d::A0p no e i t))))
 | e,i,0,t,H,_,hM,_,_,_=>by omega
 | 0,i,M2+1,t,H,hi,hM,ht,hx,hb=>by
  have c0:¬ ((i:Int)<32):=by omega
  have wk:=D3 (show k+1<9223372036854775808 by omega);rw [A0p,set_self hx,uH];simp only [esc,c0,wk]
 | e+1,i,M2+1,t,H,hi,hM,ht,hx,hb=>by
  have c0:((i:Int)<32):=by omega
  have E2H:i<32:=by omega
  have ad:I3 32 1 (pV x11 1) (iV (i:Int))=A4 (pV x11 (1+i)):=by rw [J5 E2H];simp
  have l1:B8 H (pV x11 (1+i))=A4 (iV (t.getD i 0)):=by
   refine B9 hx ?_ rfl;rw [Nat.add_comm,I1,E6F,E5Z,E5P (by omega)];rfl
  have w1:=D3 (show i+1<9223372036854775808 by omega);have aL:D9 1 (sV bid 0 L.length 1) (iV (k:Int))=A4 (pV bid k):=by rw [C9 hk];simp
  have lL:B8 H (pV bid k)=A4 (iV no):=B9 hb (by rw [I1,E5P hk,cU];rfl) rfl;by_cases cz:t.getD i 0=no
  ·have s1:=G8 (x:=o0) (off:=1+i) hx (by simp [B7,ht];omega);have es:(encI (d::t)).set (1+i) o0=encI (d::t.set i 0):=by rw [X5,Nat.add_comm,E6H]
   rw [es] at s1;have ih:=B6u (x1:=x1) (x3:=x3) (x4:=x4) (x6:=x6) (x8:=x8) (x9:=x9) (q:=q) (M:=M) (d:=d) hk cU hL nb e (i+1) M2 (t.set i 0) (H.set x11 (rT (encI (d::t.set i 0)))) (by omega) (by omega) (by simp [ht]) (C6 (C8 hx)) (by rw [B6 (Ne.symm nb)];exact hb);rw [List.set_set] at ih;rw [A0p,if_pos cz,<-ih,uH];simp only [esc,c0,ad,l1,aL,lL,cz,E6m,s1,B1N,w1]
  ·have ih:=B6u (x1:=x1) (x3:=x3) (x4:=x4) (x6:=x6) (x8:=x8) (x9:=x9) (q:=q) (M:=M) (d:=d) hk cU hL nb e (i+1) M2 t H (by omega) (by omega) ht hx hb;rw [A0p,if_neg cz,<-ih,uH];simp only [esc,c0,ad,l1,aL,lL,cz,E6m,B1N,w1]
def E1l {L:List Int} {d:Int} {x4 x6 x8 x9 x11 bid q:Nat} {x1 x3:Val} (hL:L.length<=32) (hq:33<=q) (hg:g.length<=x4/\g.length<=x11) (hx4:¬ Q x4) (C7a:¬ Q x11) (hl:D.length<=1000) (n1:x4≠x11) (n2:x4≠x6) (n3:x4≠bid) (n4:x11≠x6) (n5:x11≠bid) :
  ∀ (e i M:Nat) (s:Cl × List Int) (cs:List Cell) (H:B5),i+e=L.length->e<M->s.2.length=32->Grows g H->(∀ id,H.length<=id->Q id)->IsRC n Q H cs s.1->s.1.taken.length=D.length->rd H x4=rT cs->rd H x6=rT (D7 D.length n m)->rd H x11=rT (encI (d::s.2))->rd H bid=rT (encI L) ->
  ∃ cs' H' M',zX q M x1 x3 (pV x4 0) (pV x6 0) (pV x8 0) (pV x9 0) (pV x11 0) (sV bid 0 L.length 1) (iV (i:Int)) H =
    zX q (M'+1) x1 x3 (pV x4 0) (pV x6 0) (pV x8 0) (pV x9 0) (pV x11 0) (sV bid 0 L.length 1) (iV (L.length:Nat)) H' /\
   Grows g H'/\(∀ id,H'.length<=id->Q id)/\IsRC n Q H' cs' (oW D n s (L.drop i)).1/\rd H' x4=rT cs'/\rd H' x11=rT (encI (d::(oW D n s (L.drop i)).2))/\H.length<=H'.length/\(∀ j,j<H.length->j≠x4->j≠x11->rd H' j=rd H j):=by
 intro e
 induction e with
 | zero =>
  intro i M s cs H hi hM hs G hQ K ht r4 r6 r11 rb;obtain ⟨M,rfl⟩:∃ M',M=M'+1:=⟨M-1,by omega⟩;have ei:i=L.length:=by omega
  subst ei;rw [List.drop_length];exact ⟨cs,H,M,rfl,G,hQ,K,r4,r11,E5V _,λ_ _ _ _=>rfl⟩
 | succ e ih =>
  intro i M s cs H hi hM hs G hQ K ht r4 r6 r11 rb;obtain ⟨M,rfl⟩:∃ M',M=M'+1:=⟨M-1,by omega⟩;have P6:i<L.length:=by omega
  have c0:(i:Int)<(L.length:Nat):=by omega
  have w1:=D3 (show i+1<9223372036854775808 by omega);have l4:D4 H 8 (pV x4 0)=A4 (.a cs):=C7 r4 K.length;have l6:D4 H 3 (pV x6 0)=A4 (.a (D7 D.length n m)):=C7 r6 rfl;have aL:D9 1 (sV bid 0 L.length 1) (iV (i:Int))=A4 (pV bid i):=by rw [C9 P6];simp
  have lL:B8 H (pV bid i)=A4 (iV L[i]):=B9 rb (by rw [I1,E5P P6];rfl) rfl;obtain ⟨cs',K1,H1,H2,a1,a2,a3,a4,a5,a6,a7,a8,a9⟩:=D9h (m:=m) (no:=L[i]) G hg.1 K r4 K.length (λid h=>hQ id (by omega)) hx4 ht hl;have q11:rd H2 x11=rT (encI (d::s.2)):=by rw [a9 _ (C8 r11) (Ne.symm n1)];exact r11
  have qb:rd H2 bid=rT (encI L):=by rw [a9 _ (C8 rb) (Ne.symm n3)];exact rb
  have q6:rd H2 x6=rT (D7 D.length n m):=by rw [a9 _ (C8 r6) (Ne.symm n2)];exact r6
  have eB:oW D n s (L.drop i)=oW D n (mK D n s L[i]) (L.drop (i+1)):=by rw [E5X P6];rfl
  rw [eB];have b1:(mK D n s L[i]).1=eU D n s.1 L[i]:=rfl;obtain ⟨H3,hH3⟩:∃ H3,H3=H2.set x11 (rT (encI (d::(mK D n s L[i]).2))):=⟨_,rfl⟩;have lH3:H3.length=H2.length:=by rw [hH3];simp
  have o3:∀ j,j≠x11->rd H3 j=rd H2 j:=λj hj=>by rw [hH3,B6 (Ne.symm hj)]
  obtain ⟨cs2,H',M',f1,f2,f3,f4,f5,f6,f7,f8⟩:=ih (i+1) M (mK D n s L[i]) cs' H3 (by omega) (by omega) (by rw [C0F];exact hs) (by rw [hH3];exact a5.set hg.2 _) (λid h=>hQ id (by omega)) (by rw [hH3];exact a6.set (.inr C7a)) (by rw [b1,iP];exact ht) (by rw [o3 _ n1];exact a7) (by rw [o3 _ (Ne.symm n4)];exact q6) (by rw [hH3];exact C6 (C8 q11)) (by rw [o3 _ (Ne.symm n5)];exact qb);refine ⟨cs2,H',M',?_,f2,f3,f4,f5,f6,by omega,λj hj h1 h2=>by rw [f8 j (by omega) h1 h2,o3 j h2,a9 j hj h1]⟩;have step:B1P q M q x1 x3 (pV x4 0) (pV x6 0) (pV x8 0) (pV x9 0) (pV x11 0) (sV bid 0 L.length 1) (iV (i:Int)) (iV (U7 D n s.1 L[i])) (iV 0) H2 =
    zX q M x1 x3 (pV x4 0) (pV x6 0) (pV x8 0) (pV x9 0) (pV x11 0) (sV bid 0 L.length 1) (iV ((i+1:Nat):Int)) H3:=by
   by_cases cz:U7 D n s.1 L[i]=0
   ·have eb2:(mK D n s L[i]).2=A0p L[i] 32 0 s.2:=by unfold mK;dsimp only;rw [if_pos cz]
    have:=B6u (x1:=x1) (x3:=x3) (x4:=pV x4 0) (x6:=pV x6 0) (x8:=pV x8 0) (x9:=pV x9 0) (q:=q) (M:=M) (d:=d) P6 rfl hL (Ne.symm n5) 32 0 q s.2 H2 (by omega) (by omega) hs q11 qb;rw [cz,hH3,eb2];exact this
   ·have eb2:(mK D n s L[i]).2=s.2:=by unfold mK;dsimp only;rw [if_neg cz]
    obtain ⟨q',rfl⟩:∃ q',q=q'+1:=⟨q-1,by omega⟩;have E4E:(0:Int)<32:=by decide
    rw [hH3,eb2,set_self q11,uH];simp only [esc,E4E,cz,w1]
  rw [B1O,A5S];simp only [esc,c0,l4,l6,aL,lL,a1,a2,a3,a4];exact step.trans f1
end
def D3d {d:Int} {t:List Int} {i c:Nat} (h:C3V (D1 d) t i c=A5):cO d t i<=c:=by
 false_or_by_contra
 have:=D3e (d:=d) (t:=t) (p:=i) (c:=c) (by omega);rw [h] at this;cases this
def E0n {d:Int} {t:List Int} {i c:Nat} (hi:i<D1 d) (hc:C3V (D1 d) t i c=A5\/W9 d<=c) (h:∀ k,k<D1 d->toX t k=toX t i->k%2 ^ c=i%2 ^ c):A4h d t i=A5:=by
 have hb:cO d t i<=c:=by
  rcases hc with hc | hc
  ·exact D3d hc
  ·exact E6w C6l hc
 rw [D1b hi];exact λk hk hs=>D5l hb (h k hk hs)
def D0l (t:List Int) (no:Int) (f b i:Nat):Bool:=decide (toX t i=no)==(i%2 ^ b==f%2 ^ b)
def C0M (n:Nat) (t:List Int) (no:Int) (f b:Nat):Bool:=(E6y 0 n).all (D0l t no f b)
def A1j (n:Nat) (t:List Int) (no:Int) (f b:Nat):Nat->Bool
 | 0=>A6
 | e+1=>C0M n t no f b||A1j n t no f (b+1) e
def C2e {d no:Int} {t:List Int} {g:B5} {f b q m:Nat} (ht:t.length=32) (hb:b<=5):∀ (e i m2:Nat) (a:Bool),i+e=D1 d->e<m2 ->
  B38 q m m2 (iV no) (pV g.length 0) (iV (f:Int)) (iV (b:Int)) (bV a) (iV (i:Int)) (g++[rT (encI (d::t))]) =
   bif a&&(E6y i e).all (D0l t no f b) then A4 (.t [.c (.i .i64 (b:Int)),.c (.b A5)],g++[rT (encI (d::t))])
   else A5a q m (iV no) (pV g.length 0) (iV (f:Int)) (iV ((b+1:Nat):Int)) (g++[rT (encI (d::t))])
 | e,i,0,a,_,hm=>by omega
 | 0,i,m2+1,a,hi,hm=>by
  have c0:¬ (i:Int)<(D1 d:Nat):=by omega
  have w1:=D3 (show b+1<9223372036854775808 by omega);have hB:=E4 (d:=d) ht;have hD:=λh=>bN (d:=d) (t:=t) (h:=h)
  have hP:=λh=>bO (d:=d) (h:=h)
  rw [A6f,List.range'_zero,List.all_nil,Bool.and_true];generalize encI (d::t)=y at *;cases a<;>simp only [esc,esh,hB,hD,hP,c0,w1]
 | e+1,i,m2+1,a,hi,hm=>by
  have ih:=λa=>C2e (d:=d) (no:=no) (g:=g) (f:=f) (q:=q) (m:=m) ht hb e (i+1) m2 a (by omega) (by omega)
  have c0:(i:Int)<(D1 d:Nat):=by omega
  have C67:=P5 d;have hB:=E4 (d:=d) ht;have hD:=λh=>bN (d:=d) (t:=t) (h:=h)
  have hP:=λh=>bO (d:=d) (h:=h)
  have hI:=λh=>D4h (i:=i) (p:=f) (b:=b) (h:=h) (by omega)
  have a1:=adX (id:=g.length) (i:=i) (by omega);have x1:=C6O (d:=d) (i:=i) ht (by omega);have w1:=D3 (show i+1<9223372036854775808 by omega);rw [A6f,List.range'_succ,E6B];cases a with
  | false =>
   have ih:=ih A6;rw [E51,cond_false] at ih ⊢;generalize encI (d::t)=y at *;simp only [esc,esh,hB,hD,hP,c0,w1];exact ih
  | true =>
   rw [E55];have ih:=ih (D0l t no f b i);rw [<-ih];unfold D0l;by_cases ce:toX t i=no
   ·rw [decide_eq_true ce];generalize (i%2 ^ b==f%2 ^ b)=C at *;generalize encI (d::t)=y at *;cases C<;>simp only [esc,esh,hB,hD,hP,c0,hI,a1,x1,ce,w1]<;>rfl
   ·rw [decide_eq_false ce];generalize (i%2 ^ b==f%2 ^ b)=C at *;generalize encI (d::t)=y at *;cases C<;>simp only [esc,esh,hB,hD,hP,c0,hI,a1,x1,ce,w1]<;>rfl
def C2f {d no:Int} {t:List Int} {g:B5} {f q:Nat} (ht:t.length=32) (hq:32<q):∀ (e b m:Nat),b+e=W9 d+1->e<m ->
  ∃ w:Int,A5a q m (iV no) (pV g.length 0) (iV (f:Int)) (iV (b:Int)) (g++[rT (encI (d::t))])=A4 (.t [.c (.i .i64 w),.c (.b (A1j (D1 d) t no f b e))],g++[rT (encI (d::t))])
 | e,b,0,_,hm=>by omega
 | 0,b,m+1,hb,hm=>by
  have c0:¬ (b:Int)<=(W9 d:Nat):=by omega
  have hB:=E4 (d:=d) ht;have hD:=λh=>bN (d:=d) (t:=t) (h:=h)
  have e0:A1j (D1 d) t no f b 0=A6:=rfl;rw [A6e,e0];generalize encI (d::t)=y at *;exact ⟨0,by simp only [esc,esh,hB,hD,c0]⟩
 | e+1,b,m+1,hb,hm=>by
  have hdl:=uF d;have C67:=P5 d;have c0:(b:Int)<=(W9 d:Nat):=by omega
  have c1:(f:Int)>=0:=by omega
  have hB:=E4 (d:=d) ht;have hD:=λh=>bN (d:=d) (t:=t) (h:=h)
  obtain ⟨w,ih⟩:=C2f (d:=d) (no:=no) (t:=t) (g:=g) (f:=f) (q:=q) ht hq e (b+1) m (by omega) (by omega);have hI:=C2e (d:=d) (no:=no) (g:=g) (f:=f) (b:=b) (q:=q) (m:=m) ht (by omega) (D1 d) 0 q A5 (by omega) (by omega);rw [E55,show (((0:Nat):Int))=0 from rfl,show (E6y 0 (D1 d)).all (D0l t no f b)=C0M (D1 d) t no f b from rfl] at hI;rw [A1j,A6e];cases ca:C0M (D1 d) t no f b with
  | true =>
   rw [ca,cond_true] at hI;rw [Bool.true_or];refine ⟨b,?_⟩;generalize encI (d::t)=y at *;simp only [esc,esh,hB,hD,c0,c1];exact hI
  | false =>
   rw [ca,cond_false] at hI;rw [Bool.false_or];refine ⟨w,?_⟩;rw [<-ih];generalize encI (d::t)=y at *;simp only [esc,esh,hB,hD,c0,c1];exact hI
def A3V {d no:Int} {t:List Int} {g:B5} {f q:Nat} (ht:t.length=32) (hq:32<q) (hf:f<D1 d) (he:toX t f=no) (hn:∀ k,k<f->toX t k≠no):∀ (e i m:Nat) (x:Int),i+e=D1 d->e<m->x=(if i<=f then -1 else (f:Int)) ->
  ∃ w:Int,B37 q m (iV no) (pV g.length 0) (iV x) (iV (i:Int)) (g++[rT (encI (d::t))])=A4 (.t [.c (.i .i64 w),.c (.b (A1j (D1 d) t no f 0 (W9 d+1)))],g++[rT (encI (d::t))])
 | e,i,0,x,_,hm,_=>by omega
 | 0,i,m+1,x,hi,hm,hx=>by
  have c0:¬ (i:Int)<(D1 d:Nat):=by omega
  rw [if_neg (by omega)] at hx;subst hx;have hB:=E4 (d:=d) ht;have hD:=λh=>bN (d:=d) (t:=t) (h:=h)
  have hP:=λh=>bO (d:=d) (h:=h)
  have hdl:=uF d;obtain ⟨w,e⟩:=C2f (d:=d) (no:=no) (t:=t) (g:=g) (f:=f) (q:=q) ht hq (W9 d+1) 0 q (by omega) (by omega);rw [A6d];refine ⟨w,?_⟩;generalize encI (d::t)=y at *;simp only [esc,esh,hB,hD,hP,c0];exact e
 | e+1,i,m+1,x,hi,hm,hx=>by
  have c0:(i:Int)<(D1 d:Nat):=by omega
  have C67:=P5 d;have hB:=E4 (d:=d) ht;have hD:=λh=>bN (d:=d) (t:=t) (h:=h)
  have hP:=λh=>bO (d:=d) (h:=h)
  have a1:=adX (id:=g.length) (i:=i) (by omega);have x1:=C6O (d:=d) (i:=i) ht (by omega);have w1:=D3 (show i+1<9223372036854775808 by omega);rw [A6d];by_cases ce:toX t i=no
  ·by_cases cx:i<=f
   ·rw [if_pos cx] at hx;subst hx;have:i=f:=by
     by_cases c:i<f
     ·exact absurd ce (hn i c)
     ·omega
    subst this;have c1:(-1:Int)<0:=by omega
    obtain ⟨w,ih⟩:=A3V (d:=d) (no:=no) (t:=t) (f:=i) (q:=q) (g:=g) ht hq hf he hn e (i+1) m (i:Int) (by omega) (by omega) (by rw [if_neg (by omega)]);refine ⟨w,?_⟩;generalize encI (d::t)=y at *;simp only [esc,esh,hB,hD,hP,c0,a1,x1,ce,c1,xI,w1];exact ih
   ·rw [if_neg cx] at hx;subst hx;have c1:¬ (f:Int)<0:=by omega
    obtain ⟨w,ih⟩:=A3V (d:=d) (no:=no) (t:=t) (f:=f) (q:=q) (g:=g) ht hq hf he hn e (i+1) m (f:Int) (by omega) (by omega) (by rw [if_neg (by omega)]);refine ⟨w,?_⟩;generalize encI (d::t)=y at *;simp only [esc,esh,hB,hD,hP,c0,a1,x1,ce,c1,xI,w1];exact ih
  ·have:(i+1<=f)↔i<=f:=by
    constructor
    ·omega
    ·intro h;by_cases c:i=f
     ·rw [c] at ce;exact absurd he ce
     ·omega
   obtain ⟨w,ih⟩:=A3V (d:=d) (no:=no) (t:=t) (f:=f) (q:=q) (g:=g) ht hq hf he hn e (i+1) m x (by omega) (by omega) (by rw [hx];by_cases c:i<=f;rw [if_pos c,if_pos (this.2 c)];rw [if_neg c,if_neg (λh=>c (this.1 h))]);refine ⟨w,?_⟩;generalize encI (d::t)=y at *;simp only [esc,esh,hB,hD,hP,c0,a1,x1,ce,xI,w1];exact ih
def D81 {t:List Int}:∀ i,∃ f,f<=i/\toX t f=toX t i/\∀ k,k<f->toX t k≠toX t i:=by
 intro i
 induction i using Nat.strongRecOn with
 | ind i ih =>
  by_cases c:∃ k,k<i/\toX t k=toX t i
  ·obtain ⟨k,hk,he⟩:=c;obtain ⟨f,h1,h2,h3⟩:=ih k hk;exact ⟨f,by omega,h2.trans he,λj hj=>by rw [<-he];exact h3 j hj⟩
  ·exact ⟨i,E5V _,rfl,λk hk he=>c ⟨k,hk,he⟩⟩
def C6D {n:Nat} {t:List Int} {no:Int} {f b:Nat}:C0M n t no f b=A5↔∀ k,k<n->(toX t k=no↔k%2 ^ b=f%2 ^ b):=by
 unfold C0M D0l;rw [<-List.range_eq_range',E6M];constructor
 ·intro h k hk;have:=h k (List.mem_range.2 hk);rw [beq_iff_eq,Bool.eq_iff_iff,decide_eq_true_eq,beq_iff_eq] at this;exact this
 ·intro h k hk;rw [beq_iff_eq,Bool.eq_iff_iff,decide_eq_true_eq,beq_iff_eq];exact h k (List.mem_range.1 hk)
def C2h {n:Nat} {t:List Int} {no:Int} {f:Nat}:∀ e b,A1j n t no f b e=A5↔∃ c,b<=c/\c<b+e/\C0M n t no f c=A5
 | 0,b=>by
  unfold A1j;constructor
  ·intro h;cases h
  ·rintro ⟨c,h1,h2,_⟩;omega
 | e+1,b=>by
  unfold A1j;rw [E6S,C2h e (b+1)];constructor
  ·rintro (h | ⟨c,h1,h2,h3⟩)
   ·exact ⟨b,E5V _,by omega,h⟩
   ·exact ⟨c,by omega,by omega,h3⟩
  ·rintro ⟨c,h1,h2,h3⟩;by_cases e:c=b
   ·rw [e] at h3;exact .inl h3
   ·exact .inr ⟨c,by omega,by omega,h3⟩
def D3q {d:Int} {t:List Int} {i f:Nat} (hi:i<D1 d) (hz:toX t i≠0) (he:toX t f=toX t i) (hf:f<D1 d):A1j (D1 d) t (toX t i) f 0 (W9 d+1)=A4h d t i:=by
 rw [Bool.eq_iff_iff,C2h];constructor
 ·rintro ⟨c,_,hc,h⟩;have h:=C6D.1 h;have hif:=(h i hi).1 rfl;refine E0n (c:=c) hi (.inl (D2Z.2 ⟨hz,λk hk hm=>(h k hk).2 (hm.trans hif)⟩)) λk hk hs=>((h k hk).1 hs).trans hif.symm
 ·intro h;have h:=(D1b hi).1 h;refine ⟨cO d t i,Nat.zero_le _,by have:=C6l (d:=d) (t:=t) (p:=i);omega,C6D.2 λk hk=>?_⟩;have hfi:=h f hf he;constructor
  ·intro hs;exact (h k hk hs).trans hfi.symm
  ·intro hm;exact C6E hi hk (hm.trans hfi)
def C7X {d:Int} {t:List Int} {i:Nat} {h:B5} (ht:t.length=32) (hi:i<D1 d) (hz:toX t i≠0):∃ w:Int,A7J [.a (encI (d::t)),iV (toX t i)] h=A4 (.t [.c (.i .i64 w),.c (.b (A4h d t i))],h):=by
 obtain ⟨f,h1,h2,h3⟩:=D81 (t:=t) i;have hm:=P5 d;obtain ⟨w,e⟩:=A3V (d:=d) (no:=toX t i) (t:=t) (g:=ro h) (f:=f) (q:=33) ht (by omega) (by omega) h2 h3 (D1 d) 0 33 (-1) (by omega) (by omega) (by rw [if_pos (by omega)]);rw [D3q hi hz h2 (by omega)] at e;refine ⟨w,B7p (n:=33) (h2:=ro h++[rT (encI (d::t))]) ?_ rfl⟩;rw [C25];exact e
def B2v {d:Int} {t:List Int} {g h:B5} {i q m:Nat} {x3:Val} {x6:Bool} (ht:t.length=32) (hi:i<32) (hrd:rd h g.length=rT (encI (d::t))):∀ (e k m2:Nat) (a:Bool),k+e=i->e<m2 ->
  ∃ a2:Bool,a2=(a&&(E6y k e).all λk=>!decide (toX t k=toX t i)) /\
  A30 q m m2 (pV g.length 0) (pV (g.length+1) 0) x3 (iV (i:Int)) (bV x6) (bV a) (iV (k:Int)) h =
   A30 q m 1 (pV g.length 0) (pV (g.length+1) 0) x3 (iV (i:Int)) (bV x6) (bV a2) (iV (i:Int)) h
 | e,k,0,a,_,hm=>by omega
 | 0,k,m2+1,a,hk,hm=>by
  have e0:k=i:=by omega
  subst e0;have c0:¬ (k:Int)<k:=by omega
  refine ⟨a,by rw [List.range'_zero,List.all_nil,Bool.and_true],?_⟩;rw [mU,mU];cases a<;>cases x6<;>simp only [esc,c0]
 | e+1,k,m2+1,a,hk,hm=>by
  have c0:(k:Int)<i:=by omega
  have a1:=adX (id:=g.length) (i:=k) (by omega);have l1:=ldX (h:=h) (id:=g.length) hrd ht (i:=k) (by omega);have a2:=adX (id:=g.length) (i:=i) (by omega);have l2:=ldX (h:=h) (id:=g.length) hrd ht (i:=i) (by omega);have w1:=D3 (show k+1<9223372036854775808 by omega);cases a with
  | false =>
   obtain ⟨b,hb,ih⟩:=B2v (q:=q) (m:=m) (x3:=x3) (x6:=x6) ht hi hrd e (k+1) m2 A6 (by omega) (by omega);refine ⟨b,by rw [hb,E51,E51],?_⟩;rw [<-ih]
   conv=>lhs;rw [mU]
   simp only [esc,c0,w1]
  | true =>
   obtain ⟨b,hb,ih⟩:=B2v (q:=q) (m:=m) (x3:=x3) (x6:=x6) ht hi hrd e (k+1) m2 (!decide (toX t k=toX t i)) (by omega) (by omega);refine ⟨b,by rw [hb,List.range'_succ,E6B,E55],?_⟩;rw [<-ih]
   conv=>lhs;rw [mU]
   by_cases c:toX t k=toX t i
   ·rw [decide_eq_true c];rw [c] at l1;simp only [esc,c0,a1,l1,a2,l2,w1]
   ·rw [decide_eq_false c];simp only [esc,c0,a1,l1,a2,l2,c,w1]
def C08 {d:Int} {t:List Int} {g:B5} {q:Nat} (ht:t.length=32) (h0:0<=d) (h5:d<=5) (hq:32<q):∀ (e i m:Nat) (h:B5),i+e=D1 d->e<m->Low (g++[rT (encI (d::t)),rT (encI (0::zI 32))]).length (g++[rT (encI (d::t)),rT (encI (0::zI 32))]) h->rd h (g.length+2)=rT (encI (d::sG d t i)) ->
  ∃ h',A3Z q m (pV g.length 0) (pV (g.length+1) 0) (pV (g.length+2) 0) (iV (i:Int)) h=A4 (.a (encI (d::sG d t (D1 d))),h')
 | e,i,0,h,_,hm,_,_=>by omega
 | 0,i,m+1,h,hi,hm,hlow,hr=>by
  have e0:i=D1 d:=by omega
  subst e0;have c0:¬ ((D1 d:Nat):Int)<(D1 d:Nat):=by omega
  have hF:=E4 (d:=d) (A0a (d:=d) (t:=t) (P5 d));have hz:(encI (0::zI 32)).length=33:=E4 (d:=0) J6;have hrd:rd h g.length=rT (encI (d::t)):=hlow.rd (by simp);have hr1:rd h (g.length+1)=rT (encI (0::zI 32)):=hlow.rd (by simp);have ld:B8 h (pV g.length 0)=A4 (iV d):=B9 (off:=0) (c:=.i .i64 d) hrd rfl (by simp [Cell.isX]);have hP:=λh=>bO (d:=d) (h:=h)
  rw [B2U h0 h5] at hP;have s1:=C7 (h:=h) (id:=g.length+2) hr hF;have s2:=storeAll (h:=h) (id:=g.length+1) (xs:=encI (d::sG d t (D1 d))) hr1 hz hF;have s3:=C7 (h:=h.set (g.length+1) (rT (encI (d::sG d t (D1 d))))) (id:=g.length+1) (C6 (C8 hr1)) hF;rw [B1G];generalize encI (d::sG d t (D1 d))=z at *;exact ⟨_,by simp only [esc,ld,hP,c0,s1,s2,s3]<;>rfl⟩
 | e+1,i,m+1,h,hi,hm,hlow,hr=>by
  have C67:=P5 d;have c0:(i:Int)<(D1 d:Nat):=by omega
  have hB:=E4 (d:=d) ht;have hrd:rd h g.length=rT (encI (d::t)):=hlow.rd (by simp);have ld:B8 h (pV g.length 0)=A4 (iV d):=B9 (off:=0) (c:=.i .i64 d) hrd rfl (by simp [Cell.isX]);have hP:=λh=>bO (d:=d) (h:=h)
  rw [B2U h0 h5] at hP;have s1:=C7 (h:=h) (id:=g.length) (cs:=encI (d::t)) hrd hB;have a1:=adX (id:=g.length) (i:=i) (by omega);have l1:=ldX (h:=h) (id:=g.length) hrd ht (i:=i) (by omega);have hFi:=λh=>B4C (n:=toX t i) (h:=h)
  have w1:=D3 (show i+1<9223372036854775808 by omega);have hk:i<32:=by omega
  have skip:uT d t i=0 ->
    ∃ h',A3Z q m (pV g.length 0) (pV (g.length+1) 0) (pV (g.length+2) 0) (iV ((i+1:Nat):Int)) h=A4 (.a (encI (d::sG d t (D1 d))),h'):=by
   intro hf;exact C08 (q:=q) ht h0 h5 hq e (i+1) m h (by omega) (by omega) hlow (by rw [D0t hk hf];exact hr)
  have a3:=adX (id:=g.length+2) (i:=i) hk;have put:uT d t i=toX t i ->
    ∃ h3,I5 h (pV (g.length+2) (1+i)) (iV (toX t i))=A4 h3/\∃ h',A3Z q m (pV g.length 0) (pV (g.length+1) 0) (pV (g.length+2) 0) (iV ((i+1:Nat):Int)) h3=A4 (.a (encI (d::sG d t (D1 d))),h'):=by
   intro hf;have hF:=E4 (d:=d) (A0a (d:=d) (t:=t) (k:=i) (by omega));have t1:=G8 (x:=.i .i64 (toX t i)) (off:=1+i) hr (by rw [hF];omega);rw [B76,<-hf,<-D0u hk,hf] at t1;refine ⟨_,t1,C08 (q:=q) ht h0 h5 hq e (i+1) m _ (by omega) (by omega) (hlow.set (by simp) _) (C6 (C8 hr))⟩
  rw [B1G];by_cases cz:toX t i=0
  ·have hf:uT d t i=0:=by unfold uT A38;rw [decide_eq_true cz];rfl
   obtain ⟨h',ih⟩:=skip hf;rw [cz] at l1;refine ⟨h',?_⟩;generalize encI (d::t)=z at *;simp only [esc,ld,hP,c0,a1,l1,mT,w1];exact ih
  ·cases cf:xQ (toX t i) with
   | false =>
    rw [cf] at hFi;have hf:uT d t i=0:=by unfold uT A38;rw [cf,E51,E6T,cond_false]
    obtain ⟨h',ih⟩:=skip hf;refine ⟨h',?_⟩;generalize encI (d::t)=z at *;simp only [esc,ld,hP,c0,a1,l1,cz,hFi,mT,w1];exact ih
   | true =>
    rw [cf] at hFi;obtain ⟨wb,hC⟩:=C7X (d:=d) (t:=t) (i:=i) (h:=h) ht (by omega) cz;have hq2:=U9 (Grows.rfl' (h:=h)) (v:=.t [.c (.i .i64 wb),.c (.b (A4h d t i))]);obtain ⟨a2,ha2,hL⟩:=B2v (d:=d) (t:=t) (g:=g) (h:=h) (i:=i) (q:=q) (m:=m) (x3:=pV (g.length+2) 0) (x6:=A4h d t i) ht hk hrd i 0 q A5 (by omega) (by omega);rw [E55,<-List.range_eq_range',show (E6p i).all (λk=>!decide (toX t k=toX t i))=pD t i from rfl] at ha2;subst ha2;rw [mU q m 0] at hL;have ci:¬ (i:Int)<i:=by omega
    rw [show (((0:Nat):Int))=0 from rfl] at hL;have fin:∃ h',A30 q m q (pV g.length 0) (pV (g.length+1) 0) (pV (g.length+2) 0) (iV (i:Int)) (bV (A4h d t i)) (bV A5) (iV 0) h=A4 (.a (encI (d::sG d t (D1 d))),h'):=by
     rw [hL];cases cw:A4h d t i with
     | true =>
      have hf:uT d t i=toX t i:=by unfold uT A38;rw [cf,cw,decide_eq_false cz,Bool.or_true];rfl
      obtain ⟨h3,st,h',ih⟩:=put hf;refine ⟨h',?_⟩;simp only [esc,ci,a1,l1,a3,st,mT,w1];exact ih
     | false =>
      cases cs:pD t i with
      | true =>
       have hf:uT d t i=toX t i:=by unfold uT A38;rw [cf,cs,decide_eq_false cz];rfl
       obtain ⟨h3,st,h',ih⟩:=put hf;refine ⟨h',?_⟩;simp only [esc,ci,a1,l1,a3,st,mT,w1];exact ih
      | false =>
       have hf:uT d t i=0:=by unfold uT A38;rw [cf,cs,cw,decide_eq_false cz];rfl
       obtain ⟨h',ih⟩:=skip hf;refine ⟨h',?_⟩;simp only [esc,ci,mT,w1];exact ih
    obtain ⟨h',e⟩:=fin;refine ⟨h',?_⟩;generalize encI (d::t)=z at *;simp only [esc,ld,hP,c0,a1,l1,cz,hFi,s1,hC,hq2];exact e
def D2u {d:Int} {t:List Int} {h:B5} (ht:t.length=32):B5s [.a (encI (d::t))] h=A4 (.a (encI (C9k d t)),h):=by
 have key:∀ N,32<N->∀ g,∃ g',B42 N [.a (encI (d::t))] g=A4 (.a (encI (C9k d t)),g'):=by
  intro N hN g;have hB:=E4 (d:=d) ht;have hz:(encI (0::zI 32)).length=33:=E4 (d:=0) J6;have l0:(encI (d::t))[0]?=A4 (.i .i64 d):=rfl;have haf:E6 (encI (0::zI 32)) []=A4 (encI (0::zI 32)):=rfl;rw [C8D,B2B];unfold C9k;by_cases c1:d<0
  ·rw [if_neg (by omega)];generalize encI (0::zI 32)=z at *;generalize encI (d::t)=y at *;exact ⟨_,by simp only [esc,esh,Nat.reduceAdd,Nat.reduceLT,hB,hz,l0,c1,haf]<;>rfl⟩
  ·by_cases c2:5<d
   ·rw [if_neg (by omega)];generalize encI (0::zI 32)=z at *;generalize encI (d::t)=y at *;exact ⟨_,by simp only [esc,esh,Nat.reduceAdd,Nat.reduceLT,hB,hz,l0,c1,c2,haf]<;>rfl⟩
   ·rw [if_pos (by omega)];have es:(encI (0::zI 32)).set 0 (.i .i64 d)=encI (d::zI 32):=rfl;have hz2:(encI (d::zI 32)).length=33:=E4 (d:=d) J6;have V7:0<(encI (0::zI 32)).length:=by rw [hz];omega
    obtain ⟨h',e⟩:=C08 (g:=g) (d:=d) (t:=t) (q:=N) ht (by omega) (by omega) hN (D1 d) 0 N (g++[rT (encI (d::t)),rT (encI (0::zI 32)),rT (encI (d::zI 32))]) (by omega) (by have:=P5 d;omega)
     (by have:=(Low.refl (h:=g++[rT (encI (d::t)),rT (encI (0::zI 32))]) (E5V _)).new [rT (encI (d::zI 32))];simpa using this) (by rw [D0v];simp)
    refine ⟨h',?_⟩;generalize encI (d::zI 32)=z2 at *;generalize encI (0::zI 32)=z at *;generalize encI (d::t)=y at *;simp only [esc,esh,Nat.reduceAdd,Nat.reduceLT,hB,hz,l0,c1,c2,haf,V7,es,hz2];exact e
 obtain ⟨g',e⟩:=key (h.length+33) (by omega) (ro h);exact C3G e (by simp)
section
variable {D:Dev} {n m:Int} {P:Nat->Prop} {h:B5} {c:Cl} {cs:List Cell} {v:Val}
def E1k {x4 x6 x8 x9 x11 ino:Nat} {no p0 d:Int} {t:List Int} {Q:Nat->Prop} {H:B5} {Rr B S Lo:Nat} (hv:Has h v 256 D.length (D5 D)) (hD:okD D) (e4:x4=h.length) (e6:x6=h.length+1) (e8:x8=h.length+2) (e9:x9=h.length+3) (e11:h.length+4<x11)
  (hQ0:Q=λid=>(P id/\id<h.length)\/x11+1<=id) (hHl:x11+1<=H.length) (G:Grows h H) (K:IsRC n Q H cs c) (ht:c.taken.length=D.length) (hl:D.length<=1000) (h32:t.length=32) (hn:n<=128)
  (r4:rd H x4=rT cs) (r6:rd H x6=rT (D7 D.length n m)) (r8:rd H x8=rT Z8) (r9:rd H x9=rT (encI (2::1::0::p0::no::zI 6))) (r11:rd H x11=rT (encI (d::t))) (hin:ino<c.ino.length) (P6:∀ x∈c.ino,x.length=11) (hc:c.ino.length<=1000)
  (hR:RowW n c) (sm:Small c Rr B S Lo) (hRr:Rr<=700) (hB:B<=500000) (hSs:S<=50000) (hLo:Lo<=500000) :
  ∃ cs' H',B1L 200 v (iV (ino:Int)) (pV x4 0) (pV x6 0) (pV x8 0) (pV x9 0) (pV x11 0) H=A4 (.a cs',H')/\Grows h H'/\IsRC n (λid=>P id\/h.length<=id) H' cs'
   (if no=0 then { c with ino:=c.ino.set ino (2::1::0::p0::no::zI 6) } else zS D n { c with ino:=c.ino.set ino (2::1::0::p0::no::zI 6) } ino no d t):=by
 obtain ⟨ii,hii⟩:∃ ii,ii=2::1::0::p0::no::zI 6:=⟨_,rfl⟩;rw [<-hii] at r9 ⊢;have iil:ii.length=11:=by rw [hii];rfl
 have i4:ii.getD 4 0=no:=by rw [hii];rfl
 have hQ:∀ id,H.length<=id->Q id:=λid hid=>by rw [hQ0];exact .inr (by omega)
 have nQ4:¬ Q x4:=by rw [hQ0];intro hh;rcases hh with hh | hh<;>omega
 have nQ8:¬ Q x8:=by rw [hQ0];intro hh;rcases hh with hh | hh<;>omega
 have E4c:¬ Q x11:=by rw [hQ0];intro hh;rcases hh with hh | hh<;>omega
 obtain ⟨v49,p50,H1,cs1,H2,b1,b2,b3,b4,b5,b6,b7,b8,b9,b10,b11⟩:=D0Y (g:=h) G (by omega) K r4 hQ nQ4 r9 iil hin P6 hc (by omega);have ef:E6 [] []=A4 []:=rfl;have q9:rd H2 x9=rT (encI ii):=by rw [b11 _ (C8 r9) (by omega)];exact r9
 have q8:rd H2 x8=rT Z8:=by rw [b11 _ (C8 r8) (by omega)];exact r8
 have q6:rd H2 x6=rT (D7 D.length n m):=by rw [b11 _ (C8 r6) (by omega)];exact r6
 have q11:rd H2 x11=rT (encI (d::t)):=by rw [b11 _ (C8 r11) (by omega)];exact r11
 have l9:B8 H2 (pV x9 4)=A4 (iV no):=by rw [gB q9 (by omega),i4]
 have l8c:D4 H2 8 (pV x4 0)=A4 (.a cs1):=C7 b9 b8.length;have ad0:∀ x,I3 6 1 (pV x 4) (iV 0)=A4 (pV x 4):=λx=>J5 (j:=0) (by omega)
 have toP:∀ id,Q id->P id\/h.length<=id:=λid hid=>by
  rw [hQ0] at hid;rcases hid with hid | hid
  ·exact .inl hid.1
  ·exact .inr (by omega)
 by_cases hz:no=0
 ·rw [if_pos hz];obtain ⟨H3,hH3⟩:∃ H3,H3=H2.set x8 (rT cs1):=⟨_,rfl⟩;have s8:E5 H2 8 (pV x8 0) (.a cs1)=A4 H3:=by rw [storeAll (n:=8) q8 rfl b8.length,hH3]
  have l8:D4 H3 8 (pV x8 0)=A4 (.a cs1):=C7 (by rw [hH3];exact C6 (C8 q8)) b8.length;refine ⟨cs1,H3,?_,by rw [hH3];exact b7.set (by omega) _,by rw [hH3];exact (b8.set (.inr nQ8)).mono toP⟩;rw [hz] at l9;rw [B1M];simp only [esc,ef,b1,b2,b3,b4,b5,b6,ad0,l9,l8c,s8,l8]
 ·rw [if_neg hz];have h33:(encI (d::t)).length=33:=by simp [B7,h32]
  have l11:D4 H2 33 (pV x11 0)=A4 (.a (encI (d::t))):=C7 q11 h33;have hF:=D2u (d:=d) (t:=t) (h:=H2) h32;rw [B6c] at hF;have f32:=A0b (d:=d) (t:=t);obtain ⟨d',hd'⟩:∃ d',d'=X7 d t:=⟨_,rfl⟩;obtain ⟨t0,ht0⟩:∃ t0,t0=gD d t:=⟨_,rfl⟩;rw [<-hd',<-ht0] at hF;rw [<-ht0] at f32;have C66:(encI (d'::t0)).length=33:=by simp [B7,f32]
  obtain ⟨H3,hH3⟩:∃ H3,H3=H2.set x11 (rT (encI (d'::t0))):=⟨_,rfl⟩;have s11:E5 H2 33 (pV x11 0) (.a (encI (d'::t0)))=A4 H3:=by rw [storeAll q11 h33 C66,hH3]
  have q311:rd H3 x11=rT (encI (d'::t0)):=by rw [hH3];exact C6 (C8 q11)
  have l311:D4 H3 33 (pV x11 0)=A4 (.a (encI (d'::t0))):=C7 q311 C66;have o3:∀ j,j≠x11->rd H3 j=rd H2 j:=λj hj=>by rw [hH3,B6 (Ne.symm hj)]
  have lH3:H3.length=H2.length:=by rw [hH3];simp
  have hBu:=A6I (d:=d') (t:=t0) (h:=H3) f32;obtain ⟨L,hL⟩:∃ L,L=M7 t0 (D1 d'):=⟨_,rfl⟩;have hLl:L.length<=32:=by rw [hL];exact E6w (gQ ..) (P5 d')
  rw [<-hL] at hBu;obtain ⟨H4,hH4⟩:∃ H4,H4=H3++[rT (encI L)]:=⟨_,rfl⟩;rw [<-hH4] at hBu;have lH4:H4.length=H3.length+1:=by rw [hH4];simp
  have G3:Grows h H3:=by rw [hH3];exact b7.set (by omega) _
  have G34:Grows H3 H4:=by rw [hH4];exact (Grows.rfl').new _
  obtain ⟨Q2,hQ2⟩:∃ Q2:Nat->Prop,Q2=λid=>(Q id/\id<H2.length)\/H2.length+1<=id:=⟨_,rfl⟩
  have K4:IsRC n Q2 H4 cs1 { c with ino:=c.ino.set ino ii }:=by
   have k2:=b8.low;have k3:IsRC n (λid=>Q id/\id<H2.length) H3 cs1 { c with ino:=c.ino.set ino ii }:=by
    rw [hH3];exact k2.set (.inr λhh=>E4c hh.1)
   exact (k3.grows G34).mono λid hid=>by rw [hQ2];exact .inl hid
  have E23:¬ Q2 x4:=by rw [hQ2];intro hh;rcases hh with hh | hh;exact nQ4 hh.1;have:=C8 b9;omega
  have E24:¬ Q2 x8:=by rw [hQ2];intro hh;rcases hh with hh | hh;exact nQ8 hh.1;have:=C8 q8;omega
  have E4d:¬ Q2 x11:=by rw [hQ2];intro hh;rcases hh with hh | hh;exact E4c hh.1;have:=C8 q11;omega
  have to4:∀ {id r},rd H2 id=A4 r->id≠x11->rd H4 id=A4 r:=λhr T1=>G34.rd (by rw [o3 _ T1];exact hr)
  have lt8:=C8 q8;have lt9:=C8 q9;have lt11:=C8 q11;have lt4:=C8 b9;have lt6:=C8 q6;obtain ⟨cs2,H5,M5,f1,f2,f3,f4,f5,f6,f7,f8⟩:=E1l (D:=D) (m:=m) (g:=h) (Q:=Q2) (n:=n) (L:=L) (d:=d') (x1:=v) (x3:=iV (ino:Int)) (x4:=x4) (x6:=x6) (x8:=x8) (x9:=x9) (x11:=x11) (bid:=H2.length) (q:=200) hLl (by omega) ⟨by omega,by omega⟩ E23 E4d hl (by omega) (by omega) (by omega) (by omega) (by omega) L.length 0 200 ({ c with ino:=c.ino.set ino ii },t0) cs1 H4 (by omega) (by omega) f32 (G3.trans' G34) (λid hid=>by rw [hQ2];exact .inr (by omega)) K4 ht (to4 b9 (by omega)) (to4 q6 (by omega)) (G34.rd q311) (by rw [hH4,<-lH3,E9];rfl);rw [E6a] at f4 f6;obtain ⟨c1,hc1⟩:∃ c1:Cl,c1={ c with ino:=c.ino.set ino ii }:=⟨_,rfl⟩;have eb:oW D n (c1,t0) L=V5 D n c1 d t:=by unfold V5;rw [hL,ht0,hd']
  rw [<-hc1] at f4 f6 ⊢;rw [eb] at f4 f6;have hbs:SameC c1 (V5 D n c1 d t).1:=iI (D:=D) (n:=n) (L:=M7 (gD d t) (D1 (X7 d t))) (s:=(c1,gD d t));have hbT:(V5 D n c1 d t).2.length=32:=(B2T (D:=D) (n:=n) (L:=M7 (gD d t) (D1 (X7 d t))) (s:=(c1,gD d t))).trans A0b;have hok:=E0J (D:=D) (n:=n) (c:=c1) (d:=d) (t:=t);have hdr:=C6V (d:=d) (t:=t);have eC:zS D n c1 ino no d t=O2 D (d'::(V5 D n c1 d t).2) (bC D n ino ((V5 D n c1 d t).1,λ_=>A7) (oZ D (d'::(V5 D n c1 d t).2) (M7 (V5 D n c1 d t).2 (D1 d')))).2 (S9 (bC D n ino ((V5 D n c1 d t).1,λ_=>A7) (oZ D (d'::(V5 D n c1 d t).2) (M7 (V5 D n c1 d t).2 (D1 d')))).1 no (bif okX d' (V5 D n c1 d t).2 then gE d' (V5 D n c1 d t).2 else zeros 256)) (M7 (V5 D n c1 d t).2 (D1 d')):=by
   rw [hd'];rfl
  rw [<-hd'] at hok hdr;have r1:c1.row=c.row:=by rw [hc1]
  have r2:c1.lnk=c.lnk:=by rw [hc1]
  have r3:c1.blocks=c.blocks:=by rw [hc1]
  have r4':c1.made=c.made:=by rw [hc1]
  have r5:c1.lost=c.lost:=by rw [hc1]
  have r6':c1.par=c.par:=by rw [hc1]
  have sm2:Small (V5 D n c1 d t).1 Rr B S Lo:=⟨by rw [hbs.row,r1];exact sm.row,λi=>by rw [hbs.lnk,r2];exact sm.lnk i,by rw [hbs.blocks,r3];exact sm.blocks,by rw [hbs.made,r4'];exact sm.made,by rw [hbs.lost,r5];exact sm.lost0,by rw [hbs.lost,r5];exact sm.lost⟩;have hR2:RowW n (V5 D n c1 d t).1:=hR.same (by rw [hbs.row,r1]) (by rw [hbs.par,r6']);rw [eC];obtain ⟨s2,hs2⟩:∃ s2,s2=V5 D n c1 d t:=⟨_,rfl⟩;rw [<-hs2] at f4 f6 hbT hok sm2 hR2 ⊢;obtain ⟨cs3,H6,g1,g2,g3⟩:=D7O (m:=m) (ino:=ino) (at_:=no) (hv.grows f2) hD f4 hbT hdr.2 hok hn hR2 sm2 hRr hB hSs hLo;have lt5:=f2.len;have k8:rd H5 x8=rT Z8:=by rw [f8 _ (by omega) (by omega) (by omega)];exact to4 q8 (by omega)
  have k9:rd H5 x9=rT (encI ii):=by rw [f8 _ (by omega) (by omega) (by omega)];exact to4 q9 (by omega)
  have k6:rd H5 x6=rT (D7 D.length n m):=by rw [f8 _ (by omega) (by omega) (by omega)];exact to4 q6 (by omega)
  have q86:rd H6 x8=rT Z8:=g2.rd k8;obtain ⟨H7,hH7⟩:∃ H7,H7=H6.set x8 (rT cs3):=⟨_,rfl⟩;have s8:E5 H6 8 (pV x8 0) (.a cs3)=A4 H7:=by rw [storeAll (n:=8) q86 rfl g3.length,hH7]
  have l8:D4 H7 8 (pV x8 0)=A4 (.a cs3):=C7 (by rw [hH7];exact C6 (C8 q86)) g3.length;have G6:Grows h H6:=f2.trans' g2;refine ⟨cs3,H7,?_,by rw [hH7];exact G6.set (by omega) _,?_⟩
  ·have l45:D4 H5 8 (pV x4 0)=A4 (.a cs2):=C7 f5 f4.length;have l65:D4 H5 3 (pV x6 0)=A4 (.a (D7 D.length n m)):=C7 k6 rfl;have l95:B8 H5 (pV x9 4)=A4 (iV no):=by rw [gB k9 (by omega),i4]
   have l115:D4 H5 33 (pV x11 0)=A4 (.a (encI (d'::s2.2))):=C7 f6 (by simp [B7,hbT]);have cL:¬ ((L.length:Nat):Int)<(L.length:Nat):=by omega
   have c00:((0:Nat):Int)=0:=rfl;rw [c00] at f1;rw [lH3] at hBu;rw [B1M];generalize encI (d::t)=X at *;generalize encI (d'::t0)=X0 at *;generalize encI (d'::s2.2)=X2 at *;generalize hLL:D7 D.length n m=LC at *;simp only [esc,ef,b1,b2,b3,b4,b5,b6,ad0,l9,hz,l11,hF,s11,l311,hBu];refine f1.trans ?_;rw [B1O];simp only [esc,cL,l45,l65,ad0,l95,l115,g1,s8,l8]
  ·rw [hH7];refine (g3.set (.inr ?_)).mono ?_
   ·intro hh;rcases hh with hh | hh
    ·exact E24 hh
    ·have:=C8 k8;omega
   ·intro id hid;rcases hid with hid | hid
    ·rw [hQ2] at hid;rcases hid with hid | hid
     ·exact toP _ hid.1
     ·exact .inr (by omega)
    ·exact .inr (by omega)
def D6A {ino:Int} {Rr B S Lo:Nat} (hv:Has h v 256 D.length (D5 D)) (hD:okD D) (K:IsRC n P h cs c) (ht:c.taken.length=D.length) (hl:D.length<=1000) (hn:n<=128) (i0:0<=ino) (i1:ino.toNat<c.ino.length) (i2:ino<=n) (P6:∀ x∈c.ino,x.length=11) (hc:c.ino.length<=1000)
  (hR:RowW n c) (sm:Small c Rr B S Lo) (hRr:Rr<=700) (hB:B<=500000) (hSs:S<=50000) (hLo:Lo<=500000) :
  ∃ cs' H',B5w [.a cs,v,.a (D7 D.length n m),iV ino] h=A4 (.a cs',H')/\Grows h H'/\IsRC n (λid=>P id\/h.length<=id) H' cs' (sF D n c ino):=by
 obtain ⟨k,rfl⟩:=E6C i0;rw [E6c] at i1;have c8:=K.length;obtain ⟨p0,hp0⟩:∃ p0,p0=(c.par k).getD 0:=⟨_,rfl⟩;obtain ⟨d0,hd0⟩:∃ d0,d0=(drV D n k).getD 0 0:=⟨_,rfl⟩;obtain ⟨b,hb⟩:∃ b,b=blk D d0:=⟨_,rfl⟩;have hbl:b.length=256:=by rw [hb];exact O9 hD
 obtain ⟨was,ew⟩:∃ was,was=A2X D n (k:Int):=⟨_,rfl⟩;have hwl:was.length=11:=by rw [ew];exact sD
 have was0:was.getD 0 0=kdV D n k:=by rw [ew];rfl
 have was4:was.getD 4 0=d0:=by rw [ew,hd0];rfl
 obtain ⟨X0,hX0⟩:∃ X0:List Int,X0=(bif V6 b then getD b::O4 b 32 else 0::zI 32):=⟨_,rfl⟩;have X0l:X0.length=33:=by rw [hX0];cases V6 b<;>simp [mW,J6]
 obtain ⟨G3,hG3⟩:∃ G3,G3=h++[rT cs,rT (D7 D.length n m),rT Z8]:=⟨_,rfl⟩;obtain ⟨G4,hG4⟩:∃ G4,G4=h++[rT cs,rT (D7 D.length n m),rT Z8,rT (encI (2::1::0::p0::0::zI 6))]:=⟨_,rfl⟩;obtain ⟨G5,hG5⟩:∃ G5,G5=h++[rT cs,rT (D7 D.length n m),rT Z8,rT (encI (2::1::0::p0::0::zI 6)),rT (encI was)]:=⟨_,rfl⟩;have lG3:G3.length=h.length+3:=by rw [hG3];simp
 have lG4:G4.length=h.length+4:=by rw [hG4];simp
 have lG5:G5.length=h.length+5:=by rw [hG5];simp
 have G05:Grows h G5:=by rw [hG5];exact U2 Grows.rfl' rfl
 have hI:=nE (v:=v) (n:=n) (m:=m) (i:=(k:Int)) (h:=G4) (by rw [hG4];exact hv.more _) hD;rw [<-B85,<-ew] at hI;obtain ⟨u,tb,d1,d2,d3,_⟩:=A1L (no:=d0) (hv.grows G05) hD;rw [<-hb] at d3;have B8j:=D2v hbl d3;rw [<-hX0] at B8j;obtain ⟨H6,hH6⟩:∃ H6,H6=(G5++tb)++[rT (encI X0)]:=⟨_,rfl⟩;obtain ⟨x11,C7a⟩:∃ x11,x11=(G5++tb).length:=⟨_,rfl⟩;have lx11:h.length+5<=x11:=by rw [C7a];simp [lG5]
 have lH6:H6.length=x11+1:=by rw [hH6,C7a,E5T];rfl
 have G06:Grows h H6:=by rw [hH6];exact (G05.trans' (U2 Grows.rfl' d2)).new _
 obtain ⟨Q,hQ0⟩:∃ Q:Nat->Prop,Q=λid=>(P id/\id<h.length)\/x11+1<=id:=⟨_,rfl⟩
 have K6:IsRC n Q H6 cs c:=(K.low.grows G06).mono λid hid=>by rw [hQ0];exact .inl hid
 have lift:∀ {id r},rd G5 id=A4 r->rd H6 id=A4 r:=λhr=>by rw [hH6];exact C5 (C5 hr)
 have s4:rd H6 h.length=rT cs:=lift (by rw [hG5,E9];rfl);have s6:rd H6 (h.length+1)=rT (D7 D.length n m):=lift (by rw [hG5,K9];rfl);have s8:rd H6 (h.length+2)=rT Z8:=lift (by rw [hG5,K9];rfl);have s9:rd H6 (h.length+3)=rT (encI (2::1::0::p0::0::zI 6)):=lift (by rw [hG5,K9];rfl);have s10:rd H6 (h.length+4)=rT (encI was):=lift (by rw [hG5,K9];rfl);have s11:rd H6 x11=rT (encI X0):=by rw [hH6,C7a,E9];rfl
 have nQ4:¬ Q h.length:=by rw [hQ0];intro hh;rcases hh with hh | hh<;>omega
 have nQ9:¬ Q (h.length+3):=by rw [hQ0];intro hh;rcases hh with hh | hh<;>omega
 have eO:iQ D n c k=(bif decide (kdV D n k=2)&&V6 b then (eU D n c d0,U7 D n c d0) else (c,0)):=by unfold iQ;rw [<-hd0,<-hb]
 have eC:∀ s:Cl × Int,iQ D n c k=s->(s.2≠0->V6 b=A5)->sF D n c k=(if s.2=0 then { s.1 with ino:=s.1.ino.set k (2::1::0::p0::s.2::zI 6) } else zS D n { s.1 with ino:=s.1.ino.set k (2::1::0::p0::s.2::zI 6) } k s.2 (X0.getD 0 0) (X0.drop 1)):=by
  intro s es hg;have eI:Y9 D n c k={ s.1 with ino:=s.1.ino.set k (2::1::0::p0::s.2::zI 6) }:=by unfold Y9;rw [es,<-hp0];rfl
  unfold sF;rw [es,eI,<-hd0,<-hb];by_cases hz:s.2=0
  ·rw [if_pos hz,if_pos hz]
  ·rw [if_neg hz,if_neg hz,hX0,hg hz];rfl
 have X0c:X0=X0.getD 0 0::X0.drop 1:=by
  cases hx:X0 with
  | nil=>rw [hx] at X0l;cases X0l
  | cons a l=>rfl
 have X0d:(X0.drop 1).length=32:=by rw [E6O,X0l]
 have fin:∀ (s:Cl × Int) (cs2:List Cell) (H7:B5),iQ D n c k=s->(s.2≠0->V6 b=A5)->SameC c s.1->s.1.taken.length=D.length->Grows h H7->x11+1<=H7.length->IsRC n Q H7 cs2 s.1->rd H7 h.length=rT cs2->rd H7 (h.length+3)=rT (encI (2::1::0::p0::s.2::zI 6))->(∀ j,j<x11+1->j≠h.length->j≠h.length+3->rd H7 j=rd H6 j) ->
   ∃ cs' H',B1L 200 v (iV (k:Int)) (pV h.length 0) (pV (h.length+1) 0) (pV (h.length+2) 0) (pV (h.length+3) 0) (pV x11 0) H7=A4 (.a cs',H')/\Grows h H'/\IsRC n (λid=>P id\/h.length<=id) H' cs' (sF D n c k):=by
  intro s cs2 H7 es hg ss tl G7 hl7 K7 q4 q9 same;rw [eC s es hg];exact E1k (m:=m) hv hD rfl rfl rfl rfl (by omega) hQ0 hl7 G7 K7 tl hl X0d hn q4 (by rw [same _ (by omega) (by omega) (by omega)];exact s6) (by rw [same _ (by omega) (by omega) (by omega)];exact s8) q9 (by rw [same _ (by omega) (by omega) (by omega),<-X0c];exact s11) (by rw [ss.ino];exact i1) (by rw [ss.ino];exact P6) (by rw [ss.ino];exact hc) (hR.same ss.row ss.par) ⟨by rw [ss.row];exact sm.row,λi=>by rw [ss.lnk];exact sm.lnk i,by rw [ss.blocks];exact sm.blocks,by rw [ss.made];exact sm.made,by rw [ss.lost];exact sm.lost0,by rw [ss.lost];exact sm.lost⟩ hRr hB hSs hLo
 have key:∃ cs' H',B45 200 [.a cs,v,.a (D7 D.length n m),iV (k:Int)] h=A4 (.a cs',H')/\Grows h H'/\IsRC n (λid=>P id\/h.length<=id) H' cs' (sF D n c k):=by
  have z11:[o0,o0,o0,o0,o0,o0,o0,o0,o0,o0,o0]=encI (zI 11):=rfl;have cl1:cells? (.a cs)=A4 cs:=rfl;have cl2:cells? (.a (D7 D.length n m))=A4 (D7 D.length n m):=rfl;have l3:D4 G4 3 (pV (h.length+1) 0)=A4 (.a (D7 D.length n m)):=C7 (by rw [hG4,K9];rfl) rfl;have wl:(encI was).length=11:=by rw [B7,hwl]
  have ef:E6 (encI (zI 11)) [(0,1,iV 2),(1,1,iV 1),(3,1,iV p0)]=A4 (encI (2::1::0::p0::0::zI 6)):=rfl;have st4:E5 (G3++[rT (encI (zI 11))]) 11 (pV (h.length+3) 0) (.a (encI (2::1::0::p0::0::zI 6)))=A4 G4:=by
   rw [<-lG3,storeAll (by rw [E9];rfl) (by rfl) (by rfl),S3,hG3,hG4];simp
  have st5:E5 (G4++[rT (encI (zI 11))]) 11 (pV (h.length+4) 0) (.a (encI was))=A4 G5:=by
   rw [<-lG4,storeAll (by rw [E9];rfl) (by rfl) wl,S3,hG4,hG5];simp
  have ad0:∀ x,I3 6 1 (pV x 4) (iV 0)=A4 (pV x 4):=λx=>J5 (j:=0) (by omega)
  have w5:B8 G5 (pV (h.length+4) 4)=A4 (iV d0):=by
   have:=gB (h:=G5) (id:=h.length+4) (x:=was) (by rw [hG5,K9];rfl) (k:=4) (by omega);rw [was4] at this;exact this
  have e0:D4N (.t [.a (encI X0),.c (.b (V6 b))]) 0=A4 (.a (encI X0)):=rfl;have e1:D4N (.t [.a (encI X0),.c (.b (V6 b))]) 1=A4 (bV (V6 b)):=rfl;have z33:([o0]++E5R 32 o0).length=33:=rfl;have xl:(encI X0).length=33:=by rw [B7,X0l]
  have st6:E5 ((G5++tb)++[rT ([o0]++E5R 32 o0)]) 33 (pV (G5++tb).length 0) (.a (encI X0))=A4 H6:=by
   rw [storeAll (by rw [E9];rfl) z33 xl,S3,hH6];rfl
  have w60:B8 H6 (pV (h.length+4) 0)=A4 (iV (kdV D n k)):=by rw [gB s10 (by omega),was0]
  have w64:B8 H6 (pV (h.length+4) 4)=A4 (iV d0):=by rw [gB s10 (by omega),was4]
  obtain ⟨v4,v5,y1,y2,y3⟩:∃ v4 v5,B8 G3 (pV h.length 7)=A4 v4/\D9 1 v4 (iV (k:Int))=A4 v5/\B8 G3 v5=A4 (iV p0):=by
   obtain ⟨xr,xi,xt,xb,xm,xl,xy,ys,rfl,kk⟩:=K;have hk1:k<(fV n c.par).length:=by rw [S6];omega
   have lky:B8 G3 (pV h.length 7)=A4 (.c xy):=B9 (cs:=rcC xr xi xt xb xm c.lost xl xy) (by rw [hG3,E9];rfl) rfl rfl;obtain ⟨it,ot,et,_,hA,_⟩:=(kk.par.more [rT (rcC xr xi xt xb xm c.lost xl xy),rT (D7 D.length n m),rT Z8]).sl (by omega);cases et;rw [<-hG3] at hA;exact ⟨_,_,lky,by rw [C9 (by omega),Nat.mul_one],hA k _ (by rw [I1,A6w (by rw [S6] at hk1;exact hk1),hp0];rfl)⟩
  by_cases ck:kdV D n k=2
  ·cases cg:V6 b with
   | true =>
    rw [ck,cg] at eO;have eO:iQ D n c k=(eU D n c d0,U7 D n c d0):=eO;obtain ⟨cs',K1,H7,H8,a1,a2,a3,a4,a5,a6,a7,a8,a9⟩:=D9i (m:=m) (no:=d0) (g:=h) G06 (E5V _) K6 s4 c8 (λid hid=>by rw [hQ0];exact .inr (by omega)) nQ4 ht hl;have q9:rd H8 (h.length+3)=rT (encI (2::1::0::p0::0::zI 6)):=by rw [a9 _ (by omega) (by omega)];exact s9
    have es:(encI (2::1::0::p0::0::zI 6)).set 4 (.i .i64 (U7 D n c d0))=encI (2::1::0::p0::U7 D n c d0::zI 6):=rfl;obtain ⟨H9,hH9⟩:∃ H9,H9=H8.set (h.length+3) (rT (encI (2::1::0::p0::U7 D n c d0::zI 6))):=⟨_,rfl⟩;have st9:I5 H8 (pV (h.length+3) 4) (iV (U7 D n c d0))=A4 H9:=by rw [G8 q9 (by rw [B7];simp [J6]),es,hH9]
    obtain ⟨cs2,H',j1,j2,j3⟩:=fin (eU D n c d0,U7 D n c d0) cs' H9 eO (λ_=>cg) (rS ..) (by rw [iP];exact ht) (by rw [hH9];exact a5.set (by omega) _) (by rw [hH9];simp;omega) (by rw [hH9];exact a6.set (.inr nQ9)) (by rw [hH9,B6 (by omega)];exact a7) (by rw [hH9];exact C6 (C8 q9)) (λj hj h1 h2=>by rw [hH9,B6 (Ne.symm h2),a9 j (by omega) h1]);refine ⟨cs2,H',?_,j2,j3⟩;have l46:D4 H6 8 (pV h.length 0)=A4 (.a cs):=C7 s4 c8;have l66:D4 H6 3 (pV (h.length+1) 0)=A4 (.a (D7 D.length n m)):=C7 s6 rfl;rw [cg] at e0 e1 B8j;rw [ck] at w60;rw [<-C7a,E5Y] at st6;rw [A4w,z11,A5S];generalize encI (zI 11)=Z at *;generalize encI (2::1::0::p0::0::zI 6)=I0 at *;generalize encI was=W at *;generalize encI X0=XX at *;generalize [o0]++E5R 32 o0=Z33 at *;generalize hLL:D7 D.length n m=LC at *;generalize Z8=E8 at *;simp only [cl1,cl2,M9,E5Y,E6q,E59,E5T,E52,E6h,E6e,Nat.reduceAdd,<-hG3];simp only [esc,y1,y2,y3,ef,lG3,st4,l3,hI,lG4,st5,ad0,w5,d1,B8j,e0,e1,<-C7a,st6,w60,l46,l66,w64,a1,a2,a3,a4,st9];exact j1
   | false =>
    rw [ck,cg] at eO;have eO:iQ D n c k=(c,0):=eO;obtain ⟨cs2,H',j1,j2,j3⟩:=fin (c,0) cs H6 eO (λhh=>absurd rfl hh) (.rfl' _) ht G06 (by omega) K6 s4 s9 (λ_ _ _ _=>rfl);refine ⟨cs2,H',?_,j2,j3⟩;rw [cg] at e0 e1 B8j;rw [ck] at w60;rw [<-C7a,E5Y] at st6;rw [A4w,z11,A5S];generalize encI (zI 11)=Z at *;generalize encI (2::1::0::p0::0::zI 6)=I0 at *;generalize encI was=W at *;generalize encI X0=XX at *;generalize [o0]++E5R 32 o0=Z33 at *;generalize hLL:D7 D.length n m=LC at *;generalize Z8=E8 at *;simp only [cl1,cl2,M9,E5Y,E6q,E59,E5T,E52,E6h,E6e,Nat.reduceAdd,<-hG3];simp only [esc,y1,y2,y3,ef,lG3,st4,l3,hI,lG4,st5,ad0,w5,d1,B8j,e0,e1,<-C7a,st6,w60];exact j1
  ·have eO:iQ D n c k=(c,0):=by rw [eO];simp [ck]
   obtain ⟨cs2,H',j1,j2,j3⟩:=fin (c,0) cs H6 eO (λhh=>absurd rfl hh) (.rfl' _) ht G06 (by omega) K6 s4 s9 (λ_ _ _ _=>rfl);refine ⟨cs2,H',?_,j2,j3⟩;rw [<-C7a,E5Y] at st6;rw [A4w,z11,A5S];generalize encI (zI 11)=Z at *;generalize encI (2::1::0::p0::0::zI 6)=I0 at *;generalize encI was=W at *;generalize encI X0=XX at *;generalize [o0]++E5R 32 o0=Z33 at *;generalize hLL:D7 D.length n m=LC at *;generalize Z8=E8 at *;simp only [cl1,cl2,M9,E5Y,E6q,E59,E5T,E52,E6h,E6e,Nat.reduceAdd,<-hG3];simp only [esc,y1,y2,y3,ef,lG3,st4,l3,hI,lG4,st5,ad0,w5,d1,B8j,e0,e1,<-C7a,st6,w60,ck];exact j1
 obtain ⟨cs',H',e1,e2,e3⟩:=key;exact ⟨cs',H',C8T e1,e2,e3⟩
end
section
variable {D:Dev} {n:Int}
def B59 {d:List Int}:∀ {e k:Nat} {s:Cl × List Int},(A77 D n d e k s).1.taken.length=s.1.taken.length
 | 0,_,_=>rfl
 | e+1,k,s=>by rw [A77,B59];exact iP
def D3F {c:Cl} {ino:Int}:(fC D n c ino).1.taken.length=c.taken.length:=by
 unfold fC B8n;split
 ·rw [iP,B59]
 ·rw [B59]
def D3D {c:Cl} {ino:Int}:(iZ D n c ino).taken.length=c.taken.length:=by
 have h1:(aI D n c ino).taken.length=c.taken.length:=D3F;unfold iZ;split
 ·exact h1
 ·have hs:=B1Q (D:=D) (n:=n) (many:=A46 (szV D n ino)) (e:=128) (k:=0) (s:=(aI D n c ino,blk D ((fC D n c ino).2.getD 6 0)));dsimp only at hs;generalize cP D n (A46 (szV D n ino)) 128 0 (aI D n c ino,blk D ((fC D n c ino).2.getD 6 0))=s at *;exact hs.trans h1
def D7b {c:Cl} {ino:Int}:(iZ D n c ino).ino=c.ino.set ino.toNat (1::1::szV D n ino::0::(fC D n c ino).2):=by
 have h1:(aI D n c ino).ino=c.ino.set ino.toNat (1::1::szV D n ino::0::(fC D n c ino).2):=by unfold aI;rw [A2v.1.ino]
 unfold iZ;split
 ·exact h1
 ·have hs:=xP (D:=D) (n:=n) (many:=A46 (szV D n ino)) (e:=128) (k:=0) (s:=(aI D n c ino,blk D ((fC D n c ino).2.getD 6 0)));dsimp only at hs;generalize cP D n (A46 (szV D n ino)) 128 0 (aI D n c ino,blk D ((fC D n c ino).2.getD 6 0))=s at *;exact hs.ino.trans h1
def C2Q {ino:Int}:∀ {L:List Ent} {s:Cl × (List UInt8->Option Int)} {B:Int},BndL s.1 B->SameT s.1 (bC D n ino s L).1/\BndL (bC D n ino s L).1 (B+L.length)/\(bC D n ino s L).1.row.length<=s.1.row.length+L.length
 | [],s,B,hb=>⟨⟨rfl,rfl,rfl,rfl,rfl⟩,by have h2:BndL s.1 (B+(([]:List Ent).length:Int)):=hb.mono (by simp);exact h2,E5V _⟩
 | x::L,s,B,hb=>by
  obtain ⟨a1,a2,a3⟩:=A4g (D:=D) (n:=n) (ino:=ino) (e:=x) hb;obtain ⟨b1,b2,b3⟩:=C2Q (L:=L) (s:=aK D n ino s x) a2;refine ⟨⟨b1.ino.trans a1.ino,b1.blocks.trans a1.blocks,b1.made.trans a1.made,b1.taken.trans a1.taken,b1.lost.trans a1.lost⟩,?_,?_⟩
  ·rw [E52];exact b2.mono (by omega)
  ·rw [E52];show (bC D n ino (aK D n ino s x) L).1.row.length<=_;omega
def yW {X:List Int} {K:List UInt8->Option Int}:∀ {L:List Int} {c:Cl},(O2 D X K c L).row=c.row/\(O2 D X K c L).lnk=c.lnk/\(O2 D X K c L).taken=c.taken/\(O2 D X K c L).ino=c.ino/\(O2 D X K c L).blocks.length=c.blocks.length+L.length/\(O2 D X K c L).made.length=c.made.length+L.length/\c.lost<=(O2 D X K c L).lost/\(O2 D X K c L).lost<=c.lost+7*L.length
 | [],c=>⟨rfl,rfl,rfl,rfl,rfl,rfl,Int.le_refl _,by show c.lost<=_;simp⟩
 | no::L,c=>by
  have hs:=rR (D:=D) (X:=X) (no:=no) (K:=K) (l:=O6 (blk D no)) (s:=(c,bU []));have hl:=A3W (D:=D) (X:=X) (no:=no) (K:=K) (l:=O6 (blk D no)) (s:=(c,bU []));have h7:=eY (blk D no);obtain ⟨a1,a2,a3,a4,a5,a6,a7,a8⟩:=yW (X:=X) (K:=K) (L:=L) (c:=xW D X K c no);have e1:(xW D X K c no).blocks.length=c.blocks.length+1:=by show (_++[no]).length=_;rw [E5T,hs.blocks];rfl
  have e2:(xW D X K c no).made.length=c.made.length+1:=by show (_++[_]).length=_;rw [E5T,hs.made];rfl
  have e3:(xW D X K c no).lost=(V3 D X no K (c,bU []) (O6 (blk D no))).1.lost:=rfl;dsimp only at hl;refine ⟨a1.trans hs.row,a2.trans hs.lnk,a3.trans hs.taken,a4.trans hs.ino,?_,?_,?_,?_⟩
  ·rw [E52];show (O2 D X K (xW D X K c no) L).blocks.length=_;omega
  ·rw [E52];show (O2 D X K (xW D X K c no) L).made.length=_;omega
  ·show _<=(O2 D X K (xW D X K c no) L).lost;omega
  ·rw [E52];show (O2 D X K (xW D X K c no) L).lost<=_;omega
def C6K {c:Cl} {ino:Int}:(iQ D n c ino).1.taken.length=c.taken.length:=by
 unfold iQ;cases (decide (kdV D n ino=2)&&V6 (blk D ((drV D n ino).getD 0 0))) with
 | true=>exact iP
 | false=>rfl
def D4A {ino:Int}:∀ {L:List Ent} {s:Cl × (List UInt8->Option Int)},(bC D n ino s L).1.ino=s.1.ino/\(bC D n ino s L).1.taken=s.1.taken
 | [],_=>⟨rfl,rfl⟩
 | x::L,s=>by
  have ih:=D4A (ino:=ino) (L:=L) (s:=aK D n ino s x);have h1:(aK D n ino s x).1.ino=s.1.ino/\(aK D n ino s x).1.taken=s.1.taken:=by
   unfold aK dU;cases jF D n s.1 x.2 with
   | false=>exact ⟨rfl,rfl⟩
   | true =>
    simp only [cond_true];cases (s.1.par x.2).isSome with
    | true=>exact ⟨rfl,rfl⟩
    | false=>exact ⟨rfl,rfl⟩
  exact ⟨ih.1.trans h1.1,ih.2.trans h1.2⟩
def D8N {c:Cl} {ino:Int}:(sF D n c ino).ino=c.ino.set ino.toNat (2::1::0::(c.par ino).getD 0::(iQ D n c ino).2::zI 6)/\(sF D n c ino).taken.length=c.taken.length:=by
 have hs:=A1F (D:=D) (n:=n) (ino:=ino) (c:=c);have eI:(Y9 D n c ino).ino=c.ino.set ino.toNat (2::1::0::(c.par ino).getD 0::(iQ D n c ino).2::zI 6):=by unfold Y9;rw [hs.ino]
 have tI:(Y9 D n c ino).taken.length=c.taken.length:=C6K;unfold sF;split
 ·exact ⟨eI,tI⟩
 ·obtain ⟨d,hd⟩:∃ d,d=getD (blk D ((drV D n ino).getD 0 0)):=⟨_,rfl⟩;obtain ⟨t,ht⟩:∃ t,t=O4 (blk D ((drV D n ino).getD 0 0)) 32:=⟨_,rfl⟩;rw [<-hd,<-ht];unfold zS;have hb:SameC (Y9 D n c ino) (V5 D n (Y9 D n c ino) d t).1:=iI (D:=D) (n:=n) (L:=M7 (gD d t) (D1 (X7 d t))) (s:=(Y9 D n c ino,gD d t));have tb:(V5 D n (Y9 D n c ino) d t).1.taken.length=(Y9 D n c ino).taken.length:=B1e (D:=D) (n:=n) (L:=M7 (gD d t) (D1 (X7 d t))) (s:=(Y9 D n c ino,gD d t));obtain ⟨s1,hs1⟩:∃ s1,s1=V5 D n (Y9 D n c ino) d t:=⟨_,rfl⟩;have eT:bodyT D n (Y9 D n c ino) ino d t=bC D n ino (s1.1,λ_=>A7) (oZ D (X7 d t::s1.2) (M7 s1.2 (D1 (X7 d t)))):=by rw [hs1];rfl
  rw [eT];rw [<-hs1] at hb tb ⊢;have q:=D4A (D:=D) (n:=n) (ino:=ino) (L:=oZ D (X7 d t::s1.2) (M7 s1.2 (D1 (X7 d t)))) (s:=(s1.1,λ_=>A7));dsimp only at q;generalize bC D n ino (s1.1,λ_=>A7) (oZ D (X7 d t::s1.2) (M7 s1.2 (D1 (X7 d t))))=s2 at *;generalize (bif okX (X7 d t) s1.2 then gE (X7 d t) s1.2 else zeros 256)=ib;obtain ⟨a1,a2,a3,a4,a5,a6,a7,a8⟩:=yW (D:=D) (X:=X7 d t::s1.2) (K:=s2.2) (L:=M7 s1.2 (D1 (X7 d t))) (c:=S9 s2.1 (iQ D n c ino).2 ib);generalize O2 D (X7 d t::s1.2) s2.2 (S9 s2.1 (iQ D n c ino).2 ib) (M7 s1.2 (D1 (X7 d t)))=z at *;have m3:(S9 s2.1 (iQ D n c ino).2 ib).taken=s2.1.taken:=rfl;have m4:(S9 s2.1 (iQ D n c ino).2 ib).ino=s2.1.ino:=rfl;exact ⟨by rw [a4,m4,q.1,hb.ino,eI],by rw [a3,m3,q.2,tb,tI]⟩
def D43 {c:Cl} {ino:Int} {R B S Lo:Nat} (sm:Small c R B S Lo):Small (sF D n c ino) (R+224) (B+224) (S+33) (Lo+224)/\(sF D n c ino).ino=c.ino.set ino.toNat (2::1::0::(c.par ino).getD 0::(iQ D n c ino).2::zI 6)/\(sF D n c ino).taken.length=c.taken.length:=by
 have hs:=A1F (D:=D) (n:=n) (ino:=ino) (c:=c);have eI:(Y9 D n c ino).ino=c.ino.set ino.toNat (2::1::0::(c.par ino).getD 0::(iQ D n c ino).2::zI 6):=by unfold Y9;rw [hs.ino]
 have tI:(Y9 D n c ino).taken.length=c.taken.length:=C6K;have i1:(Y9 D n c ino).row=c.row:=hs.row;have i2:(Y9 D n c ino).lnk=c.lnk:=hs.lnk;have i3:(Y9 D n c ino).blocks=c.blocks:=hs.blocks;have i4:(Y9 D n c ino).made=c.made:=hs.made;have i5:(Y9 D n c ino).lost=c.lost:=hs.lost;have b1:=sm.row;have b2:=sm.blocks;have b3:=sm.made;have b4:=sm.lost0;have b5:=sm.lost;unfold sF;split
 ·exact ⟨⟨by rw [i1];omega,by intro i;rw [i2];have:=sm.lnk i;omega,by rw [i3];omega,by rw [i4];omega,by rw [i5];omega,by rw [i5];omega⟩,eI,tI⟩
 ·obtain ⟨d,hd⟩:∃ d,d=getD (blk D ((drV D n ino).getD 0 0)):=⟨_,rfl⟩;obtain ⟨t,ht⟩:∃ t,t=O4 (blk D ((drV D n ino).getD 0 0)) 32:=⟨_,rfl⟩;rw [<-hd,<-ht];unfold zS;have hb:SameC (Y9 D n c ino) (V5 D n (Y9 D n c ino) d t).1:=iI (D:=D) (n:=n) (L:=M7 (gD d t) (D1 (X7 d t))) (s:=(Y9 D n c ino,gD d t));have tb:(V5 D n (Y9 D n c ino) d t).1.taken.length=(Y9 D n c ino).taken.length:=B1e (D:=D) (n:=n) (L:=M7 (gD d t) (D1 (X7 d t))) (s:=(Y9 D n c ino,gD d t));obtain ⟨s1,hs1⟩:∃ s1,s1=V5 D n (Y9 D n c ino) d t:=⟨_,rfl⟩;have eT:bodyT D n (Y9 D n c ino) ino d t=bC D n ino (s1.1,λ_=>A7) (oZ D (X7 d t::s1.2) (M7 s1.2 (D1 (X7 d t)))):=by rw [hs1];rfl
  rw [eT];rw [<-hs1] at hb tb ⊢;obtain ⟨L,hL⟩:∃ L,L=M7 s1.2 (D1 (X7 d t)):=⟨_,rfl⟩;have hLl:L.length<=32:=by rw [hL];exact E6w (gQ ..) (P5 _)
  rw [<-hL];have hNl:=B8C (D:=D) (X:=X7 d t::s1.2) (L:=L);generalize oZ D (X7 d t::s1.2) L=N at *;obtain ⟨t1,t2,t3⟩:=C2Q (D:=D) (n:=n) (ino:=ino) (L:=N) (s:=(s1.1,λ_=>A7)) (B:=B) (by intro i;show 0<=(s1.1.lnk i).getD 0/\(s1.1.lnk i).getD 0<=_;rw [hb.lnk,i2];exact sm.lnk i);dsimp only at t1 t2 t3;generalize bC D n ino (s1.1,λ_=>A7) N=s2 at *;generalize (bif okX (X7 d t) s1.2 then gE (X7 d t) s1.2 else zeros 256)=ib;obtain ⟨a1,a2,a3,a4,a5,a6,a7,a8⟩:=yW (D:=D) (X:=X7 d t::s1.2) (K:=s2.2) (L:=L) (c:=S9 s2.1 (iQ D n c ino).2 ib);generalize O2 D (X7 d t::s1.2) s2.2 (S9 s2.1 (iQ D n c ino).2 ib) L=z at *;have m1:(S9 s2.1 (iQ D n c ino).2 ib).row=s2.1.row:=rfl;have m2:(S9 s2.1 (iQ D n c ino).2 ib).lnk=s2.1.lnk:=rfl;have m3:(S9 s2.1 (iQ D n c ino).2 ib).taken=s2.1.taken:=rfl;have m4:(S9 s2.1 (iQ D n c ino).2 ib).ino=s2.1.ino:=rfl;have m5:(S9 s2.1 (iQ D n c ino).2 ib).blocks.length=s2.1.blocks.length+1:=by show (_++[_]).length=_;simp
  have m6:(S9 s2.1 (iQ D n c ino).2 ib).made.length=s2.1.made.length+1:=by show (_++[_]).length=_;simp
  have m7:(S9 s2.1 (iQ D n c ino).2 ib).lost=s2.1.lost:=rfl;have u1:s2.1.blocks.length=c.blocks.length:=by rw [t1.blocks,hb.blocks,i3]
  have u2:s2.1.made.length=c.made.length:=by rw [t1.made,hb.made,i4]
  have u3:s2.1.lost=c.lost:=by rw [t1.lost,hb.lost,i5]
  have u4:s1.1.row.length=c.row.length:=by rw [hb.row,i1]
  refine ⟨⟨by rw [a1,m1];omega,λi=>?_,by omega,by omega,by omega,by omega⟩,by rw [a4,m4,t1.ino,hb.ino,eI],by rw [a3,m3,t1.taken,tb,tI]⟩;rw [a2,m2];have:=t2 i;omega
structure InoW (D:Dev) (n:Int) (c:Cl):Prop where
 il:∀ x∈c.ino,x.length=11
 ilen:c.ino.length=(n+1).toNat
 tlen:c.taken.length=D.length
 kd:∀ k:Nat,(k:Int) ∉ c.row\/k=1->(c.ino.getD k []).getD 0 0≠1
def C61 {α:Type} {l:List α} {i k:Nat} {x d:α}:(l.set i x).getD k d=if i=k/\i<l.length then x else l.getD k d:=by
 simp only [E5Z,List.getElem?_set];by_cases e:i=k
 ·subst e;by_cases hl:i<l.length
  ·simp [hl]
  ·simp [hl]
 ·simp [e]
def D1J {c:Cl} {ino:Int}:∀ {x:Int},x∈c.row->x∈(sF D n c ino).row:=by
 have tsub:∀ (L:List Ent) (s:Cl × (List UInt8->Option Int)) (x:Int),x∈s.1.row->x∈(bC D n ino s L).1.row:=by
  intro L
  induction L with
  | nil=>intro s x hx;exact hx
  | cons e L ih =>
   intro s x hx;refine ih (aK D n ino s e) x ?_;unfold aK dU;cases jF D n s.1 e.2 with
   | false=>exact hx
   | true =>
    simp only [cond_true];cases (s.1.par e.2).isSome with
    | true=>exact hx
    | false=>exact List.mem_append_left _ hx
 intro x hx;have i1:(Y9 D n c ino).row=c.row:=(A1F (D:=D) (n:=n) (ino:=ino) (c:=c)).row;unfold sF;split
 ·rw [i1];exact hx
 ·obtain ⟨d,hd⟩:∃ d,d=getD (blk D ((drV D n ino).getD 0 0)):=⟨_,rfl⟩;obtain ⟨t,ht⟩:∃ t,t=O4 (blk D ((drV D n ino).getD 0 0)) 32:=⟨_,rfl⟩;rw [<-hd,<-ht];have hb:SameC (Y9 D n c ino) (V5 D n (Y9 D n c ino) d t).1:=iI (D:=D) (n:=n) (L:=M7 (gD d t) (D1 (X7 d t))) (s:=(Y9 D n c ino,gD d t));unfold zS;rw [yW.1,D0I];unfold bodyT;refine tsub _ _ x ?_;show x∈(V5 D n (Y9 D n c ino) d t).1.row;rw [hb.row,i1];exact hx
def D5r {c:Cl} {ino:Int} (i0:0<=ino) (hi:ino∈c.row) (w:InoW D n c):InoW D n (jD D n c ino):=by
 by_cases hf:ino≠1/\kdV D n ino=1
 ·have e:jD D n c ino=iZ D n c ino:=by unfold jD;rw [if_pos hf]
  rw [e];have e1:=D7b (D:=D) (n:=n) (c:=c) (ino:=ino);have l7:=(A2v (D:=D) (n:=n) (ino:=ino) (c:=c)).2;refine ⟨λx hx=>?_,by rw [e1,E6o];exact w.ilen,by rw [D3D];exact w.tlen,λk hk=>?_⟩
  ·rw [e1] at hx;rcases E6A hx with h1 | h1
   ·exact w.il x h1
   ·rw [h1];simp [l7]
  ·rw [xO.1] at hk;rw [e1,C61];split
   ·rename_i h2;exfalso;have:(k:Int)=ino:=by omega
    rcases hk with hk | hk
    ·exact hk (by rw [this];exact hi)
    ·exact hf.1 (by omega)
   ·exact w.kd k hk
 ·have e:jD D n c ino=sF D n c ino:=by unfold jD;rw [if_neg hf]
  rw [e];have e1:=D8N (D:=D) (n:=n) (c:=c) (ino:=ino);refine ⟨λx hx=>?_,by rw [e1.1,E6o];exact w.ilen,by rw [e1.2];exact w.tlen,λk hk=>?_⟩
  ·rw [e1.1] at hx;rcases E6A hx with h1 | h1
   ·exact w.il x h1
   ·rw [h1];simp [J6]
  ·rw [e1.1,C61];split
   ·show (2:Int)≠1;decide
   ·refine w.kd k (hk.imp (λhh hx=>hh (D1J hx)) id)
def D5s {c:Cl} {ino:Int} {R B S Lo:Nat} (sm:Small c R B S Lo):Small (jD D n c ino) (R+224) (B+224) (S+33) (Lo+224):=by
 unfold jD;split
 ·have hs:=xO (D:=D) (n:=n) (ino:=ino) (c:=c);have b1:=sm.row;have b2:=sm.blocks;have b3:=sm.made;have b4:=sm.lost0;have b5:=sm.lost;exact ⟨by rw [hs.1];omega,λj=>by rw [hs.2.2.1];have:=sm.lnk j;omega,by have:=hs.2.2.2.2.2.1;omega,by have:=hs.2.2.2.2.2.2;omega,by rw [hs.2.2.2.1];omega,by rw [hs.2.2.2.1];omega⟩
 ·exact (D43 sm).1
def lk1 (c:Cl) (k:Nat) (x:List Int):List Int:=if x.getD 0 0=1 then x.set 1 ((c.lnk (k:Int)).getD 0) else x
def D7u {c:Cl} {k:Nat} {x:List Int}:lk1 c k (lk1 c k x)=lk1 c k x:=by
 unfold lk1;by_cases h:x.getD 0 0=1
 ·rw [if_pos h];have:(x.set 1 ((c.lnk (k:Int)).getD 0)).getD 0 0=1:=by rw [C61,if_neg (by omega)];exact h
  rw [if_pos this,List.set_set]
 ·rw [if_neg h,if_neg h]
def B6i:∀ {L:List Int} {c:Cl},(∀ a∈L,0<=a)->∀ k:Nat,(T7 c L).ino[k]?=(c.ino[k]?).map λx=>if (k:Int)∈L then lk1 c k x else x
 | [],c,_,k=>by simp [T7]
 | a::L,c,h0,k=>by
  have ih:=B6i (L:=L) (c:=bB c a) (λb hb=>h0 b (E6f _ hb)) k;have ha:=h0 a (E6g ..);have elk:(bB c a).lnk=c.lnk:=A8o.2.2.2.2.2.1;have lke:∀ x,lk1 (bB c a) k x=lk1 c k x:=λx=>by unfold lk1;rw [elk]
  show (T7 (bB c a) L).ino[k]?=_;rw [ih];have eL:(bB c a).ino[k]?=(c.ino[k]?).map λx=>if (k:Int)=a then lk1 c k x else x:=by
   unfold bB;by_cases hk:(k:Int)=a
   ·have hk2:a.toNat=k:=by omega
    rw [hk2];cases hx:c.ino[k]? with
    | none =>
     have hg:c.ino.getD k []=[]:=by rw [E5Z,hx];rfl
     have:(c.ino.getD k []).getD 0 0≠1:=by rw [hg];decide
     rw [if_neg this,hx];rfl
    | some x =>
     have hg:c.ino.getD k []=x:=by rw [E5Z,hx];rfl
     have hkl:=(List.getElem?_eq_some_iff.1 hx).1;rw [hg,Option.map_some,if_pos hk];unfold lk1;by_cases h1:x.getD 0 0=1
     ·rw [if_pos h1,if_pos h1];show (c.ino.set k _)[k]?=_;rw [List.getElem?_set_self hkl,hk]
     ·rw [if_neg h1,if_neg h1,hx]
   ·have:∀ y,(c.ino.set a.toNat y)[k]?=c.ino[k]? := λy=>by rw [List.getElem?_set];rw [if_neg (by omega)]
    split
    ·rw [this];cases c.ino[k]?<;>simp [hk]
    ·cases c.ino[k]?<;>simp [hk]
  rw [eL,Option.map_map];cases c.ino[k]? with
  | none=>rfl
  | some x =>
   simp only [Option.map_some,Function.comp]
   congr 1
   by_cases h1:(k:Int)=a
   ·rw [if_pos h1,lke,D7u];have:(k:Int)∈a::L:=by rw [h1];exact E6g ..
    rw [if_pos this];split<;>rfl
   ·rw [if_neg h1,lke];simp [h1]
def D5i {c:Cl} (w:InoW D n c) (hr:∀ i∈c.row,1<=i/\i<=n) {L:List Int} (hL:∀ a,a∈L↔2<=a/\a<=n):T7 c L=T7 c c.row:=by
 obtain ⟨a1,a2,a3,a4,a5,a6,a7⟩:=dQ (L:=L) (c:=c);obtain ⟨b1,b2,b3,b4,b5,b6,b7⟩:=dQ (L:=c.row) (c:=c);have e:(T7 c L).ino=(T7 c c.row).ino:=by
  refine List.ext_getElem? λk=>?_
  rw [B6i (λa ha=>by have:=(hL a).1 ha;omega),B6i (λa ha=>by have:=hr a ha;omega)];cases hx:c.ino[k]? with
  | none=>rfl
  | some x =>
   have hg:c.ino.getD k []=x:=by rw [E5Z,hx];rfl
   simp only [Option.map_some]
   congr 1
   by_cases h1:x.getD 0 0=1
   ·have hk:(k:Int)∈c.row/\k≠1:=by
     refine ⟨Classical.byContradiction λhh=>?_,λhh=>?_⟩
     ·exact w.kd k (.inl hh) (by rw [hg];exact h1)
     ·exact w.kd k (.inr hh) (by rw [hg];exact h1)
    have h2:=hr _ hk.1;rw [if_pos hk.1,if_pos ((hL _).2 (by omega))]
   ·have:lk1 c k x=x:=by unfold lk1;rw [if_neg h1]
    rw [this];simp
 cases h1:T7 c L;cases h2:T7 c c.row;rw [h1] at a1 a2 a3 a4 a5 a6 a7 e;rw [h2] at b1 b2 b3 b4 b5 b6 b7 e
 simp_all
def D38 {c:Cl}:∀ {k i:Nat},(sI c k).taken[i]?=if i<k then (c.taken[i]?).map λ_=>A5 else c.taken[i]?
 | 0,i=>by simp [sI]
 | k+1,i=>by
  have ih:=D38 (c:=c) (k:=k) (i:=i);show ((sI c k).taken.set k A5)[i]?=_;rw [List.getElem?_set];have hl:(sI c k).taken.length=c.taken.length:=by
   have:∀ j:Nat,(sI c j).taken.length=c.taken.length:=by
    intro j;induction j with
    | zero=>rfl
    | succ j ih=>show ((sI c j).taken.set j A5).length=_;rw [E6o];exact ih
   exact this k
  by_cases e:k=i
  ·subst e;rw [if_pos rfl,hl,if_pos (show k<k+1 by omega)];by_cases h:k<c.taken.length
   ·rw [if_pos h,E5P h];rfl
   ·rw [if_neg h,E6x (by omega)];rfl
  ·rw [if_neg e,ih];by_cases h:i<k
   ·rw [if_pos h,if_pos (by omega)]
   ·rw [if_neg h,if_neg (by omega)]
end
def B2h (D:Dev) (n:Int) (i:Nat):List Bool:=(E6p i).map λk:Nat=>!decide (vK D.length n (k:Int)=4)
def A0j {D:Dev} {n:Int} {i:Nat}:(B2h D n i).length=i:=by simp [B2h]
def D7E {D:Dev} {n:Int} {i:Nat}:B2h D n (i+1)=B2h D n i++[!decide (vK D.length n (i:Int)=4)]:=by simp [B2h,List.range_succ]
def B7X {l:List Bool}:(J9 l).length=l.length:=by simp [J9]
def D9I {D:Dev} {n:Int} (hm:R7 D.length n=A5):(sI (I8 D n) (mS D.length n).toNat).taken=B2h D n D.length:=by
 have hr:=A2q (b:=(D.length:Int)) (n:=n);refine List.ext_getElem? λi=>?_
 rw [D38];have e0:(I8 D n).taken=E5R D.length A6:=rfl;rw [e0];by_cases hi:i<D.length
 ·have e1:(E5R D.length A6)[i]?=A4 A6:=by simp [hi]
  have e2:(B2h D n D.length)[i]?=A4 (!decide (vK D.length n (i:Int)=4)):=by simp [B2h,hi]
  rw [e1,e2,D27];unfold jW;rw [hm];by_cases hk:i<(mS D.length n).toNat
  ·rw [if_pos hk,decide_eq_false (show ¬ mS D.length n<=(i:Int) by omega)];rfl
  ·rw [if_neg hk,decide_eq_true (show mS D.length n<=(i:Int) by omega),decide_eq_true (show (i:Int)<(D.length:Int) by omega)];rfl
 ·rw [E6x (l:=E5R D.length A6) (by simp;omega),E6x (l:=B2h D n D.length) (by rw [A0j];omega)];split<;>rfl
def E27 {K:B5} {id n sz:Nat} {ys:List Cell} (hy:ys.length=sz) (hsz:0<sz) :
  kV (K++[rT ys]) sz (.c .ns) (sV K.length 0 1 sz)=A4 (sV (K.length+1) 0 1 sz,K++[rT ys,rT ys]):=by
 have h2:Q6 (K++[rT ys]) sz (sV K.length 0 1 sz)=A4 ys:=by
  simp [Q6,iW,hy,E53 (Nat.le_of_eq hy)]
 simp only [kV,h2,E54,hy,Nat.div_self hsz];simp
section
variable {D:Dev} {n m:Int} {P Q:Nat->Prop} {g h:B5} {v:Val}
def D7P {x3 x5 q lo:Nat} {xr xi xb xm xl xy:Cell} {lost:Int} {x4:Val} (hg:g.length<=x5) (h3:x3<lo) (h5:x5<lo) (n35:x3≠x5) (E5K:g.length<=lo) (hl:D.length<=1000) :
  ∀ (e i M:Nat) (xt:Cell) (H:B5),i+e=D.length->e<M->Grows g H->lo<=H.length->rd H x5=rT (rcC xr xi xt xb xm lost xl xy)->rd H x3=rT (D7 D.length n m)->((i=0/\xt=.ns)\/∃ tid,xt=.sl tid 0 i 1/\lo<=tid/\rd H tid=rT (J9 (B2h D n i))) ->
  ∃ xt' H',C6T q M v (pV x3 0) x4 (pV x5 0) (iV (i:Int)) H=xL q q v (pV x3 0) x4 (pV x5 0) (iV 0) H'/\Grows g H'/\lo<=H'.length/\rd H' x5=rT (rcC xr xi xt' xb xm lost xl xy) /\
   ((D.length=0/\xt'=.ns)\/∃ tid,xt'=.sl tid 0 D.length 1/\lo<=tid/\rd H' tid=rT (J9 (B2h D n D.length)))/\(∀ j,j<lo->j≠x5->rd H' j=rd H j):=by
 intro e
 induction e with
 | zero =>
  intro i M xt H hi hM G hlo r5 r3 hx;obtain ⟨M,rfl⟩:∃ M',M=M'+1:=⟨M-1,by omega⟩;have ei:i=D.length:=by omega
  subst ei;have l3:B8 H (pV x3 0)=A4 (iV (D.length:Nat)):=B9 r3 rfl rfl;have cL:¬ ((D.length:Nat):Int)<(D.length:Nat):=by omega
  refine ⟨xt,H,?_,G,hlo,r5,hx,λ_ _ _=>rfl⟩;rw [B4e];simp only [esc,l3,cL]
 | succ e ih =>
  intro i M xt H hi hM G hlo r5 r3 hx;obtain ⟨M,rfl⟩:∃ M',M=M'+1:=⟨M-1,by omega⟩;have l3:B8 H (pV x3 0)=A4 (iV (D.length:Nat)):=B9 r3 rfl rfl;have l3N:D4 H 3 (pV x3 0)=A4 (.a (D7 D.length n m)):=C7 r3 rfl;have c0:(i:Int)<(D.length:Nat):=by omega
  have w1:=D3 (show i+1<9223372036854775808 by omega);have l5:B8 H (pV x5 2)=A4 (.c xt):=B9 r5 rfl rfl;have hA:=A5u (b:=(D.length:Int)) (n:=n) (m:=m) (no:=(i:Int)) (h:=H++[A7]);have hq:=U9 (h:=H++[A7]) (h':=H++[A7]) (v:=iV (vK D.length n (i:Int))) Grows.rfl';obtain ⟨w,hw⟩:∃ w,w = !decide (vK D.length n (i:Int)=4):=⟨_,rfl⟩;have st0:(H++[A7]).set H.length (rT [.b w])=H++[rT [.b w]]:=by rw [S3];rfl
  have ew:N4 .neq (iV (vK D.length n (i:Int))) (iV 4)=A4 (bV w):=by rw [hw];rfl
  have ef:E6 [.b A6] [(0,1,bV w)]=A4 [.b w]:=rfl;have hbo:J9 (B2h D n (i+1))=J9 (B2h D n i)++[.b w]:=by rw [D7E,hw];simp [J9]
  obtain ⟨tid,K2,a1,a2,a3,a4,a5⟩:∃ tid K2,kV (H++[rT [.b w]]) 1 (.c xt) (sV H.length 0 1 1)=A4 (sV tid 0 (i+1) 1,K2)/\lo<=tid/\rd K2 tid=rT (J9 (B2h D n (i+1)))/\Grows g K2/\(lo<=K2.length/\∀ j,j<lo->rd K2 j=rd H j):=by
   rcases hx with ⟨hi0,rfl⟩ | ⟨tid,rfl,t1,t2⟩
   ·subst hi0;refine ⟨H.length+1,_,E27 (id:=0) (n:=0) rfl (by omega),by omega,?_,U2 G rfl,by simp;omega,λj hj=>E1 (by omega)⟩;rw [K9,hbo];rfl
   ·have o:=one_app (ys:=[Cell.b w]) t2 (n:=i) (sz:=1) (by rw [B7X,A0j];omega) rfl (by omega) (by omega);refine ⟨H.length+1,_,o,by omega,?_,(A8g (G.new _) (by omega)).new _,by simp;omega,λj hj=>?_⟩
    ·have:rd ((H++[rT [Cell.b w]]).set tid A7++[rT (J9 (B2h D n i)++[Cell.b w])]) ((H++[rT [Cell.b w]]).set tid A7).length=rT (J9 (B2h D n i)++[Cell.b w]):=U5;rw [E6o,E5T] at this;rw [hbo];exact this
    ·rw [E1 (by simp;omega),B6 (by omega),E1 (by omega)]
  have r52:rd K2 x5=rT (rcC xr xi xt xb xm lost xl xy):=by rw [a5.2 _ h5];exact r5
  obtain ⟨K3,hK3⟩:∃ K3,K3=K2.set x5 (rT (rcC xr xi (.sl tid 0 (i+1) 1) xb xm lost xl xy)):=⟨_,rfl⟩;have s3:I5 K2 (pV x5 2) (sV tid 0 (i+1) 1)=A4 K3:=by rw [G8 r52 (by simp [rcC]),hK3];rfl
  have o3:∀ j,j≠x5->rd K3 j=rd K2 j:=λj hj=>by rw [hK3,B6 (Ne.symm hj)]
  obtain ⟨xt',H',f1,f2,f3,f4,f5,f6⟩:=ih (i+1) M (.sl tid 0 (i+1) 1) K3 (by omega) (by omega) (by rw [hK3];exact a4.set hg _) (by rw [hK3];simp;exact a5.1) (by rw [hK3];exact C6 (C8 r52)) (by rw [o3 _ n35,a5.2 _ h3];exact r3) (.inr ⟨tid,rfl,a2,by rw [o3 _ (by omega)];exact a3⟩);refine ⟨xt',H',?_,f2,f3,f4,f5,λj hj T1=>by rw [f6 j hj T1,o3 j T1,a5.2 j hj]⟩;rw [B4e];simp only [esc,l3,c0,l5,l3N,hA,hq,ew,ef,st0,a1,s3,w1];exact f1
def D9U {x3 x5 q:Nat} {x4:Val} (hv:Has g v 256 D.length (D5 D)) (hD:okD D) (hn:n<=128) (n8:1<=n) (hl:D.length<=1000) (hg:g.length<=x5) (n35:x3≠x5) (nQ:¬ Q x5) :
  ∀ (e i M:Nat) (c:Cl) (cs:List Cell) (H:B5),i+e=129->e<M->i<=c.row.length->RowW n c->Small c 128 (224*i) (33*i) (224*i)->InoW D n c->Grows g H->IsRC n Q H cs c->(∀ id,H.length<=id->Q id)->rd H x5=rT cs->rd H x3=rT (D7 D.length n m) ->
  ∃ cs' H' M',xL q M v (pV x3 0) x4 (pV x5 0) (iV (i:Int)) H=xL q (M'+1) v (pV x3 0) x4 (pV x5 0) (iV ((ofR D n e i c).row.length:Nat)) H' /\
   Grows g H'/\IsRC n Q H' cs' (ofR D n e i c)/\(∀ id,H'.length<=id->Q id)/\rd H' x5=rT cs'/\InoW D n (ofR D n e i c)/\H.length<=H'.length/\(∀ j,j<H.length->j≠x5->rd H' j=rd H j):=by
 intro e
 induction e with
 | zero =>
  intro i M c cs H hi hM dF hR;have:=B86 hR.nd λa ha=>⟨(hR.rg a ha).1,by have:=(hR.rg a ha).2;omega⟩
  omega
 | succ e ih =>
  intro i M c cs H hi hM dF hR sm w G K hQ r5 r3;obtain ⟨M,rfl⟩:∃ M',M=M'+1:=⟨M-1,by omega⟩;unfold ofR;cases hc:c.row[i]? with
  | none =>
   have hlen:=List.getElem?_eq_none_iff.1 hc;have ei:i=c.row.length:=by omega
   dsimp only;rw [<-ei];exact ⟨cs,H,M,rfl,G,K,hQ,r5,w,E5V _,λ_ _ _=>rfl⟩
  | some a =>
   dsimp only;have P6:i<c.row.length:=(List.getElem?_eq_some_iff.1 hc).1;have ha:a∈c.row:=E6j hc;obtain ⟨ra1,ra2⟩:=hR.rg a ha;have w1:=D3 (show i+1<9223372036854775808 by omega);have c0:((i:Int)<(c.row.length:Nat)):=by omega
   have hvH:=hv.grows G;have hR':=C7G (D:=D) (ino:=a) hR;have r128:=B86 hR'.nd λa ha=>⟨(hR'.rg a ha).1,by have:=(hR'.rg a ha).2;omega⟩
   have sm':=D5s (D:=D) (n:=n) (ino:=a) sm;have sm2:Small (jD D n c a) 128 (224*(i+1)) (33*(i+1)) (224*(i+1)):=⟨r128,sm'.lnk.mono (by omega),by have:=sm'.blocks;omega,by have:=sm'.made;omega,sm'.lost0,by have:=sm'.lost;omega⟩;have w2:=D5r (D:=D) (n:=n) (c:=c) (ino:=a) (by omega) ha w;have il:c.ino.length<=1000:=by rw [w.ilen];omega
   have i1:a.toNat<c.ino.length:=by rw [w.ilen];omega
   have sb:=sm.blocks;have sd:=sm.made;have K8:=K.length;obtain ⟨v35,v40,y1,y2,y3,y4⟩:∃ v35 v40,B8 H (pV x5 0)=A4 v35/\D1E v35=A4 (iV (c.row.length:Nat))/\D9 1 v35 (iV (i:Int))=A4 v40/\B8 H v40=A4 (iV a):=by
    obtain ⟨xr,xi,xt,xb,xm,xl,xy,ys,rfl,kk⟩:=id K;have l0:B8 H (pV x5 0)=A4 (.c xr):=B9 r5 rfl rfl;have hlen:=kk.row.len;obtain ⟨it,ot,et,_,hA,_⟩:=kk.row.sl (by omega);cases et;exact ⟨_,_,l0,hlen,by rw [C9 P6,Nat.mul_one],hA i _ (by rw [I1,hc];rfl)⟩
   have l3N:D4 H 3 (pV x3 0)=A4 (.a (D7 D.length n m)):=C7 r3 rfl;have l5N:D4 H 8 (pV x5 0)=A4 (.a cs):=C7 r5 K8;have hI:=nE (v:=v) (n:=n) (m:=m) (i:=a) (h:=H) hvH hD;rw [A8l] at hI;have f0:∀ k l s p d,C11 (.a (F9 k l s p d)) 0=A4 (iV k):=λ_ _ _ _ _=>rfl
   have step:∃ cs1 H1 H2,Grows H H1/\IsRC n (λid=>Q id\/H.length<=id) H1 cs1 (jD D n c a)/\E5 H1 8 (pV x5 0) (.a cs1)=A4 H2/\H2=H1.set x5 (rT cs1) /\
     xL q (M+1) v (pV x3 0) x4 (pV x5 0) (iV (i:Int)) H=xL q M v (pV x3 0) x4 (pV x5 0) (iV ((i+1:Nat):Int)) H2:=by
    rw [B4f];by_cases c1:a=1
    ·obtain ⟨cs1,H1,f1,f2,f3⟩:=D6A (m:=m) (ino:=a) hvH hD K w.tlen hl hn (by omega) i1 ra2 w.il il hR sm (by omega) (by omega) (by omega) (by omega);have eo:jD D n c a=sF D n c a:=by unfold jD;rw [if_neg (by simp [c1])]
     have s5:E5 H1 8 (pV x5 0) (.a cs1)=A4 (H1.set x5 (rT cs1)):=storeAll (f2.rd r5) K8 f3.length;refine ⟨cs1,H1,_,f2,by rw [eo];exact f3,s5,rfl,?_⟩;rw [c1] at y4 f1;generalize D7 D.length n m=LC at *;simp only [esc,y1,y2,c0,y3,y4,eq_self,l5N,l3N,f1,s5,A5h,w1]
    ·by_cases c2:kdV D n a=1
     ·obtain ⟨cs1,H1,f1,f2,f3⟩:=D9P (m:=m) (ino:=a) hvH hD K w.tlen hl (by omega) i1 w.il il (by omega) (by omega);have eo:jD D n c a=iZ D n c a:=by unfold jD;rw [if_pos ⟨c1,c2⟩]
      have s5:E5 H1 8 (pV x5 0) (.a cs1)=A4 (H1.set x5 (rT cs1)):=storeAll (f2.rd r5) K8 f3.length;refine ⟨cs1,H1,_,f2,by rw [eo];exact f3,s5,rfl,?_⟩;generalize D7 D.length n m=LC at *;simp only [esc,y1,y2,c0,y3,y4,c1,hI,f0,c2,l5N,l3N,f1,s5,A5h,w1]
     ·obtain ⟨cs1,H1,f1,f2,f3⟩:=D6A (m:=m) (ino:=a) hvH hD K w.tlen hl hn (by omega) i1 ra2 w.il il hR sm (by omega) (by omega) (by omega) (by omega);have eo:jD D n c a=sF D n c a:=by unfold jD;rw [if_neg (by simp [c2])]
      have s5:E5 H1 8 (pV x5 0) (.a cs1)=A4 (H1.set x5 (rT cs1)):=storeAll (f2.rd r5) K8 f3.length;refine ⟨cs1,H1,_,f2,by rw [eo];exact f3,s5,rfl,?_⟩;generalize D7 D.length n m=LC at *;simp only [esc,y1,y2,c0,y3,y4,c1,hI,f0,c2,l5N,l3N,f1,s5,A5h,w1]
   obtain ⟨cs1,H1,H2,s1,s2,s3,s4,s5⟩:=step;have lH1:=s1.len;have h5l:=C8 r5;have lH2:H2.length=H1.length:=by rw [s4];simp
   have same:∀ j,j<H.length->j≠x5->rd H2 j=rd H j:=λj hj T1=>by
    rw [s4,B6 (Ne.symm T1)];obtain ⟨tt,hh⟩:=s1.1;rw [<-hh,E1 hj]
   have K2:IsRC n Q H2 cs1 (jD D n c a):=by
    have:IsRC n Q H1 cs1 (jD D n c a):=s2.mono λid hid=>hid.elim (λx=>x) (hQ id)
    rw [s4];exact this.set (.inr nQ)
   have hlen:i+1<=(jD D n c a).row.length:=by
    have:c.row.length<=(jD D n c a).row.length:=C7H;omega
   obtain ⟨cs',H',M',e1,e2,e3,e4,e5,e6,e7,e8⟩:=ih (i+1) M (jD D n c a) cs1 H2 (by omega) (by omega) hlen hR' sm2 w2 (by rw [s4];exact (G.trans' s1).set hg _) K2 (λid hid=>hQ id (by omega)) (by rw [s4];exact C6 (by omega)) (by rw [same _ (C8 r3) n35];exact r3);exact ⟨cs',H',M',s5.trans e1,e2,e3,e4,e5,e6,by omega,λj hj T1=>by rw [e8 j (by omega) T1,same j hj T1]⟩
def D5E {x3 x5 nid q:Nat} {x4:Val} {c:Cl} {xr xi xt xb xm xl xy:Cell} {lost:Int} {N:Nat} (eN:(n+1)=(N:Int)) (hN:N<=1000) (n3:nid≠x3) (n5:nid≠x5) :
  ∀ (e k M:Nat) (c:Cl) (H:B5),k+e=N->e<M->(∀ x∈c.ino,x.length=11)->c.ino.length=N->rd H x5=rT (rcC xr xi xt xb xm lost xl xy)->rd H x3=rT (D7 D.length n m)->rd H nid=rT (U8 c.ino)->Has H (.c xl) 1 N (encI (fV n c.lnk))->nmC xl≠A4 nid ->
  ∃ H' M',B6a q M (pV x3 0) x4 (pV x5 0) (sV nid 0 N 11) (iV (k:Int)) H=B6a q (M'+1) (pV x3 0) x4 (pV x5 0) (sV nid 0 N 11) (iV (N:Int)) H' /\
   rd H' nid=rT (U8 (T7 c ((E6y k e).map λi:Nat=>(i:Int))).ino)/\((∀ x∈(T7 c ((E6y k e).map λi:Nat=>(i:Int))).ino,x.length=11)/\(T7 c ((E6y k e).map λi:Nat=>(i:Int))).ino.length=N)/\∃ y:List Cell,H'=H.set nid (rT y):=by
 intro e
 induction e with
 | zero =>
  intro k M c H hk hM il ilen r5 r3 rn hx hnx;obtain ⟨M,rfl⟩:∃ M',M=M'+1:=⟨M-1,by omega⟩;have ek:k=N:=by omega
  subst ek;exact ⟨H,M,rfl,rn,⟨il,ilen⟩,_,(set_self rn).symm⟩
 | succ e ih =>
  intro k M c H hk hM il ilen r5 r3 rn hx hnx;obtain ⟨M,rfl⟩:∃ M',M=M'+1:=⟨M-1,by omega⟩;have hkN:k<N:=by omega
  have c0:(k:Int)<=n:=by omega
  have w1:=D3 (show k+1<9223372036854775808 by omega);have l3:B8 H (pV x3 1)=A4 (iV n):=B9 r3 rfl rfl;have ad:D9 11 (sV nid 0 N 11) (iV (k:Int))=A4 (pV nid (k*11)):=by rw [C9 hkN];simp
  have gi:=C63 (l:=c.ino) (i:=k) (k:=0) il (by omega) (by omega);have lk:B8 H (pV nid (k*11))=A4 (iV ((c.ino.getD k []).getD 0 0)):=B9 rn gi rfl;have l6:B8 H (pV x5 6)=A4 (.c xl):=B9 r5 rfl rfl;obtain ⟨it,ot,et,_,hA,_⟩:=hx.sl (by omega);cases et;have aL:D9 1 (sV it ot N 1) (iV (k:Int))=A4 (pV it (ot+k)):=by rw [C9 hkN,Nat.mul_one]
  have lL:B8 H (pV it (ot+k))=A4 (iV ((c.lnk (k:Int)).getD 0)):=hA k _ (by rw [I1,A6w (by omega)];rfl);have er:(E6y k (e+1)).map (λi:Nat=>(i:Int))=(k:Int)::(E6y (k+1) e).map (λi:Nat=>(i:Int)):=rfl;rw [er];have el:T7 c ((k:Int)::(E6y (k+1) e).map (λi:Nat=>(i:Int)))=T7 (bB c (k:Int)) ((E6y (k+1) e).map (λi:Nat=>(i:Int))):=rfl;rw [el];have elk:(bB c (k:Int)).lnk=c.lnk:=A8o.2.2.2.2.2.1;by_cases h1:(c.ino.getD k []).getD 0 0=1
  ·have ec:(bB c (k:Int)).ino=c.ino.set k ((c.ino.getD k []).set 1 ((c.lnk (k:Int)).getD 0)):=by unfold bB;rw [E6c,if_pos h1]
   obtain ⟨H1,hH1⟩:∃ H1,H1=H.set nid (rT (U8 (bB c (k:Int)).ino)):=⟨_,rfl⟩;have s1:I5 H (pV nid (k*11+1)) (iV ((c.lnk (k:Int)).getD 0))=A4 H1:=by
    rw [G8 rn (by rw [R6 il];omega),C74 il (by omega) (by omega),hH1,ec]
   have il2:∀ x∈(bB c (k:Int)).ino,x.length=11:=λx hx=>by
    rw [ec] at hx;rcases E6A hx with h2 | h2
    ·exact il x h2
    ·rw [h2,E6o,E5Z,E5P (by omega)];exact il _ (E6v _)
   obtain ⟨H',M',f1,f2,f3,y,f4⟩:=ih (k+1) M (bB c (k:Int)) H1 (by omega) (by omega) il2 (by rw [ec,E6o];exact ilen) (by rw [hH1,B6 n5];exact r5) (by rw [hH1,B6 n3];exact r3) (by rw [hH1];exact C6 (C8 rn)) (by rw [hH1,elk];exact has_set hx (.inr hnx)) hnx;refine ⟨H',M',?_,f2,f3,y,by rw [f4,hH1,List.set_set]⟩;rw [h1] at lk;rw [A5i];simp only [esc,l3,c0,ad,lk,l6,aL,lL,s1,B4d,w1];exact f1
  ·have ec:bB c (k:Int)=c:=by unfold bB;rw [E6c,if_neg h1]
   rw [ec];obtain ⟨H',M',f1,f2,f3,y,f4⟩:=ih (k+1) M c H (by omega) (by omega) il ilen r5 r3 rn hx hnx;refine ⟨H',M',?_,f2,f3,y,f4⟩;rw [A5i];simp only [esc,l3,c0,ad,lk,h1,B4d,w1];exact f1
end
section
variable {D:Dev} {n m:Int} {h:B5} {v:Val}
def D9T (hv:Has h v 256 D.length (D5 D)) (hD:okD D) (hm:R7 D.length n=A5) :
  ∃ cs' H',A5M [v,.a (D7 D.length n m)] h=A4 (.a cs',H')/\Grows h H'/\IsRC n (λid=>h.length<=id) H' cs' (J1 D n):=by
 obtain ⟨b16,b512,n8,n128,_,_⟩:=J8.1 hm;obtain ⟨N,hN⟩:∃ N:Nat,n+1=(N:Int):=E6C (by omega);have hNn:(n+1).toNat=N:=by omega
 obtain ⟨xl,hxl⟩:∃ xl,xl=Cell.sl (h.length+4) 0 N 1:=⟨_,rfl⟩;obtain ⟨xy,hxy⟩:∃ xy,xy=Cell.sl (h.length+5) 0 N 1:=⟨_,rfl⟩;obtain ⟨xr,hxr⟩:∃ xr,xr=Cell.sl (h.length+2) 0 1 1:=⟨_,rfl⟩;obtain ⟨xi,hxi⟩:∃ xi,xi=Cell.sl (h.length+3) 0 N 11:=⟨_,rfl⟩;obtain ⟨C0,hC0⟩:∃ C0,C0=rcC xr xi .ns .ns .ns 0 xl xy:=⟨_,rfl⟩;obtain ⟨H0,hH0⟩:∃ H0,H0=h++[rT (D7 D.length n m),rT Z8,rT [.i .i64 1],rT (U8 (E5R N (zI 11))),rT (encI (fV n λ_=>A7)),rT (encI (fV n λ_=>A7)),rT C0]:=⟨_,rfl⟩;obtain ⟨H1,hH1⟩:∃ H1,H1=h++[rT (D7 D.length n m),rT Z8,rT [.i .i64 1],rT (U8 (E5R N (zI 11))),rT (encI (fV n λ_=>A7)),rT (encI (fV n (I8 D n).par)),rT C0]:=⟨_,rfl⟩;have lH1:H1.length=h.length+7:=by rw [hH1];simp
 have G1:Grows h H1:=by rw [hH1];exact U2 Grows.rfl' rfl
 have at1:∀ (k:Nat) (x:Option Row),[rT (D7 D.length n m),rT Z8,rT [.i .i64 1],rT (U8 (E5R N (zI 11))),rT (encI (fV n λ_=>A7)),rT (encI (fV n (I8 D n).par)),rT C0][k]?=A4 x->rd H1 (h.length+k)=x:=λk x hk=>by
  rw [hH1];unfold rd;rw [E57 (by omega),show h.length+k-h.length=k by omega,hk];rfl
 have r3:rd H1 h.length=rT (D7 D.length n m):=at1 0 _ rfl;have r4:rd H1 (h.length+1)=rT Z8:=at1 1 _ rfl;have rr:rd H1 (h.length+2)=rT [.i .i64 1]:=at1 2 _ rfl;have ri:rd H1 (h.length+3)=rT (U8 (E5R N (zI 11))):=at1 3 _ rfl;have rl:rd H1 (h.length+4)=rT (encI (fV n λ_=>A7)):=at1 4 _ rfl;have ry:rd H1 (h.length+5)=rT (encI (fV n (I8 D n).par)):=at1 5 _ rfl;have r5:rd H1 (h.length+6)=rT C0:=at1 6 _ rfl;have P6:∀ x∈E5R N (zI 11),x.length=11:=λx hx=>by rw [List.eq_of_mem_replicate hx];simp [zI]
 obtain ⟨Q,hQ⟩:∃ Q:Nat->Prop,Q=λid=>h.length<=id/\id≠h.length/\id≠h.length+1/\id≠h.length+6:=⟨_,rfl⟩
 have nQ5:¬ Q (h.length+6):=by rw [hQ];intro hh;omega
 have nQ3:¬ Q h.length:=by rw [hQ];intro hh;omega
 have nQ4:¬ Q (h.length+1):=by rw [hQ];intro hh;omega
 have Qhi:∀ id,h.length+7<=id->Q id:=λid hid=>by rw [hQ];exact ⟨by omega,by omega,by omega,by omega⟩
 rw [hC0] at r5;obtain ⟨xt,H2,f1,f2,f3,f4,f5,f6⟩:=D7P (D:=D) (n:=n) (m:=m) (v:=v) (g:=h) (x3:=h.length) (x5:=h.length+6) (q:=1200) (lo:=h.length+7) (xr:=xr) (xi:=xi) (xb:=.ns) (xm:=.ns) (xl:=xl) (xy:=xy) (lost:=0) (x4:=pV (h.length+1) 0) (by omega) (by omega) (by omega) (by omega) (by omega) (by omega) D.length 0 1200 .ns H1 (by omega) (by omega) G1 (by omega) r5 r3 (.inl ⟨rfl,rfl⟩);obtain ⟨tid,rfl,t1,t2⟩:∃ tid,xt=.sl tid 0 D.length 1/\h.length+7<=tid/\rd H2 tid=rT (J9 (B2h D n D.length)):=by
  rcases f5 with ⟨h0,_⟩ | hh
  ·omega
  ·exact hh
 obtain ⟨K,hK⟩:∃ K,K=(mS D.length n).toNat:=⟨_,rfl⟩;have hsO:=ownR_same (c:=I8 D n) (k:=K);have xS:=D9I hm;rw [<-hK] at xS;have low:∀ j,j<h.length+7->j≠h.length+6->rd H2 j=rd H1 j:=f6;have lz:(E5R N (zI 11)).length=N:=by simp
 have K2:IsRC n Q H2 (rcC xr xi (.sl tid 0 D.length 1) .ns .ns 0 xl xy) (sI (I8 D n) K):=by
  refine ⟨xr,xi,.sl tid 0 D.length 1,.ns,.ns,xl,xy,[],by rw [hsO.lost];rfl,⟨?_,?_,?_,?_,?_,⟨by rw [hsO.made];rfl,rfl,λi y hy=>by simp at hy⟩,?_,?_,?_,?_,?_,?_,?_,?_,?_⟩⟩
  ·rw [hsO.row,hxr];exact Has.row (rw:=A5) (by rw [low _ (by omega) (by omega)];exact rr) rfl rfl
  ·have e:(sI (I8 D n) K).ino=E5R N (zI 11):=by rw [hsO.ino];show E5R (n+1).toNat (zI 11)=_;rw [hNn]
   rw [e,hxi,lz];exact Has.row (rw:=A5) (by rw [low _ (by omega) (by omega)];exact ri) (by rw [R6 P6,lz]) (B25 _)
  ·rw [xS,A0j];refine Has.row (rw:=A5) t2 (by rw [B7X,A0j];omega) ?_;exact List.all_eq_true.2 λx hx=>by obtain ⟨y,_,rfl⟩:=List.mem_map.1 hx;rfl
  ·rw [hsO.blocks];exact .inl ⟨rfl,rfl,rfl⟩
  ·rw [hsO.made];exact .inl ⟨rfl,rfl,rfl⟩
  ·rw [hsO.lnk,hNn,hxl];exact Has.row (rw:=A5) (by rw [low _ (by omega) (by omega)];exact rl) (by rw [B7,S6];omega) (cG _)
  ·rw [hsO.par,hNn,hxy];exact Has.row (rw:=A5) (by rw [low _ (by omega) (by omega)];exact ry) (by rw [B7,S6];omega) (cG _)
  ·intro id hi;rw [hxr] at hi;cases hi;rw [hQ];exact ⟨by omega,by omega,by omega,by omega⟩
  ·intro id hi;rw [hxi] at hi;cases hi;rw [hQ];exact ⟨by omega,by omega,by omega,by omega⟩
  ·intro id hi;cases hi;exact Qhi _ t1
  ·intro id hi;cases hi
  ·intro id hi;cases hi
  ·intro id hi;rw [hxl] at hi;cases hi;rw [hQ];exact ⟨by omega,by omega,by omega,by omega⟩
  ·intro id hi;rw [hxy] at hi;cases hi;rw [hQ];exact ⟨by omega,by omega,by omega,by omega⟩
 have rI:RowW n (sI (I8 D n) K):=by
  refine RowW.same (c:=I8 D n) ⟨by simp [I8],λi=>?_,λi hi=>?_⟩ hsO.row hsO.par
  ·by_cases c1:i=1
   ·subst c1;simp [I8,xY]
   ·simp [I8,xY,c1]
  ·simp [I8] at hi;omega
 have smI:Small (sI (I8 D n) K) 128 (224*0) (33*0) (224*0):=⟨by rw [hsO.row];simp [I8],λi=>by rw [hsO.lnk];simp [I8],by rw [hsO.blocks];simp [I8],by rw [hsO.made];simp [I8],by rw [hsO.lost];simp [I8],by rw [hsO.lost];simp [I8]⟩;have wI:InoW D n (sI (I8 D n) K):=by
  have e:(sI (I8 D n) K).ino=E5R N (zI 11):=by rw [hsO.ino];show E5R (n+1).toNat (zI 11)=_;rw [hNn]
  refine ⟨by rw [e];exact P6,by rw [e,lz,hNn],by rw [xS,A0j],λk _=>?_⟩;rw [e];cases hx:(E5R N (zI 11))[k]? with
  | none=>rw [show (E5R N (zI 11)).getD k []=[] by rw [E5Z,hx];rfl];decide
  | some x=>rw [show (E5R N (zI 11)).getD k []=x by rw [E5Z,hx];rfl,List.eq_of_mem_replicate (E6j hx)];decide
 obtain ⟨cs3,H3,M3,g1,g2,g3,g4,g5,g6,g7,g8⟩:=D9U (D:=D) (n:=n) (m:=m) (v:=v) (g:=h) (Q:=Q) (x3:=h.length) (x5:=h.length+6) (q:=1200) (x4:=pV (h.length+1) 0) hv hD n128 (by omega) (by omega) (by omega) (by omega) nQ5 129 0 1200 (sI (I8 D n) K) _ H2 (by omega) (by omega) (by omega) rI smI wI f2 K2 (λid hid=>Qhi id (by omega)) f4 (by rw [low _ (by omega) (by omega)];exact r3);have ecO:ofR D n 129 0 (sI (I8 D n) K)=V1 D n:=by unfold V1;rw [<-hK]
 rw [ecO] at g1 g3 g6;obtain ⟨c,hc⟩:∃ c,c=V1 D n:=⟨_,rfl⟩;have hcr:=(oE hD hm).1;rw [<-hc] at g1 g3 g6 hcr;have q3:rd H3 h.length=rT (D7 D.length n m):=by rw [g8 _ (by omega) (by omega),low _ (by omega) (by omega)];exact r3
 have q4:rd H3 (h.length+1)=rT Z8:=by rw [g8 _ (by omega) (by omega),low _ (by omega) (by omega)];exact r4
 obtain ⟨yr,yi,yt,yb,ym,yl,yy,ys,rfl,k3⟩:=id g3;have ilen:c.ino.length=N:=by rw [g6.ilen,hNn]
 have cp:=B58 (H:=H3) k3.ino (by omega) (by omega);obtain ⟨H4,hH4⟩:∃ H4,H4=H3++[A7,rT (U8 c.ino)]:=⟨_,rfl⟩;rw [<-hH4,ilen] at cp;have lH4:H4.length=H3.length+2:=by rw [hH4];simp
 have G34:Grows H3 H4:=by rw [hH4];exact U2 Grows.rfl' rfl
 have rn:rd H4 (H3.length+1)=rT (U8 c.ino):=by rw [hH4,K9];rfl
 have hl3:=g2.len;have h73:h.length+7<=H3.length:=by omega
 have k4:=k3.low.grows G34;have lL:Has H4 (.c yl) 1 N (encI (fV n c.lnk)):=by have:=k4.tol;rw [hNn] at this;exact this
 obtain ⟨L,hL⟩:∃ L,L=(E6y 2 (N-2)).map λi:Nat=>(i:Int):=⟨_,rfl⟩
 obtain ⟨H5,M5,o1,o2,o3,y,o4⟩:=D5E (D:=D) (n:=n) (m:=m) (x3:=h.length) (x5:=h.length+6) (nid:=H3.length+1) (q:=1200) (x4:=pV (h.length+1) 0) (c:=c) (xr:=yr) (xi:=yi) (xt:=yt) (xb:=yb) (xm:=ym) (xl:=yl) (xy:=yy) (lost:=c.lost) (N:=N) hN (by omega) (by omega) (by omega) (N-2) 2 1200 c H4 (by omega) (by omega) g6.il ilen (G34.rd g5) (G34.rd q3) rn lL (λhh=>by have:=k4.pl _ hh;omega);rw [<-hL] at o2 o3;have eF:T7 c L=J1 D n:=by
  have h1:T7 c L=T7 c c.row:=D5i g6 hcr.rg λa=>by
   rw [hL,List.mem_map];constructor
   ·rintro ⟨i,hi,rfl⟩;have:=List.mem_range'_1.1 hi;omega
   ·intro ha;exact ⟨a.toNat,List.mem_range'_1.2 (by omega),by omega⟩
  rw [h1,hc];rfl
 have q55:rd H5 (h.length+6)=rT (rcC yr yi yt yb ym c.lost yl yy):=by rw [o4,B6 (by omega)];exact G34.rd g5
 obtain ⟨C',hC'⟩:∃ C',C'=rcC yr (.sl (H3.length+1) 0 N 11) yt yb ym c.lost yl yy:=⟨_,rfl⟩;obtain ⟨H6,hH6⟩:∃ H6,H6=H5.set (h.length+6) (rT C'):=⟨_,rfl⟩;have s6:I5 H5 (pV (h.length+6) 1) (sV (H3.length+1) 0 N 11)=A4 H6:=by rw [G8 q55 (by simp [rcC]),hH6,hC'];rfl
 have l6:D4 H6 8 (pV (h.length+6) 0)=A4 (.a C'):=C7 (by rw [hH6];exact C6 (C8 q55)) (by rw [hC'];rfl);have q46:rd H6 (h.length+1)=rT Z8:=by rw [hH6,B6 (by omega),o4,B6 (by omega)];exact G34.rd q4
 obtain ⟨H7,hH7⟩:∃ H7,H7=H6.set (h.length+1) (rT C'):=⟨_,rfl⟩;have s7:E5 H6 8 (pV (h.length+1) 0) (.a C')=A4 H7:=by rw [storeAll (n:=8) q46 rfl (by rw [hC'];rfl),hH7]
 have l7:D4 H7 8 (pV (h.length+1) 0)=A4 (.a C'):=C7 (by rw [hH7];exact C6 (C8 q46)) (by rw [hC'];rfl);have G4:Grows h H4:=g2.trans' G34;have G7:Grows h H7:=by rw [hH7,hH6,o4];exact ((G4.set (show h.length<=H3.length+1 by omega) _).set (show h.length<=h.length+6 by omega) _).set (show h.length<=h.length+1 by omega) _
 obtain ⟨a1,a2,a3,a4,a5,a6,a7⟩:=dQ (L:=L) (c:=c);rw [eF] at a1 a2 a3 a4 a5 a6 a7 o2 o3;have k7:RCF n (λid=>h.length<=id) H7 c yr yi yt yb ym yl yy ys:=by
  rw [hH7,hH6,o4];have nn:∀ j,¬ Q j->¬ (Q j/\j<H3.length):=λj hj hh=>hj hh.1
  exact (((k4.set (.inr (by omega))).set (.inr (nn _ nQ5))).set (.inr (nn _ nQ4))).mono λid hid=>by have:=hid.1;rw [hQ] at this;exact this.1
 have rn7:rd H7 (H3.length+1)=rT (U8 (J1 D n).ino):=by rw [hH7,B6 (by omega),hH6,B6 (by omega)];exact o2
 refine ⟨C',H7,D1v (n:=1200) ?_,G7,yr,.sl (H3.length+1) 0 N 11,yt,yb,ym,yl,yy,ys,by rw [hC',a5],
  ⟨by rw [a1];exact k7.row,?_,by rw [a2];exact k7.tak,by rw [a3];exact k7.blk,by rw [a4];exact k7.mad,by rw [a4];exact k7.mds,by rw [a6];exact k7.tol,by rw [a7];exact k7.par,k7.pr,λid hi=>by cases hi;omega,k7.pt,k7.pb,k7.pm,k7.pl,k7.py⟩⟩
 rotate_left
 ·rw [o3.2];exact Has.row (rw:=A5) rn7 (by rw [R6 o3.1,o3.2]) (B25 _)
 have z11:[o0,o0,o0,o0,o0,o0,o0,o0,o0,o0,o0]=encI (zI 11):=rfl;have cl1:cells? (.a (D7 D.length n m))=A4 (D7 D.length n m):=rfl;have ef1:E6 [o0] [(0,1,iV 1)]=A4 [.i .i64 1]:=rfl;have wn:E5U .i64 (n+1)=(N:Int):=by rw [wrap_i64 (by omega) (by omega),hN]
 have nt:∀ k:Nat,k<=1000->A6B (iV (k:Int))=A4 k:=λk hk=>by
  simp only [A6B];rw [if_pos (by omega)];simp
 have am1:A2T (iV (N:Int)) (iV (N:Int))=A4 N:=by simp only [A2T,nt N (by omega),E54];rw [if_pos (E5V _)]
 have rz1:rows (encI (zI 11)) N=U8 (E5R N (zI 11)):=by unfold rows U8;rw [List.map_replicate]
 have rz2:rows [o0] N=encI (fV n λ_=>A7):=by
  have e:fV n (λ_=>A7)=zI N:=by
   unfold fV;rw [hNn];refine List.ext_getElem? λi=>?_
   simp [zI,List.getElem?_replicate];split<;>simp_all
  rw [e];unfold rows;rw [List.flatten_replicate_singleton];simp [encI,zI]
 have ef2:E6 Z8 [(0,1,sV (h.length+2) 0 1 1),(1,1,sV (h.length+3) 0 N 11),(6,1,sV (h.length+4) 0 N 1),(7,1,sV (h.length+5) 0 N 1)]=A4 C0:=by rw [hC0,hxr,hxi,hxl,hxy];rfl
 have lay1:B8 (h++[rT (D7 D.length n m),rT Z8]) (pV h.length 1)=A4 (iV n):=B9 (cs:=D7 D.length n m) (by rw [E9];rfl) rfl rfl;obtain ⟨Hs,hHs⟩:∃ Hs,Hs=h++[rT (D7 D.length n m),rT Z8,rT [.i .i64 1],rT (U8 (E5R N (zI 11))),rT (encI (fV n λ_=>A7)),rT (encI (fV n λ_=>A7)),rT Z8]:=⟨_,rfl⟩;have sH0:E5 Hs 8 (pV (h.length+6) 0) (.a C0)=A4 H0:=by
  rw [storeAll (cs:=Z8) (n:=8) (by rw [hHs,K9];rfl) rfl (by rw [hC0];rfl),hHs,nF,hH0];rfl
 have lY:B8 H0 (pV (h.length+6) 7)=A4 (sV (h.length+5) 0 N 1):=B9 (cs:=C0) (by rw [hH0,K9];rfl) (by rw [hC0,hxy];rfl) rfl;have aY:D9 1 (sV (h.length+5) 0 N 1) (iV 1)=A4 (pV (h.length+5) 1):=C9 (j:=1) (by omega);have sY:I5 H0 (pV (h.length+5) 1) (iV 1)=A4 H1:=by
  rw [G8 (cs:=encI (fV n λ_=>A7)) (by rw [hH0,K9];rfl) (by rw [B7,S6];omega),X5,C7q,hH0,nF,hH1];rfl
 have c00:((0:Nat):Int)=0:=rfl;rw [c00] at f1 g1;have c2:((2:Nat):Int)=2:=rfl;rw [c2] at o1;have l35:B8 H3 (pV (h.length+6) 0)=A4 (.c yr):=B9 g5 rfl rfl;have alr:=k3.row.len;have cR:¬ ((c.row.length:Nat):Int)<(c.row.length:Nat):=by omega
 have l63:B8 (H3++[rT []]) (pV (h.length+6) 1)=A4 (.c yi):=B9 (C5 g5) rfl rfl;have efN:E6 [] []=A4 []:=rfl;have l25:B8 H5 (pV h.length 1)=A4 (iV n):=B9 (cs:=D7 D.length n m) (by rw [o4,B6 (by omega)];exact G34.rd q3) rfl rfl;have cN:¬ ((N:Int)<=n):=by omega
 rw [D1n,z11,A5S];generalize encI (zI 11)=Z at *;generalize hLL:D7 D.length n m=LC at *;generalize hZ8:Z8=E8 at *;simp only [cl1,M9,E5Y,E6q,E59,E5T,E52,E6h,E6e,Nat.reduceAdd];simp only [esc,Nat.reduceAdd,lay1,wn,am1,ef1,rz1,rz2,ef2,Nat.add_assoc,<-hHs];simp only [esc,sH0,lY,aY,sY];refine f1.trans (g1.trans ?_);rw [B4f];simp only [esc,l35,alr,cR,efN,l63,cp];refine o1.trans ?_;rw [A5i];simp only [esc,l25,cN,s6,l6,s7,l7]
end
section
variable (n m m2:Nat) (a0 a1 x0 x3 x4 x5 x6 x7 x8 x9 x10 x11 x12:Val) (h:B5)
def gH:FD A8:=⟨px 0X14af407a4a026000002722bf7050022e2a0318049f500613901011113e6816a15182403f01a2232040411d4c14c1038044881d3c172c0180197b43154111a0702406120292a11e1e044b4203006051111f011c210231df600181a31320420328318711c318718050191d15314a11b4214a432e270182,[],[.slA 256 1 (.t 22) A7 A7],[.tmp 4],[iJ A5M B9h,iJ A7M B6N,E3 gO lA]⟩
def C1K:=gH.R
def B8h:AtH:=gH.lj 0 n [m] [x0,x5,x6,x7]
def D1Q:AtH:=gH.lj 1 n [m] [x0,x5,x6,x7]
def B03:=tT [⟨2,4,B8h⟩,⟨2,4,D1Q⟩]
def C44:=mR C1K gH B03 n [a0,a1] h
def A0A:=mL gH B03 0 n [m] [x0,x5,x6,x7] h
def A87:=mJ gH B03 1 n [m] [x0,x5,x6,x7] h
def C1r:=gH.K Tryz.func25
def A3B:=gH.S
def C3N:pY C1K A3B:=C1r.out
def J0:FD A8:=⟨px 0X124f1865f1829d1c21111003321dff1b0500238e1de03180022a3d5f1182d5002043d5f1182d51824301c19048d1e04148d4f3ec48d7048d1e26f48d1f0103f3d81194a966620022a395f1182d500204395f1182d51824301e1903d94d03d91e0413d94f3b83d9703d91e26f3d91f0139e1eb0193ef42061a1eaf1c00424339c171e80439425561181a4702406120403f52fe1da043bb42030364511b012f271282222002333df7050025a3c03180022a2d5f1182d5002042d5f1182d5182430181910238b1a038b1e1a2ea38b1f011032041a2dc1be2b1839b666617219df1a0500228c19c03180022a2d5f1182d5002042d5f1182d51824301c191022cf1a02cf1e40162cf6a42b82cf1f2ac2cf70110320440162d429e529819e01c2eb4235191191a270243901228819a022af42030762511a012d4218130022a295f1182d500204295f1182d51824301c190631ff1a01ff1e31ea1ff1f01ff1e31e81ff1f01190220401ce51a29b4218151a0022a1d5f1182d5002041d5f1182d5182406320411b850411ae551df422b2961921a0170022a195f1182d500204195f1182d518241032040198531bd426660311a2403f042337f10406f4f2b51af42034ef21b614df1b24e4af14b249f01b63b118b3b0185a01b18041b1d7a10417850463236a17831873e01b21b4c4e183156141a07024061920415c54a38046f4203006055701484203422a54c1182d2412d1622a14a1182d0453c5029042133c3187280701b031ff21863d61b042032e31871d051d423a4c11b423a4c432e219701c2,[],[],[.cellN 4 8],[iJ A5M B9h,E3 A3B C1r,E3 iG nZ,E3 B2O B9g,E3 B0Q C1o]⟩
def B63:=J0.R
def yZ:AtH:=J0.lj 0 n [m] [x0,x3,x4,x5,x6,x7]
def C9f:AtH:=J0.lj 1 n [m] [x0,x3,x4,x5,x6,x7]
def yY:AtH:=J0.lj 2 n [m] [x0,x3,x4,x5,x6,x7,x8,x9]
def B4h:AtH:=J0.lj 3 n [m] [x0,x3,x4,x5,x6,x11]
def jN:AtH:=J0.lj 4 n [m] [x0,x3,x4,x5,x6,x7]
def B4g:AtH:=J0.lj 5 n [m] [x0,x3,x4,x5,x6,x7,x8,x9]
def C9g:AtH:=J0.lj 6 n [m] [x0,x3,x4,x5,x6,x11,x12]
def B4i:AtH:=J0.lj 7 n [m,m2] [x0,x3,x4,x5,x6,x7,x8,x9,x10]
def C9h:AtH:=J0.lj 8 n [m] [x0,x3,x4,x5,x6,x11]
def C9i:AtH:=J0.lj 9 n [m,m2] [x0,x3,x4,x5,x6,x7,x8,x9,x10]
def W0:=tT [⟨2,6,yZ⟩,⟨2,6,C9f⟩,⟨2,8,yY⟩,⟨2,6,B4h⟩,⟨2,6,jN⟩,⟨2,8,B4g⟩,⟨2,7,C9g⟩,⟨3,9,B4i⟩,⟨2,6,C9h⟩,⟨3,9,C9i⟩]
def C3a:=mR B63 J0 W0 n [a0,a1] h
def oK:=mL J0 W0 0 n [m] [x0,x3,x4,x5,x6,x7] h
def A6o:=mJ J0 W0 1 n [m] [x0,x3,x4,x5,x6,x7] h
def xM:=mJ J0 W0 2 n [m] [x0,x3,x4,x5,x6,x7,x8,x9] h
def fU:=mL J0 W0 3 n [m] [x0,x3,x4,x5,x6,x11] h
def C0Q:=mJ J0 W0 4 n [m] [x0,x3,x4,x5,x6,x7] h
def C0R:=mJ J0 W0 5 n [m] [x0,x3,x4,x5,x6,x7,x8,x9] h
def oI:=mJ J0 W0 6 n [m] [x0,x3,x4,x5,x6,x11,x12] h
def bS:=mL J0 W0 7 n [m,m2] [x0,x3,x4,x5,x6,x7,x8,x9,x10] h
def oJ:=mJ J0 W0 8 n [m] [x0,x3,x4,x5,x6,x11] h
def xN:=mJ J0 W0 9 n [m,m2] [x0,x3,x4,x5,x6,x7,x8,x9,x10] h
def B6P:=J0.K Tryz.func27
def A7O:=J0.S
def B7s:F6 B63 A7O:=B6P.flat
end
def E2v {h:B5} {x:Cell} {j w:Nat} {l:List Cell} (hv:Has h (.c x) 1 w l) (hw:0<w) (hj:rd h j=rT []):nmC x≠A4 j:=by
 intro e;rcases hv with ⟨_,h0,_⟩ | ⟨id,off,r,e1,hr,h1,h2,_⟩
 ·omega
 ·cases e1;cases e;rw [hj] at hr;cases hr;simp at h2;omega
section
variable {D W:Dev} {n m:Int} {h:B5} {q:Nat} {x0:Val}
def D9X {b iy:Nat} {hb:B5} {ys:List Cell} (hD:okD D) (hW:okD W) (hWD:W.length=D.length) (h5:D.length<=1000000) :
  ∀ (e i M:Nat) (l:List Int) (id:Nat) (h:B5),i+e=W.length->e<M->Low b hb h->b<=id->l.length<=i->Has h x0 256 D.length (D5 D)->D4I x0 id->rd h iy=rT ys->iy≠id->D4H (λj=>j≠id) h ys W->rd h id=rT (encI l) ->
  ∃ bT h',B8h q M x0 (sV id 0 l.length 1) (sV iy 0 W.length 1) (iV (i:Int)) h=A4 (sV bT 0 (l++(T9 (W.drop i) (D.drop i) i).map (·.1)).length 1,h') /\
   b<=bT/\rd h' bT=rT (encI (l++(T9 (W.drop i) (D.drop i) i).map (·.1))):=by
 intro e
 induction e with
 | zero =>
  intro i M l id h hi hM hlow hid hli h0 n0 ry T1 md hr;obtain ⟨M,rfl⟩:∃ M',M=M'+1:=⟨M-1,by omega⟩;have c0:¬ (i:Int)<(W.length:Nat):=by omega
  have e1:T9 (W.drop i) (D.drop i) i=[]:=by rw [E56 (by omega)];rfl
  rw [e1,List.map_nil,E6m];refine ⟨id,h,?_,hid,hr⟩;rw [A0A];simp only [esc,c0]
 | succ e ih =>
  intro i M l id h hi hM hlow hid hli h0 n0 ry T1 md hr;obtain ⟨M,rfl⟩:∃ M',M=M'+1:=⟨M-1,by omega⟩;have hiW:i<W.length:=by omega
  have hiD:i<D.length:=by omega
  have c0:(i:Int)<(W.length:Nat):=by omega
  have w1:=D3 (show i+1<9223372036854775808 by omega);obtain ⟨ad,u,d1,d2,d3⟩:=C4j h0 hD hiD;have a2:D9 1 (sV iy 0 W.length 1) (iV (i:Int))=A4 (pV iy i):=by rw [C9 hiW];simp
  have hyl:=md.1;have hy:ys[i]?=A4 (ys[i]'(by omega)):=E5P _;obtain ⟨_,bb,y1,y2,y3⟩:=md.2.2 i _ hy;rw [E5P hiW] at y1;cases y1;have b2:B8 h (pV iy i)=A4 (.c (ys[i]'(by omega))):=B9 ry hy rfl;have hS:=jO d3 y3 (by rw [hD.at hiD];omega);have ed:T9 (W.drop i) (D.drop i) i=if W[i]=D[i] then T9 (W.drop (i+1)) (D.drop (i+1)) (i+1) else ((i:Int),W[i])::T9 (W.drop (i+1)) (D.drop (i+1)) (i+1):=by
   rw [E5X hiW,E5X hiD];rfl
  by_cases cw:W[i]=D[i]
  ·rw [ed,if_pos cw];rw [decide_eq_true cw.symm] at hS;obtain ⟨bT,h',f1,f2,f3⟩:=ih (i+1) M l id h (by omega) (by omega) hlow hid (by omega) h0 n0 ry T1 md hr;generalize l++(T9 (W.drop (i+1)) (D.drop (i+1)) (i+1)).map (·.1)=P at f1 f3 ⊢;refine ⟨bT,h',?_,f2,f3⟩;rw [A0A];simp only [esc,E6V,c0,d1,d2,a2,b2,hS,A87,w1];exact f1
  ·rw [ed,if_neg cw];rw [decide_eq_false (Ne.symm cw)] at hS;obtain ⟨h1,p1,p2,p3,p4⟩:=C7Q (n:=l.length) (sz:=1) (ys:=[Cell.i .i64 (i:Int)]) hr (by simp [encI]) rfl (by omega) (by omega);have hbG:b<=h.length:=by have:=hlow.1;have:=hlow.2.1;omega
   have hiy:=C8 ry;have er:encI l++[Cell.i .i64 (i:Int)]=encI (l++[(i:Int)]):=by simp [encI]
   rw [er] at p2;have ls:(l++[(i:Int)]).length=l.length+1:=by simp
   have keep:∀ {x:Cell} {cs:List Cell} {w:Nat},InR (λj=>j≠id) x->Has h (.c x) 1 w cs->Has h1 (.c x) 1 w cs:=λ{x cs w} hx hv=>by
    rcases hv with hv | ⟨j,off,r,e1,hr,h2⟩
    ·exact .inl hv
    ·cases e1;exact .inr ⟨j,off,r,rfl,p3 j r (hx j rfl) hr,h2⟩
   obtain ⟨bT,h',f1,f2,f3⟩:=ih (i+1) M (l++[(i:Int)]) (h.length+1) h1 (by omega) (by omega) (hlow.trans (p4 b hid hbG)) (by omega) (by rw [ls];omega) (A6p h0 n0 p3) (A8h h0 (by omega)) (p3 _ _ T1 ry) (by omega)
    ⟨md.1,md.2.1,λj x hj=>by
     obtain ⟨z1,b,z2,z3,z4⟩:=md.2.2 j x hj;exact ⟨λk hk=>by have:=A2w z4 hk;omega,b,z2,z3,keep z1 z4⟩⟩ p2
   rw [ls,E5Y] at f1;rw [E5Y] at f3;have eP:[(i:Int)]++(T9 (W.drop (i+1)) (D.drop (i+1)) (i+1)).map (·.1)=(((i:Int),W[i])::T9 (W.drop (i+1)) (D.drop (i+1)) (i+1)).map (·.1):=rfl;rw [eP] at f1 f3;generalize l++(((i:Int),W[i])::T9 (W.drop (i+1)) (D.drop (i+1)) (i+1)).map (·.1)=P at f1 f3 ⊢;refine ⟨bT,h',?_,f2,f3⟩;have ef:E6 [o0] [(0,1,iV (i:Int))]=A4 [.i .i64 (i:Int)]:=rfl;rw [A0A];simp only [esc,E6Q,c0,d1,d2,a2,b2,hS,ef,p1,A87,w1];exact f1
def D9W {v:Val} (hv:Has h v 256 D.length (D5 D)) (hD:okD D) (hm:R7 D.length n=A5) :
  A3B [v,.a (D7 D.length n m)] h=A4 (sV h.length 0 ((T9 (uV D n (J1 D n)) D 0).map (·.1)).length 1,h++[rT (encI ((T9 (uV D n (J1 D n)) D 0).map (·.1)))]):=by
 obtain ⟨b16,b512,_⟩:=J8.1 hm;obtain ⟨W,eW⟩:∃ W,W=uV D n (J1 D n):=⟨_,rfl⟩;obtain ⟨okW,lW⟩:=B20 hD hm;rw [<-eW] at okW lW ⊢;obtain ⟨g,hg⟩:∃ g,g=ro h:=⟨_,rfl⟩;have hvg:Has g v 256 D.length (D5 D):=by rw [hg];exact hv.ro
 obtain ⟨G,hG⟩:∃ G,G=g++[rT (D7 D.length n m),rT [],rT []]:=⟨_,rfl⟩;have lG:G.length=g.length+3:=by rw [hG];simp
 have l3:D4 G 3 (pV g.length 0)=A4 (.a (D7 D.length n m)):=C7 (by rw [hG,E9];rfl) rfl;have hvG:Has G v 256 D.length (D5 D):=by rw [hG];exact hvg.more _
 obtain ⟨cs',F,r1,r2,r3⟩:=D9T (n:=n) (m:=m) hvG hD hm;have q2:=U9 (v:=.a cs') r2;rw [<-r1] at q2;have q2':quiet G (A5M [v,.a (D7 D.length n m)] G)=A4 (.a cs',F):=by rw [q2,r1]
 obtain ⟨_,_,_,hfl,_⟩:=oE hD hm;obtain ⟨iy,ys,Y,s1,s2,s3,s4⟩:=E1n (n:=n) (m:=m) (hvG.grows r2) hD hm r3.low (λid hid=>hid.2) (C0L hD hm) hfl;rw [<-eW] at s4;have GY:Grows G Y:=r2.trans' s2;have r5:rd Y (g.length+2)=rT []:=GY.rd (by rw [hG,K9];rfl);have hy0:iy≠g.length+2:=by
  intro e;rw [e,r5] at s3;have h1:=s4.1;cases s3;simp at h1;omega
 have lY:=GY.len;obtain ⟨bT,h',f1,f2,f3⟩:=D9X (q:=D.length+1) (b:=g.length) (hb:=Y) hD okW lW (by omega) W.length 0 (D.length+1) [] (g.length+2) Y (by omega) (by omega) (Low.refl (by omega)) (by omega) (by simp) (hvG.grows GY) (A8h hvg (by omega)) s3 hy0
  ⟨s4.1,s4.2.1,λj x hj=>by
   obtain ⟨_,b,z2,z3,z4⟩:=s4.2.2 j x hj;exact ⟨λk hk e=>E2v z4 (by omega) r5 (by rw [hk,e]),b,z2,z3,z4⟩⟩ r5
 rw [E59,E6a,E6a] at f1 f3;refine C3N (n:=D.length+1) (h2:=h') (v:=sV bT 0 ((T9 W D 0).map (·.1)).length 1) ?_ ⟨by simp [encI],bT,rfl,by rw [hg,F7] at f2;exact f2,f3⟩ B6e;have z0:((0:Nat):Int)=0:=rfl;have z1:([]:List Int).length=0:=rfl;rw [z0,z1,lW] at f1;have cl1:cells? (.a (D7 D.length n m))=A4 (D7 D.length n m):=rfl;rw [<-hg,C44];generalize D7 D.length n m=L at *;simp only [esc,Nat.reduceAdd,cl1,<-hG,l3,q2',s1];exact f1
end
section
variable {h:B5} {r:Nat} {s:List Int} {B:Int}
def cH {x:List Int} {id:Nat} (hr:rd h id=rT (encI x)) {k:Nat} (hk:k<x.length):B8 h (pV id k)=A4 (iV (x.getD k 0)) :=
 B9 hr (by rw [I1,E5Z,E5P hk];rfl) rfl
def C6N {x:List Int} (h:x.length=11):dC [.a (encI x)]=λh=>A4 (.a (encI (x.drop 4)),h):=by
 funext h
 rw [C0P (by assumption)];exact oM (by rw [E6O];omega)
def D7m {was now:List Int} (hw:was.length=11) (hn:now.length=11) (hr:rd h r=rT (encI s)) (hB:BndR s B) (hB2:B<=900000) :
  ∃ h',pC [pV r 0,.a (encI was),.a (encI now)] h=A4 (.t [],h')/\rd h' r=rT (encI (A8x was now s))/\OnlyR r h h'/\BndR (A8x was now s) (B+9):=by
 have hrl:=C8 hr;obtain ⟨G,hG⟩:∃ G,G=h++[rT (encI was),rT (encI now)]:=⟨_,rfl⟩;have lG:G.length=h.length+2:=by rw [hG];simp
 have g0:rd G h.length=rT (encI was):=by rw [hG,E9];rfl
 have g1:rd G (h.length+1)=rT (encI now):=by rw [hG,K9];rfl
 have gr:rd G r=rT (encI s):=by rw [hG];exact C5 hr
 have O1:OnlyR r h G:=by rw [hG];exact (OnlyR.refl r h).more _
 obtain ⟨s1,es1⟩:∃ s1,s1=if was.getD 1 0≠now.getD 1 0 then bump s 3 else s:=⟨_,rfl⟩
 obtain ⟨s2,es2⟩:∃ s2,s2=if now.getD 0 0=2/\was.getD 3 0≠now.getD 3 0 then bump s1 4 else s1:=⟨_,rfl⟩
 have er:A8x was now s=B72 (was.drop 4) (now.drop 4) s2:=by unfold A8x;rw [es2,es1]
 have B1:BndR s1 (B+1):=by
  rw [es1];split
  ·exact hB.bump (by omega)
  ·exact hB.mono (by omega)
 have B2:BndR s2 (B+2):=by
  rw [es2];split
  ·exact (B1.bump (by omega)).mono (by omega)
  ·exact B1.mono (by omega)
 have part3:∀ g,rd g r=rT (encI s2)->rd g h.length=rT (encI was)->rd g (h.length+1)=rT (encI now)->OnlyR r h g ->
   ∃ h',A0h 20 (pV r 0) (pV h.length 0) (pV (h.length+1) 0) g=A4 (.t [],h')/\rd h' r=rT (encI (A8x was now s))/\OnlyR r h h'/\BndR (A8x was now s) (B+9):=by
  intro g q1 q2 q3 q4;have z7:[o0,o0,o0,o0,o0,o0,o0]=encI (zI 7):=rfl;have hd1:(encI (was.drop 4)).length=7:=by rw [B7,E6O];omega
  have hd2:(encI (now.drop 4)).length=7:=by rw [B7,E6O];omega
  obtain ⟨K,hK⟩:∃ K,K=g++[rT (encI (was.drop 4)),rT (encI (now.drop 4))]:=⟨_,rfl⟩;obtain ⟨h',f1,f2,f3,f4⟩:=D8D (r:=r) (q:=20) (ra:=g.length) (rb:=g.length+1) (a:=was.drop 4) (b:=now.drop 4) (by rw [E6O];omega) (by rw [E6O];omega) 7 0 20 (B+2) s2 K (by omega) (by omega) B2 (by omega) (by rw [hK];exact C5 q1) (by rw [hK,E9];rfl) (by rw [hK,K9];rfl) (by have:=C8 q1;omega) (by have:=C8 q1;omega);rw [E6a,E6a,<-er] at f2 f4;refine ⟨h',?_,f2,q4.trans (OnlyR.trans (by rw [hK];exact (OnlyR.refl r g).more _) f3),f4.mono (by omega)⟩;have l1:D4 g 11 (pV h.length 0)=A4 (.a (encI was)):=C7 q2 (by rw [B7,hw]);have l2:D4 g 11 (pV (h.length+1) 0)=A4 (.a (encI now)):=C7 q3 (by rw [B7,hn]);have n1:=congrFun (C6N hw);have n2:=congrFun (C6N hn);have st1:E5 (g++[rT (encI (zI 7)),rT (encI (zI 7))]) 7 (pV g.length 0) (.a (encI (was.drop 4)))=A4 (g++[rT (encI (was.drop 4)),rT (encI (zI 7))]):=by
   rw [storeAll (by rw [E9];rfl) (by rfl) hd1,S3];rfl
  have st2:E5 (g++[rT (encI (was.drop 4)),rT (encI (zI 7))]) 7 (pV (g.length+1) 0) (.a (encI (now.drop 4)))=A4 K:=by
   rw [storeAll (cs:=encI (zI 7)) (by rw [K9];rfl) (by rfl) hd2,nF,hK];rfl
  have c00:((0:Nat):Int)=0:=rfl;rw [c00] at f1;rw [A6x,z7];generalize encI was=X at *;generalize encI now=Y at *;generalize encI (was.drop 4)=X' at *;generalize encI (now.drop 4)=Y' at *;generalize encI (zI 7)=Z at *;simp only [esc,l1,l2,n1,n2,st1,st2];exact f1
 have part2:∀ g,rd g r=rT (encI s1)->rd g h.length=rT (encI was)->rd g (h.length+1)=rT (encI now)->OnlyR r h g ->
   ∃ h',A0g 20 (pV r 0) (pV h.length 0) (pV (h.length+1) 0) g=A4 (.t [],h')/\rd h' r=rT (encI (A8x was now s))/\OnlyR r h h'/\BndR (A8x was now s) (B+9):=by
  intro g q1 q2 q3 q4;have l0:=cH q3 (k:=0) (by omega);have l3:=cH q3 (k:=3) (by omega);have k3:=cH q2 (k:=3) (by omega);have l4:=T0 q1 B1.1 (k:=4) (by omega);have s4:=bW q1 B1.1 (k:=4) (by omega);have h4:=B1.at (k:=4) (by omega);have w4:E5U .i64 (s1.getD 4 0+1)=s1.getD 4 0+1:=wrap_i64 (by omega) (by omega);by_cases c1:now.getD 0 0=2
  ·by_cases c2:was.getD 3 0=now.getD 3 0
   ·rw [if_neg (λh=>h.2 c2)] at es2;rw [es2] at part3;obtain ⟨h',f1,f2⟩:=part3 g q1 q2 q3 q4;refine ⟨h',?_,f2⟩;rw [fY];simp only [esc,l0,c1,k3,l3,c2];exact f1
   ·rw [if_pos ⟨c1,c2⟩] at es2;have E46:r≠h.length:=by omega
    have E47:r≠h.length+1:=by omega
    obtain ⟨h',f1,f2⟩:=part3 (g.set r (rT (encI s2))) (C6 (C8 q1)) (by rw [B6 E46];exact q2) (by rw [B6 E47];exact q3) (q4.set (.inl rfl));rw [es2] at f1;refine ⟨h',?_,f2⟩;rw [fY];simp only [esc,l0,c1,k3,l3,c2,l4,w4,s4];exact f1
  ·rw [if_neg (λh=>c1 h.1)] at es2;rw [es2] at part3;obtain ⟨h',f1,f2⟩:=part3 g q1 q2 q3 q4;refine ⟨h',?_,f2⟩;rw [fY];simp only [esc,l0,c1];exact f1
 have l1:=cH g0 (k:=1) (by omega);have l1':=cH g1 (k:=1) (by omega);have l3:=T0 gr hB.1 (k:=3) (by omega);have s3:=bW gr hB.1 (k:=3) (by omega);have h3:=hB.at (k:=3) (by omega);have w3:E5U .i64 (s.getD 3 0+1)=s.getD 3 0+1:=wrap_i64 (by omega) (by omega);have cl1:cells? (.a (encI was))=A4 (encI was):=rfl;have cl2:cells? (.a (encI now))=A4 (encI now):=rfl;by_cases c1:was.getD 1 0=now.getD 1 0
 ·rw [if_neg (λh=>h c1)] at es1;rw [es1] at part2;obtain ⟨h',f1,f2⟩:=part2 G gr g0 g1 O1;refine ⟨h',tM (n:=20) ?_,f2⟩;rw [sZ];simp only [esc,cl1,cl2,<-hG,l1,l1',c1];exact f1
 ·rw [if_pos c1] at es1;obtain ⟨h',f1,f2⟩:=part2 (G.set r (rT (encI s1))) (C6 (C8 gr)) (by rw [B6 (by omega)];exact g0) (by rw [B6 (by omega)];exact g1) (O1.set (.inl rfl));rw [es1] at f1;refine ⟨h',tM (n:=20) ?_,f2⟩;rw [sZ];simp only [esc,cl1,cl2,<-hG,l1,l1',c1,l3,w3,s3];exact f1
end
def C7h {g h:B5} {cs:List Cell} {c:Cl} (hc:IsCl g cs c) (hl:Low g.length g h):IsCl h cs c:=by
 obtain ⟨xr,xi,xt,xb,xm,e,h1,h2,h3,h4,h5⟩:=hc.form;exact ⟨xr,xi,xt,xb,xm,e,h1.since hl,h2.since hl,h3.since hl,h4.since hl,h5.since hl⟩
def OnlyR.low {g h h':B5} {r:Nat} (hl:Low g.length g h) (ho:OnlyR r h h') (hr:g.length<=r):Low g.length g h' :=
 ⟨hl.1,E6w hl.2.1 ho.1,λj hj=>(ho.2 j (by have:=hl.2.1;omega) (by omega)).trans (hl.2.2 j hj)⟩
section
variable {D:Dev} {n m:Int} {f:Cell} {g:B5} {q p0 pv pc r:Nat} {cs:List Cell} {c:Cl}
def D8F (hD:okD D) (hv:IsView g f D) (hn:n<=128) (rv:rd g pv=rT (vwC D.length n m f)) (rc:rd g pc=rT cs) (hc:IsCl g cs c) (hrow:c.row.length<=1000) (P6:∀ x∈c.ino,x.length=11) (hin:c.ino.length=(n+1).toNat) (hgr:g.length<=r) :
  ∀ (e:Nat) (i:Int) (M:Nat) (B:Int) (s:List Int) (h:B5),i+e=n+1->1<=i->e<M->BndR s B->B+9*e<=900000->rd h r=rT (encI s)->Low g.length g h ->
  ∃ h' M',A5q q M (pV p0 0) (pV pv 0) (pV pc 0) (pV r 0) (iV i) h=A5q q (M'+1) (pV p0 0) (pV pv 0) (pV pc 0) (pV r 0) (iV (n+1)) h' /\
   rd h' r=rT (encI (kT D n c e i s))/\Low g.length g h'/\BndR (kT D n c e i s) (B+9*e):=by
 intro e
 induction e with
 | zero =>
  intro i M B s h hi h1 hM hB hB2 hr hl;obtain ⟨M,rfl⟩:∃ M',M=M'+1:=⟨M-1,by omega⟩;have ei:i=n+1:=by omega
  subst ei;exact ⟨h,M,rfl,hr,hl,hB.mono (by omega)⟩
 | succ e ih =>
  intro i M B s h hi h1 hM hB hB2 hr hl;obtain ⟨M,rfl⟩:∃ M',M=M'+1:=⟨M-1,by omega⟩;have c0:i<=n:=by omega
  have w1:E5U .i64 (i+1)=i+1:=wrap_i64 (by omega) (by omega);have lv1:B8 h (pV pv 1)=A4 (iV n):=B9 (hl.rd rv) rfl rfl;have lv4:D4 h 4 (pV pv 0)=A4 (.a (vwC D.length n m f)):=C7 (hl.rd rv) rfl;have hI:=pN (n:=n) (m:=m) (i:=i) (h:=h) hD (hv.since hl);rw [<-B85] at hI;have hIl:(encI (A2X D n i)).length=11:=by rw [B7,sD]
  obtain ⟨G,hG⟩:∃ G,G=h++[rT (encI (A2X D n i))]:=⟨_,rfl⟩;have hlG:Low g.length g G:=by rw [hG];exact hl.new _
  have z11:[o0,o0,o0,o0,o0,o0,o0,o0,o0,o0,o0]=encI (zI 11):=rfl;have st:E5 (h++[rT (encI (zI 11))]) 11 (pV h.length 0) (.a (encI (A2X D n i)))=A4 G:=by
   rw [storeAll (by rw [E9];rfl) (by rfl) hIl,S3,hG];rfl
  have rG:rd G r=rT (encI s):=by rw [hG];exact C5 hr
  have lI:D4 G 11 (pV h.length 0)=A4 (.a (encI (A2X D n i))):=C7 (by rw [hG,E9];rfl) hIl;have hcG:=C7h hc hlG;have hcl:cs.length=6:=by obtain ⟨_,_,_,_,_,rfl,_⟩:=hc.form;rfl
  have lc6:D4 G 6 (pV pc 0)=A4 (.a cs):=C7 (hlG.rd rc) hcl;have hK:=C85 (a:=i) hcG hrow;have es:kT D n c (e+1) i s=kT D n c e (i+1) (A2B D n c s i):=rfl;rw [es];by_cases hk:i∈c.row
  ·rw [decide_eq_true hk] at hK;have e1:A2B D n c s i=A8x (A2X D n i) (c.ino.getD i.toNat []) s:=by unfold A2B;rw [if_pos hk]
   rw [e1];have hit:i.toNat<c.ino.length:=by rw [hin];omega
   obtain ⟨xr,xi,xt,xb,xm,ecs,_,hxi,_⟩:=hcG.form;obtain ⟨ii,oi,ei,_,_,hC⟩:=hxi.sl (by omega);cases ei;have lc1:B8 G (pV pc 1)=A4 (sV ii oi c.ino.length 11):=B9 (hlG.rd rc) (by rw [ecs];rfl) (by rfl);have ei:(i:Int)=((i.toNat:Nat):Int):=by omega
   have ad:D9 11 (sV ii oi c.ino.length 11) (iV i)=A4 (pV ii (oi+i.toNat*11)):=by
    conv=>lhs;rw [ei]
    exact C9 hit
   have eg:c.ino.getD i.toNat []=c.ino[i.toNat]:=by rw [E5Z,E5P hit];rfl
   have ln:D4 G 11 (pV ii (oi+i.toNat*11))=A4 (.a (encI (c.ino.getD i.toNat []))):=by
    rw [hC (i.toNat*11) 11 (by rw [R6 P6];omega),A6t P6 hit,eg]
   obtain ⟨h1',r1,r2,r3,r4⟩:=D7m (was:=A2X D n i) (now:=c.ino.getD i.toNat []) sD (by rw [eg];exact P6 _ (E6v hit)) rG hB (by omega);obtain ⟨h',M',f1,f2,f3,f4⟩:=ih (i+1) M (B+9) _ h1' (by omega) (by omega) (by omega) r4 (by omega) r2 (r3.low hlG hgr);refine ⟨h',M',?_,f2,f3,f4.mono (by omega)⟩;rw [oO,z11];generalize encI (A2X D n i)=X at *;generalize encI (c.ino.getD i.toNat [])=Y at *;generalize encI (zI 11)=Z at *;generalize vwC D.length n m f=V at *;simp only [esc,lv1,c0,lv4,hI,st,lc6,hK,lI,lc1,ad,ln,r1,xV,w1];exact f1
  ·rw [decide_eq_false hk] at hK;have e1:A2B D n c s i=B1S (kdV D n i) s:=by unfold A2B;rw [if_neg hk]
   rw [e1];have er:E5R 11 (Sh.i .i64)=[Sh.i .i64,.i .i64,.i .i64,.i .i64,.i .i64,.i .i64,.i .i64,.i .i64,.i .i64,.i .i64,.i .i64]:=rfl;have q1:=D8i (l:=A2X D n i) (m:=zI 11) (n:=11) sD (by rfl);rw [er] at q1;have ef:E6 (encI (zI 11)) []=A4 (encI (zI 11)):=rfl;have l2:=T0 rG hB.1 (k:=2) (by omega);have s2:=bW rG hB.1 (k:=2) (by omega);have b2:=hB.at (k:=2) (by omega);have w2:E5U .i64 (s.getD 2 0+1)=s.getD 2 0+1:=wrap_i64 (by omega) (by omega);by_cases hz:kdV D n i=0
   ·have e2:B1S (kdV D n i) s=s:=by unfold B1S;rw [if_neg (by simp [hz])]
    rw [e2];rw [decide_eq_true (D00.2 hz)] at q1;obtain ⟨h',M',f1,f2,f3,f4⟩:=ih (i+1) M B s G (by omega) (by omega) (by omega) hB (by omega) rG hlG;refine ⟨h',M',?_,f2,f3,f4.mono (by omega)⟩;rw [oO,z11];generalize encI (A2X D n i)=X at *;generalize encI (zI 11)=Z at *;generalize vwC D.length n m f=V at *;simp only [esc,E6V,lv1,c0,lv4,hI,st,lc6,hK,lI,ef,q1,xV,w1];exact f1
   ·have e2:B1S (kdV D n i) s=bump s 2:=by unfold B1S;rw [if_pos hz]
    rw [e2];rw [decide_eq_false (λh=>hz (D00.1 h))] at q1;obtain ⟨h',M',f1,f2,f3,f4⟩:=ih (i+1) M (B+1) _ (G.set r (rT (encI (bump s 2)))) (by omega) (by omega) (by omega) (hB.bump (by omega)) (by omega) (C6 (C8 rG)) (hlG.set hgr _);refine ⟨h',M',?_,f2,f3,f4.mono (by omega)⟩;rw [oO,z11];generalize encI (A2X D n i)=X at *;generalize encI (zI 11)=Z at *;generalize vwC D.length n m f=V at *;simp only [esc,E6Q,lv1,c0,lv4,hI,st,lc6,hK,lI,ef,q1,l2,w2,s2,xV,w1];exact f1
def D8G {T:List Bool} {xt:Cell} (hD:okD D) (hv:IsView g f D) (rv:rd g pv=rT (vwC D.length n m f)) (hT:Has g (.c xt) 1 T.length (J9 T)) (hTl:T.length<=100000) (hgr:g.length<=r) (hp0:p0<g.length) {z8:List Cell} (r0:rd g p0=rT z8) (hz8:z8.length=8) :
  ∀ (e i M:Nat) (B:Int) (s:List Int) (h:B5),i+e=T.length->e<M->BndR s B->B+e<=10000000->rd h r=rT (encI s)->Low g.length g h ->
  ∃ h',B4p q M (pV p0 0) (pV pv 0) (pV r 0) (.c xt) (iV (T.length:Nat)) (iV (i:Int)) h=A4 (.t [.a (encI (oV D n (T.drop i) i s)),.c o0],h')/\BndR (oV D n (T.drop i) i s) (B+e):=by
 intro e
 induction e with
 | zero =>
  intro i M B s h hi hM hB hB2 hr hl;obtain ⟨M,rfl⟩:∃ M',M=M'+1:=⟨M-1,by omega⟩;have c0:¬ (i:Int)<(T.length:Nat):=by omega
  have e1:oV D n (T.drop i) i s=s:=by rw [E56 (by omega)];rfl
  rw [e1];have l8:D4 h 8 (pV r 0)=A4 (.a (encI s)):=C7 hr (by rw [B7,hB.1]);have s8:E5 h 8 (pV p0 0) (.a (encI s))=A4 (h.set p0 (rT (encI s))):=storeAll (hl.rd r0) hz8 (by rw [B7,hB.1]);have k8:D4 (h.set p0 (rT (encI s))) 8 (pV p0 0)=A4 (.a (encI s)):=C7 (C6 (by have:=hl.2.1;omega)) (by rw [B7,hB.1]);refine ⟨h.set p0 (rT (encI s)),?_,hB.mono (by omega)⟩;rw [fX];simp only [esc,c0,l8,s8,k8]
 | succ e ih =>
  intro i M B s h hi hM hB hB2 hr hl;obtain ⟨M,rfl⟩:∃ M',M=M'+1:=⟨M-1,by omega⟩;have P6:i<T.length:=by omega
  have c0:(i:Int)<(T.length:Nat):=by omega
  have w1:=D3 (show i+1<9223372036854775808 by omega);obtain ⟨ii,oi,ei,_,hA,_⟩:=(hT.since hl).sl (by omega);cases ei;have a1:D9 1 (sV ii oi T.length 1) (iV (i:Int))=A4 (pV ii (oi+i)):=by rw [C9 P6];simp
  have a2:B8 h (pV ii (oi+i))=A4 (bV T[i]):=hA i _ (by simp [J9,P6]);have lv4:D4 h 4 (pV pv 0)=A4 (.a (vwC D.length n m f)):=C7 (hl.rd rv) rfl;have hU:=D2E (n:=n) (m:=m) (i:=(i:Int)) (h:=h) hD (hv.since hl);have ed:oV D n (T.drop i) i s=oV D n (T.drop (i+1)) (i+1) (qQ (B2z D n (i:Int)) T[i] s):=by rw [E5X P6];rfl
  have l7:=T0 hr hB.1 (k:=7) (by omega);have s7:=bW hr hB.1 (k:=7) (by omega);have b7:=hB.at (k:=7) (by omega);have w7:E5U .i64 (s.getD 7 0+1)=s.getD 7 0+1:=wrap_i64 (by omega) (by omega);have l6:=T0 hr hB.1 (k:=6) (by omega);have s6:=bW hr hB.1 (k:=6) (by omega);have b6:=hB.at (k:=6) (by omega);have w6:E5U .i64 (s.getD 6 0+1)=s.getD 6 0+1:=wrap_i64 (by omega) (by omega);rw [ed];generalize B2z D n (i:Int)=u at *;cases hb:T[i] with
  | true =>
   rw [hb] at a2;cases u with
   | true =>
    have e1:qQ A5 A5 s=s:=by simp [qQ]
    rw [e1];obtain ⟨h',f1,f2⟩:=ih (i+1) M B s h (by omega) (by omega) hB (by omega) hr hl;refine ⟨h',?_,f2.mono (by omega)⟩;rw [fX];generalize vwC D.length n m f=V at *;simp only [esc,c0,a1,a2,lv4,hU,oN,w1];exact f1
   | false =>
    have e1:qQ A6 A5 s=bump s 7:=by simp [qQ]
    rw [e1];obtain ⟨h',f1,f2⟩:=ih (i+1) M (B+1) _ (h.set r (rT (encI (bump s 7)))) (by omega) (by omega) (hB.bump (by omega)) (by omega) (C6 (C8 hr)) (hl.set hgr _);refine ⟨h',?_,f2.mono (by omega)⟩;rw [fX];generalize vwC D.length n m f=V at *;simp only [esc,E6Q,c0,a1,a2,lv4,hU,l7,w7,s7,oN,w1];exact f1
  | false =>
   rw [hb] at a2;cases u with
   | true =>
    have e1:qQ A5 A6 s=bump s 6:=by simp [qQ]
    rw [e1];obtain ⟨h',f1,f2⟩:=ih (i+1) M (B+1) _ (h.set r (rT (encI (bump s 6)))) (by omega) (by omega) (hB.bump (by omega)) (by omega) (C6 (C8 hr)) (hl.set hgr _);refine ⟨h',?_,f2.mono (by omega)⟩;rw [fX];generalize vwC D.length n m f=V at *;simp only [esc,E6Q,c0,a1,a2,lv4,hU,l6,w6,s6,oN,w1];exact f1
   | false =>
    have e1:qQ A6 A6 s=s:=by simp [qQ]
    rw [e1];obtain ⟨h',f1,f2⟩:=ih (i+1) M B s h (by omega) (by omega) hB (by omega) hr hl;refine ⟨h',?_,f2.mono (by omega)⟩;rw [fX];generalize vwC D.length n m f=V at *;simp only [esc,E6Q,c0,a1,a2,lv4,hU,oN,w1];exact f1
def B4q {v:Val} {h:B5} (hv:Has h v 256 D.length (D5 D)) (hD:okD D) (hn:A2U D=A5) (hl:D.length<=1000) :
  tL [v] h=A4 (.t [.a (encI (A48 D (A76 D))),.c o0],h)/\BndR (A48 D (A76 D)) 1000000:=by
 have hm:=C6J hn;obtain ⟨n,en⟩:∃ n,n=A76 D:=⟨_,rfl⟩;obtain ⟨P,hP⟩:∃ P,P=T9 (uV D n (J1 D n)) D 0:=⟨_,rfl⟩;rw [<-en] at hm ⊢;obtain ⟨b16,b512,n8,n128,_,_⟩:=J8.1 hm;obtain ⟨fR,fS,fil,fin,ftl⟩:=oE hD hm;have E30:(J1 D n).lost=(V1 D n).lost:=(dQ (L:=(V1 D n).row) (c:=V1 D n)).2.2.2.2.1;have D9a:(J1 D n).row=(V1 D n).row:=(dQ (L:=(V1 D n).row) (c:=V1 D n)).1;have hPl:P.length<=D.length:=by
  have h1:=(B8V (W:=uV D n (J1 D n)) (D:=D) (i:=0) (B20 hD hm).1).2;rw [(B20 hD hm).2] at h1;rw [hP];exact h1
 obtain ⟨s0,hs0⟩:∃ s0:List Int,s0=[((P.length:Nat):Int),(J1 D n).lost,0,0,0,0,0,0]:=⟨_,rfl⟩;have B0:BndR s0 30000:=by
  rw [hs0];refine ⟨rfl,λa ha=>?_⟩;have:=fS.lost0;have:=fS.lost;simp only [List.mem_cons,List.not_mem_nil,or_false] at ha;rcases ha with rfl | rfl | rfl | rfl | rfl | rfl | rfl | rfl<;>omega
 have z8:[o0,o0,o0,o0,o0,o0,o0,o0]=encI (zI 8):=rfl;obtain ⟨G,hG⟩:∃ G,G=ro h++[rT (encI (zI 8))]:=⟨_,rfl⟩;have hvG:Has G v 256 D.length (D5 D):=by rw [hG];exact hv.ro.more _
 have E2u:=A8q hvG hD hn (by omega);rw [<-en,<-hP] at E2u;obtain ⟨G2,hG2⟩:∃ G2,G2=G++[rT (A2Q P)]:=⟨_,rfl⟩;rw [<-hG2] at E2u;obtain ⟨f,t,hO,hV⟩:=C8j (h:=G2) (by rw [hG2];exact hvG.more _) hD hn (by omega);obtain ⟨H,hHe⟩:∃ H,H=G2++t:=⟨_,rfl⟩;rw [<-hHe] at hO hV;rw [<-en] at hO;generalize D3w D=m at *;have hS5:E5 (H++[rT [o0,o0,.i .u64 0,.nf]]) 4 (pV H.length 0) (.a (vwC D.length n m f))=A4 (H++[rT (vwC D.length n m f)]):=by rw [M6];rfl
 obtain ⟨K,hK⟩:∃ K,K=H++[rT (vwC D.length n m f)]:=⟨_,rfl⟩;rw [<-hK] at hS5;have k4:D4 K 4 (pV H.length 0)=A4 (.a (vwC D.length n m f)):=C7 (by rw [hK,E9];rfl) rfl;have rvK:rd K H.length=rT (vwC D.length n m f):=by rw [hK,E9];rfl
 have hVK:IsView K f D:=by rw [hK];exact hV.more _
 obtain ⟨cs,t2,hC,hI,_⟩:=C2c (m:=m) (h:=K) hD hVK hm;obtain ⟨L,hL⟩:∃ L,L=K++t2:=⟨_,rfl⟩;rw [<-hL] at hC hI;have hcl:cs.length=6:=by obtain ⟨_,_,_,_,_,rfl,_⟩:=hI.form;rfl
 obtain ⟨Q,hQ⟩:∃ Q,Q=L++[rT cs]:=⟨_,rfl⟩;have hS6:E5 (L++[rT [.ns,.ns,.ns,.ns,.ns,o0]]) 6 (pV L.length 0) (.a cs)=A4 Q:=by
  rw [storeAll (n:=6) (cs:=[.ns,.ns,.ns,.ns,.ns,o0]) (by rw [E9];rfl) rfl hcl,S3,hQ];rfl
 have rcQ:rd Q L.length=rT cs:=by rw [hQ,E9];rfl
 have rvQ:rd Q H.length=rT (vwC D.length n m f):=by rw [hQ,hL];exact C5 (C5 rvK)
 have hVQ:IsView Q f D:=by rw [hQ,hL];exact (hVK.more _).more _
 have hIQ:IsCl Q cs (J1 D n):=C7h hI (by rw [hQ];exact (Low.refl (E5V _)).new _);obtain ⟨xr,xi,xt,xb,xm,ecs,_,_,hxt,_⟩:=hIQ.form;have lc5:B8 Q (pV L.length 5)=A4 (iV (J1 D n).lost):=B9 rcQ (by rw [ecs];rfl) rfl;have ef:E6 (encI (zI 8)) [(0,1,iV (P.length:Nat)),(1,1,iV (J1 D n).lost)]=A4 (encI s0):=by rw [hs0];rfl
 have s8:E5 (Q++[rT (encI (zI 8))]) 8 (pV Q.length 0) (.a (encI s0))=A4 (Q++[rT (encI s0)]):=by
  rw [storeAll (by rw [E9];rfl) (by rfl) (by rw [B7,B0.1]),S3];rfl
 have p0Q:rd Q (ro h).length=rT (encI (zI 8)):=by
  rw [hQ,hL,hK,hHe,hG2,hG];refine C5 (C5 (C5 (C5 (C5 ?_))));rw [E9];rfl
 have low0:Low Q.length Q (Q++[rT (encI s0)]):=(Low.refl (E5V _)).new _;obtain ⟨h1,M1,f1,f2,f3,f4⟩:=D8F (q:=100000) (p0:=(ro h).length) hD hVQ n128 rvQ rcQ hIQ (by rw [D9a];have:=fS.row;omega) fil fin (E5V _) n.toNat 1 100000 30000 s0 (Q++[rT (encI s0)]) (by omega) (by omega) (by omega) B0 (by omega) (by rw [E9];rfl) low0;obtain ⟨h2,u1,u2⟩:=D8G (q:=100000) (p0:=(ro h).length) (r:=Q.length) (pv:=H.length) hD hVQ rvQ hxt (by rw [ftl];omega) (E5V _) (by have:=C8 p0Q;omega) p0Q (by rfl) (J1 D n).taken.length 0 100000 _ _ h1 (by omega) (by rw [ftl];omega) f4 (by rw [ftl];omega) f2 f3;rw [E6a] at u1 u2;have ec:oV D n (J1 D n).taken 0 (kT D n (J1 D n) n.toNat 1 s0)=A48 D n:=by unfold A48;rw [hs0,hP]
 rw [ec] at u1 u2;refine ⟨?_,u2.mono (by rw [ftl];omega)⟩;have key:A05 100000 [v] (ro h)=A4 (.t [.a (encI (A48 D n)),.c o0],h2):=by
  have lt2:B8 h1 (pV L.length 2)=A4 (.c xt):=B9 (f3.rd rcQ) (by rw [ecs];rfl) rfl;have ltl:=(hxt.since f3).len;have lv1:B8 h1 (pV H.length 1)=A4 (iV n):=B9 (f3.rd rvQ) rfl rfl;have cn:¬ n+1<=n:=by omega
  have c00:((0:Nat):Int)=0:=rfl;rw [c00] at u1;rw [A8Q,z8];generalize encI (zI 8)=Z at *;generalize vwC D.length n m f=V at *;generalize encI s0=S0 at *;simp only [esc,<-hG,E2u,hO,hS5,k4,hC,hS6,lc5,ef,s8,eq_self];refine f1.trans ?_;rw [oO];simp only [esc,lv1,cn,lt2,ltl];exact u1
 exact A3E key (by simp [Val.flat,Cell.flat])
def C7u {v:Val} {h:B5} (hv:Has h v 256 D.length (D5 D)) (hD:okD D) (hn:A2U D=A6) :
  tL [v] h=A4 (.t [.a (encI (zI 8)),.c (.i .i64 13)],h):=by
 have z8:[o0,o0,o0,o0,o0,o0,o0,o0]=encI (zI 8):=rfl;obtain ⟨G,hG⟩:∃ G,G=ro h++[rT (encI (zI 8))]:=⟨_,rfl⟩;have hvG:Has G v 256 D.length (D5 D):=by rw [hG];exact hv.ro.more _
 have hP:=C9v hvG hD hn;obtain ⟨G2,hG2⟩:∃ G2,G2=G++[rT []]:=⟨_,rfl⟩;rw [<-hG2] at hP;have n13:¬ (13:Int)=0:=by decide
 have ef:E6 (encI (zI 8)) []=A4 (encI (zI 8)):=rfl;have r0:rd G2 (ro h).length=rT (encI (zI 8)):=by rw [hG2,hG];refine C5 ?_;rw [E9];rfl
 have st:E5 G2 8 (pV (ro h).length 0) (.a (encI (zI 8)))=A4 (G2.set (ro h).length (rT (encI (zI 8)))):=storeAll r0 (by rfl) (by rfl);have ld:D4 (G2.set (ro h).length (rT (encI (zI 8)))) 8 (pV (ro h).length 0)=A4 (.a (encI (zI 8))):=C7 (C6 (C8 r0)) (by rfl);have key:A05 0 [v] (ro h)=A4 (.t [.a (encI (zI 8)),.c (.i .i64 13)],G2.set (ro h).length (rT (encI (zI 8)))):=by
  rw [A8Q,z8];generalize encI (zI 8)=Z at *;simp only [esc,<-hG,hP,n13,ef,st,ld]
 exact A3E key (by simp [Val.flat,Cell.flat])
end
section
variable {D:Dev} {n m:Int} {q m0 r ra rb p3 p4 p6:Nat} {x0 x7:Val} {c:Cl} {cs:List Cell}
def E3l {was now:List Int} (hw:was.length=11) (hn:now.length=11) (na:ra≠r) (nb:rb≠r) :
  ∀ (e k M:Nat) (B:Int) (s:List Int) (h:B5),k+e=6->e<M->BndR s B->B+e+1<=1000000->rd h r=rT (encI s)->rd h ra=rT (encI was)->rd h rb=rT (encI now) ->
  ∃ h',B4i q m0 M x0 (pV p3 0) (pV p4 0) (pV r 0) (pV p6 0) x7 (pV ra 0) (pV rb 0) (iV (k:Int)) h=jN q m0 x0 (pV p3 0) (pV p4 0) (pV r 0) (pV p6 0) x7 h' /\
   rd h' r=rT (encI (B72 (was.drop (4+k)) (now.drop (4+k)) s))/\OnlyR r h h'/\BndR (B72 (was.drop (4+k)) (now.drop (4+k)) s) (B+e+1):=by
 intro e
 induction e with
 | zero =>
  intro k M B s h hk hM hB hB2 hr h1 h2;obtain ⟨M,rfl⟩:∃ M',M=M'+1:=⟨M-1,by omega⟩;have ek:k=6:=by omega
  subst ek;have c0:¬ ((6:Nat):Int)<6:=by omega
  have ed:B72 (was.drop 10) (now.drop 10) s=if was.getD 10 0≠0/\now.getD 10 0=0 then bump s 5 else s:=by
   match was,now,hw,hn with
   | [_,_,_,_,_,_,_,_,_,_,a],[_,_,_,_,_,_,_,_,_,_,b],_,_=>rfl
  have la:B8 h (pV ra 10)=A4 (iV (was.getD 10 0)):=cH h1 (by omega);have lb:B8 h (pV rb 10)=A4 (iV (now.getD 10 0)):=cH h2 (by omega);have l5:=T0 hr hB.1 (k:=5) (by omega);have s5:=bW hr hB.1 (k:=5) (by omega);have h5:=hB.at (k:=5) (by omega);have w5:E5U .i64 (s.getD 5 0+1)=s.getD 5 0+1:=wrap_i64 (by omega) (by omega);have a5:I3 8 1 (pV r 0) (iV 5)=A4 (pV r 5):=rfl;have z6:4+6=10:=rfl;rw [z6,ed];by_cases ca:was.getD 10 0=0
  ·rw [if_neg (λh=>h.1 ca)];refine ⟨h,?_,hr,OnlyR.refl r h,hB.mono (by omega)⟩;rw [bS];simp only [esc,c0,la,ca]
  ·by_cases cb:now.getD 10 0=0
   ·rw [if_pos ⟨ca,cb⟩];refine ⟨h.set r (rT (encI (bump s 5))),?_,C6 (C8 hr),(OnlyR.refl r h).set (.inl rfl),(hB.bump (by omega)).mono (by omega)⟩;rw [bS];simp only [esc,c0,la,ca,lb,cb,a5,l5,w5,s5]
   ·rw [if_neg (λh=>cb h.2)];refine ⟨h,?_,hr,OnlyR.refl r h,hB.mono (by omega)⟩;rw [bS];simp only [esc,c0,la,ca,lb,cb]
 | succ e ih =>
  intro k M B s h hk hM hB hB2 hr h1 h2;obtain ⟨M,rfl⟩:∃ M',M=M'+1:=⟨M-1,by omega⟩;have c0:(k:Int)<6:=by omega
  have w1:=D3 (show k+1<9223372036854775808 by omega);have a1:∀ x,I3 6 1 (pV x 4) (iV (k:Int))=A4 (pV x (4+k)):=λx=>by rw [J5 (by omega),Nat.mul_one]
  have la:B8 h (pV ra (4+k))=A4 (iV (was.getD (4+k) 0)):=cH h1 (by omega);have lb:B8 h (pV rb (4+k))=A4 (iV (now.getD (4+k) 0)):=cH h2 (by omega);have hia:4+k<was.length:=by omega
  have hib:4+k<now.length:=by omega
  have ga:was.getD (4+k) 0=was[4+k]:=by rw [E5Z,E5P hia];rfl
  have gb:now.getD (4+k) 0=now[4+k]:=by rw [E5Z,E5P hib];rfl
  have ed:B72 (was.drop (4+k)) (now.drop (4+k)) s=B72 (was.drop (4+(k+1))) (now.drop (4+(k+1))) (if was.getD (4+k) 0≠0/\now.getD (4+k) 0=0 then bump s 5 else s):=by
   rw [E5X hia,E5X hib,ga,gb];rfl
  have l5:=T0 hr hB.1 (k:=5) (by omega);have s5:=bW hr hB.1 (k:=5) (by omega);have h5:=hB.at (k:=5) (by omega);have w5:E5U .i64 (s.getD 5 0+1)=s.getD 5 0+1:=wrap_i64 (by omega) (by omega);have a5:I3 8 1 (pV r 0) (iV 5)=A4 (pV r 5):=rfl;rw [ed];by_cases ca:was.getD (4+k) 0=0
  ·rw [if_neg (λh=>h.1 ca)];obtain ⟨h',f1,f2,f3,f4⟩:=ih (k+1) M B s h (by omega) (by omega) hB (by omega) hr h1 h2;refine ⟨h',?_,f2,f3,f4.mono (by omega)⟩;rw [bS];simp only [esc,c0,a1,la,ca,xN,w1];exact f1
  ·by_cases cb:now.getD (4+k) 0=0
   ·rw [if_pos ⟨ca,cb⟩];obtain ⟨h',f1,f2,f3,f4⟩:=ih (k+1) M (B+1) (bump s 5) _ (by omega) (by omega) (hB.bump (by omega)) (by omega) (C6 (C8 hr)) (by rw [B6 (Ne.symm na)];exact h1) (by rw [B6 (Ne.symm nb)];exact h2);refine ⟨h',?_,f2,(((OnlyR.refl r h).set (.inl rfl)).trans f3),f4.mono (by omega)⟩;rw [bS];simp only [esc,c0,a1,la,ca,lb,cb,a5,l5,w5,s5,xN,w1];exact f1
   ·rw [if_neg (λh=>cb h.2)];obtain ⟨h',f1,f2,f3,f4⟩:=ih (k+1) M B s h (by omega) (by omega) hB (by omega) hr h1 h2;refine ⟨h',?_,f2,f3,f4.mono (by omega)⟩;rw [bS];simp only [esc,c0,a1,la,ca,lb,cb,xN,w1];exact f1
def E1j {was now:List Int} {s:List Int} {B:Int} {h:B5} (hw:was.length=11) (hn:now.length=11) (na:ra≠r) (nb:rb≠r) (hq:8<=q) (hB:BndR s B) (hB2:B<=900000) (hr:rd h r=rT (encI s)) (h1:rd h ra=rT (encI was)) (h2:rd h rb=rT (encI now)) :
  ∃ h',bnd (B8 h (pV ra 1)) (λv38=>bnd (B8 h (pV rb 1)) λv40=>bnd (N4 .neq v38 v40) λv41=>cnd v41 (bnd (I3 8 1 (pV r 0) (iV 3)) λv42=>bnd (B8 h v42) λv43=>bnd (N4 .add v43 (iV 1)) λv44=>bnd (I3 8 1 (pV r 0) (iV 3)) λv45=>bnd (I5 h v45 v44) λh46 =>
     yY q m0 x0 (pV p3 0) (pV p4 0) (pV r 0) (pV p6 0) x7 (pV ra 0) (pV rb 0) h46) (yY q m0 x0 (pV p3 0) (pV p4 0) (pV r 0) (pV p6 0) x7 (pV ra 0) (pV rb 0) h)) =
    jN q m0 x0 (pV p3 0) (pV p4 0) (pV r 0) (pV p6 0) x7 h' /\
   rd h' r=rT (encI (A8x was now s))/\OnlyR r h h'/\BndR (A8x was now s) (B+9):=by
 obtain ⟨s1,es1⟩:∃ s1,s1=if was.getD 1 0≠now.getD 1 0 then bump s 3 else s:=⟨_,rfl⟩
 obtain ⟨s2,es2⟩:∃ s2,s2=if now.getD 0 0=2/\was.getD 3 0≠now.getD 3 0 then bump s1 4 else s1:=⟨_,rfl⟩
 have er:A8x was now s=B72 (was.drop 4) (now.drop 4) s2:=by unfold A8x;rw [es2,es1]
 have B1:BndR s1 (B+1):=by
  rw [es1];split
  ·exact hB.bump (by omega)
  ·exact hB.mono (by omega)
 have B2:BndR s2 (B+2):=by
  rw [es2];split
  ·exact (B1.bump (by omega)).mono (by omega)
  ·exact B1.mono (by omega)
 have part3:∀ g,rd g r=rT (encI s2)->rd g ra=rT (encI was)->rd g rb=rT (encI now)->OnlyR r h g ->
   ∃ h',B4g q m0 x0 (pV p3 0) (pV p4 0) (pV r 0) (pV p6 0) x7 (pV ra 0) (pV rb 0) g=jN q m0 x0 (pV p3 0) (pV p4 0) (pV r 0) (pV p6 0) x7 h' /\
   rd h' r=rT (encI (A8x was now s))/\OnlyR r h h'/\BndR (A8x was now s) (B+9):=by
  intro g q1 q2 q3 q4;obtain ⟨h',f1,f2,f3,f4⟩:=E3l (q:=q) (m0:=m0) (x0:=x0) (p3:=p3) (p4:=p4) (p6:=p6) (x7:=x7) hw hn na nb 6 0 q (B+2) s2 g (by omega) (by omega) B2 (by omega) q1 q2 q3;rw [E6E,<-er] at f2 f4;refine ⟨h',?_,f2,q4.trans f3,f4.mono (by omega)⟩;rw [C0R];exact f1
 have part2:∀ g,rd g r=rT (encI s1)->rd g ra=rT (encI was)->rd g rb=rT (encI now)->OnlyR r h g ->
   ∃ h',yY q m0 x0 (pV p3 0) (pV p4 0) (pV r 0) (pV p6 0) x7 (pV ra 0) (pV rb 0) g=jN q m0 x0 (pV p3 0) (pV p4 0) (pV r 0) (pV p6 0) x7 h' /\
   rd h' r=rT (encI (A8x was now s))/\OnlyR r h h'/\BndR (A8x was now s) (B+9):=by
  intro g q1 q2 q3 q4;have l0:B8 g (pV rb 0)=A4 (iV (now.getD 0 0)):=cH q3 (by omega);have la:B8 g (pV ra 3)=A4 (iV (was.getD 3 0)):=cH q2 (by omega);have lb:B8 g (pV rb 3)=A4 (iV (now.getD 3 0)):=cH q3 (by omega);have l4:=T0 q1 B1.1 (k:=4) (by omega);have s4:=bW q1 B1.1 (k:=4) (by omega);have h4:=B1.at (k:=4) (by omega);have w4:E5U .i64 (s1.getD 4 0+1)=s1.getD 4 0+1:=wrap_i64 (by omega) (by omega);have a4:I3 8 1 (pV r 0) (iV 4)=A4 (pV r 4):=rfl;by_cases c1:now.getD 0 0=2
  ·by_cases c2:was.getD 3 0=now.getD 3 0
   ·have e2:s2=s1:=by rw [es2,if_neg (λh=>h.2 c2)]
    obtain ⟨h',f1,f2⟩:=part3 g (by rw [e2];exact q1) q2 q3 q4;refine ⟨h',?_,f2⟩;rw [xM];simp only [esc,l0,c1,la,lb,c2];exact f1
   ·have e2:s2=bump s1 4:=by rw [es2,if_pos ⟨c1,c2⟩]
    obtain ⟨h',f1,f2⟩:=part3 (g.set r (rT (encI s2))) (C6 (C8 q1)) (by rw [B6 (Ne.symm na)];exact q2) (by rw [B6 (Ne.symm nb)];exact q3) (q4.set (.inl rfl));refine ⟨h',?_,f2⟩;rw [<-e2] at s4;rw [xM];simp only [esc,l0,c1,la,lb,c2,a4,l4,w4,s4];exact f1
  ·have e2:s2=s1:=by rw [es2,if_neg (λh=>c1 h.1)]
   obtain ⟨h',f1,f2⟩:=part3 g (by rw [e2];exact q1) q2 q3 q4;refine ⟨h',?_,f2⟩;rw [xM];simp only [esc,l0,c1];exact f1
 have la:B8 h (pV ra 1)=A4 (iV (was.getD 1 0)):=cH h1 (by omega);have lb:B8 h (pV rb 1)=A4 (iV (now.getD 1 0)):=cH h2 (by omega);have l3:=T0 hr hB.1 (k:=3) (by omega);have s3:=bW hr hB.1 (k:=3) (by omega);have h3:=hB.at (k:=3) (by omega);have w3:E5U .i64 (s.getD 3 0+1)=s.getD 3 0+1:=wrap_i64 (by omega) (by omega);have a3:I3 8 1 (pV r 0) (iV 3)=A4 (pV r 3):=rfl;by_cases c1:was.getD 1 0=now.getD 1 0
 ·have e1:s1=s:=by rw [es1,if_neg (λh=>h c1)]
  obtain ⟨h',f1,f2⟩:=part2 h (by rw [e1];exact hr) h1 h2 (OnlyR.refl r h);refine ⟨h',?_,f2⟩;simp only [esc,la,lb,c1];exact f1
 ·have e1:s1=bump s 3:=by rw [es1,if_pos c1]
  obtain ⟨h',f1,f2⟩:=part2 (h.set r (rT (encI s1))) (C6 (C8 hr)) (by rw [B6 (Ne.symm na)];exact h1) (by rw [B6 (Ne.symm nb)];exact h2) ((OnlyR.refl r h).set (.inl rfl));refine ⟨h',?_,f2⟩;rw [<-e1] at s3;simp only [esc,la,lb,c1,a3,l3,w3,s3];exact f1
end
def E0l {h:B5} {a b:List Cell}:((h++[A7,A7]).set (h.length+0) (rT a)).set (h.length+1) (rT b)=h++[rT a,rT b]:=by
 rw [E6E,S3,nF];rfl
section
variable {D:Dev} {n m:Int} {P:Nat->Prop} {q r p4:Nat} {x0:Val} {c:Cl} {cs:List Cell} {Q:B5}
structure CtI (D:Dev) (n m:Int) (c:Cl) (cs:List Cell) (Q:B5) (p3 p6 r:Nat) (s:List Int) (h:B5):Prop where
 on:OnlyR r Q h
 rr:rd h r=rT (encI s)
 r3:rd h p3=rT (D7 D.length n m)
 r6:rd h p6=rT cs
def OnlyR.has {Q h:B5} {x:Cell} {sz w:Nat} {l:List Cell} (ho:OnlyR r Q h) (hx:nmC x≠A4 r) (hv:Has Q (.c x) sz w l):Has h (.c x) sz w l:=by
 rcases hv with hv | ⟨id,off,rr,e,hr,h2⟩
 ·exact .inl hv
 ·cases e;refine .inr ⟨id,off,rr,rfl,?_,h2⟩;rw [ho.2 id (C8 hr) (λe=>hx (by rw [e];rfl))];exact hr
def E3j {p3 p6:Nat} (hv:Has Q x0 256 D.length (D5 D)) (h0:D4I x0 r) (hD:okD D) (hn:n<=128) (K:IsRC n P Q cs c) (hP:∀ id,P id->id≠r) (hrow:c.row.length<=1000) (P6:∀ x∈c.ino,x.length=11) (hin:c.ino.length=(n+1).toNat) (hrQ:r<Q.length) (h3:p3≠r) (h6:p6≠r) (hq:8<=q) :
  ∀ (e:Nat) (i:Int) (M:Nat) (B:Int) (s:List Int) (h:B5),i+e=n+1->1<=i->e<M->BndR s B->B+9*e<=900000->CtI D n m c cs Q p3 p6 r s h ->
  ∃ h' M',yZ q M x0 (pV p3 0) (pV p4 0) (pV r 0) (pV p6 0) (iV i) h=yZ q (M'+1) x0 (pV p3 0) (pV p4 0) (pV r 0) (pV p6 0) (iV (n+1)) h' /\
   CtI D n m c cs Q p3 p6 r (kT D n c e i s) h'/\BndR (kT D n c e i s) (B+9*e):=by
 intro e
 induction e with
 | zero =>
  intro i M B s h hi h1 hM hB hB2 k;obtain ⟨M,rfl⟩:∃ M',M=M'+1:=⟨M-1,by omega⟩;have ei:i=n+1:=by omega
  subst ei;exact ⟨h,M,rfl,k,hB.mono (by omega)⟩
 | succ e ih =>
  intro i M B s h hi h1 hM hB hB2 k;obtain ⟨M,rfl⟩:∃ M',M=M'+1:=⟨M-1,by omega⟩;have c0:i<=n:=by omega
  have w1:E5U .i64 (i+1)=i+1:=wrap_i64 (by omega) (by omega);have hrl:=C8 k.rr;have l1:B8 h (pV p3 1)=A4 (iV n):=B9 k.r3 rfl rfl;have l3:D4 h 3 (pV p3 0)=A4 (.a (D7 D.length n m)):=C7 k.r3 rfl;have hvh:Has h x0 256 D.length (D5 D):=A6p hv h0 λj rr T1 hr=>by rw [k.on.2 j (C8 hr) T1];exact hr
  have hI:=nE (n:=n) (m:=m) (i:=i) (h:=h++[A7,A7]) (hvh.more _) hD;rw [<-B85] at hI;have qI:=B6q (h:=h++[A7,A7]) (v:=.a (encI (A2X D n i)));obtain ⟨yr,yi,yt,yb,ym,yl,yy,ys,ec,kk⟩:=id K;have hyi:=k.on.has (λe=>hP r (kk.pi r e) rfl) kk.ino;have hyr:=k.on.has (λe=>hP r (kk.pr r e) rfl) kk.row;have l61:B8 h (pV p6 1)=A4 (.c yi):=B9 k.r6 (by rw [ec];rfl) rfl;have hit:i.toNat<c.ino.length:=by rw [hin];omega
  obtain ⟨ii,oi,ei,E4Z,_,hC⟩:=hyi.sl (by omega);cases ei;have ei:(i:Int)=((i.toNat:Nat):Int):=by omega
  have ad:D9 11 (sV ii oi c.ino.length 11) (iV i)=A4 (pV ii (oi+i.toNat*11)):=by
   conv=>lhs;rw [ei]
   exact C9 hit
  have eg:c.ino.getD i.toNat []=c.ino[i.toNat]:=by rw [E5Z,E5P hit];rfl
  obtain ⟨now,en⟩:∃ now,now=c.ino.getD i.toNat []:=⟨_,rfl⟩;have nl:now.length=11:=by rw [en,eg];exact P6 _ (E6v hit)
  have ln:D4 h 11 (pV ii (oi+i.toNat*11))=A4 (.a (encI now)):=by
   rw [hC (i.toNat*11) 11 (by rw [R6 P6];omega),A6t P6 hit,en,eg]
  obtain ⟨was,ew⟩:∃ was,was=A2X D n i:=⟨_,rfl⟩;have wl:was.length=11:=by rw [ew];exact sD
  rw [<-ew] at hI qI;have z11:[o0,o0,o0,o0,o0,o0,o0,o0,o0,o0,o0]=encI (zI 11):=rfl;obtain ⟨G1,hG1⟩:∃ G1,G1=h++[rT (encI was),rT (encI (zI 11))]:=⟨_,rfl⟩;obtain ⟨G,hG⟩:∃ G,G=h++[rT (encI was),rT (encI now)]:=⟨_,rfl⟩;have st1:E5 (h++[rT (encI (zI 11)),rT (encI (zI 11))]) 11 (pV (h.length+0) 0) (.a (encI was))=A4 G1:=by
   rw [E6E,storeAll (cs:=encI (zI 11)) (by rw [E9];rfl) (by rfl) (by rw [B7,wl]),S3,hG1];rfl
  have st2:E5 G1 11 (pV (h.length+1) 0) (.a (encI now))=A4 G:=by
   rw [storeAll (cs:=encI (zI 11)) (by rw [hG1,K9];rfl) (by rfl) (by rw [B7,nl]),hG1,nF,hG];rfl
  have l61':B8 G1 (pV p6 1)=A4 (sV ii oi c.ino.length 11):=B9 (by rw [hG1];exact C5 k.r6) (by rw [ec];rfl) rfl;have ln':D4 G1 11 (pV ii (oi+i.toNat*11))=A4 (.a (encI now)):=by
   obtain ⟨ii',oi',ei',_,_,hC'⟩:=(hyi.more [rT (encI was),rT (encI (zI 11))]).sl (by omega);cases ei';rw [hG1,hC' (i.toNat*11) 11 (by rw [R6 P6];omega),A6t P6 hit,en,eg]
  have OG:OnlyR r h G:=by rw [hG];exact (OnlyR.refl r h).more _
  have kG:CtI D n m c cs Q p3 p6 r s G:=⟨k.on.trans OG,by rw [hG];exact C5 k.rr,by rw [hG];exact C5 k.r3,by rw [hG];exact C5 k.r6⟩;have l60:B8 G (pV p6 0)=A4 (.c yr):=B9 kG.r6 (by rw [ec];rfl) rfl;have hIn:=B2q (x:=i) (h:=G) (by rw [hG];exact hyr.more _) (by omega);have g0:rd G h.length=rT (encI was):=by rw [hG,E9];rfl
  have g1:rd G (h.length+1)=rT (encI now):=by rw [hG,K9];rfl
  have es:kT D n c (e+1) i s=kT D n c e (i+1) (A2B D n c s i):=rfl;rw [es];have go:∀ (s2:List Int) (h2:B5),BndR s2 (B+9)->rd h2 r=rT (encI s2)->OnlyR r G h2->∃ h' M',jN q M x0 (pV p3 0) (pV p4 0) (pV r 0) (pV p6 0) (iV i) h2=yZ q (M'+1) x0 (pV p3 0) (pV p4 0) (pV r 0) (pV p6 0) (iV (n+1)) h' /\
    CtI D n m c cs Q p3 p6 r (kT D n c e (i+1) s2) h'/\BndR (kT D n c e (i+1) s2) (B+9*((e+1:Nat):Int)):=by
   intro s2 h2 b2 r2 o2;obtain ⟨h',M',f1,f2,f3⟩:=ih (i+1) M (B+9) s2 h2 (by omega) (by omega) (by omega) b2 (by omega) ⟨kG.on.trans o2,r2,by rw [o2.2 _ (C8 kG.r3) h3];exact kG.r3,by rw [o2.2 _ (C8 kG.r6) h6];exact kG.r6⟩;refine ⟨h',M',?_,f2,f3.mono (by omega)⟩;rw [C0Q];simp only [esc,w1];exact f1
  have tr:=E0l (h:=h) (a:=encI (zI 11)) (b:=encI (zI 11));by_cases hk:i∈c.row
  ·rw [decide_eq_true hk] at hIn;have e1:A2B D n c s i=A8x was now s:=by unfold A2B;rw [if_pos hk,ew,en]
   rw [e1];obtain ⟨h2,r1,r2,r3,r4⟩:=E1j (q:=q) (m0:=M) (p3:=p3) (p4:=p4) (p6:=p6) (x0:=x0) (x7:=iV i) (ra:=h.length) (rb:=h.length+1) (r:=r) (h:=G) wl nl (by omega) (by omega) hq hB (by omega) kG.rr g0 g1;obtain ⟨h',M',f1,f2⟩:=go _ h2 r4 r2 r3;refine ⟨h',M',?_,f2⟩;rw [oK,z11];generalize encI was=X at *;generalize encI now=Y at *;generalize encI (zI 11)=Z at *;generalize D7 D.length n m=L at *;simp only [M9,B1a,E6e,E6E,l1,B7P,c0,decide_true,C2i,l3,hI,qI,l61,ad,ln];rw [E6E] at tr st1;simp only [tr,st1,M9,l61',B7R,ln',st2,l60,hIn,D57,E6V,B73];exact r1.trans f1
  ·rw [decide_eq_false hk] at hIn;have e1:A2B D n c s i=B1S (kdV D n i) s:=by unfold A2B;rw [if_neg hk]
   rw [e1];have lk:B8 G (pV h.length 0)=A4 (iV (kdV D n i)):=by
    have:=cH g0 (k:=0) (by omega);rw [ew] at this;exact this
   have l2:=T0 kG.rr hB.1 (k:=2) (by omega);have s2:=bW kG.rr hB.1 (k:=2) (by omega);have b2:=hB.at (k:=2) (by omega);have w2:E5U .i64 (s.getD 2 0+1)=s.getD 2 0+1:=wrap_i64 (by omega) (by omega);have a2:I3 8 1 (pV r 0) (iV 2)=A4 (pV r 2):=rfl;by_cases hz:kdV D n i=0
   ·have e2:B1S (kdV D n i) s=s:=by unfold B1S;rw [if_neg (by simp [hz])]
    rw [e2];obtain ⟨h',M',f1,f2⟩:=go s G (hB.mono (by omega)) kG.rr (OnlyR.refl r G);refine ⟨h',M',?_,f2⟩;rw [oK,z11];generalize encI was=X at *;generalize encI now=Y at *;generalize encI (zI 11)=Z at *;generalize D7 D.length n m=L at *;simp only [M9,B1a,E6e,E6E,l1,B7P,c0,decide_true,C2i,l3,hI,qI,l61,ad,ln];rw [E6E] at tr st1;simp only [esc,st1,l61',B7R,ln',st2,l60,hIn,E6Q,lk,hz,A6o];exact f1
   ·have e2:B1S (kdV D n i) s=bump s 2:=by unfold B1S;rw [if_pos hz]
    rw [e2];obtain ⟨h',M',f1,f2⟩:=go (bump s 2) (G.set r (rT (encI (bump s 2)))) ((hB.bump (by omega)).mono (by omega)) (C6 (C8 kG.rr)) ((OnlyR.refl r G).set (.inl rfl));refine ⟨h',M',?_,f2⟩;rw [oK,z11];generalize encI was=X at *;generalize encI now=Y at *;generalize encI (zI 11)=Z at *;generalize D7 D.length n m=L at *;simp only [M9,B1a,E6e,E6E,l1,B7P,c0,decide_true,C2i,l3,hI,qI,l61,ad,ln];rw [E6E] at tr st1;simp only [esc,st1,l61',B7R,ln',st2,l60,hIn,E6Q,lk,hz,a2,l2,w2,s2,A6o];exact f1
def E3k {p3 p6:Nat} (hv:Has Q x0 256 D.length (D5 D)) (h0:D4I x0 r) (hD:okD D) (hm:R7 D.length n=A5) (K:IsRC n P Q cs c) (hP:∀ id,P id->id≠r) (ht:c.taken.length=D.length) (h3:p3≠r) (h6:p6≠r) (h4:p4≠r) {z8:List Cell} (r4:rd Q p4=rT z8) (hz8:z8.length=8) :
  ∀ (e i M:Nat) (B:Int) (s:List Int) (h:B5),i+e=D.length->e<M->BndR s B->B+e<=10000000->CtI D n m c cs Q p3 p6 r s h ->
  ∃ h',B4h q M x0 (pV p3 0) (pV p4 0) (pV r 0) (pV p6 0) (iV (i:Int)) h=A4 (.a (encI (oV D n (c.taken.drop i) i s)),h'):=by
 intro e
 induction e with
 | zero =>
  intro i M B s h hi hM hB hB2 k;obtain ⟨M,rfl⟩:∃ M',M=M'+1:=⟨M-1,by omega⟩;have ei:i=D.length:=by omega
  subst ei;have l0:B8 h (pV p3 0)=A4 (iV (D.length:Nat)):=B9 k.r3 rfl rfl;have c0:¬ ((D.length:Nat):Int)<(D.length:Nat):=by omega
  have e1:oV D n (c.taken.drop D.length) D.length s=s:=by rw [E56 (by omega)];rfl
  rw [e1];have l8:D4 h 8 (pV r 0)=A4 (.a (encI s)):=C7 k.rr (by rw [B7,hB.1]);have rh4:rd h p4=rT z8:=by rw [k.on.2 _ (C8 r4) h4];exact r4
  have s8:E5 h 8 (pV p4 0) (.a (encI s))=A4 (h.set p4 (rT (encI s))):=storeAll rh4 hz8 (by rw [B7,hB.1]);have k8:D4 (h.set p4 (rT (encI s))) 8 (pV p4 0)=A4 (.a (encI s)):=C7 (C6 (C8 rh4)) (by rw [B7,hB.1]);refine ⟨h.set p4 (rT (encI s)),?_⟩;rw [fU];simp only [esc,l0,c0,l8,s8,k8]
 | succ e ih =>
  intro i M B s h hi hM hB hB2 k;obtain ⟨M,rfl⟩:∃ M',M=M'+1:=⟨M-1,by omega⟩;have P6:i<c.taken.length:=by omega
  have l0:B8 h (pV p3 0)=A4 (iV (D.length:Nat)):=B9 k.r3 rfl rfl;have c0:(i:Int)<(D.length:Nat):=by omega
  have w1:=D3 (show i+1<9223372036854775808 by
   have:=(J8.1 hm).2.1;omega)
  have hvh:Has h x0 256 D.length (D5 D):=A6p hv h0 λj rr T1 hr=>by rw [k.on.2 j (C8 hr) T1];exact hr
  have hU:=C9F (n:=n) (i:=(i:Int)) hvh hD hm;obtain ⟨yr,yi,yt,yb,ym,yl,yy,ys,ec,kk⟩:=id K;have hyt:=k.on.has (λe=>hP r (kk.pt r e) rfl) kk.tak;have l62:B8 h (pV p6 2)=A4 (.c yt):=B9 k.r6 (by rw [ec];rfl) rfl;obtain ⟨it,ot,et,_,hA,_⟩:=hyt.sl (by omega);cases et;have ad:D9 1 (sV it ot c.taken.length 1) (iV (i:Int))=A4 (pV it (ot+i)):=by rw [C9 P6];simp
  have lt:B8 h (pV it (ot+i))=A4 (bV c.taken[i]):=hA i _ (by simp [J9,P6]);have ed:oV D n (c.taken.drop i) i s=oV D n (c.taken.drop (i+1)) (i+1) (qQ (B2z D n (i:Int)) c.taken[i] s):=by rw [E5X P6];rfl
  have l7:=T0 k.rr hB.1 (k:=7) (by omega);have s7:=bW k.rr hB.1 (k:=7) (by omega);have h7:=hB.at (k:=7) (by omega);have w7:E5U .i64 (s.getD 7 0+1)=s.getD 7 0+1:=wrap_i64 (by omega) (by omega);have l6:=T0 k.rr hB.1 (k:=6) (by omega);have s6:=bW k.rr hB.1 (k:=6) (by omega);have h6':=hB.at (k:=6) (by omega);have w6:E5U .i64 (s.getD 6 0+1)=s.getD 6 0+1:=wrap_i64 (by omega) (by omega);have a6:I3 8 1 (pV r 0) (iV 6)=A4 (pV r 6):=rfl;have a7:I3 8 1 (pV r 0) (iV 7)=A4 (pV r 7):=rfl;have kset:∀ s2,CtI D n m c cs Q p3 p6 r s2 (h.set r (rT (encI s2))):=λs2=>⟨k.on.trans ((OnlyR.refl r h).set (.inl rfl)),C6 (C8 k.rr),by rw [B6 (Ne.symm h3)];exact k.r3,by rw [B6 (Ne.symm h6)];exact k.r6⟩
  rw [ed];cases hu:B2z D n (i:Int) with
  | true =>
   rw [hu] at hU;cases hb:c.taken[i] with
   | true =>
    rw [hb] at lt;have e1:qQ A5 A5 s=s:=rfl;rw [e1];obtain ⟨h',f1⟩:=ih (i+1) M (B+1) s h (by omega) (by omega) (hB.mono (by omega)) (by omega) k;refine ⟨h',?_⟩;rw [fU];simp only [esc,l0,c0,hU,l62,ad,lt,oI,oJ,w1];exact f1
   | false =>
    rw [hb] at lt;have e1:qQ A5 A6 s=bump s 6:=rfl;rw [e1];obtain ⟨h',f1⟩:=ih (i+1) M (B+1) _ _ (by omega) (by omega) (hB.bump (by omega)) (by omega) (kset (bump s 6));refine ⟨h',?_⟩;rw [fU];simp only [esc,l0,c0,hU,l62,ad,lt,a6,l6,w6,s6,oI,oJ,w1];exact f1
  | false =>
   rw [hu] at hU;cases hb:c.taken[i] with
   | true =>
    rw [hb] at lt;have e1:qQ A6 A5 s=bump s 7:=rfl;rw [e1];obtain ⟨h',f1⟩:=ih (i+1) M (B+1) _ _ (by omega) (by omega) (hB.bump (by omega)) (by omega) (kset (bump s 7));refine ⟨h',?_⟩;rw [fU];simp only [esc,l0,c0,hU,l62,ad,lt,a7,l7,w7,s7,oI,oJ,w1];exact f1
   | false =>
    rw [hb] at lt;have e1:qQ A6 A6 s=s:=rfl;rw [e1];obtain ⟨h',f1⟩:=ih (i+1) M (B+1) s h (by omega) (by omega) (hB.mono (by omega)) (by omega) k;refine ⟨h',?_⟩;rw [fU];simp only [esc,l0,c0,hU,l62,ad,lt,oI,oJ,w1];exact f1
end
def D7N {D:Dev} {n m:Int} {v:Val} {h:B5} (hv:Has h v 256 D.length (D5 D)) (hD:okD D) (hm:R7 D.length n=A5) :
  A7O [v,.a (D7 D.length n m)] h=A4 (.a (encI (A48 D n)),h):=by
 obtain ⟨b16,b512,n8,n128,_⟩:=J8.1 hm;obtain ⟨fR,fS,fil,fin,ftl⟩:=oE hD hm;have E30:(J1 D n).lost=(V1 D n).lost:=(dQ (L:=(V1 D n).row) (c:=V1 D n)).2.2.2.2.1;have D9a:(J1 D n).row=(V1 D n).row:=(dQ (L:=(V1 D n).row) (c:=V1 D n)).1;obtain ⟨L,hL⟩:∃ L,L=T9 (uV D n (J1 D n)) D 0:=⟨_,rfl⟩;have hPl:L.length<=D.length:=by
  have h1:=(B8V (W:=uV D n (J1 D n)) (D:=D) (i:=0) (B20 hD hm).1).2;rw [(B20 hD hm).2] at h1;rw [hL];exact h1
 obtain ⟨s0,hs0⟩:∃ s0:List Int,s0=[((L.length:Nat):Int),(J1 D n).lost,0,0,0,0,0,0]:=⟨_,rfl⟩;have B0:BndR s0 30000:=by
  rw [hs0];refine ⟨rfl,λa ha=>?_⟩;have:=fS.lost0;have:=fS.lost;simp only [List.mem_cons,List.not_mem_nil,or_false] at ha;rcases ha with rfl | rfl | rfl | rfl | rfl | rfl | rfl | rfl<;>omega
 have z8:[o0,o0,o0,o0,o0,o0,o0,o0]=encI (zI 8):=rfl;obtain ⟨g,hg⟩:∃ g,g=ro h:=⟨_,rfl⟩;have hvg:Has g v 256 D.length (D5 D):=by rw [hg];exact hv.ro
 obtain ⟨G,hG⟩:∃ G,G=g++[rT (D7 D.length n m),rT (encI (zI 8)),rT (encI (zI 8))]:=⟨_,rfl⟩;have lG:G.length=g.length+3:=by rw [hG];simp
 have l3:D4 G 3 (pV g.length 0)=A4 (.a (D7 D.length n m)):=C7 (by rw [hG,E9];rfl) rfl;have hvG:Has G v 256 D.length (D5 D):=by rw [hG];exact hvg.more _
 obtain ⟨cs',F,r1,r2,r3⟩:=D9T (n:=n) (m:=m) hvG hD hm;have cl8:=r3.length;have lF:=r2.len;obtain ⟨H,hH⟩:∃ H,H=F++[rT cs']:=⟨_,rfl⟩;have lH:H.length=F.length+1:=by rw [hH];simp
 have GH:Grows G H:=by rw [hH];exact r2.new _
 have s8:E5 (F++[rT [Cell.ns,.ns,.ns,.ns,.ns,o0,.ns,.ns]]) 8 (pV F.length 0) (.a cs')=A4 H:=by
  rw [storeAll (n:=8) (cs:=[Cell.ns,.ns,.ns,.ns,.ns,o0,.ns,.ns]) (by rw [E9];rfl) rfl cl8,S3,hH];rfl
 have l3H:D4 H 3 (pV g.length 0)=A4 (.a (D7 D.length n m)):=C7 (GH.rd (by rw [hG,E9];rfl)) rfl;have hvH:Has H v 256 D.length (D5 D):=hvG.grows GH;have hP:=D9W (n:=n) (m:=m) hvH hD hm;rw [<-hL,List.length_map] at hP;obtain ⟨I,hI⟩:∃ I,I=H++[rT (encI (L.map (·.1)))]:=⟨_,rfl⟩;rw [<-hI] at hP;have GHI:Grows H I:=by rw [hI];exact (Grows.rfl').new _
 have qP:=U9 (v:=sV H.length 0 L.length 1) GHI;rw [<-hP] at qP;have qP':quiet H (A3B [v,.a (D7 D.length n m)] H)=A4 (sV H.length 0 L.length 1,I):=by rw [qP,hP]
 have rH6:rd H F.length=rT cs':=by rw [hH,E9];rfl
 obtain ⟨zr,zi,zt,zb,zm,zl,zy,zs,ec,kk⟩:=id r3;have l5:B8 H (pV F.length 5)=A4 (iV (J1 D n).lost):=B9 rH6 (by rw [ec];rfl) rfl;have rrI:rd I (g.length+2)=rT (encI (zI 8)):=GHI.rd (GH.rd (by rw [hG,K9];rfl));obtain ⟨J,hJ⟩:∃ J,J=I.set (g.length+2) (rT (encI ((zI 8).set 0 (L.length:Nat)))):=⟨_,rfl⟩;have a0:I3 8 1 (pV (g.length+2) 0) (iV 0)=A4 (pV (g.length+2) 0):=rfl;have a1:I3 8 1 (pV (g.length+2) 0) (iV 1)=A4 (pV (g.length+2) 1):=rfl;have st0:I5 I (pV (g.length+2) 0) (iV (L.length:Nat))=A4 J:=by
  rw [G8 rrI (by rw [B7];show 0<8;omega),X5,hJ]
 have rrJ:rd J (g.length+2)=rT (encI ((zI 8).set 0 (L.length:Nat))):=by rw [hJ];exact C6 (C8 rrI)
 obtain ⟨Q,hQ⟩:∃ Q,Q=J.set (g.length+2) (rT (encI s0)):=⟨_,rfl⟩;have st1:I5 J (pV (g.length+2) 1) (iV (J1 D n).lost)=A4 Q:=by
  rw [G8 rrJ (by rw [B7,E6o];show 1<8;omega),X5,hQ,hs0];rfl
 have l5J:B8 J (pV F.length 5)=A4 (iV (J1 D n).lost):=B9 (by rw [hJ,B6 (by omega)];exact GHI.rd rH6) (by rw [ec];rfl) rfl;have OQ:∀ {id:Nat} {r:Row},id≠g.length+2->rd I id=A4 r->rd Q id=A4 r:=λ{id r} T1 hr=>by
  rw [hQ,B6 (Ne.symm T1),hJ,B6 (Ne.symm T1)];exact hr
 have rr:rd Q (g.length+2)=rT (encI s0):=by rw [hQ];exact C6 (C8 rrJ)
 have r3Q:rd Q g.length=rT (D7 D.length n m):=OQ (by omega) (GHI.rd (GH.rd (by rw [hG,E9];rfl)));have r4Q:rd Q (g.length+1)=rT (encI (zI 8)):=OQ (by omega) (GHI.rd (GH.rd (by rw [hG,K9];rfl)));have r6Q:rd Q F.length=rT cs':=OQ (by omega) (GHI.rd rH6);have KQ:IsRC n (λid=>G.length<=id) Q cs' (J1 D n):=by
  have k1:IsRC n (λid=>G.length<=id) I cs' (J1 D n):=r3.grows ((by rw [hH];exact (Grows.rfl').new _:Grows F H).trans' GHI);rw [hQ,hJ];exact (k1.set (.inr (by omega))).set (.inr (by omega))
 have hvQ:Has Q v 256 D.length (D5 D):=A6p (hvH.grows GHI) (A8h (id:=g.length+2) hvg (by omega)) λj r T1 hr=>OQ T1 hr
 have ho:=A8h (id:=g.length+2) hvg (by omega);have lQ:=C8 rr;have k0:CtI D n m (J1 D n) cs' Q g.length F.length (g.length+2) s0 Q:=⟨OnlyR.refl _ _,rr,r3Q,r6Q⟩;obtain ⟨h1,M1,f1,f2,f3⟩:=E3j (q:=100000) (p4:=g.length+1) hvQ ho hD n128 KQ (λid hid=>by omega) (by rw [D9a];have:=fS.row;omega) fil fin lQ (by omega) (by omega) (by omega) n.toNat 1 100000 30000 s0 Q (by omega) (by omega) (by omega) B0 (by omega) k0;obtain ⟨h2,u1⟩:=E3k (q:=100000) (p4:=g.length+1) hvQ ho hD hm KQ (λid hid=>by omega) ftl (by omega) (by omega) (by omega) r4Q (by rfl) D.length 0 100000 _ _ h1 (by omega) (by omega) f3 (by omega) f2;rw [E6a] at u1;have ecn:oV D n (J1 D n).taken 0 (kT D n (J1 D n) n.toNat 1 s0)=A48 D n:=by unfold A48;rw [hs0,hL]
 rw [ecn] at u1;refine B7s (n:=100000) (h2:=h2) ?_ (by simp [Val.flat]);have lv1:B8 h1 (pV g.length 1)=A4 (iV n):=B9 f2.r3 rfl rfl;have cn:¬ n+1<=n:=by omega
 have c00:((0:Nat):Int)=0:=rfl;rw [c00] at u1;have cl1:cells? (.a (D7 D.length n m))=A4 (D7 D.length n m):=rfl;rw [<-hg,C3a,z8];generalize encI (zI 8)=Z at *;generalize D7 D.length n m=Ly at *;simp only [esc,Nat.reduceAdd,cl1,<-hG,l3,r1,s8,l3H,qP',l5,a0,st0,l5J,a1,st1];refine f1.trans ?_;rw [oK];simp only [esc,lv1,cn];exact u1
section
variable (n m m2:Nat) (a0 a1 a2:Val) (h:B5)
def A6N:FD A8:=⟨px 0X119f2003a238004881c6b760550525f00138038614022b201042,[.c .np],[.min (.t 3) (.v (.c (.i .i64 512))),.max (.v (.c (.i .i64 16))) (.t 4),.build ([.ns,o0,.b A6,.b A6,o0,o0]) [(0,1,(.t 7))]],[.tmp 2],[]⟩
def C4I:=A6N.R
def C8o:=mR C4I A6N (tT []) n [a0] h
def C4o:=A6N.K Tryz.func154
def B5e:=A6N.Q
def C8N:OfT C4I B5e:=C4o.of
def nN:FD A8:=⟨px 0X119f200290400503d75060201120140062240386121942031201042,[],[.eqN A6 A6 (.t 3)],[.tmp 2],[]⟩
def wM:=nN.R
def B3g:=mR wM nN (tT []) n [a0] h
def wH:=nN.K Tryz.func204
def oB:=nN.S
def A9x:F6 wM oB:=wH.flat
def pQ:FD A8:=⟨px 0X114010201194012a0522438f1d001b281901c4481a0484b0481e00481f0486c7487484870110123a1e01c3b05216940118000072241cf1800430503d71905296101d2154012000072247f5003876031b611c2050023140130182,[],[.eqN A6 A6 (.t 6)],[.tmp 4],[]⟩
def A0q:=pQ.R
def B4Q:=mR A0q pQ (tT []) n [a0,a1] h
def A8K:=pQ.K Tryz.func238
def aR:=pQ.S
def A16:SOk A8 238 aR:=A8K.sok
def B0G:F6 A0q aR:=A8K.flat
def fF:FD A8:=⟨px 0X422a4051a3d50020440503d6418182410224259273182,[],[],[],[]⟩
def A0H:=fF.R
def A7f:=mR A0H fF (tT []) n [a0,a1] h
def B3c:=fF.K Tryz.func239
def Q9:=fF.Q
def A5L:D8d A8 239 Q9:=D6r (D6b _) Tryz.func239 (by kernel_rfl)
def A7B:OfT A0H Q9:=B3c.of
def B6z:DFn:=⟨[([1,3,5,6],(.ops [aB 3 0,aB 5 2,aO 6 (.alloc ([o0]))])),([1,3,5,6],(sO [1,3,5,6] [aL 7 3,aM 8 1,aO 9 (.call 238 [(.t 7),(.t 8)]),aN (.store1 (.t 6) (.t 9))] (sO [1,3,5,6,11] [aL 10 6,aO 11 (.bin .neq (.t 10) (.v (iV 0)))] (.cond (.t 11) (sO [6] [aL 12 6,aN (.store1 (.t 6) (.t 12))] .ret) .skip))))],[1,3,5,6],13,239,[(.t 6),(.t 3)],(.seq [1,3,5,6] (sO [1,3,5,6,24] [aL 14 3,aO 15 (.nilc (.t 14)),aF 16 15 2,aL 17 16,aM 18 17,aG 19 18 A5 (.load1 (.t 3)),aG 20 18 A5 (.nilc (.t 19)),aG 21 18 A5 (.fAddr (.t 20) 1),aG 22 18 A5 (.load1 (.t 21)),aG 23 18 A5 (.bin .eql (.t 22) (.v (iV 0))),aO 24 (.pick (.t 18) (.t 23) (.v (bV A6)))] (.cond (.t 24) (sO [6] [aL 25 3,aO 26 (.nilc (.t 25)),aF 27 26 3,aN (.store1 (.t 27) (.v (bV A5)))] (sO [6] [aN (.store1 (.t 6) (.v (iV 12)))] .ret)) .skip)) (.seq [1,3,5,6] (sO [1,3,5,6,31] [aL 28 3,aO 29 (.nilc (.t 28)),aF 30 29 2,aL 31 30] (.cond (.t 31) (.ops [aL 32 3,aO 33 (.nilc (.t 32)),aF 34 33 1,aL 35 34,aO 36 (.bin .sub (.t 35) (.v (iV 1))),aO 37 (.nilc (.t 32)),aF 38 37 1,aN (.store1 (.t 38) (.t 36))]) .skip)) (.seq [6] (.draw 0 [aL 39 3,aO 40 (.nilc (.t 39)),aF 41 40 0,aL 42 41,aM 43 1,aL' 44 256 5] [aO 45 (.iAddrL 256 (.t 42) (.t 43)),aN (.storeN 256 (.t 45) (.t 44))]) (sO [6] [aN (.store1 (.t 6) (.v (iV 0)))] .ret)))),[.cell1 6]⟩
def B6A:O3:=D8V 238 aR D3y
def tF:Fun:=B6z.run B6A Q9 0
def B0F:SOk A8 205 tF:=D8M (D5N A16 D5M) A5L Tryz.func205 (by kernel_rfl)
def B0E:tF [a0,a1,a2] h=bnd (cells? a0) λc1=>bnd (cells? a2) λc2=>bnd (B8 (((h++[rT (c1)])++[rT (c2)])++[rT ([o0])]) (pV h.length 0)) λv3=>bnd (aR [v3,a1] (((h++[rT (c1)])++[rT (c2)])++[rT ([o0])])) λp4=>bnd (I5 p4.2 (pV ((h++[rT (c1)])++[rT (c2)]).length 0) p4.1) λh5=>bnd (B8 h5 (pV ((h++[rT (c1)])++[rT (c2)]).length 0)) λv6=>bnd (N4 .neq v6 (iV 0)) λv7=>cnd v7 (bnd (B8 h5 (pV ((h++[rT (c1)])++[rT (c2)]).length 0)) λv8=>bnd (I5 h5 (pV ((h++[rT (c1)])++[rT (c2)]).length 0) v8) λh9=>mp (B8 h9 (pV ((h++[rT (c1)])++[rT (c2)]).length 0)) λv=>(v,h9)) (bnd (B5U 239 [(pV ((h++[rT (c1)])++[rT (c2)]).length 0),(pV h.length 0)]) λv10=>bnd (B8 h5 (pV h.length 0)) λv11=>bnd (A5U v11) λv12=>bnd (tY v12 2) λv13=>bnd (B8 h5 v13) λv14=>bnd (gd v14 A5 (bnd (B8 h5 (pV h.length 0)) λv15=>A4 (v15,h5)) (A4 (.no,h5))) λp16=>bnd (gd v14 A5 (bnd (A5U p16.1) λv17=>A4 (v17,p16.2)) (A4 (.no,p16.2))) λp18=>bnd (gd v14 A5 (bnd (tY p18.1 1) λv19=>A4 (v19,p18.2)) (A4 (.no,p18.2))) λp20=>bnd (gd v14 A5 (bnd (B8 p20.2 p20.1) λv21=>A4 (v21,p20.2)) (A4 (.no,p20.2))) λp22=>bnd (gd v14 A5 (bnd (N4 .eql p22.1 (iV 0)) λv23=>A4 (v23,p22.2)) (A4 (.no,p22.2))) λp24=>bnd (D26 v14 p24.1 (bV A6)) λv25=>cnd v25 (bnd (B8 p24.2 (pV h.length 0)) λv26=>bnd (A5U v26) λv27=>bnd (tY v27 3) λv28=>bnd (I5 p24.2 v28 (bV A5)) λh29=>bnd (I5 h29 (pV ((h++[rT (c1)])++[rT (c2)]).length 0) (iV 12)) λh30=>bnd (B7Y Q9 v10 h30) λp31=>mp (B8 p31.2 (pV ((h++[rT (c1)])++[rT (c2)]).length 0)) λv=>(v,p31.2)) (bnd (B8 p24.2 (pV h.length 0)) λv32=>bnd (A5U v32) λv33=>bnd (tY v33 2) λv34=>bnd (B8 p24.2 v34) λv35=>cnd v35 (bnd (B8 p24.2 (pV h.length 0)) λv36=>bnd (A5U v36) λv37=>bnd (tY v37 1) λv38=>bnd (B8 p24.2 v38) λv39=>bnd (N4 .sub v39 (iV 1)) λv40=>bnd (A5U v36) λv41=>bnd (tY v41 1) λv42=>bnd (I5 p24.2 v42 v40) λh43=>bnd (B8 h43 (pV h.length 0)) λv44=>bnd (A5U v44) λv45=>bnd (tY v45 0) λv46=>bnd (B8 h43 v46) λv47=>bnd (D4 h43 256 (pV (h++[rT (c1)]).length 0)) λv48=>bnd (D9 256 v47 a1) λv49=>bnd (E5 (h43++[]) 256 v49 v48) λh50=>bnd (I5 h50 (pV ((h++[rT (c1)])++[rT (c2)]).length 0) (iV 0)) λh51=>bnd (B7Y Q9 v10 h51) λp52=>mp (B8 p52.2 (pV ((h++[rT (c1)])++[rT (c2)]).length 0)) λv=>(v,p52.2)) (bnd (B8 p24.2 (pV h.length 0)) λv53=>bnd (A5U v53) λv54=>bnd (tY v54 0) λv55=>bnd (B8 p24.2 v55) λv56=>bnd (D4 p24.2 256 (pV (h++[rT (c1)]).length 0)) λv57=>bnd (D9 256 v56 a1) λv58=>bnd (E5 (p24.2++[]) 256 v58 v57) λh59=>bnd (I5 h59 (pV ((h++[rT (c1)])++[rT (c2)]).length 0) (iV 0)) λh60=>bnd (B7Y Q9 v10 h60) λp61=>mp (B8 p61.2 (pV ((h++[rT (c1)])++[rT (c2)]).length 0)) λv=>(v,p61.2)))):=by kernel_rfl
def gY:FD A8:=⟨px 0X422a5051a3d50020450503d041818,[],[],[],[]⟩
def A1U:=gY.R
def A9u:=mR A1U gY (tT []) n [a0] h
def B4H:=gY.K Tryz.func240
def X6:=gY.Q
def A7A:D8d A8 240 X6:=D6r (D6b _) Tryz.func240 (by kernel_rfl)
def A9w:OfT A1U X6:=B4H.of
def B9d:DFn:=⟨[([1,2,4],(.ops [aB 2 0,aO 4 (.alloc (E5R 256 (.i .u8 0))),aO 5 (.mv (.v (iV 0)))])),([1,2,4],(sO [1,2,4,5] [aL 6 2,aM 7 1,aO 8 (.call 238 [(.t 6),(.t 7)]),aM 5 8] (sO [1,2,4,5,10] [aM 9 5,aO 10 (.bin .neq (.t 9) (.v (iV 0)))] (.cond (.t 10) (sO [4,5] [aL' 11 256 4,aM 12 5,aN (.storeN 256 (.t 4) (.t 11)),aM 5 12] .ret) .skip))))],[1,2,4],13,240,[(.t 2)],(sO [4,5] [aL 14 2,aO 15 (.nilc (.t 14)),aF 16 15 0,aL 17 16,aM 18 1,aO 19 (.iAddrL 256 (.t 17) (.t 18)),aL' 20 256 19,aN (.storeN 256 (.t 4) (.t 20)),aO 5 (.mv (.v (iV 0)))] .ret),[.cellN 4 256,.tmp 5]⟩
def B9e:O3:=D8V 238 aR D3y
def wP:Fun:=B9d.run B9e X6 0
def B3m:SOk A8 206 wP:=D8M (D5N A16 D5M) A7A Tryz.func206 (by kernel_rfl)
def B3l:wP [a0,a1] h=bnd (cells? a0) λc1=>bnd (B8 ((h++[rT (c1)])++[rT (E5R 256 (.i .u8 0))]) (pV h.length 0)) λv2=>bnd (aR [v2,a1] ((h++[rT (c1)])++[rT (E5R 256 (.i .u8 0))])) λp3=>bnd (N4 .neq p3.1 (iV 0)) λv4=>cnd v4 (bnd (D4 p3.2 256 (pV (h++[rT (c1)]).length 0)) λv5=>bnd (E5 p3.2 256 (pV (h++[rT (c1)]).length 0) v5) λh6=>C8h [D4 h6 256 (pV (h++[rT (c1)]).length 0),A4 p3.1] h6) (bnd (B5U 240 [(pV h.length 0)]) λv7=>bnd (B8 p3.2 (pV h.length 0)) λv8=>bnd (A5U v8) λv9=>bnd (tY v9 0) λv10=>bnd (B8 p3.2 v10) λv11=>bnd (D9 256 v11 a1) λv12=>bnd (D4 p3.2 256 v12) λv13=>bnd (E5 p3.2 256 (pV (h++[rT (c1)]).length 0) v13) λh14=>bnd (B7Y X6 v7 h14) λp15=>C8h [D4 p15.2 256 (pV (h++[rT (c1)]).length 0),A4 (iV 0)] p15.2):=by kernel_rfl
def kC:FD A8:=⟨px 0X11af2001a488390400503d7100048855d70201488248140062240386121942034882481042,[],[.eqN A6 A6 (.t 3)],[.tmp 2],[]⟩
def sW:=kC.R
def A96:=mR sW kC (tT []) n [a0] h
def A3i:=kC.K Tryz.func84
def tE:=kC.S
def A9v:pY sW tE:=A3i.out
end
def dkC (q len:Nat) (w r:Int):List Cell:=[.sl q 0 len 256,o0,.b A6,.b A6,.i .i64 w,.i .i64 r]
structure IsDk (h:B5) (p q:Nat) (D:Dev) (w r:Int):Prop where
 ne:p≠q
 row:rd h p=rT (dkC q D.length w r)
 blk:rd h q=rT (D5 D)
def But (p q:Nat) (h h':B5):Prop:=h.length<=h'.length/\∀ id,id<h.length->id≠p->id≠q->rd h' id=rd h id
def But.refl (p q:Nat) (h:B5):But p q h h:=⟨E5V _,λ_ _ _ _=>rfl⟩
def But.trans {p q:Nat} {h h' h'':B5} (a:But p q h h') (b:But p q h' h''):But p q h h'' :=
 ⟨E6w a.1 b.1,λid hid h1 h2=>(b.2 id (by have:=a.1;omega) h1 h2).trans (a.2 id hid h1 h2)⟩
def But.more {p q:Nat} {h h':B5} (a:But p q h h') (t:B5):But p q h (h'++t) :=
 ⟨by have:=a.1;simp;omega,λid hid h1 h2=>by rw [E1 (by have:=a.1;omega)];exact a.2 id hid h1 h2⟩
def But.set {p q id:Nat} {h h':B5} {x:Option Row} (a:But p q h h') (hid:h.length<=id\/id=p\/id=q):But p q h (h'.set id x) :=
 ⟨by simpa using a.1,λj hj h1 h2=>by rw [B6 (by omega)];exact a.2 j hj h1 h2⟩
def IsDk.more {h:B5} {p q:Nat} {D:Dev} {w r:Int} (k:IsDk h p q D w r) (t:B5):IsDk (h++t) p q D w r:=⟨k.ne,C5 k.row,C5 k.blk⟩
def IsDk.setO {h:B5} {p q id:Nat} {D:Dev} {w r:Int} {x:Option Row} (k:IsDk h p q D w r) (h1:id≠p) (h2:id≠q):IsDk (h.set id x) p q D w r :=
 ⟨k.ne,by rw [B6 h1];exact k.row,by rw [B6 h2];exact k.blk⟩
def IsDk.ro {h:B5} {p q:Nat} {D:Dev} {w r:Int} (k:IsDk h p q D w r):rd (ro h) p=A4 ⟨dkC q D.length w r,A6⟩/\rd (ro h) q=A4 ⟨D5 D,A6⟩:=by
 have e1:(Row.mk (dkC q D.length w r) A5).head=A6:=rfl;refine ⟨B8Y k.row e1,B8Y k.blk ?_⟩;cases hD:D5 D with
 | nil=>rfl
 | cons c l =>
  have:=eZ D;rw [hD] at this;cases c<;>first | rfl | (simp [noX,Cell.isX] at this)
def D3x {N:Nat} {h:B5} (h1:16<=N) (h2:N<=512):B5e [iV (N:Int)] h=A4 (pV (h.length+1) 0,h++[rT (D5 (E5R N (zeros 256))),rT (dkC h.length N 0 0)]):=by
 refine C8N (n:=0) ?_;have m1:B7T (iV (N:Int)) (iV 512)=A4 (iV (N:Int)):=by simp only [B7T];simp;omega
 have m2:C6i (iV 16) (iV (N:Int))=A4 (iV (N:Int)):=by simp only [C6i];simp;omega
 have mk:=D8l (N:=N) (by omega);have ef:E6 [.ns,o0,.b A6,.b A6,o0,o0] [(0,1,sV h.length 0 N 256)]=A4 (dkC h.length N 0 0):=rfl;rw [C8o];simp only [esc,m1,m2,mk,ef,D4o]
section
variable {h:B5} {p q:Nat} {D:Dev} {w r:Int}
def B75 (k:IsDk h p q D w r):oB [pV p 0] h=A4 (iV (D.length:Nat),h):=by
 have l0:B8 (ro h) (pV p 0)=A4 (sV q 0 D.length 256):=B9 k.ro.1 rfl rfl;have key:wM 0 [pV p 0] (ro h)=A4 (iV (D.length:Nat),ro h):=by
  rw [B3g];simp only [esc,l0]
 exact A9x key rfl
def C2k {no:Nat} (k:IsDk h p q D w r) (cU:no<D.length):aR [pV p 0,iV (no:Int)] h=A4 (iV 0,h):=by
 have l0:B8 (ro h) (pV p 0)=A4 (sV q 0 D.length 256):=B9 k.ro.1 rfl rfl;have l3:B8 (ro h) (pV p 3)=A4 (bV A6):=B9 k.ro.1 rfl rfl;have c0:¬ (no:Int)<0:=by omega
 have c1:¬ (no:Int)>=(D.length:Nat):=by omega
 have key:A0q 0 [pV p 0,iV (no:Int)] (ro h)=A4 (iV 0,ro h):=by
  rw [B4Q];simp only [esc,l0,l3,c0,c1]
 exact B0G key rfl
def C3Y {a b:Nat} (k:IsDk h p q D w r) (ha:rd h a=rT [o0]) (hb:rd h b=rT [.p p 0]) (hw:0<=w/\w<1000) :
  Q9 [pV a 0,pV b 0] h=A4 (.t [],h.set p (rT (dkC q D.length (w+1) r))):=by
 refine A7B (n:=0) ?_;have l1:B8 h (pV a 0)=A4 (iV 0):=B9 ha rfl rfl;have l2:B8 h (pV b 0)=A4 (pV p 0):=B9 hb rfl rfl;have l3:B8 h (pV p 4)=A4 (iV w):=B9 k.row rfl rfl;have s1:I5 h (pV p 4) (iV (w+1))=A4 (h.set p (rT (dkC q D.length (w+1) r))):=by rw [G8 k.row (by simp [dkC])];rfl
 have ww:E5U .i64 (w+1)=w+1:=wrap_i64 (by omega) (by omega);rw [A7f];simp only [esc,l1,l2,l3,ww,s1];rfl
def A49 {no:Nat} {b:List UInt8} (k:IsDk h p q D w r) (hD:okD D) (hb:b.length=256) (cU:no<D.length) (hw:0<=w/\w<1000) :
  ∃ h',tF [pV p 0,iV (no:Int),.a (B4 b)] h=A4 (iV 0,h')/\IsDk h' p q (D.set no b) (w+1) r/\But p q h h':=by
 have kp:=C8 k.row;have kq:=C8 k.blk;obtain ⟨G,hG⟩:∃ G,G=h++[rT [.p p 0],rT (B4 b),rT [o0]]:=⟨_,rfl⟩;have kG:IsDk G p q D w r:=by rw [hG];exact k.more _
 have lG:G.length=h.length+3:=by rw [hG];simp
 have r0:rd G h.length=rT [.p p 0]:=by rw [hG,E9];rfl
 have r1:rd G (h.length+1)=rT (B4 b):=by rw [hG,K9];rfl
 have r2:rd G (h.length+2)=rT [o0]:=by rw [hG,K9];rfl
 have hm:=C2k kG cU;have l0:B8 G (pV h.length 0)=A4 (pV p 0):=B9 r0 rfl rfl;have lb:D4 G 256 (pV (h.length+1) 0)=A4 (.a (B4 b)):=C7 r1 (by rw [A9,hb]);have l2:B8 G (pV (h.length+2) 0)=A4 (iV 0):=B9 r2 rfl rfl;have s2:I5 G (pV (h.length+2) 0) (iV 0)=A4 G:=by
  rw [G8 r2 (by simp),hG];simp
 have d0:B8 G (pV p 0)=A4 (sV q 0 D.length 256):=B9 kG.row rfl rfl;have d2:B8 G (pV p 2)=A4 (bV A6):=B9 kG.row rfl rfl;have ad:D9 256 (sV q 0 D.length 256) (iV (no:Int))=A4 (pV q (no*256)):=by rw [C9 cU];simp
 have sd:E5 G 256 (pV q (no*256)) (.a (B4 b))=A4 (G.set q (rT (D5 (D.set no b)))):=A6K kG.blk hD hb cU;obtain ⟨H,hH⟩:∃ H,H=G.set q (rT (D5 (D.set no b))):=⟨_,rfl⟩;have kH:IsDk H p q (D.set no b) w r:=by
  rw [hH];refine ⟨k.ne,?_,?_⟩
  ·rw [B6 (Ne.symm k.ne),E6o];exact kG.row
  ·rw [C6 (by omega)]
 have q0:rd H h.length=rT [.p p 0]:=by rw [hH,B6 (by omega)];exact r0
 have q2:rd H (h.length+2)=rT [o0]:=by rw [hH,B6 (by omega)];exact r2
 have s3:I5 H (pV (h.length+2) 0) (iV 0)=A4 H:=by
  rw [G8 q2 (by simp)];have:H.set (h.length+2) (rT ([o0].set 0 o0))=H:=by
   rw [rd_some] at q2;refine List.ext_getElem? λi=>?_
   rw [List.getElem?_set];split
   ·rename_i e;subst e;have hl:=(List.getElem?_eq_some_iff.1 q2).1;rw [if_pos hl,q2];rfl
   ·rfl
  rw [this]
 have hW:=C3Y kH q2 q0 hw;have hcd:B7Y Q9 (.c (.f 239 [(h.length+2,0),(h.length,0)])) H=A4 (.t [],H.set p (rT (dkC q (D.set no b).length (w+1) r))):=hW;have l4:B8 (H.set p (rT (dkC q (D.set no b).length (w+1) r))) (pV (h.length+2) 0)=A4 (iV 0):=B9 (by rw [B6 (by omega)];exact q2) rfl rfl;refine ⟨H.set p (rT (dkC q (D.set no b).length (w+1) r)),?_,⟨k.ne,?_,?_⟩,?_⟩
 ·rw [B0E];have e1:cells? (pV p 0)=A4 [.p p 0]:=rfl;have e2:cells? (.a (B4 b))=A4 (B4 b):=rfl;have mf:B5U 239 [pV (h.length+2) 0,pV h.length 0]=A4 (.c (.f 239 [(h.length+2,0),(h.length,0)])):=rfl;simp only [e1,e2,M9,E5Y,E6q,E59,E5T,E52,E6h,E6e,Nat.reduceAdd,<-hG];simp only [esc,l0,hm,s2,l2,mf,d0,d2,lb,ad,sd,<-hH,s3,hcd,l4]
 ·rw [C6 (by rw [hH];simp;omega)]
 ·rw [B6 k.ne];exact kH.blk
 ·refine But.set ?_ (.inr (.inl rfl));rw [hH];refine But.set ?_ (.inr (.inr rfl));rw [hG];exact (But.refl p q h).more _
def D1K {no:Nat} (k:IsDk h p q D w r) (hD:okD D) (cU:no<D.length) (hr:0<=r/\r<1000) :
  ∃ h',wP [pV p 0,iV (no:Int)] h=A4 (.t [.a (B4 D[no]),.c o0],h')/\IsDk h' p q D w (r+1)/\But p q h h':=by
 have kp:=C8 k.row;have kq:=C8 k.blk;obtain ⟨G,hG⟩:∃ G,G=h++[rT [.p p 0],rT (B4 (zeros 256))]:=⟨_,rfl⟩;have kG:IsDk G p q D w r:=by rw [hG];exact k.more _
 have lG:G.length=h.length+2:=by rw [hG];simp
 have r0:rd G h.length=rT [.p p 0]:=by rw [hG,E9];rfl
 have r1:rd G (h.length+1)=rT (B4 (zeros 256)):=by rw [hG,K9];rfl
 have hm:=C2k kG cU;have l0:B8 G (pV h.length 0)=A4 (pV p 0):=B9 r0 rfl rfl;have d0:B8 G (pV p 0)=A4 (sV q 0 D.length 256):=B9 kG.row rfl rfl;have ad:D9 256 (sV q 0 D.length 256) (iV (no:Int))=A4 (pV q (no*256)):=by rw [C9 cU];simp
 have ld:D4 G 256 (pV q (no*256))=A4 (.a (B4 D[no])):=by
  rw [dR kG.blk (by rw [J4 hD];omega) rfl,dD hD cU]
 have sb:E5 G 256 (pV (h.length+1) 0) (.a (B4 D[no]))=A4 (G.set (h.length+1) (rT (B4 D[no]))):=storeAll r1 (by rw [A9,zeros_length]) (by rw [A9,hD.at cU]);obtain ⟨H,hH⟩:∃ H,H=G.set (h.length+1) (rT (B4 D[no])):=⟨_,rfl⟩;have kH:IsDk H p q D w r:=by rw [hH];exact kG.setO (by omega) (by omega)
 have q0:rd H h.length=rT [.p p 0]:=by rw [hH,B6 (by omega)];exact r0
 have q1:rd H (h.length+1)=rT (B4 D[no]):=by rw [hH,C6 (by omega)]
 have ww:E5U .i64 (r+1)=r+1:=wrap_i64 (by omega) (by omega);have h1:X6 [pV h.length 0] H=A4 (.t [],H.set p (rT (dkC q D.length w (r+1)))):=by
  refine A9w (n:=0) ?_;have l1:B8 H (pV h.length 0)=A4 (pV p 0):=B9 q0 rfl rfl;have l3:B8 H (pV p 5)=A4 (iV r):=B9 kH.row rfl rfl;have s1:I5 H (pV p 5) (iV (r+1))=A4 (H.set p (rT (dkC q D.length w (r+1)))):=by rw [G8 kH.row (by simp [dkC])];rfl
  rw [A9u];simp only [esc,l1,l3,ww,s1];rfl
 have hcd:B7Y X6 (.c (.f 240 [(h.length,0)])) H=A4 (.t [],H.set p (rT (dkC q D.length w (r+1)))):=h1;have l4:D4 (H.set p (rT (dkC q D.length w (r+1)))) 256 (pV (h.length+1) 0)=A4 (.a (B4 D[no])):=C7 (by rw [B6 (by omega)];exact q1) (by rw [A9,hD.at cU]);refine ⟨H.set p (rT (dkC q D.length w (r+1))),?_,⟨k.ne,?_,?_⟩,?_⟩
 ·rw [B3l];have e1:cells? (pV p 0)=A4 [.p p 0]:=rfl;have mf:B5U 240 [pV h.length 0]=A4 (.c (.f 240 [(h.length,0)])):=rfl;have ez:E5R 256 (Cell.i .u8 0)=B4 (zeros 256):=I9 256;simp only [e1,ez,M9,E5Y,E6q,E59,E5T,E52,E6h,E6e,<-hG];simp only [esc,l0,hm,mf,d0,ad,ld,sb,<-hH,hcd,l4,D6x]
 ·rw [C6 (by rw [hH];simp;omega)]
 ·rw [B6 k.ne];exact kH.blk
 ·refine But.set ?_ (.inr (.inl rfl));rw [hH];refine But.set ?_ (.inl (by omega));rw [hG];exact (But.refl p q h).more _
def C86 (k:IsDk h p q D w r) (hD:okD D) (hl:D.length<=512):tE [pV p 0] h=A4 (sV h.length 0 D.length 256,h++[rT (D5 D)]):=by
 obtain ⟨G,hG⟩:∃ G,G=ro h++[rT [],rT []]:=⟨_,rfl⟩;have d0:B8 G (pV p 0)=A4 (sV q 0 D.length 256):=by rw [hG];exact B9 (C5 k.ro.1) rfl rfl
 have hQ:Has G (sV q 0 D.length 256) 256 D.length (D5 D):=by
  rw [hG];exact Has.row (C5 k.ro.2) (J4 hD) (eZ D)
 have rI:rd G ((ro h).length+1)=rT []:=by rw [hG,K9];rfl
 have ho:Out (ro h).length G (sV ((ro h).length+1) 0 0 256) 256 0 []:=⟨rfl,(ro h).length+1,rfl,by omega,rI⟩;obtain ⟨id,v',h',e1,e2,e3,_⟩:=ho.app (m:=D.length) (by omega) hQ.add (by rw [J4 hD]) (by omega);have key:sW 0 [pV p 0] (ro h)=A4 (v',h'):=by
  rw [A96];have ef:E6 [] []=A4 []:=rfl;simp only [E5Y,E6q,E59,E5T,E52,E6h,E6e,ef,M9,<-hG];simp only [esc,d0,e2]
 rw [E6e,E59] at e3;exact A9v key (by rw [F7] at e3;exact e3) iR
end
section
variable (n m m2:Nat) (a0:Val) (h:B5)
def A2Y:FD A8:=⟨px 0X118f2003a238138750502012b20140062240386121942032b201042,[.c .np],[.eqN A6 A6 (.t 3),.mkMap,.build ([.np,.nm,.ns,o0]) [(0,1,(.t 5)),(1,1,(.t 6))]],[.tmp 2],[]⟩
def C1A:=A2Y.R
def C4G:=mR C1A A2Y (tT []) n [a0] h
def C1f:=A2Y.K Tryz.func207
def B0A:=A2Y.Q
def C5q:SOk A8 207 B0A:=C1f.ok
def C5p:OfT C1A B0A:=C1f.of
end
section
variable (n m m2:Nat) (a0 a1 x0 x3 x5 x7 x8:Val) (h:B5)
def Y5:FD A8:=⟨px 0X17ff400143535f4881877d0402017cf401cc121900001722410321c87a021ef4279f1a00181a3532017301633f31802376c050192d434101934af7050026c490318016bf401ac12190000003722410321a869021cd4268f19004635319e488187f17152b446200198488611a280185b2c5af4f0014343513511191033b3b188488581c7182406225002023784b0419d42011a1c181b168421541307024061201336e3185c3d041894203006053cf705002023b5c31f421b2101d301194015c000017224063210405a5011372e040196d431b2101d30154014a00001722401b6191034c1a3a4c701038728065b423131ff11ef248861c51b11828061e2c1df1b001032a31c1c181d1b18211432e270182,[],[.eqN A6 A6 (.t 16)],[.tmp 4],[E3 A3I A91,E3 oB wH,E3 wR A1O,E3 rF A3l,E3 tO A68,cal B0F,E3 A7P B4M,E3 A07 A6Y]⟩
def B0r:=Y5.R
def C4d:AtH:=Y5.lj 0 n [m] [x0,x3,x5,x7]
def C4c:AtH:=Y5.lj 1 n [m] [x0,x3,x5,x7,x8]
def A2j:=tT [⟨2,4,C4d⟩,⟨2,5,C4c⟩]
def B7a:=mR B0r Y5 A2j n [a0,a1] h
def A2L:=mL Y5 A2j 0 n [m] [x0,x3,x5,x7] h
def B6w:=mJ Y5 A2j 1 n [m] [x0,x3,x5,x7,x8] h
def A9Z:=Y5.K Tryz.func155
def A2g:=Y5.Q
def B7D:OfT B0r A2g:=A9Z.of
def yN:FD A8:=⟨px 0X1114cf2003a2384101986e318013373f0411903016d12b2027500001b22401b1c19063681a2012682f76870681e04e681f0110324a2e070197d431132df502cf2362a61b11828062c2c2bf29001133c4882a1c181d1b6001e20128f12b202e1375000011b22410322a1e023f01822131df11cf248861c41b11828061c2c1bf1901020371a0181b196001e201512b20275001a2240387702294203112b202042,[.c .np],[.eqN A6 A6 (.t 7),.mkMap,.build ([.np,o0,o0,.i .u64 0,o0,.nm]) [(0,1,(.t 32)),(1,3,(.t 33)),(5,1,(.t 34))]],[.tmp 2,.tmp 3],[cal B3m,E3 A3H A90,E3 oB wH,cal C5q]⟩
def B3N:=yN.R
def B9N:=mR B3N yN (tT []) n [a0] h
def B3I:=yN.K Tryz.func156
def A41:=yN.Q
def C0t:OfT B3N A41:=B3I.of
end
section
variable (n m m2:Nat) (a0:Val) (h:B5)
def A0Q:FD A8:=⟨px 0X12df12cf20481482c0465001a22bf12af5011828062a2c29f1f001233828071b19001a2012b11ef202c1375001a2241032042132c3181c1a043b4201319f4001030401c72b419422b12b103a3342,[.c .np],[],[.tmp 2,.tmp 3],[iJ B5e C4o,iJ A2g A9Z,iJ A41 B3I]⟩
def B6U:=A0Q.R
def C2X:=mR B6U A0Q (tT []) n [a0] h
def A6Z:=A0Q.K Tryz.func83
def A08:=A0Q.Q
def C3o:SOk A8 83 A08:=A6Z.ok
def C3n:OfT B6U A08:=A6Z.of
end
section
variable (n m m2:Nat) (h:B5)
def A6O:FD A8:=⟨px 0X1203649111891022a3b2022a01b1042,[],[],[.cellN 0 3],[]⟩
def B4R:=A6O.R
def C8p:=mR B4R A6O (tT []) n [] h
def C4p:=A6O.K Tryz.func39
def B5f:=A6O.S
def C3p:F6 B4R B5f:=C4p.flat
end
section
variable (n m m2:Nat) (a0:Val) (h:B5)
def nO:FD A8:=⟨px 0X11bf2001131e1a03405219f118f301182806182c7f5001031a361c770524884a03a2342,[],[],[.tmp 2],[iJ A08 A6Z,E3 tE A3i]⟩
def wN:=nO.R
def B3h:=mR wN nO (tT []) n [a0] h
def A5B:=nO.K Tryz.func38
def wQ:=nO.S
def B0H:pY wN wQ:=A5B.out
end
def map40:List UInt8:=fW [0,1,2]
def tab40:List UInt8:=J7 (zeros 256) (32*0) (iS 2 1 0 1 (zI 7))
def D40a:Dev:=(E5R 16 (zeros 256)).set 2 tab40
def D40b:Dev:=D40a.set 1 map40
def D40:Dev:=D40b.set 0 (jY 16 8 0)
def A1r:map40.length=256:=by unfold map40 fW;rw [dN,zeros_length]
def A1t:tab40.length=256:=by decide +kernel
def okD40a:okD D40a:=(C04 16).set A1t
def okD40b:okD D40b:=okD40a.set A1r
def okD40:okD D40:=okD40b.set V0
def E05:D40a.length=16:=by unfold D40a;rw [E6o,E6n]
def E06:D40b.length=16:=by unfold D40b;rw [E6o,E05]
def A5p:D40.length=16:=by unfold D40;rw [E6o,E06]
def D0S {h t:B5} {v:Val} (hn:t.all B8G=A5):quiet h (A4 (v,h++t))=A4 (v,h++t):=by
 have:=D0T (g:=h) (l:=[]) (l':=t) (v:=v) (List.nil_prefix) (by simpa using hn);simpa using this
def D9k (h:B5):B5f [] h=A4 (.a (D7 16 8 0),h):=by
 have key:∀ g,∃ g',B4R 0 [] g=A4 (.a (D7 16 8 0),g'):=λg=>by
  have ef:E6 [o0,o0,.i .u64 0] [(0,1,iV 16),(1,1,iV 8)]=A4 (D7 16 8 0):=rfl;have st:E5 (g++[rT [o0,o0,.i .u64 0]]) 3 (pV g.length 0) (.a (D7 16 8 0))=A4 (g++[rT (D7 16 8 0)]):=by rw [M6];rfl
  have ll:ldN (rT (D7 16 8 0)) 0 3=A4 (.a (D7 16 8 0)):=rfl;rw [C8p];generalize D7 16 8 0=L at *;exact ⟨_,by simp only [esc,ef,st,R4,ll]<;>rfl⟩
 obtain ⟨g',e⟩:=key (ro h);exact C3p e rfl
def C4b {p q:Nat} {h:B5} (k:IsDk h p q (E5R 16 (zeros 256)) 0 0) :
  ∃ h',A2g [pV p 0,.a (D7 16 8 0)] h=A4 (iV 0,h')/\IsDk h' p q D40 3 0/\But p q h h':=by
 have kp:=C8 k.row;have kq:=C8 k.blk;have hm:R7 16 8=A5:=by decide
 have hp:=λh=>B89 (b:=16) (n:=8) (m:=0) (h:=h) (by omega) (by omega)
 simp only [hm,cond_true] at hp;have E3P:∀ h,rF [.a (D7 16 8 0)] h=A4 (iV 3,h):=λh=>A1o
 have xS:=λh=>C2y (b:=16) (n:=8) (m:=0) (h:=h)
 have ed:(mS 16 8).toNat=3:=by decide
 rw [ed] at xS;have hT:∀ h,tO [.a (B4 (zeros 256)),iV 0,.a (F9 2 1 0 1 (zI 7))] h=A4 (.t [.a (B4 tab40),.c o0],h):=λh=>B4F (j:=0) (k:=2) (l:=1) (s:=0) (p:=1) (d:=zI 7) (b:=zeros 256) (h:=h) zeros_length rfl (by omega) (by decide)
 obtain ⟨G,hG⟩:∃ G,G=h++[rT (D7 16 8 0),rT (B4 (jY 16 8 0))]:=⟨_,rfl⟩;have lG:G.length=h.length+2:=by rw [hG];simp
 have kG:IsDk G p q (E5R 16 (zeros 256)) 0 0:=by rw [hG];exact k.more _
 have r0:rd G h.length=rT (D7 16 8 0):=by rw [hG,E9];rfl
 have r1:rd G (h.length+1)=rT (B4 (jY 16 8 0)):=by rw [hG,K9];rfl
 obtain ⟨h1,w1,k1,b1⟩:=A49 (no:=2) (b:=tab40) (kG.more [rT (B4 tab40)]) (C04 16) A1t (by simp) (by omega);have x1:rd h1 h.length=rT (D7 16 8 0):=by rw [b1.2 _ (by simp;omega) (by omega) (by omega)];exact C5 r0
 have y1:rd h1 (h.length+1)=rT (B4 (jY 16 8 0)):=by rw [b1.2 _ (by simp;omega) (by omega) (by omega)];exact C5 r1
 have lh1:=b1.1;rw [E5T] at lh1;have kO:=k1.more [rT (encI (upto 3))];obtain ⟨h2,w2,k2,b2⟩:=A49 (no:=1) (b:=map40) kO okD40a A1r (by simp) (by omega);have y2:rd h2 (h.length+1)=rT (B4 (jY 16 8 0)):=by rw [b2.2 _ (by simp;omega) (by omega) (by omega)];exact C5 y1
 have lh2:=b2.1;rw [E5T] at lh2;obtain ⟨h3,w3,k3,b3⟩:=A49 (no:=0) (b:=jY 16 8 0) k2 okD40b V0 (by simp) (by omega);have hC:=B3W (v:=sV h1.length 0 3 1) (nv:=3) (l:=[0,1,2]) (h:=h1++[rT (encI (upto 3))]) (by decide) (by decide) (Has.tr (cs:=encI (upto 3)) (by simp) rfl rfl);have eC:fW [0,1,2]=map40:=rfl;rw [eC] at hC;refine ⟨h3,?_,k3,?_⟩
 ·refine B7D (n:=9) ?_;have hSz:=B75 kG;have lR:((E5R 16 (zeros 256)).length:Int)=16:=rfl;rw [lR] at hSz;have eS:E5 (h++[rT (D7 16 8 0),rT (B4 (zeros 256))]) 256 (pV (h.length+1) 0) (.a (B4 (jY 16 8 0)))=A4 G:=by
   rw [storeAll (cs:=B4 (zeros 256)) (by rw [K9];rfl) (by rw [A9,zeros_length]) (by rw [A9,V0]),hG,nF];rfl
  have l3:D4 (h++[rT (D7 16 8 0)]) 3 (pV h.length 0)=A4 (.a (D7 16 8 0)):=by rw [R4];rfl
  have g0:B8 G (pV h.length 0)=A4 (iV 16):=B9 r0 rfl rfl;have g3:D4 G 3 (pV h.length 0)=A4 (.a (D7 16 8 0)):=C7 r0 rfl;have ef:E6 [o0,o0,o0,o0,o0,o0,o0,o0,o0,o0,o0] [(0,1,iV 2),(1,1,iV 1),(3,1,iV 1)]=A4 (F9 2 1 0 1 (zI 7)):=rfl;have lz:D4 (G++[rT (B4 (zeros 256))]) 256 (pV G.length 0)=A4 (.a (B4 (zeros 256))):=C7 (by rw [E9];rfl) (by rw [A9,zeros_length]);have sz:E5 (G++[rT (B4 (zeros 256))]) 256 (pV G.length 0) (.a (B4 tab40))=A4 (G++[rT (B4 tab40)]):=by
   rw [storeAll (cs:=B4 (zeros 256)) (by rw [E9];rfl) (by rw [A9,zeros_length]) (by rw [A9,A1t]),S3];rfl
  have lt:D4 (G++[rT (B4 tab40)]) 256 (pV G.length 0)=A4 (.a (B4 tab40)):=C7 (by rw [E9];rfl) (by rw [A9,A1t]);have h13:D4 h1 3 (pV h.length 0)=A4 (.a (D7 16 8 0)):=C7 x1 rfl;have h26:D4 h2 256 (pV (h.length+1) 0)=A4 (.a (B4 (jY 16 8 0))):=C7 y2 (by rw [A9,V0]);have cl:cells? (.a (D7 16 8 0))=A4 (D7 16 8 0):=rfl;have c2:((2:Nat):Int)=2:=rfl;have c1:((1:Nat):Int)=1:=rfl;have c0:((0:Nat):Int)=0:=rfl;rw [c2] at w1;rw [c1] at w2;rw [c0] at w3;have wr2:E5U .i64 (1+1)=2:=rfl;have wr3:E5U .i64 (2+1)=3:=rfl;have l23:(2:Int)<3:=by decide
  have l33:¬ (3:Int)<3:=by decide
  have e4:G++[rT (B4 (zeros 256))]=G++[rT (B4 (zeros 256))]:=rfl;rw [B7a,I9];generalize B4 tab40=T at *;generalize B4 map40=M at *;generalize B4 (jY 16 8 0)=S at *;generalize hZ:B4 (zeros 256)=Z at *;generalize encI (upto 3)=U at *;generalize F9 2 1 0 1 (zI 7)=I at *;generalize D7 16 8 0=L at *;simp only [esc,cl,l3,hp,eS,hSz,g0,rV,wr2];rw [A2L,I9,hZ];simp only [esc,g3,E3P,l23,rV,wr2,lz,ef,hT,sz,lt,B6w,w1,wr3];rw [A2L,I9,hZ];have hq:=D0S (h:=h1) (t:=[rT U]) (v:=sV h1.length 0 3 1) rfl;simp only [esc,h13,E3P,l33,rV,xS,hq,hC,w2,h26,w3]
 ·refine But.trans (h':=h1) ?_ (But.trans (h':=h2) ?_ b3)
  ·refine But.trans (h':=G++[rT (B4 tab40)]) ?_ b1;rw [hG];exact ((But.refl p q h).more _).more _
  ·refine But.trans (h':=h1++[rT (encI (upto 3))]) ((But.refl p q h1).more _) b2
def E4e:okS (jY 16 8 0)=A5:=by decide +kernel
def E21:C00 (jY 16 8 0)=D7 16 8 0:=by decide +kernel
def C78 {p q:Nat} {h:B5} (k:IsDk h p q D40 3 0) :
  ∃ v h',A41 [.c (.p p 0)] h=A4 (.t [.c v,.c o0],h')/\IsDk h' p q D40 3 1:=by
 obtain ⟨h1,e1,k1,b1⟩:=D1K (no:=0) k okD40 (by rw [A5p];omega) (by omega);have kp:=C8 k1.row;have kq:=C8 k1.blk;have e0:D40[0]'(by rw [A5p];omega)=jY 16 8 0:=by unfold D40;rw [List.getElem_set_self]
 rw [e0] at e1;have hG:=λh=>A8D (b:=jY 16 8 0) (h:=h) V0
 rw [E4e,cond_true,E21] at hG;have c0:((0:Nat):Int)=0:=rfl;rw [c0] at e1;obtain ⟨T,hT⟩:∃ T:B5,T=[rT (B4 (jY 16 8 0)),rT (D7 16 8 0)]:=⟨_,rfl⟩;obtain ⟨H,hH⟩:∃ H,H=h1++T:=⟨_,rfl⟩;have kH:IsDk H p q D40 3 (0+1):=by rw [hH];exact k1.more _
 have hS:=B75 kH;have e16:(D40.length:Int)=16:=by rw [A5p];rfl
 rw [e16] at hS;have hN:∀ g,B0A [.c (.p p 0)] g=A4 (.c (.p (g.length+1) 0),g++[A4 (T8 []),rT [.p p 0,.m g.length,.ns,o0]]):=λg=>by
  refine C5p (n:=0) ?_;have ef:E6 [Cell.np,.nm,.ns,o0] [(0,1,.c (.p p 0)),(1,1,.c (.m g.length))]=A4 [.p p 0,.m g.length,.ns,o0]:=rfl;rw [C4G];simp only [esc,ef]
 have s1:E5 (h1++[rT (B4 (zeros 256))]) 256 (.c (.p h1.length 0)) (.a (B4 (jY 16 8 0)))=A4 (h1++[rT (B4 (jY 16 8 0))]):=by
  rw [storeAll (cs:=B4 (zeros 256)) (by rw [E9];rfl) (by rw [A9,zeros_length]) (by rw [A9,V0]),S3];rfl
 have l1:D4 (h1++[rT (B4 (jY 16 8 0))]) 256 (.c (.p h1.length 0))=A4 (.a (B4 (jY 16 8 0))):=C7 (by rw [E9];rfl) (by rw [A9,V0]);have s2:E5 (h1++[rT (B4 (jY 16 8 0)),rT [o0,o0,.i .u64 0]]) 3 (.c (.p (h1.length+1) 0)) (.a (D7 16 8 0))=A4 H:=by
  rw [storeAll (n:=3) (cs:=[o0,o0,.i .u64 0]) (by rw [K9];rfl) rfl rfl,nF,hH,hT];rfl
 have l2:B8 H (.c (.p (h1.length+1) 0))=A4 (.c (.i .i64 16)):=B9 (cs:=D7 16 8 0) (rw:=A5) (by rw [hH,hT,K9];rfl) rfl rfl;have l3:D4 H 3 (.c (.p (h1.length+1) 0))=A4 (.a (D7 16 8 0)):=C7 (by rw [hH,hT,K9];rfl) rfl;obtain ⟨H2,hH2⟩:∃ H2,H2=(H++[A4 (T8 []),A4 (T8 []),rT [.p p 0,.m (H.length+1),.ns,o0]])++[rT [.p (H.length+2) 0,.i .i64 16,.i .i64 8,.i .u64 0,o0,.m H.length]]:=⟨_,rfl⟩;refine ⟨.p (H.length+3) 0,H2,?_,by rw [hH2];exact (kH.more _).more _⟩
 ·refine C0t (n:=0) ?_;have hNH:=hN (H++[A7]);have qs:(H++[A7]).length+1=H.length+2:=by simp
  rw [qs] at hNH;have ef:E6 [Cell.np,o0,o0,.i .u64 0,o0,.nm] [(0,1,.c (.p (H.length+2) 0)),(1,3,.a (D7 16 8 0)),(5,1,.c (.m H.length))]=A4 [.p (H.length+2) 0,.i .i64 16,.i .i64 8,.i .u64 0,o0,.m H.length]:=rfl;rw [B9N,I9];generalize B4 (jY 16 8 0)=S at *;generalize hZ:B4 (zeros 256)=Z at *;generalize D7 16 8 0=L at *;simp only [esc,e1,s1,l1,hG,s2,l2,hS,eq_self];have hq:=D0S (h:=H++[A7]) (t:=[A4 (T8 []),rT [.p p 0,.m (H++[A7]).length,.ns,o0]]) (v:=.c (.p (H.length+2) 0)) (by simp [C7w,D7B]);simp only [E5T,E52,E6h,E6e] at hq hNH;simp only [esc] at hq hNH;simp only [esc,Nat.reduceAdd,hNH,hq,l3,ef,S3,nF,hH2]
def D4R {h:B5}:∃ p q v h',A08 [.a (D7 16 8 0)] h=A4 (.t [.c (.p p 0),.c v],h')/\IsDk h' p q D40 3 1/\h.length<=q/\h.length<=p:=by
 obtain ⟨G,hG⟩:∃ G,G=h++[rT (D7 16 8 0)]:=⟨_,rfl⟩;have lG:G.length=h.length+1:=by rw [hG];simp
 have hN:=D3x (N:=16) (h:=G) (by omega) (by omega);obtain ⟨H,hH⟩:∃ H,H=G++[rT (D5 (E5R 16 (zeros 256))),rT (dkC G.length 16 0 0)]:=⟨_,rfl⟩;rw [<-hH] at hN;have kH:IsDk H (G.length+1) G.length (E5R 16 (zeros 256)) 0 0:=by
  refine ⟨by omega,?_,?_⟩
  ·rw [hH,K9];rfl
  ·rw [hH,E9];rfl
 obtain ⟨h1,e1,k1,b1⟩:=C4b kH;obtain ⟨v,h2,e2,k2⟩:=C78 k1;refine ⟨G.length+1,G.length,v,h2,?_,k2,by omega,by omega⟩;refine C3n (n:=0) ?_;have l0:B8 G (pV h.length 0)=A4 (iV 16):=B9 (cs:=D7 16 8 0) (rw:=A5) (by rw [hG,E9];rfl) rfl rfl;have l3:D4 H 3 (pV h.length 0)=A4 (.a (D7 16 8 0)):=C7 (by rw [hH];refine C5 ?_;rw [hG,E9];rfl) rfl;have cl:cells? (.a (D7 16 8 0))=A4 (D7 16 8 0):=rfl;have c16:((16:Nat):Int)=16:=rfl;rw [c16] at hN;rw [C2X];generalize D7 16 8 0=L at *;simp only [esc,cl,<-hG,l0,hN,l3,e1,eq_self,e2]
def D1S (h:B5):wQ [.a (D7 16 8 0)] h=A4 (sV h.length 0 16 256,h++[rT (D5 D40)]):=by
 have key:∀ g,∃ v g',wN 0 [.a (D7 16 8 0)] g=A4 (v,g')/\Out g.length g' v 256 16 (D5 D40):=λg=>by
  obtain ⟨G,hG⟩:∃ G,G=g++[rT (D7 16 8 0),rT []]:=⟨_,rfl⟩;have lG:G.length=g.length+2:=by rw [hG];simp
  obtain ⟨p,q,v,h',e1,k,_,_⟩:=D4R (h:=G);have hI:=C86 k okD40 (by rw [A5p];omega);have l3:D4 G 3 (pV g.length 0)=A4 (.a (D7 16 8 0)):=C7 (by rw [hG,E9];rfl) rfl;have cl:cells? (.a (D7 16 8 0))=A4 (D7 16 8 0):=rfl;have hl:G.length<=h'.length:=(C3o _ _ _ _ e1).2.2;refine ⟨sV h'.length 0 16 256,h'++[rT (D5 D40)],?_,by rw [J4 okD40,A5p],h'.length,rfl,by omega,U5⟩;have ll:D40.length=16:=A5p;rw [ll] at hI;rw [B3h];generalize D7 16 8 0=L at *;simp only [esc,cl,<-hG,l3,e1,hI]
 obtain ⟨v,g',e,ho⟩:=key (ro h);exact B0H e (by rw [F7] at ho;exact ho) iR
def E2p:A2U D40=A5:=by decide +kernel
def E2q:A76 D40=8:=by decide +kernel
section
variable (n m m2:Nat) (h:B5)
def A0R:FD A8:=⟨px 0X118bf003018191d021ff1a0141ff2f6f181ff3c0130181901ed4e1d1751023a1ed6d6f181ed3c01306191021dd1a7f1dd701301c195021bf1a01bf1e001bf1f104891bf4f4f1bf7013018195021ad1a01ad4b4f1ad7013061910219d1a5f19d70130181910218b1a018b4b2f18b7011022783f04e10000003723ef13df21863a61b11828063d2c3cf3a001336c3b0181f1d019239f138f401182806382c2ff2d001235a2e073e48182024886544881d01c3b4a2a040229f128f201182806282c1ff1d001233a1e0775301d201300110062241890320292a1a0339420319f10011300185c3342300102,[],[.eqA A6 ([.i .i64,.i .i64,.i .i64,.i .i64,.i .i64,.i .i64,.i .i64,.i .i64]) (.t 59) (.t 60)],[.tmp 0],[E3 B5f C4p,E3 wQ A5B,E3 zO A9U,E3 tL A66,E3 A7R B4N]⟩
def A7g:=A0R.R
def C2Y:=mR A7g A0R (tT []) n [] h
def B6H:=A0R.K Tryz.func23
def A7D:=A0R.S
def B7k:F6 A7g A7D:=B6H.flat
end
def D42:Dev:=D40.set 1 (zeros 256)
def D5h:D42.length=16:=by unfold D42;rw [E6o,A5p]
def D9D:okD D42:=okD40.set zeros_length
def D8J:A2U D42=A5:=by decide +kernel
def D8L:A76 D42=8:=by decide +kernel
def E3e:T9 (uV D40 8 (J1 D40 8)) D40 0=[]:=by decide +kernel
def E3f:T9 (uV D42 8 (J1 D42 8)) D42 0=[(1,map40)]:=by decide +kernel
def E0M:A48 D42 8=[1,0,0,0,0,0,0,3]:=by decide +kernel
def B6x (h:B5):A7D [] h=A4 (bV A5,h):=by
 have key:∀ g,∃ g',A7g 0 [] g=A4 (bV A5,g'):=λg=>by
  have hF:=D1S g;obtain ⟨G,hG⟩:∃ G,G=g++[rT (D5 D40)]:=⟨_,rfl⟩;rw [<-hG] at hF;have hH:Has G (sV g.length 0 D40.length 256) 256 D40.length (D5 D40):=by rw [hG];exact Has.tr (by simp) (J4 okD40) (eZ _)
  have hP:=A8q hH okD40 E2p (by rw [A5p];omega);rw [E2q,E3e] at hP;obtain ⟨H,hHe⟩:∃ H,H=G++[rT (A2Q [])]:=⟨_,rfl⟩;rw [<-hHe] at hP;have rg:rd H g.length=rT (D5 D40):=by rw [hHe,hG];refine C5 ?_;rw [E9];rfl
  have ad1:D9 256 (sV g.length 0 16 256) (iV 1)=A4 (pV g.length 256):=rfl;have ef:E6 (B4 (zeros 256)) []=A4 (B4 (zeros 256)):=rfl;obtain ⟨K,hK⟩:∃ K,K=H.set g.length (rT (D5 D42)):=⟨_,rfl⟩;have st:E5 H 256 (pV g.length 256) (.a (B4 (zeros 256)))=A4 K:=by
   have:=A6K (i:=1) rg okD40 zeros_length (by rw [A5p];omega);rw [hK];exact this
  have rK:rd K g.length=rT (D5 D42):=by rw [hK];exact C6 (C8 rg)
  have hHK:Has K (sV g.length 0 D42.length 256) 256 D42.length (D5 D42):=Has.tr rK (J4 D9D) (eZ _);have hP2:=A8q hHK D9D D8J (by rw [D5h];omega);rw [D8L,E3f] at hP2;obtain ⟨L,hL⟩:∃ L,L=K++[rT (A2Q [(1,map40)])]:=⟨_,rfl⟩;rw [<-hL] at hP2;have hHL:Has L (sV g.length 0 D42.length 256) 256 D42.length (D5 D42):=by rw [hL];exact hHK.more _
  obtain ⟨hC,_⟩:=B4q hHL D9D D8J (by rw [D5h];omega);rw [D8L,E0M] at hC;have z8:[o0,o0,o0,o0,o0,o0,o0,o0]=encI (zI 8):=rfl;obtain ⟨Q,hQ⟩:∃ Q,Q=L++[rT (encI [1,0,0,0,0,0,0,3])]:=⟨_,rfl⟩;have s8:E5 (L++[rT (encI (zI 8))]) 8 (pV L.length 0) (.a (encI [1,0,0,0,0,0,0,3]))=A4 Q:=by
   rw [storeAll (by rw [E9];rfl) (by rfl) (by rfl),S3,hQ];rfl
  have l8:D4 Q 8 (pV L.length 0)=A4 (.a (encI [1,0,0,0,0,0,0,3])):=C7 (by rw [hQ,E9];rfl) (by rfl);have hw:Has Q (sV K.length 0 [((1:Int),map40)].length 257) 257 [((1:Int),map40)].length (A2Q [(1,map40)]):=by
   have hok:okW [(1,map40)]:=λx hx=>by simp at hx;subst hx;exact A1r
   rw [hQ,hL];exact (Has.tr (by rw [E9];rfl) (A0n hok) (D31 _)).more _
  obtain ⟨_,_,e1,_,a1,_,b1⟩:=E2w hw (λx hx=>by simp at hx;subst hx;exact A1r) (i:=0) (by decide);cases e1;have ef2:E6 (encI (zI 8)) [(0,1,iV 1),(7,1,iV 3)]=A4 (encI [1,0,0,0,0,0,0,3]):=rfl;have eq:=C6d (l:=[1,0,0,0,0,0,0,3]) (m:=[1,0,0,0,0,0,0,3]) (n:=8) rfl rfl;have er:E5R 8 (Sh.i .i64)=[Sh.i .i64,.i .i64,.i .i64,.i .i64,.i .i64,.i .i64,.i .i64,.i .i64]:=rfl;rw [er,decide_eq_true rfl] at eq;have hS:=C2F (x:=[1,0,0,0,0,0,0,3]) (h:=Q) rfl (by decide);have es:[1,0,0,0,0,0,0,3].tail.sum=(3:Int):=by decide
  rw [es] at hS;rw [A5p] at hP;rw [D5h] at hP2 hC;have c16:((16:Nat):Int)=16:=rfl;have c0:((0:Nat):Int)=0:=rfl;have c1:((1:Nat):Int)=1:=rfl;have l0:([]:List Wr).length=0:=rfl;have l1:[((1:Int),map40)].length=1:=rfl;rw [l0] at hP;rw [l1] at hP2 a1;rw [c0] at a1;have b1':B8 Q (pV K.length 0)=A4 (iV 1):=b1;have a1':D9 257 (sV K.length 0 1 257) (iV 0)=A4 (pV K.length 0):=a1;rw [C2Y,I9,z8];generalize encI [1,0,0,0,0,0,0,3]=R at *;generalize encI (zI 8)=Z at *;generalize B4 (zeros 256)=W at *;exact ⟨Q,by simp only [esc,D9k,hF,c16,hP,ef,ad1,st,hP2,hC,s8,c0,c1,a1',b1',l8,ef2,eq,hS,eq_self]⟩
 obtain ⟨g',e⟩:=key (ro h);exact B7k e rfl
section
variable (n m m2:Nat) (a0 x3 x4 x7 x8 x9:Val) (h:B5)
def Z7:FD A8:=⟨px 0X11a8f2030419002bd2f01301a190422a91a28e2a970152a92f3f182a93c0130581911cf4e7f181cf3c0176161a151e142a132e123a113e10183a1cf6d01cf1e73f1cf1f01cf1e63f1cf1f01cf1e53f1cf1f01cf1e43f1cf1f01cf1e33f1cf1f01cf1e23f1cf1f01cf1e13f1cf1f01cf1e03f1cf1f0110224f690495000002725bf190500218a5a031868f180018020407f1182d19811985c06181551307024490127e58021ab4203006055112b420311129424ff21863a71b042435f31874d051f19701d2014cf20304190018d2f0130181907b4e03a7b6d6e187b3c016d0225e11b5000002722403f4e39026d4241338f12ff2362a51b11828062f2c2ef2c0013372d0181d1b1822bf12af21863a31b11a280182a2c29f1e00123011371f019197401d2011df20003250062243e905202971a033942033201042,[],[.eqA A6 ([.i .i64,.i .i64,.i .i64,.i .i64,.i .i64,.i .i64,.i .i64,.i .i64]) (.t 30) (.t 31),.eqA A6 ([.i .i64,.i .i64,.i .i64,.i .i64,.i .i64,.i .i64,.i .i64,.i .i64]) (.t 68) (.t 69)],[.tmp 2],[E3 A7D B6H,E3 B9S C9L,E3 tL A66,E3 A4Q B3y,E3 A7O B6P,E3 A7R B4N]⟩
def sX:=Z7.R
def A2r:AtH:=Z7.lj 0 n [m] [x3,x4,x7,x8,x9]
def A3L:=tT [⟨2,5,A2r⟩]
def A97:=mR sX Z7 A3L n [a0] h
def vP:=mL Z7 A3L 0 n [m] [x3,x4,x7,x8,x9] h
def A3j:=Z7.K Tryz.func6
def tG:=Z7.S
def B0I:SOk A8 6 tG:=A3j.sok
def A7C:F6 sX tG:=A3j.flat
end
def E22 {X:B5} {s:List Int} {p r q:Nat} (hp:rd X p=rT (encI s)) (hr:rd X r=rT (encI s)) (hB:BndR s 1000000) :
  ∀ (e k M:Nat) (x:Int),k+e=8->1<=k->e<M->0<=x->x<=1000000*k->x=(s.tail.take (k-1)).sum ->
  ∃ g',A2r q M (pV p 0) (iV 0) (pV r 0) (iV x) (iV (k:Int)) X=A4 (bV A5,g'):=by
 intro e;have hl:=hB.1
 induction e with
 | zero =>
  intro k M x hk h1 hM hx0 hx1 hx;obtain ⟨M,rfl⟩:∃ M',M=M'+1:=⟨M-1,by omega⟩;have ek:k=8:=by omega
  subst ek;have c0:¬ ((8:Nat):Int)<8:=by omega
  have es:s.tail.take 7=s.tail:=E53 (by rw [List.length_tail];omega);rw [show 8-1=7 from rfl,es] at hx;have hS:=C2F (x:=s) (h:=X) hl (λa ha=>by have:=hB.2 a ha;omega);rw [<-hx] at hS;have l0:B8 X (pV p 0)=A4 (iV (s.getD 0 0)):=T0 hp hl (k:=0) (by omega);have l1:=T0 hp hl (k:=1) (by omega);have l2:=T0 hp hl (k:=2) (by omega);have l3:=T0 hp hl (k:=3) (by omega);have l4:=T0 hp hl (k:=4) (by omega);have l5:=T0 hp hl (k:=5) (by omega);have l6:=T0 hp hl (k:=6) (by omega);have l7:=T0 hp hl (k:=7) (by omega);have ef:E6 [o0,o0,o0,o0,o0,o0,o0,o0] [(0,1,iV (s.getD 0 0)),(1,1,iV (s.getD 1 0)),(2,1,iV (s.getD 2 0)),(3,1,iV (s.getD 3 0)),(4,1,iV (s.getD 4 0)),(5,1,iV (s.getD 5 0)),(6,1,iV (s.getD 6 0)),(7,1,iV (s.getD 7 0))]=A4 (encI s):=by
   match s,hl with
   | [_,_,_,_,_,_,_,_],_=>rfl
  have r8:D4 X 8 (pV r 0)=A4 (.a (encI s)):=C7 hr (by rw [B7,hl]);have p8:D4 X 8 (pV p 0)=A4 (.a (encI s)):=C7 hp (by rw [B7,hl]);have eq:=C6d (l:=s) (m:=s) (n:=8) hl hl;have er:E5R 8 (Sh.i .i64)=[Sh.i .i64,.i .i64,.i .i64,.i .i64,.i .i64,.i .i64,.i .i64,.i .i64]:=rfl;rw [er,decide_eq_true rfl] at eq;rw [vP];generalize encI s=E at *;exact ⟨_,by simp only [esc,eq_self,c0,l0,l1,l2,l3,l4,l5,l6,l7,ef,r8,eq,p8,hS,B6x]<;>rfl⟩
 | succ e ih =>
  intro k M x hk h1 hM hx0 hx1 hx;obtain ⟨M,rfl⟩:∃ M',M=M'+1:=⟨M-1,by omega⟩;have c0:(k:Int)<8:=by omega
  have a8:I3 8 1 (pV r 0) (iV (k:Int))=A4 (pV r k):=by rw [J5 (by omega)];simp
  have lk:=T0 hr hl (k:=k) (by omega);have hb:=hB.at (k:=k) (by omega);have w0:E5U .i64 (x+s.getD k 0)=x+s.getD k 0:=wrap_i64 (by omega) (by omega);have w1:=D3 (show k+1<9223372036854775808 by omega);have hk1:k-1<s.tail.length:=by rw [List.length_tail];omega
  have et:(s.tail.take (k+1-1)).sum=(s.tail.take (k-1)).sum+s.getD k 0:=by
   rw [show k+1-1=(k-1)+1 by omega,E58 hk1,List.sum_append];have:s.tail[k-1]=s.getD k 0:=by
    rw [List.getElem_tail,E5Z,E5P (by omega)];simp only [show k-1+1=k by omega];rfl
   rw [this];simp
  obtain ⟨g',f1⟩:=ih (k+1) M (x+s.getD k 0) (by omega) (by omega) (by omega) (by omega) (by omega) (by rw [et,hx]);refine ⟨g',?_⟩;rw [vP];simp only [esc,c0,a8,lk,w0,w1];exact f1
def C9s {v:Val} {D:Dev} {h:B5} (hv:Has h v 256 D.length (D5 D)) (hD:okD D):tG [v] h=A4 (bV A5,h):=by
 have key:∀ g,Has g v 256 D.length (D5 D)->∃ g',sX 100 [v] g=A4 (bV A5,g'):=by
  intro g hv;have hl:=hv.len;have z8:[o0,o0,o0,o0,o0,o0,o0,o0]=encI (zI 8):=rfl;rw [A97];by_cases c0:(60:Int)<(D.length:Nat)
  ·exact ⟨_,by simp only [esc,hl,c0,B6x]<;>rfl⟩
  ·have hT:=E4t hv hD (by omega);obtain ⟨G,hG⟩:∃ G,G=g++[rT (D5 D)]:=⟨_,rfl⟩;rw [<-hG] at hT;have hH:Has G (sV g.length 0 D.length 256) 256 D.length (D5 D):=by rw [hG];exact Has.tr (by simp) (J4 hD) (eZ D)
   have hvG:Has G v 256 D.length (D5 D):=by rw [hG];exact hv.more _
   cases cd:A2U D with
   | false =>
    have hC:=C7u hH hD cd;have hLy:=A9q (h:=G++[rT (encI (zI 8))]) (hvG.more _) hD;rw [cd,cond_false] at hLy;have hLl:(D7 0 0 0).length=3:=rfl;have z3:[o0,o0,.i .u64 0].length=3:=rfl;have l8:(encI (zI 8)).length=8:=rfl;have ef:E6 (encI (zI 8)) []=A4 (encI (zI 8)):=rfl;have eq:=C6d (l:=zI 8) (m:=zI 8) (n:=8) rfl rfl;have er:E5R 8 (Sh.i .i64)=[Sh.i .i64,.i .i64,.i .i64,.i .i64,.i .i64,.i .i64,.i .i64,.i .i64]:=rfl;rw [er,decide_eq_true rfl] at eq;rw [z8];generalize hL0:D7 0 0 0=L at *;generalize encI (zI 8)=Z at *;exact ⟨_,by simp only [esc,esh,eq_self,hl,c0,hT,hC,hLy,hLl,z3,l8,ef,eq,B6x]<;>rfl⟩
   | true =>
    have hm:=C6J cd;obtain ⟨hC,hB⟩:=B4q hH hD cd (by omega);have hLy:=λh hv=>A9q (v:=v) (D:=D) (h:=h) hv hD
    rw [cd,cond_true] at hLy;obtain ⟨n,en⟩:∃ n,n=A76 D:=⟨_,rfl⟩;rw [<-en] at hC hB hm hLy;generalize D3w D=m at *;obtain ⟨s,es⟩:∃ s,s=A48 D n:=⟨_,rfl⟩;have hRC:=λh hv=>D7N (v:=v) (D:=D) (n:=n) (m:=m) (h:=h) hv hD hm
    rw [<-es] at hC hB hRC;have sl:(encI s).length=8:=by rw [B7,hB.1]
    obtain ⟨H,hH2⟩:∃ H,H=G++[rT (encI s)]:=⟨_,rfl⟩;have s8:E5 (G++[rT (encI (zI 8))]) 8 (pV G.length 0) (.a (encI s))=A4 H:=by
     rw [storeAll (by rw [E9];rfl) (by rfl) sl,S3,hH2];rfl
    have hvH:Has H v 256 D.length (D5 D):=by rw [hH2];exact hvG.more _
    have E4N:=hLy H hvH;obtain ⟨B,hBe⟩:∃ B,B=H++[rT (D7 D.length n m)]:=⟨_,rfl⟩;have hs3:E5 (H++[rT [o0,o0,.i .u64 0]]) 3 (pV H.length 0) (.a (D7 D.length n m))=A4 B:=by
     rw [storeAll (n:=3) (cs:=[o0,o0,.i .u64 0]) (by rw [E9];rfl) rfl rfl,S3,hBe];rfl
    have y3:D4 B 3 (pV H.length 0)=A4 (.a (D7 D.length n m)):=C7 (by rw [hBe,E9];rfl) rfl;have hR:=hRC B (by rw [hBe];exact hvH.more _);obtain ⟨X,hX⟩:∃ X,X=B++[rT (encI s)]:=⟨_,rfl⟩;have t8:E5 (B++[rT (encI (zI 8))]) 8 (pV B.length 0) (.a (encI s))=A4 X:=by
     rw [storeAll (by rw [E9];rfl) (by rfl) sl,S3,hX];rfl
    obtain ⟨g',e1⟩:=E22 (X:=X) (s:=s) (p:=G.length) (r:=B.length) (q:=100) (by rw [hX,hBe,hH2];refine C5 (C5 ?_);rw [E9];rfl) (by rw [hX,E9];rfl) hB 7 1 100 0 (by omega) (by omega) (by omega) (by omega) (by omega) (by simp);have z1:((1:Nat):Int)=1:=rfl;rw [z1] at e1;refine ⟨g',?_⟩;rw [z8];generalize hLL:D7 D.length n m=Ly at *;generalize encI (zI 8)=Z at *;generalize encI s=E at *;simp only [esc,hl,c0,hT,hC,s8,E4N,hs3,y3,hR,t8];exact e1
 obtain ⟨g',e⟩:=key (ro h) hv.ro;exact A7C e rfl
section
def A8C:List Char:=(([104,97,114,110,101,115,115,32,56,100,99,52,54,56,52,49,50,50,98,56,100,56,57,54,55,55,57,56,55,57,56,97,56,55,97,99,49,97,56,54,53,57,102,48,52,55,97,57,97,50,51,49,56,55,101,102,53,55,49,51,51,97,53,52,102,98,56,99,49,101,56,100,32,99,117,116,32,97,116,32,101,115,99,104,101,97,116,47,101,115,99,104,101,97,116,108,97,119,52,49,46,67,108,97,105,109,79,102,32,101,115,99,104,101,97,116,47,101,115,99,104,101,97,116,108,97,119,52,49,46,67,108,97,105,109,73,109,97,103,101,32,101,115,99,104,101,97,116,47,101,115,99,104,101,97,116,108,97,119,52,50,46,77,101,110,100,80,108,97,110,115,32,101,115,99,104,101,97,116,47,101,115,99,104,101,97,116,108,97,119,52,50,46,77,101,110,100,67,111,117,110,116,115,32,101,115,99,104,101,97,116,47,101,115,99,104,101,97,116,108,97,119,52,50,46,77,101,110,100,67,117,116,115,32,101,115,99,104,101,97,116,47,101,115,99,104,101,97,116,108,97,119,52,49,46,67,108,97,105,109,82,105,103,104,116,32,101,115,99,104,101,97,116,47,101,115,99,104,101,97,116,108,97,119,52,49,46,67,108,97,105,109,75,101,101,112,115,32,101,115,99,104,101,97,116,47,101,115,99,104,101,97,116,108,97,119,52,50,46,77,101,110,100,87,104,111,108,101]:List Nat).map Char.ofNat)
set_option maxRecDepth 100000
def E3d:ownKnob Tryz.prog.godebug=A7:=by kernel_rfl
def E04:laidOutB A8=A5:=by kernel_rfl
def start_eq:Tryz.prog.initOrder=String.ofList A8C:=by kernel_rfl
def D5O:Tryz.prog.initOrder.toList=A8C:=by rw [start_eq,String.toList_ofList]
def startRest:List (List Char):=(([[99,117,116],[97,116],[101,115,99,104,101,97,116,47,101,115,99,104,101,97,116,108,97,119,52,49,46,67,108,97,105,109,79,102],[101,115,99,104,101,97,116,47,101,115,99,104,101,97,116,108,97,119,52,49,46,67,108,97,105,109,73,109,97,103,101],[101,115,99,104,101,97,116,47,101,115,99,104,101,97,116,108,97,119,52,50,46,77,101,110,100,80,108,97,110,115],[101,115,99,104,101,97,116,47,101,115,99,104,101,97,116,108,97,119,52,50,46,77,101,110,100,67,111,117,110,116,115],[101,115,99,104,101,97,116,47,101,115,99,104,101,97,116,108,97,119,52,50,46,77,101,110,100,67,117,116,115],[101,115,99,104,101,97,116,47,101,115,99,104,101,97,116,108,97,119,52,49,46,67,108,97,105,109,82,105,103,104,116],[101,115,99,104,101,97,116,47,101,115,99,104,101,97,116,108,97,119,52,49,46,67,108,97,105,109,75,101,101,112,115],[101,115,99,104,101,97,116,47,101,115,99,104,101,97,116,108,97,119,52,50,46,77,101,110,100,87,104,111,108,101]]:List (List Nat)).map (λl=>l.map Char.ofNat))
def E0i:wordsSigns A8C=(([104,97,114,110,101,115,115]:List Nat).map Char.ofNat)::(([56,100,99,52,54,56,52,49,50,50,98,56,100,56,57,54,55,55,57,56,55,57,56,97,56,55,97,99,49,97,56,54,53,57,102,48,52,55,97,57,97,50,51,49,56,55,101,102,53,55,49,51,51,97,53,52,102,98,56,99,49,101,56,100]:List Nat).map Char.ofNat)::startRest:=by kernel_rfl
def E3w:isSumSigns ((([56,100,99,52,54,56,52,49,50,50,98,56,100,56,57,54,55,55,57,56,55,57,56,97,56,55,97,99,49,97,56,54,53,57,102,48,52,55,97,57,97,50,51,49,56,55,101,102,53,55,49,51,51,97,53,52,102,98,56,99,49,101,56,100]:List Nat).map Char.ofNat))=A5:=by decide +kernel
def D5a : ((([104, 97, 114, 110, 101, 115, 115] : List Nat).map Char.ofNat) == "harness".toList) = true := by decide +kernel
def D4S (h s : List Char) (r : List (List Char)) (h1 : (h == "harness".toList) = true) (h2 : isSumSigns s = true) : behindMainWord (h :: s :: r) = r := by
 unfold behindMainWord;simp only [h1,h2,Bool.true_or,E55,if_true]
def D6Y:behindMainWord (wordsSigns A8C)=startRest:=by rw [E0i];exact D4S _ _ _ D5a E3w
def start_words:behindMainWord (wordsSigns Tryz.prog.initOrder.toList)=startRest:=by rw [D5O];exact D6Y
def D71:List (List Char):=startRest.drop 1
def D2x : startRest = "cut".toList :: D71 := by decide +kernel
def D9u {P : Program} {rest : List (List Char)} (h : behindMainWord (wordsSigns P.initOrder.toList) = "cut".toList :: rest) : P.make = some .cut := by
 have e1 : ("cut".toList == "gc".toList) = false := by decide +kernel
 have e2 : ("cut".toList == "spec".toList) = false := by decide +kernel
 have e3 : ("cut".toList == "cut".toList) = true := by decide +kernel
 unfold Program.make;rw [h];simp only [e1,e2,e3,Bool.or_self,Bool.true_or,Bool.false_eq_true,if_false,if_true]
def E07:Tryz.prog.make=A4 .cut:=D9u (start_words.trans D2x)
def C8a {w:List Char} {ws:List (List Char)}:∀ os:List String,(os.all λo=>!(w==o.toList))=A5->stripLifts os (w::ws)=([],w::ws)
 | [],_=>rfl
 | o::os,h=>by
  simp only [E6B,E5S,E6I] at h;unfold stripLifts;rw [h.1,if_neg (by simp)];exact C8a os h.2
def D08 (rest : List (List Char)) : stripLifts liftWords ("cut".toList :: rest) = ([], "cut".toList :: rest) := C8a _ (by decide +kernel)
def D9j:Tryz.prog.laysLater=A6:=by kernel_rfl
def D5C:Tryz.prog.bearsReflect=A6:=by kernel_rfl
def E0R:Tryz.prog.doorFits []=A5:=by kernel_rfl
def D68 {P : Program} {rest : List (List Char)} (h : behindMainWord (wordsSigns P.initOrder.toList) = "cut".toList :: rest) (h1 : P.laysLater = false) (h2 : P.bearsReflect = false) (h3 : P.doorFits [] = true) : P.mayEnter = true := by
 unfold Program.mayEnter;rw [h];simp only [D08,h1,h2,h3];simp
def D3U:Tryz.prog.mayEnter=A5:=D68 (start_words.trans D2x) D9j D5C E0R
def D7r {P : Program} {rest : List (List Char)} (h : behindMainWord (wordsSigns P.initOrder.toList) = "cut".toList :: rest) : P.liftsFinal = false := by
 unfold Program.liftsFinal Program.headLifts;rw [h];simp only [D08];simp
def D9q:Tryz.prog.liftsFinal=A6:=D7r (start_words.trans D2x)
end
end Go.Proofs.YtbnkgnfhgbhblaaGreat
