/- What the proof of this claim leans on, part 5. -/
import Derived.Test.YteckncopbicmcaaGreatFMendAppliesp4
set_option linter.all false
namespace Go.Proofs.YteckncopbicmcaaGreat
open Go Go.Esc
section
def C0i (D:Dev) (n:Int) (d:List Int):Nat->Nat->Cl × List Int->Cl × List Int
 | 0,_,s=>s
 | e+1,k,s=>C0i D n d e (k+1) (A3N D n s.1 (d.getD k 0),s.2.set k (wX D n s.1 (d.getD k 0)))
def C4k (D:Dev) (n:Int) (d:List Int) (many:Int) (s:Cl × List Int):Cl × List Int :=
 if 6<many then (A3N D n s.1 (d.getD 6 0),s.2.set 6 (wX D n s.1 (d.getD 6 0))) else s
def sX (D:Dev) (n:Int) (c:Cl) (ino:Int):Cl × List Int:=C4k D n (drV D n ino) (B2l (szV D n ino)) (C0i D n (drV D n ino) (min (B2l (szV D n ino)) 6).toNat 0 (c,zI 7))
def dL (D:Dev) (n:Int) (c:Cl) (ino:Int):Cl:={ (sX D n c ino).1 with ino:=(sX D n c ino).1.ino.set ino.toNat (1::1::szV D n ino::0::(sX D n c ino).2) }
def A2J (D:Dev) (n:Int) (c:Cl) (ino:Int):Cl :=
 if (sX D n c ino).2.getD 6 0=0 then dL D n c ino else
  A1E (xD D n (B2l (szV D n ino)) 128 0 (dL D n c ino,blk D ((sX D n c ino).2.getD 6 0))).1 ((sX D n c ino).2.getD 6 0) (xD D n (B2l (szV D n ino)) 128 0 (dL D n c ino,blk D ((sX D n c ino).2.getD 6 0))).2
structure SameC (c c':Cl):Prop where
 row:c'.row=c.row
 ino:c'.ino=c.ino
 blocks:c'.blocks=c.blocks
 made:c'.made=c.made
 lost:c'.lost=c.lost
 lnk:c'.lnk=c.lnk
 par:c'.par=c.par
theorem SameC.rfl' (c:Cl):SameC c c:=⟨rfl,rfl,rfl,rfl,rfl,rfl,rfl⟩
theorem SameC.trans {a b c:Cl} (x:SameC a b) (y:SameC b c):SameC a c:=⟨y.row.trans x.row,y.ino.trans x.ino,y.blocks.trans x.blocks,y.made.trans x.made,y.lost.trans x.lost,y.lnk.trans x.lnk,y.par.trans x.par⟩
theorem A0J (D:Dev) (n:Int) (c:Cl) (no:Int):SameC c (A3N D n c no):=by
 unfold A3N;cases D0Y D n c no<;>exact ⟨rfl,rfl,rfl,rfl,rfl,rfl,rfl⟩
theorem C7w {D:Dev} {n many:Int} {s:Cl × List UInt8} {k:Nat}:SameC s.1 (A6T D n many s k).1:=by
 unfold A6T;split
 ·exact .rfl' _
 ·dsimp only;split
  ·exact A0J ..
  ·exact .rfl' _
theorem A58 {D:Dev} {n many:Int}:∀ {e k:Nat} {s:Cl × List UInt8},SameC s.1 (xD D n many e k s).1
 | 0,_,s=>.rfl' _
 | e+1,k,s=>by
  rw [xD];exact (C7w).trans A58
theorem B6o {D:Dev} {n:Int} {d:List Int}:∀ {e k:Nat} {s:Cl × List Int},SameC s.1 (C0i D n d e k s).1/\(C0i D n d e k s).2.length=s.2.length
 | 0,_,s=>⟨.rfl' _,rfl⟩
 | e+1,k,s=>by
  rw [C0i];have:=B6o (D:=D) (n:=n) (d:=d) (e:=e) (k:=k+1) (s:=(A3N D n s.1 (d.getD k 0),s.2.set k (wX D n s.1 (d.getD k 0))));exact ⟨(A0J ..).trans this.1,by rw [this.2];simp⟩
theorem C9C {D:Dev} {n many:Int} {d:List Int} {s:Cl × List Int}:SameC s.1 (C4k D n d many s).1/\(C4k D n d many s).2.length=s.2.length:=by
 unfold C4k;split
 ·exact ⟨A0J ..,by simp⟩
 ·exact ⟨.rfl' _,rfl⟩
theorem B2v {D:Dev} {n ino:Int} {c:Cl}:SameC c (sX D n c ino).1/\(sX D n c ino).2.length=7:=by
 unfold sX;have h1:=B6o (D:=D) (n:=n) (d:=drV D n ino) (e:=(min (B2l (szV D n ino)) 6).toNat) (k:=0) (s:=(c,zI 7));have h2:=C9C (D:=D) (n:=n) (d:=drV D n ino) (many:=B2l (szV D n ino)) (s:=C0i D n (drV D n ino) (min (B2l (szV D n ino)) 6).toNat 0 (c,zI 7));exact ⟨h1.1.trans h2.1,by rw [h2.2,h1.2];rfl⟩
section
variable {D:Dev} {n m:Int} {f:Cell} {g:A4} {r:Nat} {c:Cl} {h:A4}
theorem C3c {ino lim kd ln sz pa many:Int} {d:List Int} {pb pw pi pm q:Nat} {h0:A4} (h0g:g.length<=h0.length) (a0:h0.length<=pi) (n1:pi≠pb) (n2:pi≠pw) (n3:pi≠pm) (hd:d.length=7) (D6E:lim<=6) :
  ∀ (e k M:Nat) (s:Cl × List Int) (h:A4),(k:Int)+e=lim->e<M->s.2.length=7->WP D n m f g r s.1 h->Fr r h0 h->LocV h r pb [.p r 0]->LocV h r pw (G9 kd ln sz pa d)->LocV h r pi (G9 1 1 sz 0 s.2)->LocV h r pm [.i .i64 many] ->
  ∃ M' h',R7 q M (.c (.i .i64 ino)) (.c (.p pb 0)) (.c (.p pw 0)) (.c (.p pi 0)) (.c (.p pm 0)) (.c (.i .i64 lim)) (.c (.i .i64 (k:Int))) h=R7 q (M'+1) (.c (.i .i64 ino)) (.c (.p pb 0)) (.c (.p pw 0)) (.c (.p pi 0)) (.c (.p pm 0)) (.c (.i .i64 lim)) (.c (.i .i64 lim)) h' /\
   WP D n m f g r (C0i D n d e k s).1 h'/\Fr r h0 h'/\LocV h' r pb [.p r 0]/\LocV h' r pw (G9 kd ln sz pa d)/\LocV h' r pi (G9 1 1 sz 0 (C0i D n d e k s).2)/\LocV h' r pm [.i .i64 many]
 | e,k,0,s,h,_,hM,_,_,_,_,_,_,_=>by omega
 | 0,k,M+1,s,h,hk,hM,hs,P,F,hb,hw,hi,hm=>by
  have:(k:Int)=lim:=by omega
  rw [this];exact ⟨M,h,rfl,P,F,hb,hw,hi,hm⟩
 | e+1,k,M+1,s,h,hk,hM,hs,P,F,hb,hw,hi,hm=>by
  have c0:(k:Int)<lim:=by omega
  have hk6:k<6:=by omega
  have w1:=E8 (show k+1<9223372036854775808 by omega);have lb:A7 h (.c (.p pb 0))=some (.c (.p r 0)):=C1 hb.2 rfl rfl;have ad:∀ p,D8 6 1 (.c (.p p 4)) (.c (.i .i64 (k:Int)))=some (.c (.p p (4+k))):=fun p=>by
   rw [I7 hk6];simp
  have lw:A7 h (.c (.p pw (4+k)))=some (.c (.i .i64 (d.getD k 0))):=by
   refine C1 hw.2 ?_ rfl;rw [Nat.add_comm];simp only [G9,List.getElem?_cons_succ];rw [H9,List.getD_eq_getElem?_getD,List.getElem?_eq_getElem (by omega)];rfl
  obtain ⟨h1,f1,f2,f3⟩:=B4v (no:=d.getD k 0) P;have hb1:=hb.fr f3;have hw1:=hw.fr f3;have hm1:=hm.fr f3;have hi1:=hi.fr f3;have S3:(G9 1 1 sz 0 s.2).length=11:=by simp [G9,B9,hs]
  have s1:=G3 (x:=.i .i64 (wX D n s.1 (d.getD k 0))) (off:=4+k) hi1.2 (by rw [S3];omega);have es:(G9 1 1 sz 0 s.2).set (4+k) (.i .i64 (wX D n s.1 (d.getD k 0)))=G9 1 1 sz 0 (s.2.set k (wX D n s.1 (d.getD k 0))):=by
   rw [Nat.add_comm];simp only [G9,List.set_cons_succ,rP]
  rw [es] at s1;obtain ⟨M',h',e1,e2⟩:=C3c (q:=q) (ino:=ino) (lim:=lim) (kd:=kd) (ln:=ln) (sz:=sz) (pa:=pa) (many:=many) h0g a0 n1 n2 n3 hd D6E e (k+1) M (A3N D n s.1 (d.getD k 0),s.2.set k (wX D n s.1 (d.getD k 0))) _ (by omega) (by omega) (by simp [hs]) (f2.set hi1.1 (by omega)) ((F.trans f3).set hi1.1 a0) (hb1.set n1 hi1.1.2.1) (hw1.set n2 hi1.1.2.1) hi1.self (hm1.set n3 hi1.1.2.1);refine ⟨M',h',?_,e2⟩;rw [fP];simp only [esc,c0,lb,ad,lw,f1,s1,w1];exact e1
theorem D3b {ino:Int} (hD:okD D) (hv:IsView g f D) (P:WP D n m f g r c h) (h1:c.blocks.length<=100000) (h2:c.made.length<=100000) (i0:0<=ino) (i1:ino.toNat<c.ino.length) :
  ∃ h',U0 [.c (.p r 0),.c (.i .i64 ino)] h=some (.t [],h')/\WP D n m f g r (A2J D n c ino) h'/\Fr r h h':=by
 have hv2:=hv.get;obtain ⟨k,rfl⟩:=Int.eq_ofNat_of_zero_le i0;rw [Int.toNat_natCast] at i1;obtain ⟨I,hI⟩:∃ I,I=G9 (kdV D n k) (lnV D n k) (szV D n k) (paV D n k) (drV D n k):=⟨_,rfl⟩;have hIl:I.length=11:=by rw [hI];simp [G9,B9,tV]
 have hVI:=fun t=>nE (n:=n) (m:=m) (i:=(k:Int)) (h:=h++t) hD ((hv.since P.lo).more t)
 rw [B4n,<-hI] at hVI;have lV:=(P.more hv2 [some (Row.mk [Cell.p r 0] true)]).view;obtain ⟨z,hz⟩:∃ z,z=G9 1 1 (szV D n k) 0 (zI 7):=⟨_,rfl⟩;have xX:z.length=11:=by rw [hz];rfl
 have z11:[Cell.i .i64 0,.i .i64 0,.i .i64 0,.i .i64 0,.i .i64 0,.i .i64 0,.i .i64 0,.i .i64 0,.i .i64 0,.i .i64 0,.i .i64 0].length=11:=rfl;have ef:C7 [Cell.i .i64 0,.i .i64 0,.i .i64 0,.i .i64 0,.i .i64 0,.i .i64 0,.i .i64 0,.i .i64 0,.i .i64 0,.i .i64 0,.i .i64 0] [(0,1,.c (.i .i64 1)),(1,1,.c (.i .i64 1)),(2,1,.c (.i .i64 (szV D n k)))]=some z:=by rw [hz];rfl
 have I2:I[2]?=some (.i .i64 (szV D n k)):=by rw [hI];rfl
 have hBl:=fun h=>B8A (n:=szV D n k) (h:=h)
 have eB:(if szV D n k<1 then (0:Int) else if 34304<szV D n k then 134 else (szV D n k+255)/256)=B2l (szV D n k):=rfl;rw [eB] at hBl;have hmr:0<=B2l (szV D n k):=by unfold B2l;split<;>(try split)<;>omega
 obtain ⟨many,D1x⟩:∃ many,many=B2l (szV D n k):=⟨_,rfl⟩;rw [<-D1x] at hBl hmr;have D6G:A7r (.c (.i .i64 many)) (.c (.i .i64 6))=some (.c (.i .i64 (min many 6))):=by
  simp only [A7r];rw [show (if (6:Int)<many then 6 else many)=min many 6 by split<;>omega]
 obtain ⟨T,hT⟩:∃ T,T=[some (Row.mk [Cell.p r 0] true),some (Row.mk I true),some (Row.mk z true),some (Row.mk [Cell.i .i64 many] true)]:=⟨_,rfl⟩;have P1:=P.more hv2 T;have F1:Fr r h (h++T):=Fr.low ((Low.refl (Nat.le_refl _)).new _) P.rlt;have L0:LocV (h++T) r h.length [.p r 0]:=LocV.new (k:=0) hv2 P (by rw [hT];rfl);have L1:LocV (h++T) r (h.length+1) I:=LocV.new (k:=1) hv2 P (by rw [hT];rfl);have L2:LocV (h++T) r (h.length+2) z:=LocV.new (k:=2) hv2 P (by rw [hT];rfl);have L3:LocV (h++T) r (h.length+3) [.i .i64 many]:=LocV.new (k:=3) hv2 P (by rw [hT];rfl);rw [hI] at L1;rw [hz] at L2;obtain ⟨M',hA,e1,PA,FA,A0,A1,A2,A3⟩:=C3c (q:=200) (ino:=(k:Int)) (lim:=min many 6) P.lo.2.1 (show h.length<=h.length+2 by omega) (by omega) (by omega) (by omega) tV (by omega) (min many 6).toNat 0 200 (c,zI 7) (h++T) (by omega) (by omega) rfl P1 F1 L0 L1 L2 L3;obtain ⟨s,hs⟩:∃ s,s=C0i D n (drV D n k) (min many 6).toNat 0 (c,zI 7):=⟨_,rfl⟩;have hsame:=B6o (D:=D) (n:=n) (d:=drV D n k) (e:=(min many 6).toNat) (k:=0) (s:=(c,zI 7));rw [<-hs] at PA A2 hsame;have hs7:s.2.length=7:=hsame.2;have lb:A7 hA (.c (.p h.length 0))=some (.c (.p r 0)):=C1 A0.2 rfl rfl;have lm:A7 hA (.c (.p (h.length+3) 0))=some (.c (.i .i64 many)):=C1 A3.2 rfl rfl;have step:∃ hB,R7 200 (M'+1) (.c (.i .i64 (k:Int))) (.c (.p h.length 0)) (.c (.p (h.length+1) 0)) (.c (.p (h.length+2) 0)) (.c (.p (h.length+3) 0)) (.c (.i .i64 (min many 6))) (.c (.i .i64 (min many 6))) hA =
   Z4 200 (.c (.i .i64 (k:Int))) (.c (.p h.length 0)) (.c (.p (h.length+2) 0)) (.c (.p (h.length+3) 0)) hB/\WP D n m f g r (C4k D n (drV D n k) many s).1 hB/\Fr r h hB/\LocV hB r h.length [.p r 0]/\LocV hB r (h.length+2) (G9 1 1 (szV D n k) 0 (C4k D n (drV D n k) many s).2)/\LocV hB r (h.length+3) [.i .i64 many]:=by
  have c0:¬ (min many 6<min many 6):=by omega
  unfold C4k;by_cases c6:6<many
  ·rw [if_pos c6];have lw:A7 hA (.c (.p (h.length+1) 10))=some (.c (.i .i64 ((drV D n k).getD 6 0))):=by
    refine C1 A1.2 ?_ rfl;simp only [G9,List.getElem?_cons_succ];rw [H9,List.getD_eq_getElem?_getD,List.getElem?_eq_getElem (by rw [tV];omega)];rfl
   obtain ⟨h1,f1,f2,f3⟩:=B4v (no:=(drV D n k).getD 6 0) PA;have B0:=A0.fr f3;have B2:=A2.fr f3;have B3:=A3.fr f3;have S3:(G9 1 1 (szV D n k) 0 s.2).length=11:=by simp [G9,B9,hs7]
   have s1:=G3 (x:=.i .i64 (wX D n s.1 ((drV D n k).getD 6 0))) (off:=10) B2.2 (by rw [S3];omega);have es:(G9 1 1 (szV D n k) 0 s.2).set 10 (.i .i64 (wX D n s.1 ((drV D n k).getD 6 0)))=G9 1 1 (szV D n k) 0 (s.2.set 6 (wX D n s.1 ((drV D n k).getD 6 0))):=by
    simp only [G9,List.set_cons_succ,rP]
   rw [es] at s1;refine ⟨_,?_,f2.set B2.1 (by have:=P.lo.2.1;omega),(FA.trans f3).set B2.1 (by omega),B0.set (by omega) B2.1.2.1,B2.self,B3.set (by omega) B2.1.2.1⟩;rw [fP];simp only [esc,Nat.reduceAdd,c0,lm,c6,lb,lw,f1,s1]
  ·rw [if_neg c6];refine ⟨hA,?_,PA,FA,A0,A2,A3⟩;rw [fP];simp only [esc,Nat.reduceAdd,c0,lm,c6]
 obtain ⟨hB,e2,PB,FB,B0,B2,B3⟩:=step;have hfd:sX D n c k=C4k D n (drV D n k) many s:=by unfold sX;rw [<-D1x,<-hs]
 have hfs:=B2v (D:=D) (n:=n) (ino:=(k:Int)) (c:=c);rw [<-hfd] at PB B2;obtain ⟨S,hS⟩:∃ S,S=sX D n c k:=⟨_,rfl⟩;rw [<-hS] at PB B2 hfs;have kin:k<S.1.ino.length:=by rw [hfs.1.ino];exact i1
 obtain ⟨id,hC,c1,c2,c3,PC,FC⟩:=PB.setIno hv2 (k:=k) (l:=1::1::szV D n k::0::S.2) kin (by simp [hfs.2]);have C0:=B0.fr FC;have C2:=B2.fr FC;have C3:=B3.fr FC;have lB0:A7 hB (.c (.p h.length 0))=some (.c (.p r 0)):=C1 B0.2 rfl rfl;have lB2:A8 hB 11 (.c (.p (h.length+2) 0))=some (.a (encI (1::1::szV D n k::0::S.2))):=D4 B2.2 (by simp [G9,B9,hfs.2]);have adI:C4 11 (.c (.sl id 0 S.1.ino.length 11)) (.c (.i .i64 (k:Int)))=some (.c (.p id (k*11))):=by rw [E5 kin];simp
 have D4V:A7 hC (.c (.p (h.length+2) 10))=some (.c (.i .i64 (S.2.getD 6 0))):=by
  refine C1 C2.2 ?_ rfl;simp only [G9,List.getElem?_cons_succ];rw [H9,List.getD_eq_getElem?_getD,List.getElem?_eq_getElem (by rw [hfs.2];omega)];rfl
 have hfi:dL D n c k={ S.1 with ino:=S.1.ino.set k (1::1::szV D n k::0::S.2) }:=by unfold dL;rw [<-hS,Int.toNat_natCast]
 rw [<-hfi] at PC;have run:∀ {v:Val} {h':A4},Z4 200 (.c (.i .i64 (k:Int))) (.c (.p h.length 0)) (.c (.p (h.length+2) 0)) (.c (.p (h.length+3) 0)) hB=some (v,h')->U0 [.c (.p r 0),.c (.i .i64 (k:Int))] h=some (v,h'):=by
  intro v h' hj;refine A8d (n:=200) ?_;rw [A74];have eT:=e1.trans (e2.trans hj);rw [hT] at eT;have hB0:=hVI [some (Row.mk [Cell.p r 0] true)];have l2:ld1 (some (Row.mk I true)) 2=some (.c (.i .i64 (szV D n k))):=by rw [A6f,I2];rfl
  have lm1:ld1 (some (Row.mk [Cell.i .i64 many] true)) 0=some (.c (.i .i64 many)):=rfl;have lp:ld1 (some (Row.mk [Cell.p r 0] true)) 0=some (.c (.p r 0)):=rfl;have sm:st1 (some (Row.mk [Cell.i .i64 0] true)) 0 (.i .i64 many)=some ⟨[.i .i64 many],true⟩:=rfl;generalize [Cell.i .i64 0,.i .i64 0,.i .i64 0,.i .i64 0,.i .i64 0,.i .i64 0,.i .i64 0,.i .i64 0,.i .i64 0,.i .i64 0,.i .i64 0]=zz at *;generalize vwC D.length n m f=V at *;simp only [esc,Y7,K3,fB,O4,Q1,H7,A5S,A8A,gG,kM,Nat.reduceAdd,lV,hB0,hIl,xX,z11,l2,lp,sm,lm1,ef,hBl,D6G];exact eT
 unfold A2J;rw [<-hS,<-D1x];by_cases cz:S.2.getD 6 0=0
 ·rw [if_pos cz];refine ⟨hC,run ?_,PC,FB.trans FC⟩;rw [sW];rw [cz] at D4V;simp only [esc,Nat.reduceAdd,lB0,c1,lB2,adI,c3,D4V];rfl
 ·rw [if_neg cz];have hBk:=Y2 (n:=n) (m:=m) (no:=S.2.getD 6 0) (h:=hC) hD (hv.since PC.lo);obtain ⟨hE,f1,f2,f3⟩:=D3u (many:=many) (b:=blk D (S.2.getD 6 0)) hv2 PC C3 C0 (V4 hD);have D0:=C0.fr f3;have D2:=C2.fr f3;have hsm:=A58 (D:=D) (n:=n) (many:=many) (e:=128) (k:=0) (s:=(dL D n c k,blk D (S.2.getD 6 0)));have bl:(xD D n many 128 0 (dL D n c k,blk D (S.2.getD 6 0))).1.blocks.length<=100000:=by
   rw [hsm.blocks];dsimp only;rw [hfi];dsimp only;rw [hfs.1.blocks];exact h1
  have ml:(xD D n many 128 0 (dL D n c k,blk D (S.2.getD 6 0))).1.made.length<=100000:=by
   rw [hsm.made];dsimp only;rw [hfi];dsimp only;rw [hfs.1.made];exact h2
  obtain ⟨hF,g1,g2,g3⟩:=C4H (no:=S.2.getD 6 0) hv2 f2 (B6r (e:=128) (k:=0) (s:=(dL D n c k,blk D (S.2.getD 6 0))) (by omega) (V4 hD)) bl ml;refine ⟨hF,run ?_,g2,((FB.trans FC).trans f3).trans g3⟩;have lC0:A7 hC (.c (.p h.length 0))=some (.c (.p r 0)):=C1 C0.2 rfl rfl;have lE0:A7 hE (.c (.p h.length 0))=some (.c (.p r 0)):=C1 D0.2 rfl rfl;have D6T:A7 hE (.c (.p (h.length+2) 10))=some (.c (.i .i64 (S.2.getD 6 0))):=by
   refine C1 D2.2 ?_ rfl;simp only [G9,List.getElem?_cons_succ];rw [H9,List.getD_eq_getElem?_getD,List.getElem?_eq_getElem (by rw [hfs.2];omega)];rfl
  have lCV:=PC.view;have emk:A5Q 176 [.c (.p (h.length+3) 0),.c (.p h.length 0)]=some (.c (.f 176 [(h.length+3,0),(h.length,0)])):=rfl;rw [sW];generalize S.2.getD 6 0=no at *;generalize A5 (xD D n many 128 0 (dL D n c k,blk D no)).2=B2 at *;generalize A5 (blk D no)=B1 at *;generalize vwC D.length n m f=V at *;simp only [esc,Nat.reduceAdd,lB0,c1,lB2,adI,c3,D4V,cz,lC0,lCV,hBk,emk,f1,lE0,D6T,g1];rfl
end
end
section
def B1F (no:Int):Nat->Nat->List Int->List Int
 | 0,_,t=>t
 | e+1,i,t=>B1F no e (i+1) (if t.getD i 0=no then t.set i 0 else t)
theorem A6D {no:Int}:∀ {e i:Nat} {t:List Int},(B1F no e i t).length=t.length
 | 0,_,_=>rfl
 | e+1,i,t=>by
  rw [B1F,A6D];split<;>simp
def A6Q (D:Dev) (n:Int) (s:Cl × List Int) (no:Int):Cl × List Int:=(A3N D n s.1 no,if wX D n s.1 no=0 then B1F no 32 0 s.2 else s.2)
def A4D (D:Dev) (n:Int) (s:Cl × List Int) (L:List Int):Cl × List Int:=L.foldl (A6Q D n) s
theorem C22 {D:Dev} {n no:Int} {s:Cl × List Int}:(A6Q D n s no).2.length=s.2.length:=by
 unfold A6Q;dsimp only;split
 ·exact A6D
 ·rfl
theorem B6e {D:Dev} {n:Int}:∀ {L:List Int} {s:Cl × List Int},(A4D D n s L).2.length=s.2.length
 | [],_=>rfl
 | no::L,s=>by
  show (A4D D n (A6Q D n s no) L).2.length=_;rw [B6e,C22]
theorem A1m {D:Dev} {n:Int}:∀ {L:List Int} {s:Cl × List Int},SameC s.1 (A4D D n s L).1
 | [],_=>.rfl' _
 | no::L,s=>by
  show SameC s.1 (A4D D n (A6Q D n s no) L).1;have h2:SameC (A3N D n s.1 no) (A4D D n (A6Q D n s no) L).1:=A1m (D:=D) (n:=n) (L:=L) (s:=A6Q D n s no);exact (A0J ..).trans h2
section
variable {D:Dev} {n m:Int} {f:Cell} {g:A4} {r:Nat} {c:Cl} {h:A4}
theorem B6L {no d:Int} {px q M:Nat} {w x4 v11 v12 v13:Val} {h0:A4} (h0g:g.length<=h0.length) (a0:h0.length<=px):∀ (e i M2:Nat) (t:List Int) (h:A4),i+e=32->e<M2->t.length=32->WP D n m f g r c h->Fr r h0 h->LocV h r px (encI (d::t)) ->
  ∃ h',aD q M M2 w (.c (.p px 0)) x4 (.c (.i .i64 no)) v11 v12 v13 (.c (.i .i64 (i:Int))) h=aA q M w (.c (.p px 0)) x4 v11 v12 v13 h'/\WP D n m f g r c h'/\Fr r h0 h'/\LocV h' r px (encI (d::B1F no e i t))/\h'.length=h.length/\∀ j,j≠px->rd h' j=rd h j
 | e,i,0,t,h,_,hM,_,_,_,_=>by omega
 | 0,i,M2+1,t,h,hi,hM,ht,P,F,hx=>by
  have c0:¬ ((i:Int)<32):=by omega
  refine ⟨h,?_,P,F,hx,rfl,fun _ _=>rfl⟩;rw [bZ];simp only [esc,c0]
 | e+1,i,M2+1,t,h,hi,hM,ht,P,F,hx=>by
  have c0:((i:Int)<32):=by omega
  have D6A:i<32:=by omega
  have ad:D8 32 1 (.c (.p px 1)) (.c (.i .i64 (i:Int)))=some (.c (.p px (1+i))):=by rw [I7 D6A];simp
  have l1:A7 h (.c (.p px (1+i)))=some (.c (.i .i64 (t.getD i 0))):=by
   refine C1 hx.2 ?_ rfl;rw [Nat.add_comm,H9,List.getElem?_cons_succ,List.getD_eq_getElem?_getD,List.getElem?_eq_getElem (by omega)];rfl
  have w1:=E8 (show i+1<9223372036854775808 by omega);by_cases cz:t.getD i 0=no
  ·have s1:=G3 (x:=.i .i64 0) (off:=1+i) hx.2 (by simp [B9,ht];omega);have es:(encI (d::t)).set (1+i) (.i .i64 0)=encI (d::t.set i 0):=by rw [rP,Nat.add_comm,List.set_cons_succ]
   rw [es] at s1;obtain ⟨h',e1,e2,e3,e4,e5,e6⟩:=B6L (no:=no) (d:=d) (q:=q) (M:=M) (w:=w) (x4:=x4) (v11:=v11) (v12:=v12) (v13:=v13) h0g a0 e (i+1) M2 (t.set i 0) _ (by omega) (by omega) (by simp [ht]) (P.set hx.1 (by omega)) (F.set hx.1 a0) hx.self;refine ⟨h',?_,e2,e3,by rw [B1F,if_pos cz];exact e4,by rw [e5];simp,fun j hj=>by rw [e6 j hj,B7 (Ne.symm hj)]⟩;rw [bZ];simp only [esc,Nat.reduceAdd,c0,ad,l1,cz,s1,mU,w1];exact e1
  ·obtain ⟨h',e1,e2,e3,e4,e5,e6⟩:=B6L (no:=no) (d:=d) (q:=q) (M:=M) (w:=w) (x4:=x4) (v11:=v11) (v12:=v12) (v13:=v13) h0g a0 e (i+1) M2 t h (by omega) (by omega) ht P F hx;refine ⟨h',?_,e2,e3,by rw [B1F,if_neg cz];exact e4,e5,e6⟩;rw [bZ];simp only [esc,Nat.reduceAdd,c0,ad,l1,cz,mU,w1];exact e1
theorem B6f {d:Int} {L:List Int} {px p4 sid q:Nat} {h0:A4} (h0g:g.length<=h0.length) (a0:h0.length<=px) (a1:h0.length<=p4) (n1:px≠p4) (n2:px≠sid) (hq:40<=q) (hL:L.length<1000000):∀ (e i M:Nat) (s:Cl × List Int) (h:A4),i+e=L.length->e<M->s.2.length=32->WP D n m f g r s.1 h->Fr r h0 h->LocV h r px (encI (d::s.2))->(∃ z,z.length=33/\LocV h r p4 z)->LocV h r sid (encI L) ->
  ∃ h',aC q M (.c (.p r 0)) (.c (.p px 0)) (.c (.p p4 0)) (.c (.sl sid 0 L.length 1)) (.c (.i .i64 (L.length:Nat))) (.c (.i .i64 (i:Int))) h=some (.a (encI (d::(A4D D n s (L.drop i)).2)),h')/\WP D n m f g r (A4D D n s (L.drop i)).1 h'/\Fr r h0 h'
 | e,i,0,s,h,_,hM,_,_,_,_,_,_=>by omega
 | 0,i,M+1,s,h,hi,hM,hs,P,F,hx,hz,hl=>by
  have c0:¬ ((i:Int)<(L.length:Nat)):=by omega
  obtain ⟨z,xX,hz⟩:=hz;have h33:(encI (d::s.2)).length=33:=by simp [B9,hs]
  have l1:=D4 (n:=33) hx.2 h33;have s1:=storeAll (n:=33) (xs:=encI (d::s.2)) hz.2 xX h33;have hz2:=hz.self (cs':=encI (d::s.2));have l2:=D4 (n:=33) hz2.2 h33;rw [List.drop_of_length_le (by omega)];refine ⟨h.set p4 (some ⟨encI (d::s.2),true⟩),?_,P.set hz.1 (by omega),F.set hz.1 a1⟩;rw [bY];show _=some (Val.a (encI (d::s.2)),_);generalize encI (d::s.2)=B at *;simp only [esc,c0,l1,s1,l2]
 | e+1,i,M+1,s,h,hi,hM,hs,P,F,hx,hz,hl=>by
  have c0:((i:Int)<(L.length:Nat)):=by omega
  have S3:i<L.length:=by omega
  have ad:C4 1 (.c (.sl sid 0 L.length 1)) (.c (.i .i64 (i:Int)))=some (.c (.p sid i)):=by rw [E5 S3];simp
  have l1:A7 h (.c (.p sid i))=some (.c (.i .i64 L[i])):=C1 hl.2 (by rw [H9,List.getElem?_eq_getElem S3];rfl) rfl;have w1:=E8 (show i+1<9223372036854775808 by omega);obtain ⟨h1,f1,f2,f3⟩:=B4v (no:=L[i]) P;have hx1:=hx.fr f3;have hl1:=hl.fr f3;obtain ⟨z,xX,hz⟩:=hz;have hz1:=hz.fr f3;rw [List.drop_eq_getElem_cons S3];have eb:∀ T,A4D D n s (L[i]::T)=A4D D n (A6Q D n s L[i]) T:=fun T=>rfl
  rw [eb];have hbl:=C22 (D:=D) (n:=n) (s:=s) (no:=L[i]);by_cases cz:wX D n s.1 L[i]=0
  ·have eB:A6Q D n s L[i]=(A3N D n s.1 L[i],B1F L[i] 32 0 s.2):=by unfold A6Q;rw [if_pos cz]
   obtain ⟨h2,e1,e2,e3,e4,e5,e6⟩:=B6L (no:=L[i]) (d:=d) (q:=q) (M:=M) (w:=.c (.p r 0)) (x4:=.c (.p p4 0)) (v11:=.c (.sl sid 0 L.length 1)) (v12:=.c (.i .i64 (L.length:Nat))) (v13:=.c (.i .i64 (i:Int))) h0g a0 32 0 q s.2 h1 (by omega) (by omega) hs f2 (F.trans f3) hx1;have keep:∀ {id:Nat} {cs:List Cell},LocV h1 r id cs->px≠id->LocV h2 r id cs:=fun {id cs} a cK=>by
    have er:rd h2 r=rd h1 r:=e6 r (Ne.symm hx1.1.2.1);exact ⟨⟨by rw [e5];exact a.1.1,a.1.2.1,fun hn=>a.1.2.2 ((Nam.same er).1 hn)⟩,by rw [e6 id (Ne.symm cK)];exact a.2⟩
   have D6R:(B1F L[i] 32 0 s.2).length=32:=by rw [A6D];exact hs
   rw [eB];generalize B1F L[i] 32 0 s.2=Z at *;obtain ⟨h',k1,k2⟩:=B6f (d:=d) (q:=q) h0g a0 a1 n1 n2 hq hL e (i+1) M (A3N D n s.1 L[i],Z) h2 (by omega) (by omega) D6R e2 e3 e4 ⟨z,xX,keep hz1 n1⟩ (keep hl1 n2);refine ⟨h',?_,k2⟩;rw [bY];rw [cz] at f1;rw [mT] at e1;have c00:((0:Nat):Int)=0:=rfl;rw [c00] at e1;simp only [esc,c0,ad,l1,f1];refine e1.trans ?_;simp only [esc,w1];exact k1
  ·have eB:A6Q D n s L[i]=(A3N D n s.1 L[i],s.2):=by unfold A6Q;rw [if_neg cz]
   rw [eB] at hbl ⊢;obtain ⟨h',k1,k2⟩:=B6f (d:=d) (q:=q) h0g a0 a1 n1 n2 hq hL e (i+1) M (A3N D n s.1 L[i],s.2) h1 (by omega) (by omega) hs f2 (F.trans f3) hx1 ⟨z,xX,hz1⟩ hl1;refine ⟨h',?_,k2⟩;rw [bY];simp only [esc,c0,ad,l1,f1,cz,mT,w1];exact k1
def A1R (d:Int) (t:List Int):Int:=if 0<=d/\d<=5 then d else 0
def A1w (d:Int) (t:List Int):List Int:=if 0<=d/\d<=5 then A3P d t (E9 d) else zI 32
theorem C0n (d:Int) (t:List Int):C7t d t=A1R d t::A1w d t:=by
 unfold C7t A1R A1w;split<;>rfl
theorem A8Z {d:Int} {t:List Int}:(A1w d t).length=32:=by
 have:=C50 (d:=d) (t:=t);rw [C0n] at this;simpa using this
theorem C7m {d:Int} {t:List Int} (hv:∃ id cs,f=.f id cs) (P:WP D n m f g r c h) (ht:t.length=32) :
  ∃ h',O7 [.c (.p r 0),.a (encI (d::t))] h=some (.a (encI (A1R d t::(A4D D n (c,A1w d t) (Z0 (A1w d t) (E9 (A1R d t)))).2)),h')/\WP D n m f g r (A4D D n (c,A1w d t) (Z0 (A1w d t) (E9 (A1R d t)))).1 h'/\Fr r h h':=by
 have hft:=A8Z (d:=d) (t:=t);have h33:(encI (d::t)).length=33:=by simp [B9,ht]
 have hF:=fun h=>C4l (d:=d) (h:=h) ht
 rw [C0n] at hF;have C57:(encI (A1R d t::A1w d t)).length=33:=by simp [B9,hft]
 have D4K:(Cell.i .i64 0::List.replicate 32 (Cell.i .i64 0)).length=33:=by simp
 obtain ⟨z,hz⟩:∃ z,z=Cell.i .i64 0::List.replicate 32 (Cell.i .i64 0):=⟨_,rfl⟩;obtain ⟨d',hd'⟩:∃ d',d'=A1R d t:=⟨_,rfl⟩;obtain ⟨t',ht'⟩:∃ t',t'=A1w d t:=⟨_,rfl⟩;rw [<-hd',<-ht'] at hF C57 ⊢;rw [<-ht'] at hft;have hB:=tY (d:=d') (t:=t') (h:=h++[some (Row.mk (encI (d'::t')) true),some (Row.mk z true)]) hft;obtain ⟨L,hL⟩:∃ L,L=Z0 t' (E9 d'):=⟨_,rfl⟩;rw [<-hL] at hB ⊢;obtain ⟨T,hT⟩:∃ T,T=[some (Row.mk (encI (d'::t')) true),some (Row.mk z true),some (Row.mk (encI L) true)]:=⟨_,rfl⟩;have P1:=P.more hv T;have F1:Fr r h (h++T):=Fr.low ((Low.refl (Nat.le_refl _)).new _) P.rlt;have L0:LocV (h++T) r h.length (encI (d'::t')):=LocV.new (k:=0) hv P (by rw [hT];rfl);have L1:LocV (h++T) r (h.length+1) z:=LocV.new (k:=1) hv P (by rw [hT];rfl);have L2:LocV (h++T) r (h.length+2) (encI L):=LocV.new (k:=2) hv P (by rw [hT];rfl);have hLl:L.length<=32:=by rw [hL];exact Nat.le_trans (A2x _ _) (bJ _)
 obtain ⟨h',e1,e2,e3⟩:=B6f (q:=100) P.lo.2.1 (Nat.le_refl _) (show h.length<=h.length+1 by omega) (by omega) (show h.length≠h.length+2 by omega) (by omega) (by omega) L.length 0 100 (c,t') (h++T) (by omega) (by omega) hft P1 F1 L0 ⟨z,by rw [hz];exact D4K,L1⟩ L2;rw [List.drop_zero] at e1 e2;refine ⟨h',A4p (n:=100) ?_,e2,e3⟩;rw [A4j];have ez:([Cell.i .i64 0]++List.replicate 32 (Cell.i .i64 0))=z:=by rw [hz];rfl
 rw [ez];rw [hT] at e1;have l33:ldN (some (Row.mk (encI (d::t)) true)) 0 33=some (.a (encI (d::t))):=gG h33;have l33':ldN (some (Row.mk (encI (d'::t')) true)) 0 33=some (.a (encI (d'::t'))):=gG C57;have s33:stN (some (Row.mk (encI (d::t)) true)) 0 33 (encI (d'::t'))=some ⟨encI (d'::t'),true⟩:=kM h33 C57;generalize encI (d::t)=X at *;generalize encI (d'::t')=X' at *;simp only [esc,Y7,K3,Q1,H7,Nat.reduceAdd,l33,l33',s33,hF];simp only [esc] at hB;simp only [esc,hB];exact e1
end
end
section
abbrev Spt:=Int × Slt
def B3N (D:Dev) (L:List Int):List Spt:=L.flatMap fun no=>(N8 (blk D no)).map fun s=>(no,s)
def atH (D:Dev) (X:List Int) (e:Spt):Bool:=decide (iY X e.2.2.1=e.1)&&decide (hmS D X e.2.2.1=some e.2)
def O5 (D:Dev) (X:List Int) (l:List Spt):sG:=(l.filter (atH D X)).map (·.2.2.1)
def C7D (D:Dev) (X:List Int) (nm:List UInt8):Int:=((hmS D X nm).getD (0,[],0)).2.2
def B1k (D:Dev) (X:List Int) (L:List Int):List Ent:=(zP (O5 D X (B3N D L))).map fun s=>(s,C7D D X s)
theorem C82 {neg:Bool} (p q:Slt):aeq neg [.i .i64,.s,.i .i64] (.a (slC (some p))) (.a (slC (some q)))=some (.c (.b (bif neg then !(decide (some p=some q)) else decide (some p=some q)))):=by
 simp only [aeq];rw [if_pos ⟨rfl,rfl⟩];have:decide (slC (some p)=slC (some q))=decide (some p=some q):=by
  apply Bool.eq_iff_iff.2;simp only [decide_eq_true_eq,slC,List.cons.injEq,Cell.i.injEq,Cell.s.injEq,true_and,and_true,Option.some.injEq];obtain ⟨p1,p2,p3⟩:=p;obtain ⟨q1,q2,q3⟩:=q;simp only [Prod.mk.injEq];constructor
  ·rintro ⟨h1,h2,h3⟩;exact ⟨by omega,h2,h3⟩
  ·rintro ⟨h1,h2,h3⟩;exact ⟨by omega,h2,h3⟩
 rw [this]
theorem B7I {D:Dev} {X:List Int} {s:List Spt} {e:Spt}:O5 D X (s++[e])=O5 D X s++(if atH D X e=true then [e.2.2.1] else []):=by
 unfold O5;rw [List.filter_append,List.map_append,List.filter_cons];by_cases c:atH D X e=true<;>simp [c]
structure NmS (D:Dev) (X L:List Int) (g:A4) (s:List Spt) (id:Nat) (h:A4):Prop where
 low:Low g.length g h
 rx:rd h g.length=some ⟨encI X,true⟩
 rm:∃ es,rd h (g.length+2)=some (J3 es)/\MapN es (C7D D X) (O5 D X s)
 rs:rd h (g.length+4)=some ⟨encI L,true⟩
 rl:rd h id=some ⟨encS (O5 D X s),true⟩
 idg:id=g.length+3\/g.length+5<=id
theorem NmS.more {D:Dev} {X L:List Int} {g h:A4} {s:List Spt} {id:Nat} (S:NmS D X L g s id h) (t:A4):NmS D X L g s id (h++t) :=
 ⟨S.low.new _,B6 S.rx,by obtain ⟨es,h1,h2⟩:=S.rm;exact ⟨es,B6 h1,h2⟩,B6 S.rs,B6 S.rl,S.idg⟩
section
variable {D:Dev} {n m:Int} {f:Cell} {g:A4} {r:Nat} {h:A4}
theorem D4X {d:Int} {t L:List Int} {s:List Spt} {id lst j q m0 M:Nat} {l:List Slt} {x:Slt} {no:Int} {x18 x19 x20:Val} (hD:okD D) (hv:IsView g f D) (hw:VwR g r (vwC D.length n m f)) (ht:t.length=32) (S:NmS D (d::t) L g s id h) (hN:(O5 D (d::t) s).length<=1000000) (hs:x.2.1.length<=24)
  (hl:rd h lst=some ⟨sA l,true⟩) (hx:l[j]?=some x) (hl5:g.length+5<=lst) (cK:lst≠id) (hj:l.length<=7) :
  ∃ bP h',M7 q m0 (M+1) (.c (.p r 0)) (.c (.p g.length 0)) (.c (.m (g.length+2))) (.c (.sl id 0 (O5 D (d::t) s).length 1)) (.c (.i .i64 no)) x18 x19 x20 (.c (.sl lst 0 l.length 3)) (.c (.i .i64 (l.length:Nat))) (.c (.i .i64 (j:Int))) h =
   M7 q m0 M (.c (.p r 0)) (.c (.p g.length 0)) (.c (.m (g.length+2))) (.c (.sl bP 0 (O5 D (d::t) (s++[(no,x)])).length 1)) (.c (.i .i64 no)) x18 x19 x20 (.c (.sl lst 0 l.length 3)) (.c (.i .i64 (l.length:Nat))) (.c (.i .i64 ((j+1:Nat):Int))) h' /\
   NmS D (d::t) L g (s++[(no,x)]) bP h'/\rd h' lst=some ⟨sA l,true⟩/\lst≠bP:=by
 have hjl:j<l.length:=(List.getElem?_eq_some_iff.1 hx).1;have c0:((j:Int)<(l.length:Nat)):=by omega
 have ad:C4 3 (.c (.sl lst 0 l.length 3)) (.c (.i .i64 (j:Int)))=some (.c (.p lst (j*3))):=by rw [E5 hjl];simp
 have hlen:=xS (l:=l);have l3:A8 h 3 (.c (.p lst (j*3)))=some (.a (slC (some x))):=by rw [T2 hl (by rw [hlen];omega) rfl,C81 hx]
 obtain ⟨k,nm,i⟩:=x;have w1:=E8 (show j+1<9223372036854775808 by omega);obtain ⟨h1,e1⟩:∃ h1,h1=h++[some (Row.mk (slC (some (k,nm,i))) true)]:=⟨_,rfl⟩;have s3:B4 (h++[some (Row.mk [Cell.i .i64 0,.s [],.i .i64 0] true)]) 3 (.c (.p h.length 0)) (.a (slC (some (k,nm,i))))=some h1:=by rw [H7,e1];rfl
 have S1:NmS D (d::t) L g s id h1:=e1 ▸ S.more _;have lX:A8 h1 33 (.c (.p g.length 0))=some (.a (encI (d::t))):=D4 S1.rx (by simp [B9,ht]);have lN:A7 h1 (.c (.p h.length 1))=some (.c (.s nm)):=by rw [e1,O4];rfl
 have hH:=C8E (n:=n) (m:=m) (f:=f) (r:=r) (d:=d) (t:=t) (nm:=nm) (h:=h1) hD (hv.since S1.low) (hw.since S1.low) ht (by dsimp only at hs;omega);obtain ⟨h2,e2⟩:∃ h2,h2=h1++[some (Row.mk (B6H (iY (d::t) nm) (hmS D (d::t) nm)) true)]:=⟨_,rfl⟩;have s4:B4 (h1++[some (Row.mk [Cell.i .i64 0,.i .i64 0,.s [],.i .i64 0] true)]) 4 (.c (.p h1.length 0)) (.a (B6H (iY (d::t) nm) (hmS D (d::t) nm)))=some h2:=by
  rw [H7,e2];cases hmS D (d::t) nm<;>rfl
 have S2:NmS D (d::t) L g s id h2:=e2 ▸ S1.more _;have lB:A7 h2 (.c (.p h1.length 0))=some (.c (.i .i64 (iY (d::t) nm))):=by rw [e2,O4];rfl
 have lS:A8 h2 3 (.c (.p h1.length 1))=some (.a (slC (hmS D (d::t) nm))):=by rw [e2,K3];cases hmS D (d::t) nm<;>rfl
 have rp:rd h2 h.length=some ⟨slC (some (k,nm,i)),true⟩:=by rw [e2,e1];simp
 have lP:A8 h2 3 (.c (.p h.length 0))=some (.a (slC (some (k,nm,i)))):=D4 rp rfl;have lP1:A7 h2 (.c (.p h.length 1))=some (.c (.s nm)):=C1 rp rfl rfl;have lP2:A7 h2 (.c (.p h.length 2))=some (.c (.i .i64 i)):=C1 rp rfl rfl;have rl2:rd h2 lst=some ⟨sA l,true⟩:=by rw [e2,e1];exact B6 (B6 hl)
 have no1:atH D (d::t) (no,k,nm,i)=false->NmS D (d::t) L g (s++[(no,k,nm,i)]) id h2/\(O5 D (d::t) (s++[(no,k,nm,i)])).length=(O5 D (d::t) s).length:=by
  intro hb;have en:O5 D (d::t) (s++[(no,k,nm,i)])=O5 D (d::t) s:=by rw [B7I,hb];simp
  exact ⟨{ S2 with rm:=by rw [en];exact S2.rm,rl:=by rw [en];exact S2.rl },by rw [en]⟩
 rw [dZ];cases ho:hmS D (d::t) nm with
 | none =>
  obtain ⟨n1,n2⟩:=no1 (by unfold atH;simp only [ho];simp);refine ⟨id,h2,?_,n1,rl2,cK⟩;rw [n2];rw [ho] at hH s4 lS;generalize encI (d::t)=X at *;simp only [esc,Nat.reduceAdd,c0,ad,l3,s3,lX,lN,hH,Option.isSome_none,s4,X1,w1]
 | some p =>
  rw [ho] at hH s4 lS;have ea:=C82 (neg:=false) p (k,nm,i);by_cases c1:iY (d::t) nm=no
  ·rw [c1] at hH s4 lB;by_cases c2:p=(k,nm,i)
   ·have hb:atH D (d::t) (no,k,nm,i)=true:=by unfold atH;simp only [ho,c1,c2];simp
    have en:O5 D (d::t) (s++[(no,k,nm,i)])=O5 D (d::t) s++[nm]:=by rw [B7I,if_pos hb]
    have hin:C7D D (d::t) nm=i:=by unfold C7D;rw [ho,c2];rfl
    obtain ⟨es,r4,hm⟩:=S2.rm;have mp:=D3v (s:=nm) (x:=i) r4 hm;have hm':=hm.put nm;rw [hin] at hm';have lt2:=E4 r4;have idr:id≠g.length+2:=by have:=S.idg;omega
    obtain ⟨h3,e3⟩:∃ h3,h3=h2.set (g.length+2) (some (J3 (A7B (.s nm) (.c (.i .i64 i)) es))):=⟨_,rfl⟩;rw [<-e3] at mp;have hh:h2.length=h.length+2:=by rw [e2,e1];simp
    have q1:A7 h3 (.c (.p h.length 1))=some (.c (.s nm)):=C1 (by rw [e3,B7 (by have:=E4 hl;omega)];exact rp) rfl rfl;have ef:C7 [Cell.s []] [(0,1,.c (.s nm))]=some [.s nm]:=rfl;have ril:rd h3 id=some ⟨encS (O5 D (d::t) s),true⟩:=by rw [e3,B7 (Ne.symm idr)];exact S2.rl
    obtain ⟨h4,b1,b2,b3,b4⟩:=C1g (n:=(O5 D (d::t) s).length) (sz:=1) (ys:=[Cell.s nm]) ril (by rw [X9];omega) rfl (by omega) (by omega);have h3l:h3.length=h.length+2:=by rw [e3];simp [hh]
    have gl:=S.low.2.1;have gS:=E4 S.rs;have ea2:aeq false [.i .i64,.s,.i .i64] (.a (slC (some p))) (.a (slC (some (k,nm,i))))=some (.c (.b true)):=by rw [ea,c2];simp
    refine ⟨h3.length+1,h4,?_,⟨?_,?_,⟨_,?_,by rw [en];exact hm'⟩,?_,?_,by omega⟩,?_,by have:=E4 hl;omega⟩
    ·rw [en,List.length_append];generalize encI (d::t)=X at *;simp only [esc,Nat.reduceAdd,c0,ad,l3,s3,lX,lN,hH,Option.isSome_some,s4,lB,eq_self,lS,lP,ea2,lP1,lP2,mp,q1,ef,b1,X1,w1]
    ·have l3':Low g.length g h3:=by rw [e3];exact S2.low.set (by omega) _
     exact l3'.trans (b4 _ (by have:=S.idg;omega) (by omega))
    ·exact b3 _ _ (by have:=S.idg;omega) (by rw [e3,B7 (by omega)];exact S2.rx)
    ·exact b3 _ _ (Ne.symm idr) (by rw [e3];exact C8 lt2)
    ·exact b3 _ _ (by have:=S.idg;intro e;omega) (by rw [e3,B7 (by omega)];exact S2.rs)
    ·rw [en,show encS (O5 D (d::t) s++[nm])=encS (O5 D (d::t) s)++[Cell.s nm] by simp [encS]];exact b2
    ·exact b3 _ _ cK (by rw [e3,B7 (by omega)];exact rl2)
   ·obtain ⟨n1,n2⟩:=no1 (by unfold atH;simp only [ho];simp [c2]);have ea2:aeq false [.i .i64,.s,.i .i64] (.a (slC (some p))) (.a (slC (some (k,nm,i))))=some (.c (.b false)):=by rw [ea];simp [c2]
    refine ⟨id,h2,?_,n1,rl2,cK⟩;rw [n2];generalize encI (d::t)=X at *;simp only [esc,Nat.reduceAdd,c0,ad,l3,s3,lX,lN,hH,Option.isSome_some,s4,lB,eq_self,lS,lP,ea2,X1,w1]
  ·obtain ⟨n1,n2⟩:=no1 (by unfold atH;simp only [ho];simp [c1]);refine ⟨id,h2,?_,n1,rl2,cK⟩;rw [n2];generalize encI (d::t)=X at *;simp only [esc,Nat.reduceAdd,c0,ad,l3,s3,lX,lN,hH,Option.isSome_some,s4,lB,c1,X1,w1]
end
end
section
theorem B6C {D:Dev} {X:List Int} {s:List Spt}:(O5 D X s).length<=s.length:=by
 unfold O5;rw [List.length_map];exact List.length_filter_le _ _
theorem C2T {D:Dev} {no:Int} {L:List Int}:B3N D (no::L)=(N8 (blk D no)).map (fun s=>(no,s))++B3N D L:=by simp [B3N]
section
variable {D:Dev} {n m:Int} {f:Cell} {g:A4} {r:Nat} {h:A4}
theorem C6t {d:Int} {t L:List Int} {lst q m0:Nat} {l:List Slt} {no:Int} {x18 x19 x20:Val} (hD:okD D) (hv:IsView g f D) (hw:VwR g r (vwC D.length n m f)) (ht:t.length=32) (hl7:l.length<=7) (sY:∀ x∈l,x.2.1.length<=24) (hl5:g.length+5<=lst) :
  ∀ (e j M:Nat) (s:List Spt) (id:Nat) (h:A4),j+e=l.length->e<M->s.length+e<=100000->NmS D (d::t) L g s id h->rd h lst=some ⟨sA l,true⟩->lst≠id ->
  ∃ bP h',M7 q m0 M (.c (.p r 0)) (.c (.p g.length 0)) (.c (.m (g.length+2))) (.c (.sl id 0 (O5 D (d::t) s).length 1)) (.c (.i .i64 no)) x18 x19 x20 (.c (.sl lst 0 l.length 3)) (.c (.i .i64 (l.length:Nat))) (.c (.i .i64 (j:Int))) h =
   bnd (B5 .add x20 (.c (.i .i64 1))) (fun v=>M6 q m0 (.c (.p r 0)) (.c (.p g.length 0)) (.c (.m (g.length+2))) (.c (.sl bP 0 (O5 D (d::t) (s++(l.drop j).map fun x=>(no,x))).length 1)) x18 x19 v h')/\NmS D (d::t) L g (s++(l.drop j).map fun x=>(no,x)) bP h'
 | e,j,0,s,id,h,_,hM,_,_,_,_=>by omega
 | 0,j,M+1,s,id,h,hj,hM,hn,S,hr,cK=>by
  have c0:¬ ((j:Int)<(l.length:Nat)):=by omega
  rw [List.drop_of_length_le (by omega),List.map_nil,List.append_nil];refine ⟨id,h,?_,S⟩;rw [dZ];simp only [V9,A4z,c0,decide_false,C5Q]
 | e+1,j,M+1,s,id,h,hj,hM,hn,S,hr,cK=>by
  have hjl:j<l.length:=by omega
  have gI:=B6C (D:=D) (X:=d::t) (s:=s);obtain ⟨id1,h1,e1,e2,e3,e4⟩:=D4X (q:=q) (m0:=m0) (M:=M) (no:=no) (x18:=x18) (x19:=x19) (x20:=x20) hD hv hw ht S (by omega) (sY _ (List.getElem_mem hjl)) hr (List.getElem?_eq_getElem hjl) hl5 cK hl7;obtain ⟨bP,h',f1,f2⟩:=C6t (q:=q) (m0:=m0) (no:=no) (x18:=x18) (x19:=x19) (x20:=x20) hD hv hw ht hl7 sY hl5 e (j+1) M (s++[(no,l[j])]) id1 h1 (by omega) (by omega) (by simp;omega) e2 e3 e4;rw [List.append_assoc,List.singleton_append] at f1 f2;rw [List.drop_eq_getElem_cons hjl,List.map_cons];exact ⟨bP,h',e1.trans f1,f2⟩
theorem C7L {d:Int} {t L:List Int} {q:Nat} (hD:okD D) (hv:IsView g f D) (hw:VwR g r (vwC D.length n m f)) (ht:t.length=32) (hq:8<=q) (hL:L.length<=32) :
  ∀ (e i M:Nat) (s:List Spt) (id:Nat) (h:A4),i+e=L.length->e<M->s.length<=7*i->NmS D (d::t) L g s id h ->
  ∃ M' bP h',M6 q M (.c (.p r 0)) (.c (.p g.length 0)) (.c (.m (g.length+2))) (.c (.sl id 0 (O5 D (d::t) s).length 1)) (.c (.sl (g.length+4) 0 L.length 1)) (.c (.i .i64 (L.length:Nat))) (.c (.i .i64 (i:Int))) h =
   M6 q (M'+1) (.c (.p r 0)) (.c (.p g.length 0)) (.c (.m (g.length+2))) (.c (.sl bP 0 (O5 D (d::t) (s++B3N D (L.drop i))).length 1)) (.c (.sl (g.length+4) 0 L.length 1)) (.c (.i .i64 (L.length:Nat))) (.c (.i .i64 (L.length:Nat))) h'/\NmS D (d::t) L g (s++B3N D (L.drop i)) bP h'/\(s++B3N D (L.drop i)).length<=7*L.length:=by
 intro e
 induction e with
 | zero =>
  intro i M s id h hi hM hn S;obtain ⟨M,rfl⟩:∃ M',M=M'+1:=⟨M-1,by omega⟩;have ei:i=L.length:=by omega
  subst ei;rw [List.drop_length,show B3N D []=[] from rfl,List.append_nil];exact ⟨M,id,h,rfl,S,hn⟩
 | succ e ih =>
  intro i M s id h hi hM hn S;obtain ⟨M,rfl⟩:∃ M',M=M'+1:=⟨M-1,by omega⟩;have S3:i<L.length:=by omega
  have c0:(i:Int)<(L.length:Nat):=by omega
  have ad:C4 1 (.c (.sl (g.length+4) 0 L.length 1)) (.c (.i .i64 (i:Int)))=some (.c (.p (g.length+4) i)):=by rw [E5 S3];simp
  have l1:A7 h (.c (.p (g.length+4) i))=some (.c (.i .i64 L[i])):=C1 S.rs (by rw [H9,List.getElem?_eq_getElem S3];rfl) rfl;have lV:=(hw.since S.low).load;have hB:=Y2 (n:=n) (m:=m) (no:=L[i]) hD (hv.since S.low);obtain ⟨v,tt,b1,b2,b3⟩:=A6R (b:=blk D L[i]) (h:=h) (V4 hD);have hlen:=b2.len;have h7:=vL (blk D L[i]);have w1:=E8 (show i+1<9223372036854775808 by omega);have sY:∀ x∈N8 (blk D L[i]),x.2.1.length<=24:=fun x hx=>by
   have:=C3B (C3p hx).1;exact this
  have main:∃ id1 h1,M7 q M q (.c (.p r 0)) (.c (.p g.length 0)) (.c (.m (g.length+2))) (.c (.sl id 0 (O5 D (d::t) s).length 1)) (.c (.i .i64 L[i])) (.c (.sl (g.length+4) 0 L.length 1)) (.c (.i .i64 (L.length:Nat))) (.c (.i .i64 (i:Int))) v (.c (.i .i64 ((N8 (blk D L[i])).length:Nat))) (.c (.i .i64 ((0:Nat):Int))) (h++tt) =
    bnd (B5 .add (.c (.i .i64 (i:Int))) (.c (.i .i64 1))) (fun v=>M6 q M (.c (.p r 0)) (.c (.p g.length 0)) (.c (.m (g.length+2))) (.c (.sl id1 0 (O5 D (d::t) (s++(N8 (blk D L[i])).map fun x=>(L[i],x))).length 1)) (.c (.sl (g.length+4) 0 L.length 1)) (.c (.i .i64 (L.length:Nat))) v h1)/\NmS D (d::t) L g (s++(N8 (blk D L[i])).map fun x=>(L[i],x)) id1 h1:=by
   rcases b3 with ⟨rfl,rfl,b3⟩ | ⟨rfl,rfl⟩
   ·rw [b3];refine ⟨id,h,?_,by simpa using S⟩;obtain ⟨q',rfl⟩:∃ q',q=q'+1:=⟨q-1,by omega⟩;have c00:¬ ((0:Nat):Int)<((([]:List Slt).length:Nat):Int):=by simp
    rw [dZ,List.append_nil,List.map_nil,List.append_nil];simp only [V9,A4z,c00,decide_false,C5Q]
   ·have gS:=E4 S.rs;have idl:=E4 S.rl;obtain ⟨bP,h',f1,f2⟩:=C6t (lst:=h.length) (q:=q) (m0:=M) (no:=L[i]) (x18:=.c (.sl (g.length+4) 0 L.length 1)) (x19:=.c (.i .i64 (L.length:Nat))) (x20:=.c (.i .i64 (i:Int))) (l:=N8 (blk D L[i])) hD hv hw ht h7 sY (by omega) (N8 (blk D L[i])).length 0 q s id (h++[some ⟨sA (N8 (blk D L[i])),true⟩]) (by omega) (by omega) (by omega) (S.more _) (by simp) (by omega);rw [List.drop_zero] at f1 f2;exact ⟨bP,h',f1,f2⟩
  obtain ⟨id1,h1,m1,m2⟩:=main;obtain ⟨M',bP,h',f1,f2,f3⟩:=ih (i+1) M _ id1 h1 (by omega) (by omega) (by simp;omega) m2;rw [List.append_assoc,<-C2T,<-List.drop_eq_getElem_cons S3] at f1 f2 f3;refine ⟨M',bP,h',?_,f2,f3⟩;rw [rD];have e00:((0:Nat):Int)=0:=rfl;rw [e00] at m1;generalize vwC D.length n m f=V at *;simp only [esc,Nat.add_zero,c0,ad,l1,lV,hB,b1,hlen];simp only [A1h,V9,w1] at m1;exact m1.trans f1
theorem D1Q {F:List UInt8->Int} {B:A4} {b q mid sid:Nat} {S:sG} {es:P6} (hm:MapN es F S) (hb:b<=B.length) (hs:rd B sid=some ⟨encS S,true⟩) (h4:rd B mid=some (J3 es)) (h62:S.length<1000000) :
  ∀ (e i M id:Nat) (h:A4),i+e=S.length->e<M->Low b B h->id≠sid->id≠mid->b<=id->(∀ j r,j=sid\/j=mid->rd B j=some r->rd h j=some r)->rd h id=some ⟨O3 ((S.take i).map fun s=>(s,F s)),true⟩->B.length<=h.length ->
   ∃ v' h',cH q M (.c (.m mid)) (.c (.sl id 0 i 2)) (.c (.sl sid 0 S.length 1)) (.c (.i .i64 (S.length:Int))) (.c (.i .i64 (i:Int))) h=some (v',h')/\Out b h' v' 2 S.length (O3 (S.map fun s=>(s,F s)))
 | e,i,0,id,h,_,hm,_,_,_,_,_,_,_=>by omega
 | 0,i,M+1,id,h,hi,hm0,hlow,ns,n4,hbi,hk,hr,hl=>by
  have c0:¬ (i:Int)<(S.length:Nat):=by omega
  have ei:i=S.length:=by omega
  subst ei;rw [rE];rw [List.take_length] at hr;refine ⟨.c (.sl id 0 S.length 2),h,by simp only [V9,A4z,c0,decide_false,C5Q],by rw [A9T];simp,id,rfl,hbi,hr⟩
 | e+1,i,M+1,id,h,hi,hm0,hlow,ns,n4,hbi,hk,hr,hl=>by
  have S3:i<S.length:=by omega
  have c0:(i:Int)<(S.length:Nat):=by omega
  have ad:C4 1 (.c (.sl sid 0 S.length 1)) (.c (.i .i64 (i:Int)))=some (.c (.p sid i)):=by rw [E5 S3];simp
  have l1:A7 h (.c (.p sid i))=some (.c (.s S[i])):=C1 (hk sid _ (.inl rfl) hs) (by rw [B31,List.getElem?_eq_getElem S3];rfl) rfl;have lk:=D1I (s:=S[i]) (hk _ _ (.inr rfl) h4) hm (List.getElem_mem S3);have ef:C7 [Cell.s [],.i .i64 0] [(0,1,.c (.s S[i])),(1,1,.c (.i .i64 (F S[i])))]=some (eW (some (S[i],F S[i]))):=rfl;have ef2:C7 [Cell.s [],.i .i64 0] [(0,2,.a (eW (some (S[i],F S[i]))))]=some (eW (some (S[i],F S[i]))):=rfl;have el:((S.take i).map fun s=>(s,F s)).length=i:=by simp;omega
  obtain ⟨h2,a1,a2,a3,a4⟩:=C1g (n:=i) (sz:=2) (ys:=eW (some (S[i],F S[i]))) hr (by rw [A9T,el]) rfl (by omega) (by omega);have et:O3 ((S.take i).map fun s=>(s,F s))++eW (some (S[i],F S[i]))=O3 ((S.take (i+1)).map fun s=>(s,F s)):=by
   rw [List.take_add_one,List.getElem?_eq_getElem S3,List.map_append,O3];simp [O3]
  rw [et] at a2;have w1:=E8 (show i+1<9223372036854775808 by omega);have D7j:=E4 a2;obtain ⟨v',h',f1,f2⟩:=D1Q (q:=q) hm hb hs h4 h62 e (i+1) M (h.length+1) h2 (by omega) (by omega) (hlow.trans (a4 _ hbi (by omega)))
   (fun e1=>by have:=E4 hs;omega) (fun e1=>by have:=E4 h4;omega) (by omega) (fun j r hj hjr=>a3 _ _ (by rcases hj with rfl | rfl<;>omega) (hk j r hj hjr)) a2 (by omega)
  rw [rE];refine ⟨v',h',?_,f2⟩;simp only [V9,A4z,c0,decide_true,C8w,ad,l1,lk,ef,ef2,a1,A1h,w1];exact f1
theorem D1N {d:Int} {t:List Int} (hD:okD D) (hv:IsView h f D) (hr:VwR h r (vwC D.length n m f)) (ht:t.length=32) :
  R3 [.c (.p r 0),.a (encI (d::t))] h=some (.c (.sl h.length 0 (B1k D (d::t) (Z0 t (E9 d))).length 2),h++[some ⟨O3 (B1k D (d::t) (Z0 t (E9 d))),true⟩]):=by
 have h33:(encI (d::t)).length=33:=by simp [B9,ht]
 have hLl:(Z0 t (E9 d)).length<=32:=Nat.le_trans (A2x _ _) (bJ _);have key:∀ g,IsView g f D->VwR g r (vwC D.length n m f)->∃ v g',dR 300 [.c (.p r 0),.a (encI (d::t))] g=some (v,g')/\Out g.length g' v 2 (B1k D (d::t) (Z0 t (E9 d))).length (O3 (B1k D (d::t) (Z0 t (E9 d)))):=by
  intro g hv hw;have hB:=tY (d:=d) (t:=t) (h:=g++[some (Row.mk (encI (d::t)) true),some (Row.mk [] true),some (J3 []),some (Row.mk [] true)]) ht;obtain ⟨L,hL⟩:∃ L,L=Z0 t (E9 d):=⟨_,rfl⟩;rw [<-hL] at hB hLl ⊢;obtain ⟨G,hG⟩:∃ G,G=g++[some (Row.mk (encI (d::t)) true),some (Row.mk [] true),some (J3 []),some (Row.mk [] true),some (Row.mk (encI L) true)]:=⟨_,rfl⟩;have S0:NmS D (d::t) L g [] (g.length+3) G:=by
   rw [hG];exact ⟨(Low.refl (Nat.le_refl _)).new _,by simp,⟨[],by simp,MapN.nil _⟩,by simp,by simp [O5,encS],.inl rfl⟩
  obtain ⟨M',id,H,e1,S,hn⟩:=C7L (q:=300) hD hv hw ht (by omega) hLl L.length 0 300 [] (g.length+3) G (by omega) (by omega) (by simp) S0;rw [List.drop_zero,List.nil_append] at e1 S hn;obtain ⟨N,hN⟩:∃ N,N=O5 D (d::t) (B3N D L):=⟨_,rfl⟩;have gI:=B6C (D:=D) (X:=d::t) (s:=B3N D L);have hrl:=S.rl;rw [<-hN] at e1 gI hrl;have hH:Has (H++[some (Row.mk [] true)]) (.c (.sl id 0 N.length 1)) 1 N.length (encS N):=Has.row (rw:=true) (B6 hrl) (by rw [X9];omega) (C6u _);have hSo:=C4R hH (by omega);obtain ⟨es,r4,hm⟩:=S.rm;rw [<-hN] at hm;have hm2:MapN es (C7D D (d::t)) (zP N):=⟨hm.1,fun s hs=>hm.2 s ((D0e _ _).1 hs)⟩;have sY:=B40 N;have lh:(H++[some (Row.mk [] true)]).length=H.length+1:=by simp
  rw [lh] at hSo;have R0:=E4 r4;have gl:=S.low.2.1;obtain ⟨v',g',o1,o2⟩:=D1Q (F:=C7D D (d::t)) (B:=H++[some (Row.mk [] true)]++[some (Row.mk (encS (zP N)) true)]) (b:=g.length) (q:=300) (mid:=g.length+2) (sid:=H.length+1) (S:=zP N) hm2 (by simp;omega) (by rw [<-lh];exact V6) (B6 (B6 r4)) (by omega)
   (zP N).length 0 300 H.length (H++[some (Row.mk [] true)]++[some (Row.mk (encS (zP N)) true)]) (by omega) (by omega) (Low.refl (by simp;omega)) (by omega) (by omega) (by omega) (fun j r _ hj=>hj) (by simp [O3]) (Nat.le_refl _)
  have eL:B1k D (d::t) L=(zP N).map fun s=>(s,C7D D (d::t) s):=by unfold B1k;rw [<-hN]
  refine ⟨v',g',?_,by rw [eL,List.length_map];exact o2⟩;have c0:¬ ((L.length:Nat):Int)<(L.length:Nat):=by omega
  have l33:ldN (some (Row.mk (encI (d::t)) true)) 0 33=some (.a (encI (d::t))):=gG h33;have n0:(O5 D (d::t) ([]:List Spt)).length=0:=rfl;have e00:((0:Nat):Int)=0:=rfl;rw [n0,e00] at e1;rw [hG] at e1;rw [e00] at o1;rw [A7h];simp only [esc] at hB;rw [rD 300 M'] at e1;simp only [esc,c0,hSo] at e1 o1;generalize encI (d::t)=X at *;simp only [esc,Y7,K3,Nat.reduceAdd,l33,hB];refine e1.trans ?_;exact o1
 obtain ⟨v,g',e,ho⟩:=key (ro h) hv.ro hr.ro;exact A5I e (by simpa [I8] using ho) C7s
end
end
theorem C92 {b:List UInt8} {k:Nat} {x:Ent} (hx:jG b k=some x):B8E x.1 x.2=true:=by
 unfold jG at hx;cases hu:sE (nameB b k) with
 | none=>rw [hu] at hx;cases hx
 | some s' =>
  rw [hu,Option.bind_some] at hx;split at hx
  ·rename_i hc;cases hx;unfold isE at hc;rw [Bool.and_eq_true] at hc;exact hc.1
  ·cases hx
theorem C9k {h:A4} {b id n:Nat} {a:Int} {cs:List Cell} (hb:b<=id) (hr:rd h id=some ⟨cs,true⟩) (hf:I9 cs=true) :
  S9 h b (.t [.a [.i .i64 a,.sl id 0 n 1],.c (.i .i64 0)])=some (.t [.a [.i .i64 a,.sl b 0 n 1],.c (.i .i64 0)],[id]):=by
 have h1:¬ id<b:=by omega
 have hc1:L7 h b [] [.i .i64 a,.sl id 0 n 1]=some ([.i .i64 a,.sl b 0 n 1],[id]):=by
  simp [L7,Cell.low,Cell.flat,A0L hr hf,h1,hb]
 have hc2:L7 h b [id] [.i .i64 0]=some ([.i .i64 0],[id]):=bE (by simp);simp only [S9,dX,hc1,hc2,Option.bind_some,Option.map_some]
theorem D4o {a:Int} {x:Cell}:C7 [Cell.i .i64 0,.ns] [(0,1,.c (.i .i64 a)),(1,1,.c x)]=some [.i .i64 a,x]:=rfl
theorem B91 {k id n:Nat} {h:A4} (hk:k<7) (hid:id<h.length):mE [.c (.i .i64 (k:Int)),.c (.i .i64 0),.c (.sl id 0 n 1)] h=some (.t [.a [.i .i64 (J7 k:Nat),.sl id 0 n 1],.c (.i .i64 0)],h):=by
 have key:∀ g,∃ g',uO 0 [.c (.i .i64 (k:Int)),.c (.i .i64 0),.c (.sl id 0 n 1)] g=some (.t [.a [.i .i64 (J7 k:Nat),.sl id 0 n 1],.c (.i .i64 0)],g'):=by
  intro g;have c1:¬ (k:Int)<0:=by omega
  have c2:¬ 7<=(k:Int):=by omega
  have hF:=fun h=>nN (h:=h) hk
  have w1:IntKind.wrap .i64 (((J7 k:Nat):Int)+0)=((J7 k:Nat):Int):=by unfold J7;rw [wrap_i64 (by omega) (by omega)];omega
  rw [B5l];exact ⟨_,by simp only [esc,esh,Nat.reduceAdd,Nat.reduceMul,Nat.reduceLT,c1,c2,hF,w1,D4o]<;>rfl⟩
 obtain ⟨g',e⟩:=key (ro h);exact B3q e (by simp [Val.low,Cell.low,Cell.flat,hid])
theorem C10 {k:Nat} {s:List UInt8} {n:Int} {h:A4} (hs:s.length<9223372036854775807) (hk:k<7) (hm:B8E s n=true):qK [.c (.i .i64 (k:Int)),.a [.s s,.i .i64 n]] h=some (.t [.a [.i .i64 (J7 k:Nat),.sl h.length 0 32 1],.c (.i .i64 0)],h++[some ⟨A5 (iV s n),true⟩]):=by
 have key:∀ g,∃ g',zZ 0 [.c (.i .i64 (k:Int)),.a [.s s,.i .i64 n]] g=some (.t [.a [.i .i64 (J7 k:Nat),.sl (g.length+2) 0 32 1],.c (.i .i64 0)],g')/\rd g' (g.length+2)=some ⟨A5 (iV s n),true⟩:=by
  intro g;have c1:0<=(k:Int):=by omega
  have c2:(k:Int)<7:=by omega
  have hM:=fun h=>A3L (s:=s) (n:=n) (h:=h) hs
  rw [hm] at hM;have hW:=fun h=>rA (s:=s) (n:=n) (h:=h) hs
  have hL:=B91 (k:=k) (id:=g.length+2) (n:=32) (h:=g++[some (Row.mk [.s s,.i .i64 n] true),some (Row.mk [.i .i64 0,.ns] true),some (Row.mk (A5 (iV s n)) true)]) hk (by simp);rw [B7U];generalize iV s n=E at *;exact ⟨_,by simp only [esc,esh,Nat.reduceAdd,Nat.reduceMul,Nat.reduceLT,c1,c2,hM,hW,hL]<;>rfl,by simp⟩
 obtain ⟨g',e,hr⟩:=key (ro h);rw [I8] at hr;have:=B3p e (C9k (b:=h.length) (by rw [I8];omega) (by rw [I8];exact hr) (by simp));rw [this,I8];simp [hr]
section
def MapK (es:P6) (K:List UInt8->Option Int):Prop:=(∀ e∈es,∃ s,e.1=Cell.s s)/\∀ s,(A7A (.s s) es).map (·.2)=(K s).map fun v=>Part.c (.i .i64 v)
def D2u (K:List UInt8->Option Int) (a:List UInt8) (v:Int):List UInt8->Option Int:=fun s=>if s=a then some v else K s
theorem MapK.nil:MapK [] fun _=>none:=⟨fun e he=>by simp at he,fun s=>rfl⟩
theorem MapK.put {es:P6} {K:List UInt8->Option Int} (hm:MapK es K) (a:List UInt8) (v:Int):MapK (A7B (.s a) (.c (.i .i64 v)) es) (D2u K a v):=by
 refine ⟨B6A (Q:=fun c=>∃ s,c=.s s) ⟨a,rfl⟩ hm.1,fun s=>?_⟩;unfold D2u;by_cases c:s=a
 ·subst c;rw [if_pos rfl,(A0K (k':=.mh)).1];rfl
 ·rw [if_neg c,(A0K (k:=.s a) (k':=.s s)).2 (by simpa using c)];exact hm.2 s
theorem D5Z {h:A4} {mid:Nat} {es:P6} {K:List UInt8->Option Int} {a:List UInt8} (hr:rd h mid=some (J3 es)) (hm:MapK es K):oH h none (.c (.i .i64 0)) false (.c (.m mid)) (.c (.s a))=some (.c (.i .i64 ((K a).getD 0))):=by
 simp only [oH,B8C,C7H,hr,Option.bind_some,uB];rw [if_pos (C8H hm.1)];have h2:=hm.2 a;cases hg:A7A (.s a) es with
 | none =>
  rw [hg] at h2;cases hF:K a with
  | none=>rfl
  | some v=>rw [hF] at h2;cases h2
 | some ip =>
  obtain ⟨i,p⟩:=ip;rw [hg] at h2;cases hF:K a with
  | none=>rw [hF] at h2;cases h2
  | some v=>rw [hF] at h2;simp at h2;subst h2;rfl
theorem D6Z {h:A4} {mid:Nat} {es:P6} {K:List UInt8->Option Int} {a:List UInt8} {x:Int} (hr:rd h mid=some (J3 es)) (hm:MapK es K):sM h none (.c (.m mid)) (.c (.s a)) (.c (.i .i64 x))=some (h.set mid (some (J3 (A7B (.s a) (.c (.i .i64 x)) es)))):=by
 simp only [sM,B8C,C1j,hr,Option.bind_some,uB];rw [if_pos (C8H hm.1)]
def A9l (D:Dev) (X:List Int) (no:Int) (K:List UInt8->Option Int) (x:Slt):Bool:=atH D X (no,x)&&decide ((K x.2.1).getD 0=x.2.2)
def mV (D:Dev) (X:List Int) (no:Int) (K:List UInt8->Option Int) (s:Cl × List UInt8) (x:Slt):Cl × List UInt8 :=
 bif A9l D X no K x then (s.1,I1 s.2 (J7 x.1) (iV x.2.1 x.2.2)) else ({ s.1 with lost:=s.1.lost+1 },s.2)
def X2 (D:Dev) (X:List Int) (no:Int) (K:List UInt8->Option Int) (s:Cl × List UInt8) (l:List Slt):Cl × List UInt8:=l.foldl (mV D X no K) s
theorem C3b {D:Dev} {X:List Int} {no:Int} {K:List UInt8->Option Int} {s:Cl × List UInt8} {x:Slt} (hs:s.2.length=256) (hk:x.1<7):(mV D X no K s x).2.length=256:=by
 unfold mV;cases A9l D X no K x with
 | false=>exact hs
 | true=>rw [cond_true];dsimp only;rw [L8 (by rw [hs,iW];unfold J7;omega)];exact hs
theorem C0g {D:Dev} {X:List Int} {no:Int} {K:List UInt8->Option Int} {s:Cl × List UInt8} {x:Slt}:s.1.lost<=(mV D X no K s x).1.lost/\(mV D X no K s x).1.lost<=s.1.lost+1:=by
 unfold mV;cases A9l D X no K x<;>simp<;>omega
section
variable {D:Dev} {n m:Int} {f:Cell} {g:A4} {r:Nat} {h:A4}
theorem LocV.more {t:A4} {id:Nat} {cs:List Cell} (hr:r<h.length) (a:LocV h r id cs):LocV (h++t) r id cs :=
 a.fr (Fr.low ((Low.refl (Nat.le_refl _)).new _) hr)
def LocM (h:A4) (r id:Nat) (es:P6):Prop:=Loc h r id/\rd h id=some (J3 es)
theorem LocM.fr {h':A4} {id:Nat} {es:P6} (a:LocM h r id es) (b:Fr r h h'):LocM h' r id es:=by
 obtain ⟨h1,h2⟩:=b.loc a.1;exact ⟨h1,by rw [h2];exact a.2⟩
theorem LocM.set {id j:Nat} {es:P6} {x:Option Row} (a:LocM h r id es) (hj:j≠id) (hl:j≠r):LocM (h.set j x) r id es:=by
 refine ⟨⟨by simpa using a.1.1,a.1.2.1,fun hn=>a.1.2.2 ((Nam.same (B7 hl)).1 hn)⟩,by rw [B7 hj];exact a.2⟩
theorem C7p {d:Int} {t:List Int} {no:Int} {K:List UInt8->Option Int} {es:P6} {l:List Slt} {mk px p8 p9 lst q:Nat} {h0:A4} (hD:okD D) (hv:IsView g f D) (ht:t.length=32) (hK:MapK es K) (h0g:g.length<=h0.length) (a8:h0.length<=p8) (a9:h0.length<=p9)
  (n1:p9≠mk) (n2:p9≠px) (n3:p9≠p8) (n4:p9≠lst) (hl7:l.length<=7) (sY:∀ x∈l,x.1<7/\x.2.1.length<=24/\B8E x.2.1 x.2.2=true) :
  ∀ (e j M:Nat) (s:Cl × List UInt8) (h:A4),j+e=l.length->e<M->s.2.length=256->0<=s.1.lost->s.1.lost+e<=1000000->WP D n m f g r s.1 h->Fr r h0 h->LocM h r mk es->LocV h r px (encI (d::t))->(∃ z,z.length=256/\LocV h r p8 z)->LocV h r p9 (A5 s.2)->LocV h r lst (sA l) ->
  ∃ h',N3 q M (.c (.p r 0)) (.c (.i .i64 no)) (.c (.m mk)) (.c (.p px 0)) (.c (.p p8 0)) (.c (.p p9 0)) (.c (.sl lst 0 l.length 3)) (.c (.i .i64 (l.length:Nat))) (.c (.i .i64 (j:Int))) h=some (.a (A5 (X2 D (d::t) no K s (l.drop j)).2),h')/\WP D n m f g r (X2 D (d::t) no K s (l.drop j)).1 h'/\Fr r h0 h':=by
 intro e
 induction e with
 | zero =>
  intro j M s h hj hM hs l0 l1 P F hm hx hz hb hl;obtain ⟨M,rfl⟩:∃ M',M=M'+1:=⟨M-1,by omega⟩;have c0:¬ ((j:Int)<(l.length:Nat)):=by omega
  obtain ⟨z,xX,hz⟩:=hz;have hbl:(A5 s.2).length=256:=by rw [A6,hs]
  have q1:=D4 (n:=256) hb.2 hbl;have s1:=storeAll (n:=256) (xs:=A5 s.2) hz.2 xX hbl;have hz2:=hz.self (cs':=A5 s.2);have q2:=D4 (n:=256) hz2.2 hbl;rw [List.drop_of_length_le (by omega)];refine ⟨h.set p8 (some ⟨A5 s.2,true⟩),?_,P.set hz.1 (by omega),F.set hz.1 a8⟩;rw [cA];show _=some (Val.a (A5 s.2),_);generalize A5 s.2=B at *;simp only [esc,c0,q1,s1,q2]
 | succ e ih =>
  intro j M s h hj hM hs l0 l1 P F hm hx hz hb hl;obtain ⟨M,rfl⟩:∃ M',M=M'+1:=⟨M-1,by omega⟩;have hjl:j<l.length:=by omega
  have c0:((j:Int)<(l.length:Nat)):=by omega
  have hv2:=hv.get;have ad:C4 3 (.c (.sl lst 0 l.length 3)) (.c (.i .i64 (j:Int)))=some (.c (.p lst (j*3))):=by rw [E5 hjl];simp
  have hlen:=xS (l:=l);have w1:=E8 (show j+1<9223372036854775808 by omega);obtain ⟨x,hxe⟩:∃ x,x=l[j]:=⟨_,rfl⟩;have hxj:l[j]?=some x:=by rw [hxe];exact List.getElem?_eq_getElem hjl
  obtain ⟨x7,x24,xm⟩:=sY x (by rw [hxe];exact List.getElem_mem hjl);have l3:A8 h 3 (.c (.p lst (j*3)))=some (.a (slC (some x))):=by rw [T2 hl.2 (by rw [hlen];omega) rfl,C81 hxj]
  have xW:=C3b (D:=D) (X:=d::t) (no:=no) (K:=K) (s:=s) (x:=x) hs x7;have hlo:=C0g (D:=D) (X:=d::t) (no:=no) (K:=K) (s:=s) (x:=x);rw [List.drop_eq_getElem_cons hjl,<-hxe];have er:∀ T,X2 D (d::t) no K s (x::T)=X2 D (d::t) no K (mV D (d::t) no K s x) T:=fun T=>rfl
  rw [er];obtain ⟨k,nm,i⟩:=x;dsimp only at x7 x24 xm;obtain ⟨h1,e1⟩:∃ h1,h1=h++[some (Row.mk (slC (some (k,nm,i))) true)]:=⟨_,rfl⟩;have s3:B4 (h++[some (Row.mk [Cell.i .i64 0,.s [],.i .i64 0] true)]) 3 (.c (.p h.length 0)) (.a (slC (some (k,nm,i))))=some h1:=by rw [H7,e1];rfl
  have P1:WP D n m f g r s.1 h1:=e1 ▸ P.more hv2 _;have hx1:LocV h1 r px (encI (d::t)):=e1 ▸ hx.more P.rlt;have lX:A8 h1 33 (.c (.p px 0))=some (.a (encI (d::t))):=D4 hx1.2 (by simp [B9,ht]);have lN:A7 h1 (.c (.p h.length 1))=some (.c (.s nm)):=by rw [e1,O4];rfl
  have hH:=C8E (n:=n) (m:=m) (f:=f) (r:=r) (d:=d) (t:=t) (nm:=nm) (h:=h1) hD (hv.since P1.lo) (P1.vw hv2) ht (by omega);obtain ⟨h2,e2⟩:∃ h2,h2=h1++[some (Row.mk (B6H (iY (d::t) nm) (hmS D (d::t) nm)) true)]:=⟨_,rfl⟩;have s4:B4 (h1++[some (Row.mk [Cell.i .i64 0,.i .i64 0,.s [],.i .i64 0] true)]) 4 (.c (.p h1.length 0)) (.a (B6H (iY (d::t) nm) (hmS D (d::t) nm)))=some h2:=by
   rw [H7,e2];cases hmS D (d::t) nm<;>rfl
  have e12:h2=h++[some (Row.mk (slC (some (k,nm,i))) true),some (Row.mk (B6H (iY (d::t) nm) (hmS D (d::t) nm)) true)]:=by rw [e2,e1];simp
  have F2:Fr r h h2:=by rw [e12];exact Fr.low ((Low.refl (Nat.le_refl _)).new _) P.rlt
  have P2:WP D n m f g r s.1 h2:=by rw [e12];exact P.more hv2 _
  have m2:=hm.fr F2;have x2:=hx.fr F2;have b2:=hb.fr F2;have ls2:=hl.fr F2;obtain ⟨z,xX,hz⟩:=hz;have z2:=hz.fr F2;have lB:A7 h2 (.c (.p h1.length 0))=some (.c (.i .i64 (iY (d::t) nm))):=by rw [e2,O4];rfl
  have lS:A8 h2 3 (.c (.p h1.length 1))=some (.a (slC (hmS D (d::t) nm))):=by rw [e2,K3];cases hmS D (d::t) nm<;>rfl
  have rp:rd h2 h.length=some ⟨slC (some (k,nm,i)),true⟩:=by rw [e2,e1];simp
  have lP:A8 h2 3 (.c (.p h.length 0))=some (.a (slC (some (k,nm,i)))):=D4 rp rfl;have lP0:A7 h2 (.c (.p h.length 0))=some (.c (.i .i64 (k:Int))):=C1 rp rfl rfl;have lP1:A7 h2 (.c (.p h.length 1))=some (.c (.s nm)):=C1 rp rfl rfl;have lP2:A7 h2 (.c (.p h.length 2))=some (.c (.i .i64 i)):=C1 rp rfl rfl;have lPE:A8 h2 2 (.c (.p h.length 1))=some (.a [.s nm,.i .i64 i]):=by rw [T2 rp (by simp [slC]) rfl];rfl
  have lk:=D5Z (a:=nm) m2.2 hK;have lose:A9l D (d::t) no K (k,nm,i)=false->∃ h3 h',A7 h2 (.c (.p r 9))=some (.c (.i .i64 s.1.lost))/\IntKind.wrap .i64 (s.1.lost+1)=s.1.lost+1/\D3 h2 (.c (.p r 9)) (.c (.i .i64 (s.1.lost+1)))=some h3 /\
    N3 q M (.c (.p r 0)) (.c (.i .i64 no)) (.c (.m mk)) (.c (.p px 0)) (.c (.p p8 0)) (.c (.p p9 0)) (.c (.sl lst 0 l.length 3)) (.c (.i .i64 (l.length:Nat))) (.c (.i .i64 ((j+1:Nat):Int))) h3=some (.a (A5 (X2 D (d::t) no K (mV D (d::t) no K s (k,nm,i)) (l.drop (j+1))).2),h')/\WP D n m f g r (X2 D (d::t) no K (mV D (d::t) no K s (k,nm,i)) (l.drop (j+1))).1 h'/\Fr r h0 h':=by
   intro hk;have ec:mV D (d::t) no K s (k,nm,i)=({ s.1 with lost:=s.1.lost+1 },s.2):=by unfold mV;rw [hk];rfl
   obtain ⟨h3,f1,f2,f3,f4⟩:=P2.setLost hv2 (s.1.lost+1);have Fa:=F2.trans f4;obtain ⟨h',g1,g2⟩:=ih (j+1) M ({ s.1 with lost:=s.1.lost+1 },s.2) h3 (by omega) (by omega) hs (by dsimp only;omega) (by dsimp only;omega) f3 (F.trans Fa) (m2.fr f4) (x2.fr f4) ⟨z,xX,z2.fr f4⟩ (b2.fr f4) (ls2.fr f4);rw [ec];exact ⟨h3,h',f1,wrap_i64 (by omega) (by omega),f2,g1,g2⟩
  rw [cA];cases ho:hmS D (d::t) nm with
  | none =>
   obtain ⟨h3,h',f1,f2,f3,f4,f5⟩:=lose (by unfold A9l atH;simp only [ho];simp);refine ⟨h',?_,f5⟩;rw [ho] at hH s4 lS;generalize encI (d::t)=X at *;simp only [esc,Nat.reduceAdd,c0,ad,l3,s3,lX,lN,hH,Option.isSome_none,s4,f1,f2,f3,N7,w1];exact f4
  | some p =>
   rw [ho] at hH s4 lS;have ea:=C82 (neg:=true) p (k,nm,i);by_cases c1:iY (d::t) nm=no
   ·rw [c1] at hH s4 lB;by_cases c2:p=(k,nm,i)
    ·have ea2:aeq true [.i .i64,.s,.i .i64] (.a (slC (some p))) (.a (slC (some (k,nm,i))))=some (.c (.b false)):=by rw [ea,c2];simp
     by_cases c3:(K nm).getD 0=i
     ·have hk:A9l D (d::t) no K (k,nm,i)=true:=by unfold A9l atH;simp only [ho,c1,c2,c3];simp
      have ec:mV D (d::t) no K s (k,nm,i)=(s.1,I1 s.2 (J7 k) (iV nm i)):=by unfold mV;rw [hk];rfl
      rw [ec] at xW ⊢;have D3d:=C10 (k:=k) (s:=nm) (n:=i) (h:=h2) (by omega) x7 xm;obtain ⟨h3,e3⟩:∃ h3,h3=h2++[some (Row.mk (A5 (iV nm i)) true),some (Row.mk [.i .i64 (J7 k:Nat),.sl h2.length 0 32 1] true)]:=⟨_,rfl⟩;have s5:B4 (h2++[some (Row.mk (A5 (iV nm i)) true),some (Row.mk [Cell.i .i64 0,.ns] true)]) 2 (.c (.p (h2.length+1) 0)) (.a [.i .i64 (J7 k:Nat),.sl h2.length 0 32 1])=some h3:=by rw [Q1,e3];rfl
      have F3:Fr r h2 h3:=by rw [e3];exact Fr.low ((Low.refl (Nat.le_refl _)).new _) P2.rlt
      have P3:WP D n m f g r s.1 h3:=by rw [e3];exact P2.more hv2 _
      have b3:=b2.fr F3;have hbl:(A5 s.2).length=256:=by rw [A6,hs]
      have q1:=D4 (n:=256) b3.2 hbl;have q2:A8 h3 2 (.c (.p (h2.length+1) 0))=some (.a [.i .i64 (J7 k:Nat),.sl h2.length 0 32 1]):=by rw [e3,Y7];rfl
      have D4q:Has h3 (.c (.sl h2.length 0 32 1)) 1 32 (A5 (iV nm i)):=Has.row (rw:=true) (by rw [e3];simp) (by rw [A6,iW]) (T4 _);have D6s:=B4U (a:=J7 k) (l:=s.2) D4q (by omega) (by unfold J7;omega) hs;have hl2:(A5 (I1 s.2 (J7 k) (iV nm i))).length=256:=by rw [A6];exact xW
      have sb:=storeAll (n:=256) (xs:=A5 (I1 s.2 (J7 k) (iV nm i))) b3.2 hbl hl2;have Fa:=F2.trans F3;obtain ⟨h',g1,g2⟩:=ih (j+1) M (s.1,I1 s.2 (J7 k) (iV nm i)) _ (by omega) (by omega) xW l0 (by dsimp only;omega) (P3.set b3.1 (by omega)) ((F.trans Fa).set b3.1 a9) ((m2.fr F3).set n1 b3.1.2.1) ((x2.fr F3).set n2 b3.1.2.1) ⟨z,xX,(z2.fr F3).set n3 b3.1.2.1⟩ b3.self ((ls2.fr F3).set n4 b3.1.2.1);refine ⟨h',?_,g2⟩
      try dsimp only at g1
      have f0:(3:Nat)=3:=rfl;generalize A5 (I1 s.2 (J7 k) (iV nm i))=B2 at *;generalize A5 s.2=B at *;generalize encI (d::t)=X at *;generalize A5 (iV nm i)=E at *;simp only [esc,Nat.reduceAdd,c0,ad,l3,s3,lX,lN,hH,Option.isSome_some,s4,lB,eq_self,lS,lP,ea2,lP0,lP1,lP2,lPE,lk,c3,D3d,s5,q1,q2,D6s,sb,N7,w1];exact g1
     ·obtain ⟨h3,h',f1,f2,f3,f4,f5⟩:=lose (by unfold A9l;simp [c3]);refine ⟨h',?_,f5⟩;generalize encI (d::t)=X at *;simp only [esc,Nat.reduceAdd,c0,ad,l3,s3,lX,lN,hH,Option.isSome_some,s4,lB,eq_self,lS,lP,ea2,lP1,lP2,lk,c3,f1,f2,f3,N7,w1];exact f4
    ·have ea2:aeq true [.i .i64,.s,.i .i64] (.a (slC (some p))) (.a (slC (some (k,nm,i))))=some (.c (.b true)):=by rw [ea];simp [c2]
     obtain ⟨h3,h',f1,f2,f3,f4,f5⟩:=lose (by unfold A9l atH;simp only [ho];simp [c2]);refine ⟨h',?_,f5⟩;generalize encI (d::t)=X at *;simp only [esc,Nat.reduceAdd,c0,ad,l3,s3,lX,lN,hH,Option.isSome_some,s4,lB,eq_self,lS,lP,ea2,f1,f2,f3,N7,w1];exact f4
   ·obtain ⟨h3,h',f1,f2,f3,f4,f5⟩:=lose (by unfold A9l atH;simp only [ho];simp [c1]);refine ⟨h',?_,f5⟩;generalize encI (d::t)=X at *;simp only [esc,Nat.reduceAdd,c0,ad,l3,s3,lX,lN,hH,Option.isSome_some,s4,lB,c1,f1,f2,f3,N7,w1];exact f4
end
end
section
theorem B2s {D:Dev} {X:List Int} {no:Int} {K:List UInt8->Option Int}:∀ {l:List Slt} {s:Cl × List UInt8},s.2.length=256->(∀ x∈l,x.1<7)->(X2 D X no K s l).2.length=256
 | [],_,hs,_=>hs
 | x::l,s,hs,h=>B2s (l:=l) (s:=mV D X no K s x) (C3b hs (h x (List.mem_cons_self ..))) fun y hy=>h y (List.mem_cons_of_mem _ hy)
theorem B7t {D:Dev} {X:List Int} {no:Int} {K:List UInt8->Option Int}:∀ {l:List Slt} {s:Cl × List UInt8},s.1.lost<=(X2 D X no K s l).1.lost/\(X2 D X no K s l).1.lost<=s.1.lost+l.length
 | [],s=>⟨Int.le_refl _,by show s.1.lost<=_;simp⟩
 | x::l,s=>by
  have h1:=C0g (D:=D) (X:=X) (no:=no) (K:=K) (s:=s) (x:=x);have h2:=B7t (D:=D) (X:=X) (no:=no) (K:=K) (l:=l) (s:=mV D X no K s x);show s.1.lost<=(X2 D X no K (mV D X no K s x) l).1.lost/\_<=_;rw [List.length_cons];refine ⟨by omega,?_⟩;show (X2 D X no K (mV D X no K s x) l).1.lost<=_;omega
structure SameL (c c':Cl):Prop where
 row:c'.row=c.row
 ino:c'.ino=c.ino
 blocks:c'.blocks=c.blocks
 made:c'.made=c.made
 taken:c'.taken=c.taken
 lnk:c'.lnk=c.lnk
 par:c'.par=c.par
theorem A2H {D:Dev} {X:List Int} {no:Int} {K:List UInt8->Option Int}:∀ {l:List Slt} {s:Cl × List UInt8},SameL s.1 (X2 D X no K s l).1
 | [],_=>⟨rfl,rfl,rfl,rfl,rfl,rfl,rfl⟩
 | x::l,s=>by
  have h2:=A2H (D:=D) (X:=X) (no:=no) (K:=K) (l:=l) (s:=mV D X no K s x);have h1:SameL s.1 (mV D X no K s x).1:=by
   unfold mV;cases A9l D X no K x<;>exact ⟨rfl,rfl,rfl,rfl,rfl,rfl,rfl⟩
  show SameL s.1 (X2 D X no K (mV D X no K s x) l).1;exact ⟨h2.row.trans h1.row,h2.ino.trans h1.ino,h2.blocks.trans h1.blocks,h2.made.trans h1.made,h2.taken.trans h1.taken,h2.lnk.trans h1.lnk,h2.par.trans h1.par⟩
theorem C1n {b:List UInt8}:∀ x∈N8 b,x.1<7/\x.2.1.length<=24/\B8E x.2.1 x.2.2=true:=fun x hx=>by
 have h1:=C3p hx;exact ⟨h1.2,C3B h1.1,C92 h1.1⟩
section
variable {D:Dev} {n m:Int} {f:Cell} {g:A4} {r:Nat} {c:Cl} {h:A4}
theorem C7q {d:Int} {t:List Int} {no:Int} {K:List UInt8->Option Int} {es:P6} {mk:Nat} (hD:okD D) (hv:IsView g f D) (P:WP D n m f g r c h) (ht:t.length=32) (hK:MapK es K) (hm:LocM h r mk es) (l0:0<=c.lost) (l1:c.lost<=900000) :
  ∃ h',S5 [.c (.p r 0),.a (encI (d::t)),.c (.i .i64 no),.c (.m mk)] h=some (.a (A5 (X2 D (d::t) no K (c,eY []) (N8 (blk D no))).2),h')/\WP D n m f g r (X2 D (d::t) no K (c,eY []) (N8 (blk D no))).1 h'/\Fr r h h':=by
 have hv2:=hv.get;have h33:(encI (d::t)).length=33:=by simp [B9,ht]
 have D6t:=fun h=>C1V (v:=.c .ns) (nv:=0) (l:=[]) (h:=h) (.inl ⟨rfl,rfl,rfl⟩) (by simp)
 have hNl:(A5 (eY [])).length=256:=by rw [A6];exact A2V
 have hZl:(A5 (zeros 256)).length=256:=by rw [A6];exact zeros_length
 obtain ⟨T,hT⟩:∃ T,T=[some (Row.mk (encI (d::t)) true),some (Row.mk (A5 (zeros 256)) true),some (Row.mk (A5 (eY [])) true)]:=⟨_,rfl⟩;have F1:Fr r h (h++T):=Fr.low ((Low.refl (Nat.le_refl _)).new _) P.rlt;have P1:=P.more hv2 T;have lV:=P1.view;have hB:=Y2 (n:=n) (m:=m) (no:=no) hD (hv.since P1.lo);obtain ⟨v,tt,b1,b2,b3⟩:=A6R (b:=blk D no) (h:=h++T) (V4 hD);have hlen:=b2.len;have h7:=vL (blk D no);have F2:Fr r (h++T) (h++T++tt):=Fr.low ((Low.refl (Nat.le_refl _)).new _) P1.rlt;have P2:=P1.more hv2 tt;have L0:LocV (h++T) r h.length (encI (d::t)):=LocV.new (k:=0) hv2 P (by rw [hT];rfl);have L1:LocV (h++T) r (h.length+1) (A5 (zeros 256)):=LocV.new (k:=1) hv2 P (by rw [hT];rfl);have L2:LocV (h++T) r (h.length+2) (A5 (eY [])):=LocV.new (k:=2) hv2 P (by rw [hT];rfl);have main:∃ h',N3 100 100 (.c (.p r 0)) (.c (.i .i64 no)) (.c (.m mk)) (.c (.p h.length 0)) (.c (.p (h.length+1) 0)) (.c (.p (h.length+2) 0)) v (.c (.i .i64 ((N8 (blk D no)).length:Nat))) (.c (.i .i64 0)) (h++T++tt)=some (.a (A5 (X2 D (d::t) no K (c,eY []) (N8 (blk D no))).2),h')/\WP D n m f g r (X2 D (d::t) no K (c,eY []) (N8 (blk D no))).1 h'/\Fr r h h':=by
  rcases b3 with ⟨rfl,rfl,b3⟩ | ⟨rfl,rfl⟩
  ·rw [b3,List.append_nil];have c00:decide ((0:Int)<((0:Nat):Int))=false:=by decide
   have q1:=D4 (n:=256) L2.2 hNl;have s1:=storeAll (n:=256) (xs:=A5 (eY [])) L1.2 hZl hNl;have z2:=L1.self (cs':=A5 (eY []));have q2:=D4 (n:=256) z2.2 hNl;refine ⟨(h++T).set (h.length+1) (some ⟨A5 (eY []),true⟩),?_,P1.set L1.1 (by have:=P.lo.2.1;omega),F1.set L1.1 (by omega)⟩;rw [cA];show _=some (Val.a (A5 (eY [])),_);generalize A5 (eY [])=B at *;generalize h++T=G at *;simp only [esc,c00,q1,s1,q2]
  ·have hT3:(h++T).length=h.length+3:=by rw [hT];simp
   have L3:LocV (h++T++[some (Row.mk (sA (N8 (blk D no))) true)]) r ((h++T).length+0) (sA (N8 (blk D no))):=LocV.new (k:=0) hv2 P1 rfl;rw [Nat.add_zero] at L3;have hml:=hm.1.1;obtain ⟨h',e1,e2,e3⟩:=C7p (n:=n) (m:=m) (q:=100) (no:=no) (h0:=h) (mk:=mk) (px:=h.length) (p8:=h.length+1) (p9:=h.length+2) (lst:=(h++T).length) (l:=N8 (blk D no)) hD hv ht hK P.lo.2.1 (by omega) (by omega) (by omega) (by omega) (by omega) (by omega) h7 C1n (N8 (blk D no)).length 0 100 (c,eY []) _ (by omega) (by omega) (A2V (l:=[])) l0 (by dsimp only;omega) P2 (F1.trans F2) (hm.fr (F1.trans F2)) (L0.fr F2) ⟨_,hZl,L1.fr F2⟩ (L2.fr F2) L3;rw [List.drop_zero] at e1 e2;exact ⟨h',e1,e2,e3⟩
 obtain ⟨h',e1,e2,e3⟩:=main;refine ⟨h',A4r (n:=100) ?_,e2,e3⟩;rw [A4k,F5];rw [hT] at e1 lV hB b1;have sB:stN (some (Row.mk (A5 (zeros 256)) true)) 0 256 (A5 (eY []))=some ⟨A5 (eY []),true⟩:=kM hZl hNl;generalize A5 (X2 D (d::t) no K (c,eY []) (N8 (blk D no))).2=BR at *;generalize A5 (eY [])=B at *;generalize A5 (zeros 256)=Z at *;generalize encI (d::t)=X at *;generalize vwC D.length n m f=V at *;generalize A5 (blk D no)=Y at *;simp only [esc,D6t,Q1,Nat.reduceAdd,sB,lV,hB,b1,hlen];simp only [esc] at e1;exact e1
end
end
section
def sD (D:Dev) (n ino:Int) (s:Cl × (List UInt8->Option Int)) (e:Ent):Cl × (List UInt8->Option Int):=bif A24 D n s.1 e.2 then (A49 D n s.1 ino e.2,D2u s.2 e.1 e.2) else s
def A7g (D:Dev) (n ino:Int) (s:Cl × (List UInt8->Option Int)) (L:List Ent):Cl × (List UInt8->Option Int):=L.foldl (sD D n ino) s
def C0W (D:Dev) (X:List Int) (K:List UInt8->Option Int) (c:Cl) (no:Int):Cl:=A1E (X2 D X no K (c,eY []) (N8 (blk D no))).1 no (X2 D X no K (c,eY []) (N8 (blk D no))).2
def gE (D:Dev) (X:List Int) (K:List UInt8->Option Int) (c:Cl) (L:List Int):Cl:=L.foldl (C0W D X K) c
def BndL (c:Cl) (B:Int):Prop:=∀ i,0<=(c.lnk i).getD 0/\(c.lnk i).getD 0<=B
theorem BndL.mono {c:Cl} {B B':Int} (h:BndL c B) (hb:B<=B'):BndL c B':=fun i=>⟨(h i).1,Int.le_trans (h i).2 hb⟩
structure SameT (c c':Cl):Prop where
 ino:c'.ino=c.ino
 blocks:c'.blocks=c.blocks
 made:c'.made=c.made
 taken:c'.taken=c.taken
 lost:c'.lost=c.lost
theorem C62 {D:Dev} {n ino B:Int} {s:Cl × (List UInt8->Option Int)} {e:Ent} (hb:BndL s.1 B):SameT s.1 (sD D n ino s e).1/\BndL (sD D n ino s e).1 (B+1)/\(sD D n ino s e).1.row.length<=s.1.row.length+1:=by
 have hl:BndL (C4G s.1 e.2) (B+1):=by
  intro i;have h1:=hb i;have h2:=hb e.2;unfold C4G A6B;dsimp only;by_cases c:i=e.2
  ·rw [if_pos c];simp;omega
  ·rw [if_neg c];omega
 unfold sD A49;cases A24 D n s.1 e.2 with
 | false=>exact ⟨⟨rfl,rfl,rfl,rfl,rfl⟩,hb.mono (by omega),by simp⟩
 | true =>
  simp only [cond_true];cases (s.1.par e.2).isSome with
  | true=>exact ⟨⟨rfl,rfl,rfl,rfl,rfl⟩,hl,by simp [C4G]⟩
  | false=>exact ⟨⟨rfl,rfl,rfl,rfl,rfl⟩,fun i=>hl i,by simp [D3s,C4G]⟩
section
variable {D:Dev} {n m:Int} {f:Cell} {g:A4} {r:Nat} {h:A4}
theorem LocM.more {t:A4} {id:Nat} {es:P6} (hr:r<h.length) (a:LocM h r id es):LocM (h++t) r id es :=
 a.fr (Fr.low ((Low.refl (Nat.le_refl _)).new _) hr)
theorem LocM.self {id:Nat} {es es':P6} (a:LocM h r id es):LocM (h.set id (some (J3 es'))) r id es' :=
 ⟨⟨by simpa using a.1.1,a.1.2.1,fun hn=>a.1.2.2 ((Nam.same (B7 a.1.2.1)).1 hn)⟩,C8 a.1.1⟩
theorem C8g {ino:Int} {L:List Ent} {pi px mk lst q:Nat} {ci cx:List Cell} {h0:A4} (hD:okD D) (hv:IsView g f D) (h0g:g.length<=h0.length) (am:h0.length<=mk) (n1:mk≠pi) (n2:mk≠px) (n3:mk≠lst) (hL:L.length<=10000) :
  ∀ (e j M:Nat) (B:Int) (s:Cl × (List UInt8->Option Int)) (es:P6) (h:A4),j+e=L.length->e<M->s.1.row.length+e<=100000->B+e<900000->BndL s.1 B->WP D n m f g r s.1 h->Fr r h0 h->LocM h r mk es->MapK es s.2->LocV h r pi ci->LocV h r px cx->LocV h r lst (O3 L) ->
  ∃ M' es' h',U6 q M (.c (.p r 0)) (.c (.i .i64 ino)) (.c (.p pi 0)) (.c (.p px 0)) (.c (.m mk)) (.c (.sl lst 0 L.length 2)) (.c (.i .i64 (L.length:Nat))) (.c (.i .i64 (j:Int))) h =
   U6 q (M'+1) (.c (.p r 0)) (.c (.i .i64 ino)) (.c (.p pi 0)) (.c (.p px 0)) (.c (.m mk)) (.c (.sl lst 0 L.length 2)) (.c (.i .i64 (L.length:Nat))) (.c (.i .i64 (L.length:Nat))) h' /\
   WP D n m f g r (A7g D n ino s (L.drop j)).1 h'/\Fr r h0 h'/\LocM h' r mk es'/\MapK es' (A7g D n ino s (L.drop j)).2/\LocV h' r pi ci/\LocV h' r px cx/\BndL (A7g D n ino s (L.drop j)).1 (B+e)/\(A7g D n ino s (L.drop j)).1.row.length<=s.1.row.length+e/\SameT s.1 (A7g D n ino s (L.drop j)).1:=by
 intro e
 induction e with
 | zero =>
  intro j M B s es h hj hM hr hB hb P F hm hK hi hx hl;obtain ⟨M,rfl⟩:∃ M',M=M'+1:=⟨M-1,by omega⟩;have ej:j=L.length:=by omega
  subst ej;rw [List.drop_length];exact ⟨M,es,h,rfl,P,F,hm,hK,hi,hx,hb.mono (by omega),by show s.1.row.length<=_;omega,⟨rfl,rfl,rfl,rfl,rfl⟩⟩
 | succ e ih =>
  intro j M B s es h hj hM hr hB hb P F hm hK hi hx hl;obtain ⟨M,rfl⟩:∃ M',M=M'+1:=⟨M-1,by omega⟩;have hjl:j<L.length:=by omega
  have c0:((j:Int)<(L.length:Nat)):=by omega
  have hv2:=hv.get;have w1:=E8 (show j+1<9223372036854775808 by omega);have D4q:Has h (.c (.sl lst 0 L.length 2)) 2 L.length (O3 L):=Has.row hl.2 A9T C9r;obtain ⟨ad,a1,a2⟩:=C9s D4q hjl;rw [List.drop_eq_getElem_cons hjl];obtain ⟨x,hxe⟩:∃ x,x=L[j]:=⟨_,rfl⟩;rw [<-hxe] at a2 ⊢;have er:∀ T,A7g D n ino s (x::T)=A7g D n ino (sD D n ino s x) T:=fun T=>rfl
  rw [er];obtain ⟨tf1,tf2,tf3⟩:=C62 (D:=D) (n:=n) (ino:=ino) (s:=s) (e:=x) hb;obtain ⟨hh,hhe⟩:∃ hh,hh=h++[some (Row.mk (eW (some x)) true)]:=⟨_,rfl⟩;have se:B4 (h++[some (Row.mk [.s [],.i .i64 0] true)]) 2 (.c (.p h.length 0)) (.a (eW (some x)))=some hh:=by rw [hhe];exact D5e
  have F1:Fr r h hh:=by rw [hhe];exact Fr.low ((Low.refl (Nat.le_refl _)).new _) P.rlt
  have P1:WP D n m f g r s.1 hh:=by rw [hhe];exact P.more hv2 _
  have L1:LocV hh r (h.length+0) (eW (some x)):=by rw [hhe];exact LocV.new (k:=0) hv2 P rfl
  rw [Nat.add_zero] at L1;have e1:A7 hh (.c (.p h.length 1))=some (.c (.i .i64 x.2)):=C1 L1.2 rfl rfl;have hkl:=hb x.2;obtain ⟨h2,f1,f2,f3⟩:=D3Q (dir:=ino) (ino:=x.2) hD hv P1 (by omega) (by omega);have Fa:=F1.trans f3;have m2:=hm.fr Fa;have i2:=hi.fr Fa;have x2:=hx.fr Fa;have l2:=hl.fr Fa;have L2:=L1.fr f3;have e2:A7 h2 (.c (.p h.length 0))=some (.c (.s x.1)):=C1 L2.2 rfl rfl;have e3:A7 h2 (.c (.p h.length 1))=some (.c (.i .i64 x.2)):=C1 L2.2 rfl rfl;cases hb2:A24 D n s.1 x.2 with
  | true =>
   have et:sD D n ino s x=(A49 D n s.1 ino x.2,D2u s.2 x.1 x.2):=by unfold sD;rw [hb2];rfl
   have mp:=D6Z (a:=x.1) (x:=x.2) m2.2 hK;have R0:=hm.1.1;rw [et] at tf1 tf2 tf3 ⊢;obtain ⟨M',es',h',g1,g2,g3,g4,g5,g6,g7,g8,g9,g10⟩:=ih (j+1) M (B+1) (A49 D n s.1 ino x.2,D2u s.2 x.1 x.2) (A7B (.s x.1) (.c (.i .i64 x.2)) es) _ (by omega) (by omega) (by dsimp only at tf3 ⊢;omega) (by omega) tf2 (f2.set m2.1 (by omega)) ((F.trans Fa).set m2.1 am) m2.self (hK.put x.1 x.2) (i2.set n1 m2.1.2.1) (x2.set n2 m2.1.2.1) (l2.set n3 m2.1.2.1);refine ⟨M',es',h',?_,g2,g3,g4,g5,g6,g7,g8.mono (by omega),by dsimp only at tf3 g9;omega,⟨g10.ino.trans tf1.ino,g10.blocks.trans tf1.blocks,g10.made.trans tf1.made,g10.taken.trans tf1.taken,g10.lost.trans tf1.lost⟩⟩;rw [iT];rw [hb2] at f1;simp only [esc,c0,a1,a2,se,e1,f1,e2,e3,mp,wV,w1];exact g1
  | false =>
   have et:sD D n ino s x=s:=by unfold sD;rw [hb2];rfl
   have ec:A49 D n s.1 ino x.2=s.1:=by unfold A49;rw [hb2];rfl
   rw [ec] at f2;rw [et];obtain ⟨M',es',h',g1,g2,g3,g4,g5,g6,g7,g8,g9,g10⟩:=ih (j+1) M B s es h2 (by omega) (by omega) (by omega) (by omega) hb f2 (F.trans Fa) m2 hK i2 x2 l2;refine ⟨M',es',h',?_,g2,g3,g4,g5,g6,g7,g8.mono (by omega),by omega,g10⟩;rw [iT];rw [hb2] at f1;simp only [esc,c0,a1,a2,se,e1,f1,wV,w1];exact g1
theorem C5O {d:Int} {t L:List Int} {K:List UInt8->Option Int} {es:P6} {mk px sid q:Nat} {h0:A4} (hD:okD D) (hv:IsView g f D) (ht:t.length=32) (hK:MapK es K) (hL:L.length<=100) :
  ∀ (e j M:Nat) (c:Cl) (h:A4),j+e=L.length->e<M->0<=c.lost->c.lost+7*e<=900000->c.blocks.length+e<=100000->c.made.length+e<=100000->WP D n m f g r c h->Fr r h0 h->LocM h r mk es->LocV h r px (encI (d::t))->LocV h r sid (encI L) ->
  ∃ h',gD q M (.c (.p r 0)) (.c (.p px 0)) (.c (.m mk)) (.c (.sl sid 0 L.length 1)) (.c (.i .i64 (L.length:Nat))) (.c (.i .i64 (j:Int))) h=some (.t [],h')/\WP D n m f g r (gE D (d::t) K c (L.drop j)) h'/\Fr r h0 h' /\
   0<=(gE D (d::t) K c (L.drop j)).lost/\(gE D (d::t) K c (L.drop j)).lost<=c.lost+7*e/\(gE D (d::t) K c (L.drop j)).blocks.length=c.blocks.length+e/\(gE D (d::t) K c (L.drop j)).made.length=c.made.length+e/\(gE D (d::t) K c (L.drop j)).row=c.row/\(gE D (d::t) K c (L.drop j)).lnk=c.lnk/\(gE D (d::t) K c (L.drop j)).ino=c.ino:=by
 intro e
 induction e with
 | zero =>
  intro j M c h hj hM l0 l1 b0 b1 P F hm hx hl;obtain ⟨M,rfl⟩:∃ M',M=M'+1:=⟨M-1,by omega⟩;have c0:¬ ((j:Int)<(L.length:Nat)):=by omega
  rw [List.drop_of_length_le (by omega)];refine ⟨h,?_,P,F,l0,by show c.lost<=_;omega,rfl,rfl,rfl,rfl,rfl⟩;rw [wW];simp only [esc,c0];rfl
 | succ e ih =>
  intro j M c h hj hM l0 l1 b0 b1 P F hm hx hl;obtain ⟨M,rfl⟩:∃ M',M=M'+1:=⟨M-1,by omega⟩;have hjl:j<L.length:=by omega
  have c0:((j:Int)<(L.length:Nat)):=by omega
  have hv2:=hv.get;have w1:=E8 (show j+1<9223372036854775808 by omega);have ad:C4 1 (.c (.sl sid 0 L.length 1)) (.c (.i .i64 (j:Int)))=some (.c (.p sid j)):=by rw [E5 hjl];simp
  have a1:A7 h (.c (.p sid j))=some (.c (.i .i64 L[j])):=C1 hl.2 (by rw [H9,List.getElem?_eq_getElem hjl];rfl) rfl;have lX:A8 h 33 (.c (.p px 0))=some (.a (encI (d::t))):=D4 hx.2 (by simp [B9,ht]);obtain ⟨h1,f1,f2,f3⟩:=C7q (no:=L[j]) hD hv P ht hK hm l0 (by omega);have hlen:=B2s (D:=D) (X:=d::t) (no:=L[j]) (K:=K) (l:=N8 (blk D L[j])) (s:=(c,eY [])) (A2V (l:=[])) fun x hx=>(C1n x hx).1
  have hlo:=B7t (D:=D) (X:=d::t) (no:=L[j]) (K:=K) (l:=N8 (blk D L[j])) (s:=(c,eY []));have hsa:=A2H (D:=D) (X:=d::t) (no:=L[j]) (K:=K) (l:=N8 (blk D L[j])) (s:=(c,eY []));have h7:=vL (blk D L[j]);have em:C0W D (d::t) K c L[j]=A1E (X2 D (d::t) L[j] K (c,eY []) (N8 (blk D L[j]))).1 L[j] (X2 D (d::t) L[j] K (c,eY []) (N8 (blk D L[j]))).2:=rfl;obtain ⟨s,hs⟩:∃ s,s=X2 D (d::t) L[j] K (c,eY []) (N8 (blk D L[j])):=⟨_,rfl⟩;rw [<-hs] at f1 f2 hlen hlo hsa em;dsimp only at hlo hsa;have eb:=hsa.blocks;have emd:=hsa.made;obtain ⟨h2,g1,g2,g3⟩:=C4H (no:=L[j]) hv2 f2 hlen (by rw [eb];omega) (by rw [emd];omega);have Fa:=f3.trans g3;rw [List.drop_eq_getElem_cons hjl];have er:∀ T,gE D (d::t) K c (L[j]::T)=gE D (d::t) K (C0W D (d::t) K c L[j]) T:=fun T=>rfl
  rw [er,em];have k1:(A1E s.1 L[j] s.2).blocks.length=c.blocks.length+1:=by show (s.1.blocks++[L[j]]).length=_;rw [eb];simp
  have k2:(A1E s.1 L[j] s.2).made.length=c.made.length+1:=by show (s.1.made++[s.2]).length=_;rw [emd];simp
  have k3:(A1E s.1 L[j] s.2).lost=s.1.lost:=rfl;obtain ⟨h',p1,p2,p3,p4,p5,p6,p7,p8,p9,p10⟩:=ih (j+1) M (A1E s.1 L[j] s.2) h2 (by omega) (by omega) (by rw [k3];omega) (by rw [k3];omega) (by omega) (by omega) g2 (F.trans Fa) (hm.fr Fa) (hx.fr Fa) (hl.fr Fa);refine ⟨h',?_,p2,p3,p4,by rw [k3] at p5;omega,by omega,by omega,p8.trans hsa.row,p9.trans hsa.lnk,p10.trans hsa.ino⟩;rw [wW];generalize A5 s.2=B2 at *;generalize encI (d::t)=X at *;simp only [esc,c0,ad,a1,lX,f1,g1,w1];exact p1
end
end
section
def B6m (D:Dev) (n:Int) (c:Cl) (ino:Int):Cl × Int :=
 bif decide (kdV D n ino=2)&&mW (blk D ((drV D n ino).getD 0 0)) then (A3N D n c ((drV D n ino).getD 0 0),wX D n c ((drV D n ino).getD 0 0)) else (c,0)
def A54 (D:Dev) (n:Int) (c:Cl) (ino:Int):Cl:={ (B6m D n c ino).1 with ino:=(B6m D n c ino).1.ino.set ino.toNat (2::1::0::(c.par ino).getD 0::(B6m D n c ino).2::zI 6) }
def A4C (D:Dev) (n:Int) (c:Cl) (d:Int) (t:List Int):Cl × List Int:=A4D D n (c,A1w d t) (Z0 (A1w d t) (E9 (A1R d t)))
def bodyT (D:Dev) (n:Int) (c:Cl) (ino d:Int) (t:List Int):Cl × (List UInt8->Option Int) :=
 A7g D n ino ((A4C D n c d t).1,fun _=>none) (B1k D (A1R d t::(A4C D n c d t).2) (Z0 (A4C D n c d t).2 (E9 (A1R d t))))
def A8B (D:Dev) (n:Int) (c:Cl) (ino no d:Int) (t:List Int):Cl :=
 gE D (A1R d t::(A4C D n c d t).2) (bodyT D n c ino d t).2 (A1E (bodyT D n c ino d t).1 no (bif okX (A1R d t) (A4C D n c d t).2 then A84 (A1R d t) (A4C D n c d t).2 else zeros 256)) (Z0 (A4C D n c d t).2 (E9 (A1R d t)))
def B6l (D:Dev) (n:Int) (c:Cl) (ino:Int):Cl :=
 if (B6m D n c ino).2=0 then A54 D n c ino else
  A8B D n (A54 D n c ino) ino (B6m D n c ino).2 (getD (blk D ((drV D n ino).getD 0 0))) (R8 (blk D ((drV D n ino).getD 0 0)) 32)
theorem B7a {D:Dev}:∀ {L:List Int},(B3N D L).length<=7*L.length
 | []=>by simp [B3N]
 | no::L=>by
  have h1:=B7a (D:=D) (L:=L);have h2:=vL (blk D no);rw [C2T,List.length_append,List.length_map,List.length_cons];omega
theorem C4F {D:Dev} {X L:List Int}:(B1k D X L).length<=7*L.length:=by
 have h1:=B7a (D:=D) (L:=L);have h2:=B6C (D:=D) (X:=X) (s:=B3N D L);unfold B1k;rw [List.length_map];have h3:=B40 (O5 D X (B3N D L));omega
structure Small (c:Cl) (R B S L:Nat):Prop where
 row:c.row.length<=R
 lnk:BndL c B
 blocks:c.blocks.length<=S
 made:c.made.length<=S
 lost0:0<=c.lost
 lost:c.lost<=(L:Int)
section
variable {D:Dev} {n m:Int} {f:Cell} {g:A4} {r:Nat} {c:Cl} {h:A4}
theorem D1e {ino no d:Int} {t:List Int} {pi px q R B S Lo:Nat} {k l s p:Int} {tl:List Int} {h0:A4} (hD:okD D) (hv:IsView g f D) (ht:t.length=32) (hq:300<=q) (h0g:g.length<=h0.length) (ax:h0.length<=px) (npx:px≠pi)
  (hR:R<=50000) (hB:B<=500000) (hS:S<=50000) (hLo:Lo<=500000) (sm:Small c R B S Lo) (P:WP D n m f g r c h) (F:Fr r h0 h) (hi:LocV h r pi (G9 k l s p (no::tl))) (htl:tl.length=6) (hx:LocV h r px (encI (d::t))) :
  ∃ h',(bnd (A8 h 33 (.c (.p px 0))) fun v48=>bnd (O7 [.c (.p r 0),v48] h) fun p49=>bnd (B4 p49.2 33 (.c (.p px 0)) p49.1) fun h50=>bnd (A8 (h50++[some (J3 [])]) 33 (.c (.p px 0))) fun v51=>bnd (R3 [.c (.p r 0),v51] (h50++[some (J3 [])])) fun p52=>bnd (O0 p52.1) fun v53=>U6 q q (.c (.p r 0)) (.c (.i .i64 ino)) (.c (.p pi 0)) (.c (.p px 0)) (.c (.m h50.length)) p52.1 v53 (.c (.i .i64 0)) p52.2)=some (.t [],h') /\
   WP D n m f g r (A8B D n c ino no d t) h'/\Fr r h0 h'/\Small (A8B D n c ino no d t) (R+224) (B+224) (S+33) (Lo+224)/\(A8B D n c ino no d t).ino=c.ino:=by
 have hv2:=hv.get;have h33:(encI (d::t)).length=33:=by simp [B9,ht]
 have l33:=D4 (n:=33) hx.2 h33;obtain ⟨hA,a1,a2,a3⟩:=C7m (d:=d) (t:=t) hv2 P ht;have hbs:=A1m (D:=D) (n:=n) (L:=Z0 (A1w d t) (E9 (A1R d t))) (s:=(c,A1w d t));have hbl:=B6e (D:=D) (n:=n) (L:=Z0 (A1w d t) (E9 (A1R d t))) (s:=(c,A1w d t));have eb:A4D D n (c,A1w d t) (Z0 (A1w d t) (E9 (A1R d t)))=A4C D n c d t:=rfl;rw [eb] at a1 a2 hbs hbl;have hbT:(A4C D n c d t).2.length=32:=hbl.trans A8Z;obtain ⟨d',hd'⟩:∃ d',d'=A1R d t:=⟨_,rfl⟩;unfold A8B bodyT;rw [<-hd'] at a1 ⊢;obtain ⟨s1,hs1⟩:∃ s1,s1=A4C D n c d t:=⟨_,rfl⟩;rw [<-hs1] at a1 a2 hbs hbT ⊢;dsimp only at hbs;have xA:=hx.fr a3;have iA:=hi.fr a3;have C57:(encI (d'::s1.2)).length=33:=by simp [B9,hbT]
 have st:=storeAll (n:=33) (xs:=encI (d'::s1.2)) xA.2 h33 C57;obtain ⟨hB',hBe⟩:∃ hB',hB'=hA.set px (some ⟨encI (d'::s1.2),true⟩):=⟨_,rfl⟩;rw [<-hBe] at st;have PB:WP D n m f g r s1.1 hB':=by rw [hBe];exact a2.set xA.1 (by omega)
 have FB:Fr r h0 hB':=by rw [hBe];exact (F.trans a3).set xA.1 ax
 have xB:LocV hB' r px (encI (d'::s1.2)):=by rw [hBe];exact xA.self
 have iB:LocV hB' r pi (G9 k l s p (no::tl)):=by rw [hBe];exact iA.set npx xA.1.2.1
 obtain ⟨L,hL⟩:∃ L,L=Z0 s1.2 (E9 d'):=⟨_,rfl⟩;have hLl:L.length<=32:=by rw [hL];exact Nat.le_trans (A2x _ _) (bJ _)
 obtain ⟨N,hN⟩:∃ N,N=B1k D (d'::s1.2) L:=⟨_,rfl⟩;have hNl:N.length<=224:=by
  have:=C4F (D:=D) (X:=d'::s1.2) (L:=L);rw [hN];omega
 have PC:=PB.more hv2 [some (J3 [])];have FC:Fr r hB' (hB'++[some (J3 [])]):=Fr.low ((Low.refl (Nat.le_refl _)).new _) PB.rlt;have nmE:=D1N (n:=n) (m:=m) (f:=f) (r:=r) (d:=d') (t:=s1.2) (h:=hB'++[some (J3 [])]) hD (hv.since PC.lo) (PC.vw hv2) hbT;rw [<-hL,<-hN] at nmE;have PD:=PC.more hv2 [some (Row.mk (O3 N) true)];have FD:Fr r (hB'++[some (J3 [])]) (hB'++[some (J3 [])]++[some (Row.mk (O3 N) true)]):=Fr.low ((Low.refl (Nat.le_refl _)).new _) PC.rlt;have hCl:(hB'++[some (J3 [])]).length=hB'.length+1:=by simp
 have LD:LocV (hB'++[some (J3 [])]++[some (Row.mk (O3 N) true)]) r (hB'.length+1) (O3 N):=by
  have:=LocV.new (h:=hB'++[some (J3 [])]) (t:=[some (Row.mk (O3 N) true)]) (k:=0) (cs:=O3 N) hv2 PC rfl;rw [hCl] at this;exact this
 have mkD:LocM (hB'++[some (J3 [])]++[some (Row.mk (O3 N) true)]) r hB'.length []:=by
  refine LocM.fr (h:=hB'++[some (J3 [])]) ⟨⟨by simp,by have:=PB.rlt;omega,fun hn=>?_⟩,by simp⟩ FD;have:=B6B hv2 PB ((Nam.same (E3 PB.rlt)).1 hn);omega
 have hpx:=xB.1.1;have hpi:=iB.1.1;have bl0:BndL s1.1 B:=fun i=>by rw [hbs.lnk];exact sm.lnk i
 have r0:s1.1.row.length<=R:=by rw [hbs.row];exact sm.row
 have hh0:=FB.size;obtain ⟨M',es',hE,e1,e2,e3,e4,e5,e6,e7,e8,e9,e10⟩:=C8g (q:=q) (ino:=ino) (L:=N) (pi:=pi) (px:=px) (mk:=hB'.length) (lst:=hB'.length+1) (h0:=h0) hD hv h0g hh0 (by omega) (by omega) (by omega) (by omega) N.length 0 q B (s1.1,fun _=>none) [] _ (by omega) (by omega) (by dsimp only;omega) (by omega) bl0 PD (FB.trans (FC.trans FD)) mkD MapK.nil (iB.fr (FC.trans FD)) (xB.fr (FC.trans FD)) LD;rw [List.drop_zero] at e2 e5 e8 e9 e10;rw [<-hL,<-hN];obtain ⟨s2,hs2⟩:∃ s2,s2=A7g D n ino (s1.1,fun _=>none) N:=⟨_,rfl⟩;rw [<-hs2] at e2 e5 e8 e9 e10 ⊢;dsimp only at e9 e10;have D3d:=B4m (d:=d') (t:=s1.2) (h:=hE) hbT;obtain ⟨ib,hib⟩:∃ ib,ib=(bif okX d' s1.2 then A84 d' s1.2 else zeros 256):=⟨_,rfl⟩;have D5M:ib.length=256:=by
  rw [hib];cases okX d' s1.2 with
  | true=>exact A2M hbT
  | false=>exact zeros_length
 rw [<-hib] at D3d ⊢;have hIl:(A5 ib).length=256:=by rw [A6,D5M]
 have PF:=e2.more hv2 [some (Row.mk (A5 ib) true)];have FF:Fr r hE (hE++[some (Row.mk (A5 ib) true)]):=Fr.low ((Low.refl (Nat.le_refl _)).new _) e2.rlt;have iF:=e6.fr FF;have xF:=e7.fr FF;have mF:=e4.fr FF;have lXE:A8 hE 33 (.c (.p px 0))=some (.a (encI (d'::s1.2))):=D4 e7.2 C57;have li:A7 (hE++[some (Row.mk (A5 ib) true)]) (.c (.p pi 4))=some (.c (.i .i64 no)):=C1 iF.2 rfl rfl;have lib:A8 (hE++[some (Row.mk (A5 ib) true)]) 256 (.c (.p hE.length 0))=some (.a (A5 ib)):=by rw [K3];exact gG hIl
 have sib:B4 (hE++[some (Row.mk (List.replicate 256 (Cell.i .u8 0)) true)]) 256 (.c (.p hE.length 0)) (.a (A5 ib))=some (hE++[some (Row.mk (A5 ib) true)]):=by
  rw [H7];show mp (stN (some (Row.mk (List.replicate 256 (Cell.i .u8 0)) true)) 0 256 (A5 ib)) _=_;rw [kM List.length_replicate hIl];rfl
 obtain ⟨hG,g1,g2,g3⟩:=C4H (no:=no) hv2 PF D5M (by rw [e10.blocks,hbs.blocks];have:=sm.blocks;omega) (by rw [e10.made,hbs.made];have:=sm.made;omega);have xG:=xF.fr g3;have mG:=mF.fr g3;have lXG:A8 hG 33 (.c (.p px 0))=some (.a (encI (d'::s1.2))):=D4 xG.2 C57;have hBu:=tY (d:=d') (t:=s1.2) (h:=hG) hbT;rw [<-hL] at hBu;have PH:=g2.more hv2 [some (Row.mk (encI L) true)];have FH:Fr r hG (hG++[some (Row.mk (encI L) true)]):=Fr.low ((Low.refl (Nat.le_refl _)).new _) g2.rlt;have lH:LocV (hG++[some (Row.mk (encI L) true)]) r (hG.length+0) (encI L):=LocV.new (k:=0) hv2 g2 rfl;rw [Nat.add_zero] at lH;have cb:(A1E s2.1 no ib).blocks.length=c.blocks.length+1:=by show (s2.1.blocks++[no]).length=_;rw [e10.blocks,hbs.blocks];simp
 have cm:(A1E s2.1 no ib).made.length=c.made.length+1:=by show (s2.1.made++[ib]).length=_;rw [e10.made,hbs.made];simp
 have cl:(A1E s2.1 no ib).lost=c.lost:=by show s2.1.lost=_;rw [e10.lost,hbs.lost]
 have sb:=sm.blocks;have smd:=sm.made;have sl0:=sm.lost0;have sl1:=sm.lost;obtain ⟨hZ,z1,z2,z3,z4,z5,z6,z7,z8,z9,z10⟩:=C5O (q:=q) (d:=d') (t:=s1.2) (L:=L) (K:=s2.2) (es:=es') (mk:=hB'.length) (px:=px) (sid:=hG.length) (h0:=h0) hD hv hbT e5 (by omega) L.length 0 q (A1E s2.1 no ib) _ (by omega) (by omega) (by rw [cl];omega) (by rw [cl];omega) (by omega) (by omega) PH (e3.trans (FF.trans (g3.trans FH))) (mG.fr FH) (xG.fr FH) lH;rw [List.drop_zero] at z2 z4 z5 z6 z7 z8 z9 z10;refine ⟨hZ,?_,z2,z3,⟨?_,?_,by omega,by omega,z4,by omega⟩,?_⟩
 ·have lXB:A8 (hB'++[some (J3 [])]) 33 (.c (.p px 0))=some (.a (encI (d'::s1.2))):=D4 (B6 xB.2) C57;have e00:((0:Nat):Int)=0:=rfl;rw [e00] at e1 z1;have cN:¬ ((N.length:Nat):Int)<(N.length:Nat):=by omega
  rw [hCl] at nmE;rw [iT q M'] at e1;generalize encI (d::t)=X at *;generalize encI (d'::s1.2)=X' at *;generalize A5 ib=IB at *;generalize List.replicate 256 (Cell.i .u8 0)=Z at *;simp only [V9,l33,a1,st,lXB,nmE,A9Q];refine e1.trans ?_;simp only [esc,Nat.reduceAdd,cN,lXE,D3d,sib,li,lib,g1,lXG,hBu];have ad0:∀ j,D8 6 1 (.c (.p j 4)) (.c (.i .i64 0))=some (.c (.p j 4)):=fun j=>I7 (j:=0) (by omega)
  simp only [esc,Nat.reduceAdd,ad0,li,lib,g1,lXG,hBu];exact z1
 ·rw [z8];show s2.1.row.length<=_;omega
 ·intro i;have:=e8 i;rw [z9];show 0<=(s2.1.lnk i).getD 0/\(s2.1.lnk i).getD 0<=_;omega
 ·rw [z10];show s2.1.ino=_;rw [e10.ino,hbs.ino]
end
end
section
section
variable {D:Dev} {n m:Int} {f:Cell} {g:A4} {r:Nat} {c:Cl} {h:A4}
theorem D1d {ino:Nat} {no p0 d:Int} {t:List Int} {q R B S Lo:Nat} {h0:A4} (hD:okD D) (hv:IsView g f D) (ht:t.length=32) (hq:300<=q) (h0g:g.length<=h0.length) (i1:ino<c.ino.length)
  (hR:R<=50000) (hB:B<=500000) (hS:S<=50000) (hLo:Lo<=500000) (sm:Small c R B S Lo) (P:WP D n m f g r c h) (F:Fr r h0 h) (hi:LocV h r h0.length (G9 2 1 0 p0 (no::zI 6))) (hx:LocV h r (h0.length+2) (encI (d::t))) :
  ∃ h',U5 q (.c (.p r 0)) (.c (.i .i64 (ino:Int))) (.c (.p h0.length 0)) (.c (.p (h0.length+2) 0)) h=some (.t [],h') /\
   WP D n m f g r (if no=0 then { c with ino:=c.ino.set ino (2::1::0::p0::no::zI 6) } else A8B D n { c with ino:=c.ino.set ino (2::1::0::p0::no::zI 6) } ino no d t) h'/\Fr r h0 h' /\
   Small (if no=0 then { c with ino:=c.ino.set ino (2::1::0::p0::no::zI 6) } else A8B D n { c with ino:=c.ino.set ino (2::1::0::p0::no::zI 6) } ino no d t) (R+224) (B+224) (S+33) (Lo+224):=by
 have hv2:=hv.get;obtain ⟨id,hC,c1,c2,c3,PC,FC⟩:=P.setIno hv2 (k:=ino) (l:=2::1::0::p0::no::zI 6) i1 rfl;have iC:=hi.fr FC;have xC:=hx.fr FC;have lI:A8 h 11 (.c (.p h0.length 0))=some (.a (encI (2::1::0::p0::no::zI 6))):=D4 hi.2 rfl;have adI:C4 11 (.c (.sl id 0 c.ino.length 11)) (.c (.i .i64 (ino:Int)))=some (.c (.p id (ino*11))):=by rw [E5 i1];simp
 have lC4:A7 hC (.c (.p h0.length 4))=some (.c (.i .i64 no)):=C1 iC.2 rfl rfl;have ad0:∀ j,D8 6 1 (.c (.p j 4)) (.c (.i .i64 0))=some (.c (.p j 4)):=fun j=>I7 (j:=0) (by omega)
 have sm':Small { c with ino:=c.ino.set ino (2::1::0::p0::no::zI 6) } R B S Lo:=⟨sm.row,sm.lnk,sm.blocks,sm.made,sm.lost0,sm.lost⟩;rw [A8W];by_cases cz:no=0
 ·rw [if_pos cz];refine ⟨hC,?_,PC,F.trans FC,⟨Nat.le_trans sm.row (by omega),sm'.lnk.mono (by omega),Nat.le_trans sm.blocks (by omega),Nat.le_trans sm.made (by omega),sm.lost0,by have:=sm.lost;show c.lost<=_;omega⟩⟩;rw [cz] at lC4;simp only [esc,Nat.reduceAdd,c1,lI,adI,c3,ad0,lC4];rfl
 ·rw [if_neg cz];obtain ⟨h',e1,e2,e3,e4,e5⟩:=D1e (ino:=(ino:Int)) (no:=no) (pi:=h0.length) (px:=h0.length+2) (q:=q) (h0:=h0) hD hv ht hq h0g (by omega) (by omega) hR hB hS hLo sm' PC (F.trans FC) iC (tl:=zI 6) rfl xC;refine ⟨h',?_,e2,e3,e4⟩;simp only [esc,Nat.reduceAdd,c1,lI,adI,c3,ad0,lC4,cz];exact e1
theorem D1c {ino:Int} {R B S Lo:Nat} (hD:okD D) (hv:IsView g f D) (P:WP D n m f g r c h) (i0:0<=ino) (i1:ino.toNat<c.ino.length) (hR:R<=50000) (hB:B<=500000) (hS:S<=50000) (hLo:Lo<=500000) (sm:Small c R B S Lo) :
  ∃ h',Y4 [.c (.p r 0),.c (.i .i64 ino)] h=some (.t [],h')/\WP D n m f g r (B6l D n c ino) h'/\Fr r h h'/\Small (B6l D n c ino) (R+224) (B+224) (S+33) (Lo+224):=by
 have hv2:=hv.get;obtain ⟨k,rfl⟩:=Int.eq_ofNat_of_zero_le i0;rw [Int.toNat_natCast] at i1;obtain ⟨mp,hq9,q1,q2,_⟩:=P.setPar hv2 0 0;have q2':=q2 false k;obtain ⟨p0,hp0⟩:∃ p0,p0=(c.par k).getD 0:=⟨_,rfl⟩;rw [<-hp0] at q2';obtain ⟨d0,hd0⟩:∃ d0,d0=(drV D n k).getD 0 0:=⟨_,rfl⟩;obtain ⟨b,hb⟩:∃ b,b=blk D d0:=⟨_,rfl⟩;have hbl:b.length=256:=by rw [hb];exact V4 hD
 obtain ⟨I,hI⟩:∃ I,I=G9 (kdV D n k) (lnV D n k) (szV D n k) (paV D n k) (drV D n k):=⟨_,rfl⟩;have hIl:I.length=11:=by rw [hI];simp [G9,B9,tV]
 have I0:I[0]?=some (.i .i64 (kdV D n k)):=by rw [hI];rfl
 have I4:I[4]?=some (.i .i64 d0):=by
  rw [hI];simp only [G9,List.getElem?_cons_succ];rw [H9,hd0,List.getD_eq_getElem?_getD,List.getElem?_eq_getElem (by rw [tV];omega)];rfl
 have hVI:=fun t=>nE (n:=n) (m:=m) (i:=(k:Int)) (h:=h++t) hD ((hv.since P.lo).more t)
 rw [B4n,<-hI] at hVI;have lV:=fun t=>(P.more hv2 t).view
 have hBk:=fun t=>Y2 (n:=n) (m:=m) (no:=d0) (h:=h++t) hD ((hv.since P.lo).more t)
 rw [<-hb] at hBk;have C7x:=fun h=>C4o (b:=b) (h:=h) hbl
 obtain ⟨X,hX⟩:∃ X,X=(bif mW b then getD b::R8 b 32 else 0::zI 32):=⟨_,rfl⟩;rw [<-hX] at C7x;obtain ⟨dd,tt,hXt,htt⟩:∃ dd tt,X=dd::tt/\tt.length=32:=by
  rw [hX];cases mW b with
  | true=>exact ⟨_,_,rfl,C2e b⟩
  | false=>exact ⟨_,_,rfl,K9⟩
 have hXl:(encI X).length=33:=by rw [hXt];simp [B9,htt]
 obtain ⟨z,hz⟩:∃ z,z=G9 2 1 0 p0 (0::zI 6):=⟨_,rfl⟩;have xX:z.length=11:=by rw [hz];rfl
 have z11:[Cell.i .i64 0,.i .i64 0,.i .i64 0,.i .i64 0,.i .i64 0,.i .i64 0,.i .i64 0,.i .i64 0,.i .i64 0,.i .i64 0,.i .i64 0].length=11:=rfl;have ef:C7 [Cell.i .i64 0,.i .i64 0,.i .i64 0,.i .i64 0,.i .i64 0,.i .i64 0,.i .i64 0,.i .i64 0,.i .i64 0,.i .i64 0,.i .i64 0] [(0,1,.c (.i .i64 2)),(1,1,.c (.i .i64 1)),(3,1,.c (.i .i64 p0))]=some z:=by rw [hz];rfl
 obtain ⟨T,hT⟩:∃ T,T=[some (Row.mk z true),some (Row.mk I true),some (Row.mk (encI X) true)]:=⟨_,rfl⟩;have P1:=P.more hv2 T;have F1:Fr r h (h++T):=Fr.low ((Low.refl (Nat.le_refl _)).new _) P.rlt;have L0:LocV (h++T) r (h.length+0) z:=LocV.new (k:=0) hv2 P (by rw [hT];rfl);have L1:LocV (h++T) r (h.length+1) I:=LocV.new (k:=1) hv2 P (by rw [hT];rfl);have L2:LocV (h++T) r (h.length+2) (encI X):=LocV.new (k:=2) hv2 P (by rw [hT];rfl);rw [Nat.add_zero] at L0;have ad0:∀ j,D8 6 1 (.c (.p j 4)) (.c (.i .i64 0))=some (.c (.p j 4)):=fun j=>I7 (j:=0) (by omega)
 have eO:B6m D n c k=(bif decide (kdV D n k=2)&&mW b then (A3N D n c d0,wX D n c d0) else (c,0)):=by unfold B6m;rw [<-hd0,<-hb]
 have eI:∀ s:Cl × Int,B6m D n c k=s->A54 D n c k={ s.1 with ino:=s.1.ino.set k (2::1::0::p0::s.2::zI 6) }:=by
  intro s hs;unfold A54;rw [hs,<-hp0,Int.toNat_natCast]
 have eC:∀ s:Cl × Int,B6m D n c k=s->(s.2≠0->mW b=true)->B6l D n c k=(if s.2=0 then { s.1 with ino:=s.1.ino.set k (2::1::0::p0::s.2::zI 6) } else A8B D n { s.1 with ino:=s.1.ino.set k (2::1::0::p0::s.2::zI 6) } k s.2 dd tt):=by
  intro s hs hg;unfold B6l;rw [hs,eI s hs,<-hd0,<-hb];split
  ·rfl
  ·rename_i cK;have h1:=hg cK;rw [h1,cond_true,hXt] at hX;cases hX;rfl
 have pre:∀ {v:Val} {h':A4},(cnd (.c (.b (decide (kdV D n k=2)&&mW b))) (bnd (G7 [.c (.p r 0),.c (.i .i64 d0)] (h++T)) fun p33=>bnd (D3 p33.2 (.c (.p h.length 4)) p33.1) fun h36=>U5 300 (.c (.p r 0)) (.c (.i .i64 (k:Int))) (.c (.p h.length 0)) (.c (.p (h.length+2) 0)) h36)
   (U5 300 (.c (.p r 0)) (.c (.i .i64 (k:Int))) (.c (.p h.length 0)) (.c (.p (h.length+2) 0)) (h++T)))=some (v,h')->Y4 [.c (.p r 0),.c (.i .i64 (k:Int))] h=some (v,h'):=by
  intro v h' hj;refine B0a (n:=300) ?_;rw [A95];rw [hT] at hj;have l0:ld1 (some (Row.mk I true)) 0=some (.c (.i .i64 (kdV D n k))):=by rw [A6f,I0];rfl
  have l4:ld1 (some (Row.mk I true)) 4=some (.c (.i .i64 d0)):=by rw [A6f,I4];rfl
  have D4K:(Cell.i .i64 0::List.replicate 32 (Cell.i .i64 0)).length=33:=by simp
  have s33:stN (some (Row.mk (Cell.i .i64 0::List.replicate 32 (Cell.i .i64 0)) true)) 0 33 (encI X)=some ⟨encI X,true⟩:=kM D4K hXl;generalize [Cell.i .i64 0,.i .i64 0,.i .i64 0,.i .i64 0,.i .i64 0,.i .i64 0,.i .i64 0,.i .i64 0,.i .i64 0,.i .i64 0,.i .i64 0]=zz at *;generalize List.replicate 32 (Cell.i .i64 0)=z32 at *;generalize A5 b=BB at *;generalize encI X=XX at *;generalize vwC D.length n m f=V at *;cases hgd:mW b with
  | true =>
   rw [hgd] at hj;simp only [hgd,cond_true] at C7x;by_cases ck:kdV D n k=2
   ·simp only [esc,Y7,K3,fB,O4,Q1,H7,gG,kM,Nat.reduceAdd,q1,q2',A1T,ef,xX,z11,lV,hVI,hIl,ad0,l4,hBk,C7x,s33,l0,ck] at hj ⊢;exact hj
   ·simp only [esc,Y7,K3,fB,O4,Q1,H7,gG,kM,Nat.reduceAdd,q1,q2',A1T,ef,xX,z11,lV,hVI,hIl,ad0,l4,hBk,C7x,s33,l0,ck,Bool.false_and] at hj ⊢;exact hj
  | false =>
   rw [hgd,Bool.and_false] at hj;simp only [hgd,cond_false] at C7x;have n14:¬ (14:Int)=0:=by decide
   by_cases ck:kdV D n k=2
   ·simp only [esc,Y7,K3,fB,O4,Q1,H7,gG,kM,Nat.reduceAdd,q1,q2',A1T,ef,xX,z11,lV,hVI,hIl,ad0,l4,hBk,C7x,s33,l0,ck,n14] at hj ⊢;exact hj
   ·simp only [esc,Y7,K3,fB,O4,Q1,H7,gG,kM,Nat.reduceAdd,q1,q2',A1T,ef,xX,z11,lV,hVI,hIl,ad0,l4,hBk,C7x,s33,l0,ck] at hj ⊢;exact hj
 cases hok:(decide (kdV D n k=2)&&mW b) with
 | true =>
  rw [hok] at pre eO;rw [cond_true] at eO;obtain ⟨h1,f1,f2,f3⟩:=B4v (no:=d0) P1;have A0:=L0.fr f3;have A2:=L2.fr f3;have s1:=G3 (x:=.i .i64 (wX D n c d0)) (off:=4) A0.2 (by rw [xX];omega);have es:z.set 4 (.i .i64 (wX D n c d0))=G9 2 1 0 p0 (wX D n c d0::zI 6):=by rw [hz];rfl
  rw [es] at s1;have hsame:=A0J D n c d0;rw [hXt] at A2;have sm':Small (A3N D n c d0) R B S Lo:=⟨by rw [hsame.row];exact sm.row,fun i=>by rw [hsame.lnk];exact sm.lnk i,by rw [hsame.blocks];exact sm.blocks,by rw [hsame.made];exact sm.made,by rw [hsame.lost];exact sm.lost0,by rw [hsame.lost];exact sm.lost⟩;obtain ⟨h',e1,e2,e3,e4⟩:=D1d (ino:=k) (no:=wX D n c d0) (q:=300) (h0:=h) hD hv htt (by omega) P.lo.2.1 (by rw [hsame.ino];exact i1) hR hB hS hLo sm' (f2.set A0.1 (by have:=P.lo.2.1;omega)) ((F1.trans f3).set A0.1 (Nat.le_refl _)) A0.self (A2.set (by omega) A0.1.2.1);rw [eC _ eO (fun _=>by
   simp only [Bool.and_eq_true] at hok;exact hok.2)]
  refine ⟨h',pre ?_,e2,e3,e4⟩;simp only [C8w,f1,V9,s1];exact e1
 | false =>
  rw [hok] at pre eO;rw [cond_false] at eO;rw [hz] at L0;rw [hXt] at L2;obtain ⟨h',e1,e2,e3,e4⟩:=D1d (ino:=k) (no:=0) (q:=300) (h0:=h) hD hv htt (by omega) P.lo.2.1 i1 hR hB hS hLo sm P1 F1 L0 L2;rw [eC _ eO (fun cK=>absurd rfl cK)];refine ⟨h',pre ?_,e2,e3,e4⟩;simp only [C5Q];exact e1
end
end
structure RowW (n:Int) (c:Cl):Prop where
 nd:c.row.Nodup
 par:∀ i,(c.par i).isSome=true↔i∈c.row
 rg:∀ i∈c.row,1<=i/\i<=n
theorem RowW.same {n:Int} {c c':Cl} (h:RowW n c) (h1:c'.row=c.row) (h2:c'.par=c.par):RowW n c' :=
 ⟨by rw [h1];exact h.nd,fun i=>by rw [h1,h2];exact h.par i,by rw [h1];exact h.rg⟩
theorem D0i {D:Dev} {n dir ino:Int} {c:Cl} (h:RowW n c):RowW n (A49 D n c dir ino):=by
 unfold A49;cases ht:A24 D n c ino with
 | false=>exact h
 | true =>
  rw [cond_true];cases hs:(c.par ino).isSome with
  | true=>exact h.same rfl rfl
  | false =>
   rw [cond_false];have gJ:ino ∉ c.row:=fun hm=>by
    rw [(h.par ino).2 hm] at hs;cases hs
   have hk:kdV D n ino≠0:=by
    intro e;unfold A24 at ht;rw [e] at ht;simp at ht
   have hr:=(D4T hk).2;refine ⟨?_,fun i=>?_,fun i hi=>?_⟩
   ·show (c.row++[ino]).Nodup;rw [List.nodup_append];exact ⟨h.nd,by simp,fun a ha b hb e=>by simp at hb;subst hb;subst e;exact gJ ha⟩
   ·show (A6B c.par ino dir i).isSome=true↔i∈c.row++[ino];unfold A6B;by_cases e:i=ino
    ·subst e;simp
    ·rw [if_neg e,h.par i];simp [e]
   ·have hi:i∈c.row++[ino]:=hi;rcases List.mem_append.1 hi with h1 | h1
    ·exact h.rg i h1
    ·simp at h1;subst h1;exact hr
theorem C3K {D:Dev} {n ino:Int}:∀ {L:List Ent} {s:Cl × (List UInt8->Option Int)},RowW n s.1->RowW n (A7g D n ino s L).1
 | [],_,h=>h
 | x::L,s,h=>by
  have h1:RowW n (sD D n ino s x).1:=by
   unfold sD;cases A24 D n s.1 x.2 with
   | false=>exact h
   | true=>exact D0i h
  exact C3K (L:=L) (s:=sD D n ino s x) h1
theorem A50 {D:Dev} {X:List Int} {K:List UInt8->Option Int}:∀ {L:List Int} {c:Cl},(gE D X K c L).row=c.row/\(gE D X K c L).par=c.par
 | [],_=>⟨rfl,rfl⟩
 | no::L,c=>by
  have h1:=A50 (D:=D) (X:=X) (K:=K) (L:=L) (c:=C0W D X K c no);have h2:=A2H (D:=D) (X:=X) (no:=no) (K:=K) (l:=N8 (blk D no)) (s:=(c,eY []));exact ⟨h1.1.trans h2.row,h1.2.trans h2.par⟩
theorem B6n {D:Dev} {n ino:Int} {c:Cl}:SameC c (B6m D n c ino).1:=by
 unfold B6m;cases (decide (kdV D n ino=2)&&mW (blk D ((drV D n ino).getD 0 0))) with
 | true=>exact A0J ..
 | false=>exact .rfl' _
theorem D08 {D:Dev} {n ino:Int} {c:Cl} (h:RowW n c):RowW n (B6l D n c ino):=by
 have hs:=B6n (D:=D) (n:=n) (ino:=ino) (c:=c);have hI:RowW n (A54 D n c ino):=h.same hs.row hs.par;unfold B6l;split
 ·exact hI
 ·unfold A8B;have hb:=A1m (D:=D) (n:=n) (L:=Z0 (A1w (getD (blk D ((drV D n ino).getD 0 0))) (R8 (blk D ((drV D n ino).getD 0 0)) 32)) (E9 (A1R (getD (blk D ((drV D n ino).getD 0 0))) (R8 (blk D ((drV D n ino).getD 0 0)) 32)))) (s:=(A54 D n c ino,A1w (getD (blk D ((drV D n ino).getD 0 0))) (R8 (blk D ((drV D n ino).getD 0 0)) 32)));have h1:RowW n (A4C D n (A54 D n c ino) (getD (blk D ((drV D n ino).getD 0 0))) (R8 (blk D ((drV D n ino).getD 0 0)) 32)).1:=hI.same hb.row hb.par;have h2:RowW n (bodyT D n (A54 D n c ino) ino (getD (blk D ((drV D n ino).getD 0 0))) (R8 (blk D ((drV D n ino).getD 0 0)) 32)).1:=C3K (by exact h1);generalize bodyT D n (A54 D n c ino) ino (getD (blk D ((drV D n ino).getD 0 0))) (R8 (blk D ((drV D n ino).getD 0 0)) 32)=s2 at *;refine h2.same (A50.1.trans rfl) (A50.2.trans rfl)
theorem A57 {D:Dev} {n ino:Int} {c:Cl}:(A2J D n c ino).row=c.row/\(A2J D n c ino).par=c.par/\(A2J D n c ino).lnk=c.lnk/\(A2J D n c ino).lost=c.lost/\(A2J D n c ino).ino.length=c.ino.length/\(A2J D n c ino).blocks.length<=c.blocks.length+1/\(A2J D n c ino).made.length<=c.made.length+1:=by
 have hf:=B2v (D:=D) (n:=n) (ino:=ino) (c:=c);have e1:(dL D n c ino).row=c.row:=hf.1.row;have e2:(dL D n c ino).par=c.par:=hf.1.par;have e3:(dL D n c ino).lnk=c.lnk:=hf.1.lnk;have e4:(dL D n c ino).lost=c.lost:=hf.1.lost;have e5:(dL D n c ino).ino.length=c.ino.length:=by unfold dL;simp [hf.1.ino]
 have e6:(dL D n c ino).blocks=c.blocks:=hf.1.blocks;have e7:(dL D n c ino).made=c.made:=hf.1.made;unfold A2J;split
 ·exact ⟨e1,e2,e3,e4,e5,by rw [e6];omega,by rw [e7];omega⟩
 ·have hs:=A58 (D:=D) (n:=n) (many:=B2l (szV D n ino)) (e:=128) (k:=0) (s:=(dL D n c ino,blk D ((sX D n c ino).2.getD 6 0)));dsimp only at hs;generalize xD D n (B2l (szV D n ino)) 128 0 (dL D n c ino,blk D ((sX D n c ino).2.getD 6 0))=s at *;refine ⟨hs.row.trans e1,hs.par.trans e2,hs.lnk.trans e3,hs.lost.trans e4,?_,?_,?_⟩
  ·show s.1.ino.length=_;rw [hs.ino];exact e5
  ·show (s.1.blocks++[_]).length<=_;rw [List.length_append,hs.blocks,e6];simp
  ·show (s.1.made++[_]).length<=_;rw [List.length_append,hs.made,e7];simp
section
def A7C (D:Dev) (n:Int) (c:Cl) (ino:Int):Cl:=if ino≠1/\kdV D n ino=1 then A2J D n c ino else B6l D n c ino
def ofR (D:Dev) (n:Int):Nat->Nat->Cl->Cl
 | 0,_,c=>c
 | e+1,i,c=>match c.row[i]? with
  | none=>c
  | some a=>ofR D n e (i+1) (A7C D n c a)
theorem C3L {D:Dev} {n ino:Int}:∀ {L:List Ent} {s:Cl × (List UInt8->Option Int)},s.1.row.length<=(A7g D n ino s L).1.row.length
 | [],_=>Nat.le_refl _
 | x::L,s=>by
  have h1:s.1.row.length<=(sD D n ino s x).1.row.length:=by
   unfold sD A49;cases A24 D n s.1 x.2 with
   | false=>exact Nat.le_refl _
   | true =>
    simp only [cond_true];cases (s.1.par x.2).isSome with
    | true=>exact Nat.le_refl _
    | false=>simp [D3s,C4G]
  exact Nat.le_trans h1 (C3L (L:=L) (s:=sD D n ino s x))
theorem C9N {c:Cl} {no:Int} {b:List UInt8}:(A1E c no b).row=c.row:=rfl
theorem D09 {D:Dev} {n ino:Int} {c:Cl}:c.row.length<=(B6l D n c ino).row.length:=by
 have hs:=B6n (D:=D) (n:=n) (ino:=ino) (c:=c);have e1:(A54 D n c ino).row=c.row:=hs.row;unfold B6l;split
 ·rw [e1];exact Nat.le_refl _
 ·unfold A8B;rw [A50.1,C9N,<-e1];unfold bodyT;refine Nat.le_trans (Nat.le_of_eq ?_) C3L;unfold A4C;exact congrArg List.length (A1m (D:=D) (n:=n) (s:=(A54 D n c ino,_)) (L:=_)).row.symm
theorem C6D {D:Dev} {n ino:Int} {c:Cl}:c.row.length<=(A7C D n c ino).row.length:=by
 unfold A7C;split
 ·rw [A57.1];exact Nat.le_refl _
 ·exact D09
section
variable {D:Dev} {n m:Int} {f:Cell} {g:A4} {r:Nat} {h:A4}
theorem C6C {D:Dev} {n ino:Int} {c:Cl} (h:RowW n c):RowW n (A7C D n c ino):=by
 unfold A7C;split
 ·exact h.same A57.1 A57.2.1
 ·exact D08 h
theorem D3r {pv pr q:Nat} {zr:List Cell} {h0:A4} (hD:okD D) (hv:IsView g f D) (hn:n<=128) :
  ∀ (e i M:Nat) (c:Cl) (h:A4),i+e=129->e<M->i<=c.row.length->RowW n c->Small c 128 (224*i) (33*i) (224*i)->WP D n m f g r c h->Fr r h0 h->LocV h r pv (vwC D.length n m f)->LocV h r pr zr ->
  ∃ M' h',dK q M (.c (.p pv 0)) (.c (.p pr 0)) (.c (.p r 0)) (.c (.i .i64 (i:Int))) h=dK q (M'+1) (.c (.p pv 0)) (.c (.p pr 0)) (.c (.p r 0)) (.c (.i .i64 ((ofR D n e i c).row.length:Nat))) h' /\
   WP D n m f g r (ofR D n e i c) h'/\Fr r h0 h'/\LocV h' r pv (vwC D.length n m f)/\LocV h' r pr zr/\RowW n (ofR D n e i c)/\Small (ofR D n e i c) 128 (224*129) (33*129) (224*129):=by
 intro e
 induction e with
 | zero =>
  intro i M c h hi hM gI hR sm;have:=C45 hR.nd fun a ha=>⟨(hR.rg a ha).1,by have:=(hR.rg a ha).2;omega⟩
  omega
 | succ e ih =>
  intro i M c h hi hM gI hR sm P F hpv hpr;obtain ⟨M,rfl⟩:∃ M',M=M'+1:=⟨M-1,by omega⟩;have hv2:=hv.get;unfold ofR;cases hc:c.row[i]? with
  | none =>
   have hlen:=List.getElem?_eq_none_iff.1 hc;have ei:i=c.row.length:=by omega
   dsimp only;rw [<-ei];exact ⟨M,h,rfl,P,F,hpv,hpr,hR,⟨sm.row,sm.lnk.mono (by omega),Nat.le_trans sm.blocks (by omega),Nat.le_trans sm.made (by omega),sm.lost0,by have:=sm.lost;omega⟩⟩
  | some a =>
   dsimp only;have S3:i<c.row.length:=(List.getElem?_eq_some_iff.1 hc).1;have ha:a∈c.row:=List.mem_of_getElem? hc;obtain ⟨ra1,ra2⟩:=hR.rg a ha;obtain ⟨xr,xi,xt,xb,xm,ml,mp,es1,es2,g1,g2,g3,g4,g5,g6,g7,g8,g9,g10,g11⟩:=id P.row;have w1:=E8 (show i+1<9223372036854775808 by omega);have c0:((i:Int)<(c.row.length:Nat)):=by omega
   rcases g3 with ⟨e0,_,_⟩ | ⟨rid,rfl,r1,r2,r3⟩
   ·omega
   ·have l4:A7 h (.c (.p r 4))=some (.c (.sl rid 0 c.row.length 1)):=C1 g1 rfl rfl;have ad:C4 1 (.c (.sl rid 0 c.row.length 1)) (.c (.i .i64 (i:Int)))=some (.c (.p rid i)):=by rw [E5 S3];simp
    have la:A7 h (.c (.p rid i))=some (.c (.i .i64 a)):=C1 r1 (by rw [H9,hc];rfl) rfl;have lV:A8 h 4 (.c (.p pv 0))=some (.a (vwC D.length n m f)):=D4 hpv.2 rfl;have hI:=nE (n:=n) (m:=m) (i:=a) hD (hv.since P.lo);rw [B4n] at hI;have f0:∀ k l s p d,B9S (.a (G9 k l s p d)) 0=some (.c (.i .i64 k)):=fun _ _ _ _ _=>rfl
    have hin:a.toNat<c.ino.length:=by rw [P.ilen];omega
    have hR':=C6C (D:=D) (ino:=a) hR;have r128:=C45 hR'.nd fun a ha=>⟨(hR'.rg a ha).1,by have:=(hR'.rg a ha).2;omega⟩
    have step:∃ h1,WP D n m f g r (A7C D n c a) h1/\Fr r h h1/\Small (A7C D n c a) 128 (224*(i+1)) (33*(i+1)) (224*(i+1)) /\
      dK q (M+1) (.c (.p pv 0)) (.c (.p pr 0)) (.c (.p r 0)) (.c (.i .i64 (i:Int))) h=dK q M (.c (.p pv 0)) (.c (.p pr 0)) (.c (.p r 0)) (.c (.i .i64 ((i+1:Nat):Int))) h1:=by
     rw [A8U];have hs:=A57 (D:=D) (n:=n) (ino:=a) (c:=c);have sb:=sm.blocks;have smd:=sm.made;have sl:=sm.lost;by_cases c1:a=1
     ·obtain ⟨h1,f1,f2,f3,f4⟩:=D1c hD hv P (by omega) hin (by omega) (by omega) (by omega) (by omega) sm;have eo:A7C D n c a=B6l D n c a:=by unfold A7C;rw [if_neg (by simp [c1])]
      rw [eo] at r128 ⊢;refine ⟨h1,f2,f3,⟨r128,f4.lnk.mono (by omega),by have:=f4.blocks;omega,by have:=f4.made;omega,f4.lost0,by have:=f4.lost;omega⟩,?_⟩;rw [c1] at la f1;generalize vwC D.length n m f=V at *;simp only [esc,Nat.reduceAdd,l4,c0,ad,la,eq_self,f1,A1q,w1]
     ·by_cases c2:kdV D n a=1
      ·obtain ⟨h1,f1,f2,f3⟩:=D3b hD hv P (by omega) (by omega) (by omega) hin;have eo:A7C D n c a=A2J D n c a:=by unfold A7C;rw [if_pos ⟨c1,c2⟩]
       rw [eo] at r128 ⊢;refine ⟨h1,f2,f3,⟨r128,fun j=>by rw [hs.2.2.1];have:=sm.lnk j;omega,by have:=hs.2.2.2.2.2.1;omega,by have:=hs.2.2.2.2.2.2;omega,by rw [hs.2.2.2.1];exact sm.lost0,by rw [hs.2.2.2.1];omega⟩,?_⟩;generalize vwC D.length n m f=V at *;simp only [esc,Nat.reduceAdd,l4,c0,ad,la,c1,lV,hI,f0,c2,f1,A1q,w1]
      ·obtain ⟨h1,f1,f2,f3,f4⟩:=D1c hD hv P (by omega) hin (by omega) (by omega) (by omega) (by omega) sm;have eo:A7C D n c a=B6l D n c a:=by unfold A7C;rw [if_neg (by simp [c2])]
       rw [eo] at r128 ⊢;refine ⟨h1,f2,f3,⟨r128,f4.lnk.mono (by omega),by have:=f4.blocks;omega,by have:=f4.made;omega,f4.lost0,by have:=f4.lost;omega⟩,?_⟩;generalize vwC D.length n m f=V at *;simp only [esc,Nat.reduceAdd,l4,c0,ad,la,c1,lV,hI,f0,c2,f1,A1q,w1]
    obtain ⟨h1,s1,s2,s3,s4⟩:=step;have hlen:i+1<=(A7C D n c a).row.length:=by
     have:c.row.length<=(A7C D n c a).row.length:=C6D;omega
    obtain ⟨M',h',e1,e2⟩:=ih (i+1) M (A7C D n c a) h1 (by omega) (by omega) hlen hR' s3 s1 (F.trans s2) (hpv.fr s2) (hpr.fr s2);exact ⟨M',h',s4.trans e1,e2⟩
end
end
section
theorem C6U:∀ {l:List (List Int)} {i k:Nat} {v:Int} (h:∀ x∈l,x.length=11) (hi:i<l.length) (hk:k<11),(jA l).set (i*11+k) (.i .i64 v)=jA (l.set i ((l.getD i []).set k v))
 | x::l,0,k,v,h,_,hk=>by
  have hx:=h x (List.mem_cons_self ..);rw [V5,Nat.zero_mul,Nat.zero_add,List.set_append_left _ _ (by rw [B9];omega),rP];rfl
 | x::l,i+1,k,v,h,hi,hk=>by
  have hx:=h x (List.mem_cons_self ..);have ih:=C6U (l:=l) (i:=i) (k:=k) (v:=v) (fun y hy=>h y (List.mem_cons_of_mem _ hy)) (by simpa using hi) hk;rw [V5,List.set_append_right _ _ (by rw [B9,hx];omega),B9,hx,show (i+1)*11+k-11=i*11+k by omega,ih];rfl
theorem C56:∀ {l:List (List Int)} {i k:Nat} (h:∀ x∈l,x.length=11) (hi:i<l.length) (hk:k<11),(jA l)[i*11+k]?=some (.i .i64 ((l.getD i []).getD k 0))
 | x::l,0,k,h,_,hk=>by
  have hx:=h x (List.mem_cons_self ..);rw [V5,Nat.zero_mul,Nat.zero_add,List.getElem?_append_left (by rw [B9];omega),H9,List.getElem?_eq_getElem (by omega)];simp [List.getD,show k<x.length by omega]
 | x::l,i+1,k,h,hi,hk=>by
  have hx:=h x (List.mem_cons_self ..);have ih:=C56 (l:=l) (i:=i) (k:=k) (fun y hy=>h y (List.mem_cons_of_mem _ hy)) (by simpa using hi) hk;rw [V5,List.getElem?_append_right (by rw [B9,hx];omega),B9,hx,show (i+1)*11+k-11=i*11+k by omega,ih];rfl
def sZ (c:Cl) (a:Int):Cl:=if (c.ino.getD a.toNat []).getD 0 0=1 then { c with ino:=c.ino.set a.toNat ((c.ino.getD a.toNat []).set 1 ((c.lnk a).getD 0)) } else c
def oF (c:Cl) (L:List Int):Cl:=L.foldl sZ c
section
variable {D:Dev} {n m:Int} {f:Cell} {g:A4} {r:Nat} {c:Cl} {h:A4}
theorem WP.setLink (hv:∃ id cs,f=.f id cs) (P:WP D n m f g r c h) {k:Nat} (hk:k<c.ino.length) (v:Int) :
  ∃ id h',A7 h (.c (.p r 5))=some (.c (.sl id 0 c.ino.length 11))/\rd h id=some ⟨jA c.ino,true⟩/\D3 h (.c (.p id (k*11+1))) (.c (.i .i64 v))=some h'/\WP D n m f g r { c with ino:=c.ino.set k ((c.ino.getD k []).set 1 v) } h'/\Fr r h h' /\
   ∀ rid nn,rd h r≠none->(∃ cs,rd h r=some ⟨cs,true⟩/\cs[4]?=some (.sl rid 0 nn 1))->rd h' r=rd h r/\rd h' rid=rd h rid:=by
 obtain ⟨xr,xi,xt,xb,xm,ml,mp,es1,es2,g1,g2,g3,g4,g5,g6,g7,g8,g9,g10,g11⟩:=id P.row;rcases g4 with ⟨e,_,_⟩ | ⟨t,rfl,t1,t2,t3⟩
 ·omega
 ·have l1:A7 h (.c (.p r 5))=some (.c (.sl t 0 c.ino.length 11)):=C1 g1 rfl rfl;have st:=G3 (x:=.i .i64 v) (off:=k*11+1) t1 (by rw [t2];omega);rw [C6U P.il hk (by omega)] at st;obtain ⟨q1,q2,q3,q4,q5⟩:=P.mod (off:=5) (x:=.sl t 0 c.ino.length 11) hv g1 rfl rfl (some ⟨jA (c.ino.set k ((c.ino.getD k []).set 1 v)),true⟩);have hkl:(c.ino.getD k []).length=11:=by
   rw [List.getD_eq_getElem?_getD,List.getElem?_eq_getElem hk];exact P.il _ (List.getElem_mem hk)
  have S3:∀ x∈c.ino.set k ((c.ino.getD k []).set 1 v),x.length=11:=fun x hx=>by
   rcases List.mem_or_eq_of_mem_set hx with h1 | h1
   ·exact P.il x h1
   ·rw [h1,List.length_set];exact hkl
  refine ⟨t,_,l1,t1,st,⟨q2,P.ge,fun id hn=>P.low id ((Nam.same q3).1 hn),S3,by simpa using P.ilen,P.tlen,xr,_,xt,xb,xm,ml,mp,es1,es2,by rw [q3];exact g1,g2,g3.kept fun id e=>q4 4 _ _ (by decide) rfl e,.inr ⟨t,by simp,q5,by rw [kB S3],t3⟩,g5.kept fun id e=>q4 6 _ _ (by decide) rfl e,g6.kept fun id e=>q4 7 _ _ (by decide) rfl e,g7.kept fun id e=>q4 8 _ _ (by decide) rfl e,?_,g9,?_,g11⟩,q1,fun rid nn _ hc=>⟨q3,?_⟩⟩
  ·rw [q4 10 (.m ml) ml (by decide) rfl rfl];exact g8
  ·rw [q4 11 (.m mp) mp (by decide) rfl rfl];exact g10
  ·obtain ⟨cs,hc1,hc2⟩:=hc;rw [g1] at hc1;cases hc1;exact q4 4 _ rid (by decide) hc2 rfl
theorem C9L {pr q rid:Nat} {R:List Int} {h0:A4} (hv:IsView g f D) (hR:R.length<=1000) (hrg:∀ a∈R,1<=a/\a<=n) :
  ∀ (e i M:Nat) (c:Cl) (h:A4),i+e=R.length->e<M->WP D n m f g r c h->Fr r h0 h->(∃ z,z.length=6/\LocV h r pr z)->(∃ cs,rd h r=some ⟨cs,true⟩/\cs[4]?=some (.sl rid 0 R.length 1))->rd h rid=some ⟨encI R,true⟩ ->
  ∃ M' h',wU q M (.c (.p pr 0)) (.c (.p r 0)) (.c (.sl rid 0 R.length 1)) (.c (.i .i64 (R.length:Nat))) (.c (.i .i64 (i:Int))) h=wU q (M'+1) (.c (.p pr 0)) (.c (.p r 0)) (.c (.sl rid 0 R.length 1)) (.c (.i .i64 (R.length:Nat))) (.c (.i .i64 (R.length:Nat))) h' /\
   WP D n m f g r (oF c (R.drop i)) h'/\Fr r h0 h'/\(∃ z,z.length=6/\LocV h' r pr z):=by
 intro e
 induction e with
 | zero =>
  intro i M c h hi hM P F hz hc hr;obtain ⟨M,rfl⟩:∃ M',M=M'+1:=⟨M-1,by omega⟩;have ei:i=R.length:=by omega
  subst ei;rw [List.drop_length];exact ⟨M,h,rfl,P,F,hz⟩
 | succ e ih =>
  intro i M c h hi hM P F hz hc hr;obtain ⟨M,rfl⟩:∃ M',M=M'+1:=⟨M-1,by omega⟩;have S3:i<R.length:=by omega
  have hv2:=hv.get;have c0:((i:Int)<(R.length:Nat)):=by omega
  have w1:=E8 (show i+1<9223372036854775808 by omega);have ad:C4 1 (.c (.sl rid 0 R.length 1)) (.c (.i .i64 (i:Int)))=some (.c (.p rid i)):=by rw [E5 S3];simp
  have la:A7 h (.c (.p rid i))=some (.c (.i .i64 R[i])):=C1 hr (by rw [H9,List.getElem?_eq_getElem S3];rfl) rfl;obtain ⟨ra1,ra2⟩:=hrg _ (List.getElem_mem S3);rw [List.drop_eq_getElem_cons S3];have er:∀ T,oF c (R[i]::T)=oF (sZ c R[i]) T:=fun T=>rfl
  rw [er];obtain ⟨k,hk⟩:=Int.eq_ofNat_of_zero_le (show 0<=R[i] by omega);rw [hk] at la ra1 ra2 ⊢;have hin:k<c.ino.length:=by rw [P.ilen];omega
  obtain ⟨id,h1,a1,a2,a3,a4,a5,a6⟩:=P.setLink hv2 hin ((c.lnk k).getD 0);obtain ⟨ml,hx,b1,b2,_⟩:=P.setLnk hv2 0 0;have b2':=b2 false k;have adI:C4 11 (.c (.sl id 0 c.ino.length 11)) (.c (.i .i64 (k:Int)))=some (.c (.p id (k*11))):=by rw [E5 hin];simp
  have lk:A7 h (.c (.p id (k*11)))=some (.c (.i .i64 ((c.ino.getD k []).getD 0 0))):=C1 a2 (by have:=C56 (l:=c.ino) (i:=k) (k:=0) P.il hin (by omega);simpa using this) rfl;rw [A8V];by_cases c1:(c.ino.getD k []).getD 0 0=1
  ·have ec:sZ c (k:Int)={ c with ino:=c.ino.set k ((c.ino.getD k []).set 1 ((c.lnk k).getD 0)) }:=by unfold sZ;rw [Int.toNat_natCast,if_pos c1]
   rw [ec];have cK:rd h r≠none:=by obtain ⟨cs,h1,_⟩:=hc;rw [h1];simp
   obtain ⟨k1,k2⟩:=a6 rid R.length cK hc;obtain ⟨z,xX,hz⟩:=hz;obtain ⟨M',h',e1,e2⟩:=ih (i+1) M _ h1 (by omega) (by omega) a4 (F.trans a5) ⟨z,xX,hz.fr a5⟩ (by rw [k1];exact hc) (by rw [k2];exact hr);refine ⟨M',h',?_,e2⟩;simp only [esc,Nat.reduceAdd,c0,ad,la,a1,adI,lk,c1,b1,b2',A1T,a3,A8S,w1];exact e1
  ·have ec:sZ c (k:Int)=c:=by unfold sZ;rw [Int.toNat_natCast,if_neg c1]
   rw [ec];obtain ⟨M',h',e1,e2⟩:=ih (i+1) M c h (by omega) (by omega) P F hz hc hr;refine ⟨M',h',?_,e2⟩;simp only [esc,Nat.reduceAdd,c0,ad,la,a1,adI,lk,c1,A8S,w1];exact e1
def B2L (c:Cl):Nat->Cl
 | 0=>c
 | k+1=>{ B2L c k with taken:=(B2L c k).taken.set k true }
theorem D1W {pv pr q sid K:Nat} {cv cr:List Cell} {h0:A4} (hv:IsView g f D) (hK:K<=D.length) (hK2:K<=1000) :
  ∀ (e i M:Nat) (h:A4),i+e=K->e<M->WP D n m f g r (B2L c i) h->Fr r h0 h->LocV h r pv cv->LocV h r pr cr->LocV h r sid (encI (upto K)) ->
  ∃ h',A2B q M (.c (.p pv 0)) (.c (.p pr 0)) (.c (.p r 0)) (.c (.sl sid 0 K 1)) (.c (.i .i64 (K:Nat))) (.c (.i .i64 (i:Int))) h=dK q q (.c (.p pv 0)) (.c (.p pr 0)) (.c (.p r 0)) (.c (.i .i64 0)) h' /\
   WP D n m f g r (B2L c K) h'/\Fr r h0 h'/\LocV h' r pv cv/\LocV h' r pr cr:=by
 intro e
 induction e with
 | zero =>
  intro i M h hi hM P F hp hr hs;obtain ⟨M,rfl⟩:∃ M',M=M'+1:=⟨M-1,by omega⟩;have ei:i=K:=by omega
  subst ei;refine ⟨h,?_,P,F,hp,hr⟩;have c0:¬ ((i:Int)<(i:Nat)):=by omega
  rw [A8T];simp only [esc,c0]
 | succ e ih =>
  intro i M h hi hM P F hp hr hs;obtain ⟨M,rfl⟩:∃ M',M=M'+1:=⟨M-1,by omega⟩;have hiK:i<K:=by omega
  have c0:((i:Int)<(K:Nat)):=by omega
  have w1:=E8 (show i+1<9223372036854775808 by omega);have ad:C4 1 (.c (.sl sid 0 K 1)) (.c (.i .i64 (i:Int)))=some (.c (.p sid i)):=by rw [E5 hiK];simp
  have la:A7 h (.c (.p sid i))=some (.c (.i .i64 (i:Int))):=C1 hs.2 (by rw [H9];simp [upto,hiK]) rfl;obtain ⟨xr,xi,xt,xb,xm,ml,mp,es1,es2,g1,_⟩:=id P.row;obtain ⟨t,rfl,t1,t2,t3⟩:=P.take (k:=i) (v:=true) g1 (by omega);have lT:A7 h (.c (.p r 6))=some (.c (.sl t 0 D.length 1)):=C1 g1 rfl rfl;have hit:i<(B2L c i).taken.length:=by rw [P.tlen];omega
  have adT:C4 1 (.c (.sl t 0 D.length 1)) (.c (.i .i64 (i:Int)))=some (.c (.p t i)):=by rw [E5 (show i<D.length by omega)];simp
  have s1:D3 h (.c (.p t i)) (.c (.b true))=some (h.set t (some ⟨bD ((B2L c i).taken.set i true),true⟩)):=by
   rw [G3 t1 (by simp [bD,hit])];simp [bD,List.map_set]
  obtain ⟨h',e1,e2⟩:=ih (i+1) M _ (by omega) (by omega) t2 (F.trans t3) (hp.fr t3) (hr.fr t3) (hs.fr t3);refine ⟨h',?_,e2⟩;rw [A8T];simp only [esc,Nat.reduceAdd,c0,ad,la,lT,adT,s1,w1];exact e1
end
end
theorem B2m {h2:A4} {b:Nat}:∀ (l:List Cell) (seen:List Nat),(∀ x∈l,x.flat=true\/∃ id off n sz cs,x=.sl id off n sz/\b<=id/\rd h2 id=some ⟨cs,true⟩/\I9 cs=true) ->
  (∀ (i j a:Nat) (x y:Cell),l[i]?=some x->l[j]?=some y->nmC x=some a->nmC y=some a->i=j)->(∀ x∈l,∀ a,nmC x=some a->a ∉ seen) ->
  ∃ l2 fin,L7 h2 b seen l=some (l2,fin)/\seen <+: fin/\l2.length=l.length/\∀ (i:Nat) (x:Cell),l[i]?=some x->(x.flat=true/\l2[i]?=some x)\/∃ id off n sz j,x=.sl id off n sz/\l2[i]?=some (.sl (b+j) off n sz)/\fin[j]?=some id
 | [],seen,_,_,_=>⟨[],seen,rfl,List.prefix_refl _,rfl,fun i x h=>by simp at h⟩
 | c::l,seen,hf,hd,hs=>by
  have hd':∀ (i j a:Nat) (x y:Cell),l[i]?=some x->l[j]?=some y->nmC x=some a->nmC y=some a->i=j:=fun i j a x y h1 h2 h3 h4=>by
   have:=hd (i+1) (j+1) a x y (by simpa using h1) (by simpa using h2) h3 h4;omega
  rcases hf c (List.mem_cons_self ..) with hc | ⟨id,off,n,sz,cs,rfl,hb,hr,hfl⟩
  ·obtain ⟨l2,fin,e1,e2,e3,e4⟩:=B2m l seen (fun x hx=>hf x (List.mem_cons_of_mem _ hx)) hd' fun x hx=>hs x (List.mem_cons_of_mem _ hx)
   refine ⟨c::l2,fin,?_,e2,by simp [e3],fun i x hi=>?_⟩
   ·unfold L7;rw [if_pos (Cell.low_of_flat hc),e1];rfl
   ·cases i with
    | zero=>simp at hi;subst hi;exact .inl ⟨hc,rfl⟩
    | succ i=>simpa using e4 i x (by simpa using hi)
  ·have hns:id ∉ seen:=hs _ (List.mem_cons_self ..) id rfl;obtain ⟨l2,fin,e1,e2,e3,e4⟩:=B2m l (seen++[id]) (fun x hx=>hf x (List.mem_cons_of_mem _ hx)) hd' fun x hx a ha=>by
    rw [List.mem_append];rintro (h1 | h1)
    ·exact hs x (List.mem_cons_of_mem _ hx) a ha h1
    ·simp at h1;subst h1;obtain ⟨j,hj⟩:=List.mem_iff_getElem?.1 hx;have:=hd 0 (j+1) a _ x rfl (by simpa using hj) rfl ha;omega
   have hlow:¬ (Cell.sl id off n sz).low b=true:=by simp [Cell.low,Cell.flat];omega
   refine ⟨.sl (b+seen.length) off n sz::l2,fin,?_,(List.prefix_append _ _).trans e2,by simp [e3],fun i x hi=>?_⟩
   ·unfold L7;rw [if_neg hlow];dsimp only;rw [if_pos ⟨hb,hns,A0L hr hfl⟩,e1];rfl
   ·cases i with
    | zero =>
     simp at hi;subst hi;refine .inr ⟨id,off,n,sz,seen.length,rfl,rfl,?_⟩;obtain ⟨t,rfl⟩:=e2;simp
    | succ i=>simpa using e4 i x (by simpa using hi)
structure IsCl (h:A4) (cs:List Cell) (c:Cl):Prop where
 form:∃ xr xi xt xb xm,cs=[xr,xi,xt,xb,xm,.i .i64 c.lost]/\Has h (.c xr) 1 c.row.length (encI c.row)/\Has h (.c xi) 11 c.ino.length (jA c.ino)/\Has h (.c xt) 1 c.taken.length (bD c.taken)/\Has h (.c xb) 1 c.blocks.length (encI c.blocks)/\Has h (.c xm) 256 c.made.length (D7 c.made)
section
def K4 (D:Dev) (n:Int):Cl:=⟨[1],List.replicate (n+1).toNat (zI 11),List.replicate D.length false,[],[],0,fun _=>none,A6B (fun _=>none) 1 1⟩
def bW (D:Dev) (n:Int):Cl:=ofR D n 129 0 (B2L (K4 D n) (tU D.length n).toNat)
def J0 (D:Dev) (n:Int):Cl:=oF (bW D n) (bW D n).row
theorem HeldX.canon {g h:A4} {x:Cell} {l:List Cell} {n sz r:Nat} (hx:HeldX h x l n sz r) (hf:I9 l=true) (hlow:∀ id,nmC x=some id->g.length<=id):x.flat=true\/∃ id off n sz cs,x=.sl id off n sz/\g.length<=id/\rd h id=some ⟨cs,true⟩/\I9 cs=true:=by
 rcases hx with ⟨_,_,rfl⟩ | ⟨id,rfl,h1,h2,h3⟩
 ·exact .inl rfl
 ·exact .inr ⟨id,0,n,sz,l,rfl,hlow id rfl,h1,hf⟩
theorem HeldX.moved {h h2:A4} {x y:Cell} {l:List Cell} {n sz r:Nat} {fin:List Nat} (hx:HeldX h2 x l n sz r) (hn:noX l=true) (hy:(x.flat=true/\y=x)\/∃ id off n sz j,x=.sl id off n sz/\y=.sl (h.length+j) off n sz/\fin[j]?=some id):Has (h++fin.map (rd h2)) (.c y) sz n l:=by
 rcases hx with ⟨h1,h3,h4⟩ | ⟨id,rfl,h1,h3,h4⟩
 ·subst h4;rcases hy with ⟨_,rfl⟩ | ⟨_,_,_,_,_,e,_⟩
  ·exact .inl ⟨rfl,h1,h3⟩
  ·cases e
 ·rcases hy with ⟨e,_⟩ | ⟨bP,off,n',sz',j,e,rfl,hj⟩
  ·cases e
  ·cases e;refine Has.row (rw:=true) ?_ h3 hn;unfold rd;rw [List.getElem?_append_right (by omega),show h.length+j-h.length=j by omega,List.getElem?_map,hj];exact h1
theorem C4W {D:Dev} {n:Int}:∀ {e i:Nat} {c:Cl},c.row.length<=(ofR D n e i c).row.length
 | 0,_,_=>Nat.le_refl _
 | e+1,i,c=>by
  unfold ofR;cases c.row[i]? with
  | none=>exact Nat.le_refl _
  | some a=>exact Nat.le_trans C6D C4W
theorem D26 {b n:Int} (h:T3 b n=true):tU b n<=b:=by
 obtain ⟨_,_,_,_,_,h6⟩:=N4.1 h;have:=N4.1 h;unfold tU A1U A9G;rw [h];simp only [cond_true];omega
theorem ownR_same {c:Cl}:∀ {k:Nat},SameC c (B2L c k)
 | 0=>.rfl' _
 | k+1=>by
  have h:=ownR_same (c:=c) (k:=k);exact ⟨h.row,h.ino,h.blocks,h.made,h.lost,h.lnk,h.par⟩
section
variable {D:Dev} {n m:Int} {f:Cell} {h:A4}
theorem C3a {g:A4} (hD:okD D) (hv:IsView g f D) (hm:T3 D.length n=true) :
  ∃ six g',A5y 1200 [.a (vwC D.length n m f)] g=some (.a six,g')/\WP D n m f g (g.length+4) (J0 D n) g'/\∃ V t,rd g' (g.length+4)=some ⟨V++six++t,true⟩/\V.length=4/\six.length=6/\RowW n (bW D n)/\Small (bW D n) 128 (224*129) (33*129) (224*129):=by
 have hv2:=hv.get;obtain ⟨b16,b512,n8,n128,_,_⟩:=N4.1 hm;obtain ⟨N,hN⟩:∃ N:Nat,n+1=(N:Int):=Int.eq_ofNat_of_zero_le (by omega);have hCk:=fun h=>Z6 (b:=D.length) (n:=n) (m:=m) (h:=h)
 rw [hm,cond_true] at hCk;obtain ⟨W,hW⟩:∃ W,W=wkC D n m f (.sl (g.length+5) 0 1 1) (.sl (g.length+6) 0 N 11) (.sl (g.length+7) 0 D.length 1) .ns .ns 0 (g.length+2) (g.length+3):=⟨_,rfl⟩;obtain ⟨T,hT⟩:∃ T:A4,T=[some (Row.mk (vwC D.length n m f) true),some (Row.mk [.ns,.ns,.ns,.ns,.ns,.i .i64 0] true),some (J3 []),some (J3 [(.i .i64 1,.c (.i .i64 1))]),some (Row.mk W true),some (Row.mk [.i .i64 1] true),some (Row.mk (jA (List.replicate N (zI 11))) true),some (Row.mk (bD (List.replicate D.length false)) true)]:=⟨_,rfl⟩;have at_:∀ (k:Nat) (x:Option Row),T[k]?=some x->rd (g++T) (g.length+k)=x:=fun k x hk=>by
  unfold rd;rw [List.getElem?_append_right (by omega),show g.length+k-g.length=k by omega,hk];rfl
 have S3:∀ x∈List.replicate N (zI 11),x.length=11:=fun x hx=>by rw [List.eq_of_mem_replicate hx];simp [zI]
 have P0:WP D n m f g (g.length+4) (K4 D n) (g++T):=by
  have r4:=at_ 4 (some ⟨W,true⟩) (by rw [hT];rfl);rw [hW] at r4;refine ⟨(Low.refl (Nat.le_refl _)).new _,by omega,fun id hn=>?_,?_,?_,?_,?_⟩
  ·obtain ⟨R,x,hR,hx,hnm⟩:=hn;rw [r4] at hR;cases hR;obtain ⟨fi,fc,rfl⟩:=hv2;simp only [wkC,List.mem_cons,List.not_mem_nil,or_false] at hx;rcases hx with rfl | rfl | rfl | rfl | rfl | rfl | rfl | rfl | rfl | rfl | rfl | rfl<;>cases hnm<;>omega
  ·intro x hx;exact S3 x (by unfold K4 at hx;dsimp only at hx;rw [hN] at hx;simpa using hx)
  ·simp [K4]
  ·simp [K4]
  ·refine ⟨_,_,_,_,_,_,_,[],[(.i .i64 1,.c (.i .i64 1))],r4,⟨fun i j a x y hi hj hx hy=>?_,fun x hx=>?_⟩,.inr ⟨_,rfl,at_ 5 _ (by rw [hT];rfl),rfl,by omega⟩,?_,?_,.inl ⟨rfl,rfl,rfl⟩,.inl ⟨rfl,rfl,rfl⟩,at_ 2 _ (by rw [hT];rfl),MapI.nil,at_ 3 _ (by rw [hT];rfl),MapI.nil.put 1 1⟩
   ·obtain ⟨fi,fc,rfl⟩:=hv2;have hi2:=(List.getElem?_eq_some_iff.1 hi).1;have hj2:=(List.getElem?_eq_some_iff.1 hj).1;simp only [wkC,List.length_cons,List.length_nil] at hi2 hj2;have cases12:∀ k:Nat,k<12->k=0\/k=1\/k=2\/k=3\/k=4\/k=5\/k=6\/k=7\/k=8\/k=9\/k=10\/k=11:=fun k hk=>by omega
    rcases cases12 i (by omega) with rfl | rfl | rfl | rfl | rfl | rfl | rfl | rfl | rfl | rfl | rfl | rfl<;>(cases hi;try cases hx) <;>
     (rcases cases12 j (by omega) with rfl | rfl | rfl | rfl | rfl | rfl | rfl | rfl | rfl | rfl | rfl | rfl<;>(cases hj;try simp [nmC] at hy)<;>first | rfl | omega)
   ·obtain ⟨fi,fc,rfl⟩:=hv2;simp only [wkC,List.mem_cons,List.not_mem_nil,or_false] at hx;rcases hx with rfl | rfl | rfl | rfl | rfl | rfl | rfl | rfl | rfl | rfl | rfl | rfl<;>simp [nmC]
   ·have e:(K4 D n).ino=List.replicate N (zI 11):=by unfold K4;rw [hN];simp
    rw [e,List.length_replicate];exact .inr ⟨_,rfl,at_ 6 _ (by rw [hT];rfl),by rw [kB S3,List.length_replicate],by omega⟩
   ·have e:(K4 D n).taken=List.replicate D.length false:=rfl;rw [e,List.length_replicate];exact .inr ⟨_,rfl,at_ 7 _ (by rw [hT];rfl),by simp [bD],by omega⟩
 have r4:=at_ 4 (some ⟨W,true⟩) (by rw [hT];rfl);have noN:∀ k:Nat,k<2->¬ Nam (g++T) (g.length+4) (g.length+k):=by
  rintro k hk ⟨R,x,hR,hx,hnm⟩;rw [r4,hW] at hR;cases hR;obtain ⟨fi,fc,rfl⟩:=hv2;simp only [wkC,List.mem_cons,List.not_mem_nil,or_false] at hx;rcases hx with rfl | rfl | rfl | rfl | rfl | rfl | rfl | rfl | rfl | rfl | rfl | rfl<;>simp [nmC] at hnm<;>omega
 have hTl:T.length=8:=by rw [hT];rfl
 have hGl:(g++T).length=g.length+8:=by rw [List.length_append,hTl]
 have LV:LocV (g++T) (g.length+4) g.length (vwC D.length n m f):=⟨⟨by omega,by omega,by simpa using noN 0 (by omega)⟩,by simpa using at_ 0 _ (by rw [hT];rfl)⟩;have LR:LocV (g++T) (g.length+4) (g.length+1) [.ns,.ns,.ns,.ns,.ns,.i .i64 0]:=⟨⟨by omega,by omega,noN 1 (by omega)⟩,at_ 1 _ (by rw [hT];rfl)⟩;obtain ⟨K,hK⟩:∃ K,K=(tU D.length n).toNat:=⟨_,rfl⟩;have hKr:=A52 (b:=(D.length:Int)) (n:=n);have hKD:K<=D.length/\K<=1000:=by
  rw [hK];have:tU (D.length:Int) n<=D.length:=D26 hm;omega
 have D3c:=B7A (b:=D.length) (n:=n) (m:=m) (h:=g++T);rw [<-hK] at D3c;have eu:(upto K).length=K:=by simp [upto]
 have P1:=P0.more hv2 [some (Row.mk (encI (upto K)) true)];have F1:Fr (g.length+4) (g++T) (g++T++[some (Row.mk (encI (upto K)) true)]):=Fr.low ((Low.refl (Nat.le_refl _)).new _) P0.rlt;have LO:LocV (g++T++[some (Row.mk (encI (upto K)) true)]) (g.length+4) ((g++T).length+0) (encI (upto K)):=LocV.new (k:=0) hv2 P0 rfl;rw [Nat.add_zero] at LO;obtain ⟨h1,e1,P2,F2,LV2,LR2⟩:=D1W (c:=K4 D n) (q:=1200) (pv:=g.length) (pr:=g.length+1) (sid:=(g++T).length) (h0:=g++T) hv hKD.1 hKD.2 K 0 1200 _ (by omega) (by omega) P1 F1 (LV.fr F1) (LR.fr F1) LO;have hsO:=ownR_same (c:=K4 D n) (k:=K);have rI:RowW n (B2L (K4 D n) K):=by
  refine RowW.same (c:=K4 D n) ⟨by simp [K4],fun i=>?_,fun i hi=>?_⟩ hsO.row hsO.par
  ·by_cases c1:i=1
   ·subst c1;simp [K4,A6B]
   ·simp [K4,A6B,c1]
  ·simp [K4] at hi;omega
 have smI:Small (B2L (K4 D n) K) 128 (224*0) (33*0) (224*0):=⟨by rw [hsO.row];simp [K4],fun i=>by rw [hsO.lnk];simp [K4],by rw [hsO.blocks];simp [K4],by rw [hsO.made];simp [K4],by rw [hsO.lost];simp [K4],by rw [hsO.lost];simp [K4]⟩;obtain ⟨M',h2,e2,P3,F3,LV3,LR3,rO,smO⟩:=D3r (q:=1200) (pv:=g.length) (pr:=g.length+1) (h0:=g++T) hD hv n128 129 0 1200 (B2L (K4 D n) K) h1 (by omega) (by omega) (by omega) rI smI P2 F2 LV2 LR2;have ecO:ofR D n 129 0 (B2L (K4 D n) K)=bW D n:=by unfold bW;rw [<-hK]
 rw [ecO] at e2 P3 rO smO;obtain ⟨c,hc⟩:∃ c,c=bW D n:=⟨_,rfl⟩;rw [<-hc] at e2 P3 rO smO;have xW:1<=c.row.length:=by
  have:(B2L (K4 D n) K).row.length<=c.row.length:=by rw [hc,<-ecO];exact C4W
  rw [hsO.row] at this;simpa [K4] using this
 obtain ⟨xr,xi,xt,xb,xm,ml,mp,es1,es2,g1,g2,g3,g4,g5,g6,g7,g8,g9,g10,g11⟩:=id P3.row;rcases g3 with ⟨e0,_,_⟩ | ⟨rid,rfl,r1,r2,r3⟩
 ·omega
 have l4:A7 h2 (.c (.p (g.length+4) 4))=some (.c (.sl rid 0 c.row.length 1)):=C1 g1 rfl rfl;have c0:¬ ((c.row.length:Nat):Int)<(c.row.length:Nat):=by omega
 have r128:=C45 rO.nd fun a ha=>⟨(rO.rg a ha).1,by have:=(rO.rg a ha).2;omega⟩
 obtain ⟨M2,h3,e3,P4,F4,z,xX,LR4⟩:=C9L (q:=1200) (pr:=g.length+1) (rid:=rid) (R:=c.row) (h0:=g++T) hv (by omega) rO.rg c.row.length 0 1200 c h2 (by omega) (by omega) P3 F3 ⟨_,rfl,LR3⟩ ⟨_,g1,rfl⟩ r1;rw [List.drop_zero] at P4;have ecF:oF c c.row=J0 D n:=by unfold J0;rw [<-hc]
 rw [ecF] at P4;obtain ⟨yr,yi,yt,yb,ym,nl,np,fs1,fs2,k1,k2,_⟩:=id P4.row;have l6:A8 h3 6 (.c (.p (g.length+4) 4))=some (.a [yr,yi,yt,yb,ym,.i .i64 (J0 D n).lost]):=by rw [T2 k1 (by simp [wkC]) rfl];rfl
 have s6:=storeAll (n:=6) (xs:=[yr,yi,yt,yb,ym,.i .i64 (J0 D n).lost]) LR4.2 xX rfl;have LR5:=LR4.self (cs':=[yr,yi,yt,yb,ym,.i .i64 (J0 D n).lost]);have l6':=D4 (n:=6) LR5.2 rfl;refine ⟨[yr,yi,yt,yb,ym,.i .i64 (J0 D n).lost],h3.set (g.length+1) (some ⟨[yr,yi,yt,yb,ym,.i .i64 (J0 D n).lost],true⟩),?_,P4.set LR4.1 (by omega),vwC D.length n m f,[.m nl,.m np],?_,rfl,rfl,by rw [<-hc];exact rO,by rw [<-hc];exact smO⟩
 rotate_left
 ·rw [B7 LR4.1.2.1,k1];rfl
 rw [C1E];rw [A8U 1200 M'] at e2;rw [A8V 1200 M2] at e3;have D4G:sM (g++[some (Row.mk (vwC D.length n m f) true),some (Row.mk [Cell.ns,.ns,.ns,.ns,.ns,.i .i64 0] true),some (J3 []),some (J3 [])]) (some .i64) (.c (.m (g.length+3))) (.c (.i .i64 1)) (.c (.i .i64 1))=some (g++[some (Row.mk (vwC D.length n m f) true),some (Row.mk [Cell.ns,.ns,.ns,.ns,.ns,.i .i64 0] true),some (J3 []),some (J3 [(.i .i64 1,.c (.i .i64 1))])]):=by
  rw [D47 (F:=fun _=>none) (es:=[]) (by simp) MapI.nil];simp [A7B,A7A,mgo]
 have ef1:C7 [Cell.i .i64 0,.i .i64 0,.i .u64 0,.nf,.ns,.ns,.ns,.ns,.ns,.i .i64 0,.nm,.nm] [(0,4,.a (vwC D.length n m f)),(10,1,.c (.m (g.length+2))),(11,1,.c (.m (g.length+3)))]=some (vwC D.length n m f++[.ns,.ns,.ns,.ns,.ns,.i .i64 0,.m (g.length+2),.m (g.length+3)]):=rfl;have ef2:C7 [Cell.i .i64 0] [(0,1,.c (.i .i64 1))]=some [.i .i64 1]:=rfl;have lv0:ld1 (some (Row.mk (vwC D.length n m f) true)) 0=some (.c (.i .i64 (D.length:Int))):=rfl;have lv1:ld1 (some (Row.mk (vwC D.length n m f) true)) 1=some (.c (.i .i64 n)):=rfl;have l4v:=D2v (b:=D.length) (n:=n) (m:=m) (f:=f);have l3v:=C64 (b:=D.length) (n:=n) (m:=m) (f:=f);have wn:IntKind.wrap .i64 (n+1)=(N:Int):=by rw [wrap_i64 (by omega) (by omega),hN]
 have nt:∀ k:Nat,k<=1000->B4I (.c (.i .i64 (k:Int)))=some k:=fun k hk=>by
  simp only [B4I];rw [if_pos (by omega)];simp
 have am1:A8x (.c (.i .i64 (N:Int))) (.c (.i .i64 (N:Int)))=some N:=by simp only [A8x,nt N (by omega),Option.bind_some];rw [if_pos (Nat.le_refl _)]
 have am2:A8x (.c (.i .i64 (D.length:Int))) (.c (.i .i64 (D.length:Int)))=some D.length:=by simp only [A8x,nt D.length (by omega),Option.bind_some];rw [if_pos (Nat.le_refl _)]
 have ef3:C7 [Cell.ns,.ns,.ns,.ns,.ns,.i .i64 0] [(0,1,.c (.sl (g.length+5) 0 1 1)),(1,1,.c (.sl (g.length+6) 0 N 11)),(2,1,.c (.sl (g.length+7) 0 D.length 1))]=some [.sl (g.length+5) 0 1 1,.sl (g.length+6) 0 N 11,.sl (g.length+7) 0 D.length 1,.ns,.ns,.i .i64 0]:=rfl;have sw:stN (some (Row.mk (vwC D.length n m f++[.ns,.ns,.ns,.ns,.ns,.i .i64 0,.m (g.length+2),.m (g.length+3)]) true)) 4 6 [.sl (g.length+5) 0 1 1,.sl (g.length+6) 0 N 11,.sl (g.length+7) 0 D.length 1,.ns,.ns,.i .i64 0]=some ⟨W,true⟩:=by rw [hW];rfl
 have rz1:rows [Cell.i .i64 0,.i .i64 0,.i .i64 0,.i .i64 0,.i .i64 0,.i .i64 0,.i .i64 0,.i .i64 0,.i .i64 0,.i .i64 0,.i .i64 0] N=jA (List.replicate N (zI 11)):=by unfold rows jA;rw [List.map_replicate];rfl
 have rz2:rows [Cell.b false] D.length=bD (List.replicate D.length false):=by unfold rows bD;rw [List.map_replicate,List.flatten_replicate_singleton]
 rw [hT] at e1;rw [hT] at D3c;simp only [esc,Nat.reduceAdd] at D3c;have c00:((0:Nat):Int)=0:=rfl;rw [c00] at e1 e2 e3;generalize jA (List.replicate N (zI 11))=ZI at *;generalize bD (List.replicate D.length false)=ZB at *;generalize vwC D.length n m f=V at *;simp only [esc,Y7,K3,fB,O4,Q1,H7,Nat.reduceAdd,l3v,l4v,hCk,D4G,ef1,ef2,lv0,lv1,wn,am1,am2,ef3,sw,rz1,rz2,Nat.add_assoc];simp only [esc,D3c];simp only [esc,Nat.reduceAdd] at e1;refine e1.trans ?_;refine e2.trans ?_;simp only [esc,Nat.reduceAdd,l4,c0];refine e3.trans ?_;simp only [esc,Nat.reduceAdd,c0,l6,s6,l6']
end
end
theorem C53 (l:List (List Int)):I9 (jA l)=true:=by
 induction l with
 | nil=>rfl
 | cons x l ih =>
  rw [V5,rQ,ih];simp [I9,encI,Cell.flat]
theorem C51 (l:List Bool):I9 (bD l)=true:=by simp [I9,bD,Cell.flat]
theorem C9S (l:List Bool):noX (bD l)=true:=by simp [noX,bD,Cell.isX]
theorem B7q {D:Dev} {n m:Int} {f:Cell} {h:A4} (hD:okD D) (hv:IsView h f D) (hm:T3 D.length n=true) :
  ∃ cs t,nV [.a (vwC D.length n m f)] h=some (.a cs,h++t)/\IsCl (h++t) cs (J0 D n)/\t.all C3r=true:=by
 obtain ⟨six,g',e,P,V,t,hr,hV,h6,_,_⟩:=C3a (n:=n) (m:=m) hD hv.ro hm;obtain ⟨xr,xi,xt,xb,xm,ml,mp,es1,es2,g1,g2,g3,g4,g5,g6,g7,_⟩:=id P.row;obtain ⟨c,hc⟩:∃ c,c=J0 D n:=⟨_,rfl⟩;rw [<-hc] at g1 g2 g3 g4 g5 g6 g7 P ⊢;rw [g1] at hr;simp only [Option.some.injEq,Row.mk.injEq,and_true] at hr;have e6:six=[xr,xi,xt,xb,xm,.i .i64 c.lost]:=by
  have h1:(wkC D n m f xr xi xt xb xm c.lost ml mp).drop 4=(six++t):=by rw [hr,List.append_assoc,List.drop_left' hV]
  have h2:((wkC D n m f xr xi xt xb xm c.lost ml mp).drop 4).take 6=six:=by rw [h1,List.take_left' h6]
  rw [<-h2];rfl
 have low:∀ (i:Nat) (x:Cell) (id:Nat),(wkC D n m f xr xi xt xb xm c.lost ml mp)[i]?=some x->nmC x=some id->(ro h).length<=id:=fun i x id hi hx=>P.low id (B2G g1 hi hx)
 obtain ⟨l2,fin,c1,_,c3,c4⟩:=B2m (h2:=g') (b:=(ro h).length) six [] (fun x hx=>by
   rw [e6] at hx;simp only [List.mem_cons,List.not_mem_nil,or_false] at hx;rcases hx with rfl | rfl | rfl | rfl | rfl | rfl
   ·exact g3.canon (by simp [I9,encI,Cell.flat]) fun id e=>low 4 _ _ rfl e
   ·exact g4.canon (C53 _) fun id e=>low 5 _ _ rfl e
   ·exact g5.canon (C51 _) fun id e=>low 6 _ _ rfl e
   ·exact g6.canon (by simp [I9,encI,Cell.flat]) fun id e=>low 7 _ _ rfl e
   ·exact g7.canon eD fun id e=>low 8 _ _ rfl e
   ·exact .inl rfl) (fun i j a x y hi hj hx hy=>by
   have sh:∀ (i:Nat) (x:Cell),six[i]?=some x->(wkC D n m f xr xi xt xb xm c.lost ml mp)[4+i]?=some x:=fun i x hi=>by
    rw [hr,List.append_assoc,List.getElem?_append_right (by omega),hV,show 4+i-4=i by omega,List.getElem?_append_left (List.getElem?_eq_some_iff.1 hi).1];exact hi
   have:=g2.1 (4+i) (4+j) a x y (sh i x hi) (sh j y hj) hx hy;omega) (fun x hx a ha=>by simp)
 have hgood:=(A4H (μ:=fun _=>none) (μ':=fun _=>none) (fun _ _=>rfl) _ _ _ _ c1 Good.nil).1;have C2g:(fin.map (rd g')).all C3r=true:=by
  rw [List.all_eq_true];intro x hx;obtain ⟨j,hj,rfl⟩:=List.mem_map.1 hx;obtain ⟨_,r,h1,h2,_⟩:=hgood.ok j hj;rw [h1];exact Row.own_rw h2
 rw [I8] at c1 c4;have hS:=B8g e (v2:=.a l2) (ids:=fin) (by simp only [S9,c1,Option.map_some]);refine ⟨l2,_,hS,?_⟩;rw [e6] at c3 c4;have q0:=c4 0 _ rfl;have q1:=c4 1 _ rfl;have q2:=c4 2 _ rfl;have q3:=c4 3 _ rfl;have q4:=c4 4 _ rfl;have q5:=c4 5 _ rfl;obtain ⟨y0,y1,y2,y3,y4,y5,rfl⟩:∃ y0 y1 y2 y3 y4 y5,l2=[y0,y1,y2,y3,y4,y5]:=by
  match l2,c3 with
  | [a,b,c,d,e,f],_=>exact ⟨a,b,c,d,e,f,rfl⟩
 simp only [List.getElem?_cons_zero,List.getElem?_cons_succ,Option.some.injEq] at q0 q1 q2 q3 q4 q5;have e5:y5=.i .i64 c.lost:=by
  rcases q5 with ⟨_,h1⟩ | ⟨_,_,_,_,_,h1,_⟩
  ·exact h1
  ·cases h1
 subst e5;exact ⟨⟨_,_,_,_,_,rfl,g3.moved (A9s _) q0,g4.moved (C9T _) q1,g5.moved (C9S _) q2,g6.moved (A9s _) q3,g7.moved (cD _) q4⟩,C2g⟩
theorem C3o {R:List Int} {a:Int} {y:Cell} {q:Nat} {h:A4} (hy:∀ i,i<R.length->∃ ad,C4 1 (.c y) (.c (.i .i64 (i:Int)))=some ad/\A7 h ad=some (.c (.i .i64 (R.getD i 0)))) (hR:R.length<=1000):∀ (e i M:Nat),i+e=R.length->e<M ->
  vI q M (.c (.i .i64 a)) (.c y) (.c (.i .i64 (R.length:Nat))) (.c (.i .i64 (i:Int))) h=some (.c (.b (decide (a∈R.drop i))),h)
 | e,i,0,_,hM=>by omega
 | 0,i,M+1,hi,_=>by
  have c0:¬ ((i:Int)<(R.length:Nat)):=by omega
  rw [A4R,List.drop_of_length_le (by omega)];simp only [esc,c0];simp
 | e+1,i,M+1,hi,hM=>by
  have S3:i<R.length:=by omega
  have c0:((i:Int)<(R.length:Nat)):=by omega
  have w1:=E8 (show i+1<9223372036854775808 by omega);obtain ⟨ad,a1,a2⟩:=hy i S3;have eg:R.getD i 0=R[i]:=by simp [List.getD,S3]
  rw [eg] at a2;rw [A4R,List.drop_eq_getElem_cons S3];by_cases c1:R[i]=a
  ·rw [c1] at a2 ⊢;simp only [esc,c0,a1,a2,eq_self];simp
  ·have ih:=C3o (q:=q) (a:=a) hy hR e (i+1) M (by omega) (by omega);simp only [esc,c0,a1,a2,c1,w1];rw [ih];have:(a∈R[i]::R.drop (i+1))↔a∈R.drop (i+1):=by
    rw [List.mem_cons];constructor
    ·rintro (h | h)
     ·exact absurd h.symm c1
     ·exact h
    ·exact .inr
   simp only [this]
theorem C16 {cs:List Cell} {c:Cl} {a:Int} {h:A4} (hc:IsCl h cs c) (hR:c.row.length<=1000):qN [.a cs,.c (.i .i64 a)] h=some (.c (.b (decide (a∈c.row))),h):=by
 obtain ⟨xr,xi,xt,xb,xm,rfl,h1,_⟩:=hc.form;have key:∃ g',A0d 1100 [.a [xr,xi,xt,xb,xm,.i .i64 c.lost],.c (.i .i64 a)] (ro h)=some (.c (.b (decide (a∈c.row))),g'):=by
  have h2:=h1.ro.more [some (Row.mk [xr,xi,xt,xb,xm,.i .i64 c.lost] true)];have hl:=h2.len;have k:=C3o (q:=1100) (a:=a) (R:=c.row) (y:=xr) (h:=ro h++[some (Row.mk [xr,xi,xt,xb,xm,.i .i64 c.lost] true)]) (fun i hi=>by
   obtain ⟨id,off,e,_,hA,_⟩:=h2.sl (by omega);cases e;refine ⟨.c (.p id (off+i*1)),E5 hi,?_⟩;rw [Nat.mul_one];exact hA i _ (by rw [H9,List.getD_eq_getElem?_getD,List.getElem?_eq_getElem hi];rfl)) hR c.row.length 0 1100 (by omega) (by omega)
  rw [List.drop_zero] at k;refine ⟨ro h++[some (Row.mk [xr,xi,xt,xb,xm,.i .i64 c.lost] true)],?_⟩
  ·rw [B7Y];have l0:A7 (ro h++[some (Row.mk [xr,xi,xt,xb,xm,.i .i64 c.lost] true)]) (.c (.p (ro h).length 0))=some (.c xr):=by rw [O4];exact A6f
   simp only [esc,l0,hl];exact k
 obtain ⟨g',e⟩:=key;exact B3u e rfl
section
def nD (O:Dev) (no:Int) (b:List UInt8):Dev:=if 0<=no/\no<O.length then O.set no.toNat b else O
theorem jE {O:Dev} {no:Int} {b:List UInt8}:(nD O no b).length=O.length:=by unfold nD;split<;>simp
theorem okD.put {O:Dev} (h:okD O) {no:Int} {b:List UInt8} (hb:b.length=256):okD (nD O no b):=by
 unfold nD;split
 ·exact h.set hb
 ·exact h
structure OutD (g:A4) (p id:Nat) (O:Dev) (h:A4):Prop where
 lo:Low g.length g h
 gp:g.length<=p
 gid:g.length<=id
 ne:p≠id
 var:rd h p=some ⟨[.sl id 0 O.length 256],true⟩
 blk:rd h id=some ⟨D7 O,true⟩
theorem OutD.more {g h:A4} {p id:Nat} {O:Dev} (k:OutD g p id O h) (t:A4):OutD g p id O (h++t) :=
 ⟨k.lo.new t,k.gp,k.gid,k.ne,B6 k.var,B6 k.blk⟩
theorem OutD.set {g h:A4} {p id:Nat} {O O':Dev} (k:OutD g p id O h) (hl:O'.length=O.length):OutD g p id O' (h.set id (some ⟨D7 O',true⟩)) :=
 ⟨k.lo.set k.gid _,k.gp,k.gid,k.ne,by rw [B7 (Ne.symm k.ne),hl];exact k.var,by rw [C8 (E4 k.blk)]⟩
theorem OutD.setO {g h:A4} {p id j:Nat} {O:Dev} {x:Option Row} (k:OutD g p id O h) (h1:g.length<=j) (h2:j≠p) (h3:j≠id):OutD g p id O (h.set j x) :=
 ⟨k.lo.set h1 _,k.gp,k.gid,k.ne,by rw [B7 h2];exact k.var,by rw [B7 h3];exact k.blk⟩
theorem put_eq {g h:A4} {p id:Nat} {O:Dev} {no:Int} {b:List UInt8} (k:OutD g p id O h) (hO:okD O) (hb:b.length=256) :
  ∃ h',eU [.c (.i .i64 no),.a (A5 b),.c (.p p 0)] h=some (.t [],h')/\OutD g p id (nD O no b) h'/\h.length<=h'.length/\∀ j,j<h.length->j≠id->rd h' j=rd h j:=by
 obtain ⟨H,hH⟩:∃ H,H=h++[some (Row.mk (A5 b) true)]:=⟨_,rfl⟩;have kH:OutD g p id O H:=by rw [hH];exact k.more _
 have lV:A7 H (.c (.p p 0))=some (.c (.sl id 0 O.length 256)):=C1 kH.var rfl rfl;have lB:A8 H 256 (.c (.p h.length 0))=some (.a (A5 b)):=D4 (by rw [hH,H5];rfl) (by rw [A6,hb]);have cl:cells? (.a (A5 b))=some (A5 b):=rfl;have same:∀ j,j<h.length->rd H j=rd h j:=fun j hj=>by rw [hH,E3 hj]
 have len:H.length=h.length+1:=by rw [hH];simp
 by_cases c0:0<=no
 ·by_cases c1:no<(O.length:Nat)
  ·obtain ⟨i,rfl⟩:=Int.eq_ofNat_of_zero_le c0;have hi:i<O.length:=by omega
   have ad:C4 256 (.c (.sl id 0 O.length 256)) (.c (.i .i64 (i:Int)))=some (.c (.p id (i*256))):=by rw [E5 hi];simp
   have sd:B4 H 256 (.c (.p id (i*256))) (.a (A5 b))=some (H.set id (some ⟨D7 (O.set i b),true⟩)):=A0N kH.blk hO hb hi;have ep:nD O (i:Int) b=O.set i b:=by unfold nD;rw [if_pos ⟨c0,c1⟩];simp
   rw [ep];refine ⟨_,nU (n:=0) (p:=(.t [],H.set id (some ⟨D7 (O.set i b),true⟩))) ?_,kH.set (by simp),by simp;omega,fun j hj cK=>by rw [B7 (Ne.symm cK)];exact same j hj⟩;rw [nS];have c0':(i:Int)>=0:=c0;simp only [esc,cl,<-hH,c0',lV,c1,lB,ad,sd];rfl
  ·have ep:nD O no b=O:=by unfold nD;rw [if_neg (by omega)]
   rw [ep];refine ⟨_,nU (n:=0) (p:=(.t [],H)) ?_,kH,by omega,fun j hj cK=>same j hj⟩;rw [nS];have c0':no>=0:=c0;simp only [esc,cl,<-hH,c0',lV,c1];rfl
 ·have ep:nD O no b=O:=by unfold nD;rw [if_neg (by omega)]
  rw [ep];refine ⟨_,nU (n:=0) (p:=(.t [],H)) ?_,kH,by omega,fun j hj cK=>same j hj⟩;rw [nS];have c0':¬ no>=0:=c0;simp only [esc,cl,<-hH,c0'];rfl
def C9O (x:List Int):Prop:=x.length=11/\A6h (x.getD 0 0) (x.getD 1 0) (x.getD 2 0) (x.getD 3 0) (x.drop 4)=true
def C6g (x:List Int):List UInt8:=pA (x.getD 0 0) (x.getD 1 0) (x.getD 2 0) (x.getD 3 0) (x.drop 4)
theorem C3e {x:List Int} (h:x.length=11):encI x=G9 (x.getD 0 0) (x.getD 1 0) (x.getD 2 0) (x.getD 3 0) (x.drop 4):=by
 match x,h with
 | [a,b,c,d,e,f,g,i,j,k,l],_=>rfl
theorem B7D {x:List Int} (h:x.length=11):(C6g x).length=32:=by
 unfold C6g pA;rw [List.length_append,List.length_append,oW,xK,List.length_drop,h,zeros_length]
def C1h (O:Dev):List Int->List (List UInt8)->Dev
 | no::l,b::m=>C1h (nD O no b) l m
 | _,_=>O
def B6M (O:Dev) (no:Int):Nat->Dev
 | 0=>O
 | e+1=>B6M (nD O no (zeros 256)) (no+1) e
def C2k (n:Int) (O:Dev) (i:Nat) (x:List Int):Dev :=
 if aJ O.length n i=true then nD O (uE O.length n i) (I1 (blk O (uE O.length n i)) (32*(uF O.length n i).toNat) (C6g x)) else O
def B7E (n:Int):Dev->Nat->List (List Int)->Dev
 | O,_,[]=>O
 | O,i,x::l=>B7E n (C2k n O i x) (i+1) l
def C2E:Nat->List Bool->List Nat
 | _,[]=>[]
 | i,b::l=>if b=true then i::C2E (i+1) l else C2E (i+1) l
def A86 (D:Dev) (n:Int) (c:Cl):Dev :=
 nD (B7E n (B6M (C1h D c.blocks c.made) (A1U D.length n) (A9G D.length n).toNat) 0 c.ino) 1 (mZ (C2E 0 c.taken))
theorem C3y {O:Dev} {m:List (List UInt8)}:C1h O [] m=O:=by cases m<;>rfl
theorem C1i:∀ {l:List Int} {m:List (List UInt8)} {O:Dev},okD O->(∀ b∈m,b.length=256)->okD (C1h O l m)/\(C1h O l m).length=O.length
 | [],_,O,h,_=>by rw [C3y];exact ⟨h,rfl⟩
 | _::_,[],O,h,_=>⟨h,rfl⟩
 | no::l,b::m,O,h,hm=>by
  obtain ⟨h1,h2⟩:=C1i (l:=l) (m:=m) (O:=nD O no b) (h.put (hm b (List.mem_cons_self ..))) fun x hx=>hm x (List.mem_cons_of_mem _ hx)
  exact ⟨h1,h2.trans jE⟩
theorem B6N:∀ {e:Nat} {no:Int} {O:Dev},okD O->okD (B6M O no e)/\(B6M O no e).length=O.length
 | 0,_,O,h=>⟨h,rfl⟩
 | e+1,no,O,h=>by
  obtain ⟨h1,h2⟩:=B6N (e:=e) (no:=no+1) (h.put (no:=no) zeros_length);exact ⟨h1,h2.trans jE⟩
theorem C8F {n:Int} {O:Dev} {i:Nat} {x:List Int} (h:okD O) (hx:x.length=11) (hn:n<=128):okD (C2k n O i x)/\(C2k n O i x).length=O.length:=by
 unfold C2k;split
 ·refine ⟨h.put ?_,jE⟩;rename_i hc;have hk:(uF O.length n i).toNat<8:=by unfold uF;rw [hc];simp only [cond_true];omega
  rw [L8 (by rw [V4 h,B7D hx];omega),V4 h]
 ·exact ⟨h,rfl⟩
theorem C0K {n:Int} (hn:n<=128):∀ {l:List (List Int)} {i:Nat} {O:Dev},okD O->(∀ x∈l,x.length=11)->okD (B7E n O i l)/\(B7E n O i l).length=O.length
 | [],_,O,h,_=>⟨h,rfl⟩
 | x::l,i,O,h,hx=>by
  have h1:=C8F (n:=n) (i:=i) h (hx x (List.mem_cons_self ..)) hn;have h2:=C0K (n:=n) hn (l:=l) (i:=i+1) h1.1 fun y hy=>hx y (List.mem_cons_of_mem _ hy)
  exact ⟨h2.1,h2.2.trans h1.2⟩
section
variable {D:Dev} {n m:Int} {f:Cell} {g:A4} {p id q pv pc:Nat} {xr xi xt xb xm:Cell} {lost:Int} {c:Cl}
theorem B6g {a b:Val} {h:A4}:oJ D1 (.c (.f 113 [(p,0)])) [a,b] h=eU [a,b,.c (.p p 0)] h:=rfl
theorem D4M (hpc:rd g pc=some ⟨[xr,xi,xt,xb,xm,.i .i64 lost],true⟩) {bl:List Int} {md:List (List UInt8)} (hb:Has g (.c xb) 1 bl.length (encI bl)) (hm:Has g (.c xm) 256 md.length (D7 md)) (hl:bl.length=md.length) (hmd:∀ b∈md,b.length=256) (hB:bl.length<=1000000) :
  ∀ (e i M:Nat) (O:Dev) (h:A4),i+e=bl.length->e<M->okD O->OutD g p id O h ->
  ∃ h' M',O8 q M (.c (.p pv 0)) (.c (.p pc 0)) (.c (.p p 0)) (.c (.f 113 [(p,0)])) (.c xb) (.c (.i .i64 (bl.length:Nat))) (.c (.i .i64 (i:Int))) h =
   O8 q (M'+1) (.c (.p pv 0)) (.c (.p pc 0)) (.c (.p p 0)) (.c (.f 113 [(p,0)])) (.c xb) (.c (.i .i64 (bl.length:Nat))) (.c (.i .i64 (bl.length:Nat))) h'/\OutD g p id (C1h O (bl.drop i) (md.drop i)) h':=by
 intro e
 induction e with
 | zero =>
  intro i M O h hi hM hO k;obtain ⟨M,rfl⟩:∃ M',M=M'+1:=⟨M-1,by omega⟩;have ei:i=bl.length:=by omega
  subst ei;refine ⟨h,M,rfl,?_⟩;rw [List.drop_length,C3y];exact k
 | succ e ih =>
  intro i M O h hi hM hO k;obtain ⟨M,rfl⟩:∃ M',M=M'+1:=⟨M-1,by omega⟩;have S3:i<bl.length:=by omega
  have him:i<md.length:=by omega
  have c0:(i:Int)<(bl.length:Nat):=by omega
  have c1:(i:Int)<(md.length:Nat):=by omega
  have w1:=E8 (show i+1<9223372036854775808 by omega);have hb':=hb.since k.lo;have hm':=hm.since k.lo;obtain ⟨ib,ob,eb,_,hA,_⟩:=hb'.sl (by omega);cases eb;obtain ⟨im,om,em,_,_,hC⟩:=hm'.sl (by omega);cases em;have a1:C4 1 (.c (.sl ib ob bl.length 1)) (.c (.i .i64 (i:Int)))=some (.c (.p ib (ob+i))):=by rw [E5 S3];simp
  have a2:A7 h (.c (.p ib (ob+i)))=some (.c (.i .i64 bl[i])):=hA i _ (by rw [H9,List.getElem?_eq_getElem S3];rfl);have a3:A7 h (.c (.p pc 4))=some (.c (.sl im om md.length 256)):=C1 (k.lo.rd hpc) rfl rfl;have a4:C4 256 (.c (.sl im om md.length 256)) (.c (.i .i64 (i:Int)))=some (.c (.p im (om+i*256))):=E5 him;have okm:okD md:=hmd;have a5:A8 h 256 (.c (.p im (om+i*256)))=some (.a (A5 md[i])):=by
   rw [hC (i*256) 256 (by rw [F7 okm];omega),fC okm him]
  obtain ⟨h1,b1,b2,_⟩:=put_eq (no:=bl[i]) (b:=md[i]) k hO (hmd _ (List.getElem_mem him));obtain ⟨h',M',e1,e2⟩:=ih (i+1) M _ h1 (by omega) (by omega) (hO.put (hmd _ (List.getElem_mem him))) b2;rw [List.drop_eq_getElem_cons S3,List.drop_eq_getElem_cons him];refine ⟨h',M',?_,e2⟩;rw [iR];simp only [esc,Nat.reduceAdd,c0,a1,a2,a3,A9Q,c1,a4,a5,B6g,b1,A1p,w1];exact e1
theorem D4N (t0 tn:Int) (h0:0<=t0/\t0<=100) (hn:0<=tn/\tn<=100) :
  ∀ (e:Nat) (i:Int) (M:Nat) (O:Dev) (h:A4),i+e=t0+tn->t0<=i->e<M->okD O->OutD g p id O h ->
  ∃ h' M',O9 q M (.c (.p pv 0)) (.c (.p pc 0)) (.c (.p p 0)) (.c (.f 113 [(p,0)])) (.c (.i .i64 t0)) (.c (.i .i64 tn)) (.c (.i .i64 i)) h =
   O9 q (M'+1) (.c (.p pv 0)) (.c (.p pc 0)) (.c (.p p 0)) (.c (.f 113 [(p,0)])) (.c (.i .i64 t0)) (.c (.i .i64 tn)) (.c (.i .i64 (t0+tn))) h'/\OutD g p id (B6M O i e) h':=by
 intro e
 induction e with
 | zero =>
  intro i M O h hi hi0 hM hO k;obtain ⟨M,rfl⟩:∃ M',M=M'+1:=⟨M-1,by omega⟩;have ei:i=t0+tn:=by omega
  subst ei;exact ⟨h,M,rfl,k⟩
 | succ e ih =>
  intro i M O h hi hi0 hM hO k;obtain ⟨M,rfl⟩:∃ M',M=M'+1:=⟨M-1,by omega⟩;have w0:IntKind.wrap .i64 (t0+tn)=t0+tn:=wrap_i64 (by omega) (by omega);have w1:IntKind.wrap .i64 (i+1)=i+1:=wrap_i64 (by omega) (by omega);have c0:i<t0+tn:=by omega
  have ef:C7 (A5 (zeros 256)) []=some (A5 (zeros 256)):=rfl;obtain ⟨h1,b1,b2,_⟩:=put_eq (no:=i) (b:=zeros 256) k hO zeros_length;obtain ⟨h',M',e1,e2⟩:=ih (i+1) M _ h1 (by omega) (by omega) (by omega) (hO.put zeros_length) b2;refine ⟨h',M',?_,e2⟩;rw [iS,F5];generalize A5 (zeros 256)=Z at *;simp only [esc,w0,c0,ef,B6g,b1,w1];exact e1
end
end
section
theorem D0o {b n i:Int} (h:aJ b n i=true):2<=uE b n i/\uE b n i<b/\0<=uF b n i/\uF b n i<8:=by
 obtain ⟨h1,h2,h3⟩:=A9k.1 h;obtain ⟨_,_,_,_,h4,h5⟩:=N4.1 h1;unfold uE uF;rw [h];simp only [cond_true];omega
section
variable {D:Dev} {n m:Int} {f:Cell} {g:A4} {p id q pv pc:Nat} {xr xi xt xb xm:Cell} {lost:Int} {c:Cl}
theorem D4O (hpv:rd g pv=some ⟨vwC D.length n m f,true⟩) {R:List (List Int)} (hx:Has g (.c xi) 11 R.length (jA R)) (hR:∀ x∈R,C9O x) (hn:n<=128) (hB:R.length<=1000000) :
  ∀ (e i M:Nat) (O:Dev) (h:A4),i+e=R.length->e<M->okD O->O.length=D.length->OutD g p id O h ->
  ∃ h' M',P5 q M (.c (.p pv 0)) (.c (.p pc 0)) (.c (.p p 0)) (.c (.f 113 [(p,0)])) (.c xi) (.c (.i .i64 (R.length:Nat))) (.c (.i .i64 (i:Int))) h =
   P5 q (M'+1) (.c (.p pv 0)) (.c (.p pc 0)) (.c (.p p 0)) (.c (.f 113 [(p,0)])) (.c xi) (.c (.i .i64 (R.length:Nat))) (.c (.i .i64 (R.length:Nat))) h'/\OutD g p id (B7E n O i (R.drop i)) h':=by
 intro e
 induction e with
 | zero =>
  intro i M O h hi hM hO hlen k;obtain ⟨M,rfl⟩:∃ M',M=M'+1:=⟨M-1,by omega⟩;have ei:i=R.length:=by omega
  subst ei;refine ⟨h,M,rfl,?_⟩;rw [List.drop_length];exact k
 | succ e ih =>
  intro i M O h hi hM hO hlen k;obtain ⟨M,rfl⟩:∃ M',M=M'+1:=⟨M-1,by omega⟩;have S3:i<R.length:=by omega
  have c0:(i:Int)<(R.length:Nat):=by omega
  have w1:=E8 (show i+1<9223372036854775808 by omega);obtain ⟨x,ex⟩:∃ x,x=R[i]:=⟨_,rfl⟩;obtain ⟨xl,xm⟩:=hR R[i] (List.getElem_mem S3);have h11:∀ x∈R,x.length=11:=fun x hx=>(hR x hx).1
  have hx':=hx.since k.lo;obtain ⟨ii,oi,ei,_,_,hC⟩:=hx'.sl (by omega);cases ei;have a1:C4 11 (.c (.sl ii oi R.length 11)) (.c (.i .i64 (i:Int)))=some (.c (.p ii (oi+i*11))):=E5 S3;have a2:A8 h 11 (.c (.p ii (oi+i*11)))=some (.a (encI R[i])):=by
   rw [hC (i*11) 11 (by rw [kB h11];omega),C0J h11 S3]
  rw [<-ex] at a2 xl xm;obtain ⟨G,hG⟩:∃ G,G=h++[some (Row.mk (encI x) true)]:=⟨_,rfl⟩;have st:B4 (h++[some (Row.mk [Cell.i .i64 0,.i .i64 0,.i .i64 0,.i .i64 0,.i .i64 0,.i .i64 0,.i .i64 0,.i .i64 0,.i .i64 0,.i .i64 0,.i .i64 0] true)]) 11 (.c (.p h.length 0)) (.a (encI x))=some G:=by
   rw [storeAll (n:=11) (cs:=[Cell.i .i64 0,.i .i64 0,.i .i64 0,.i .i64 0,.i .i64 0,.i .i64 0,.i .i64 0,.i .i64 0,.i .i64 0,.i .i64 0,.i .i64 0]) (by rw [H5];rfl) rfl (by rw [B9,xl]),kJ,hG];rfl
  have kG:OutD g p id O G:=by rw [hG];exact k.more _
  have lv3:A8 G 3 (.c (.p pv 0))=some (.a (J1 D.length n m)):=by rw [T2 (kG.lo.rd hpv) (by simp [vwC]) rfl];rfl
  have hW:=A3R (b:=D.length) (n:=n) (m:=m) (i:=(i:Int)) (h:=G);have lx:A8 G 11 (.c (.p h.length 0))=some (.a (encI x)):=D4 (by rw [hG,H5];rfl) (by rw [B9,xl]);rw [List.drop_eq_getElem_cons S3,<-ex];have es:B7E n O i (x::R.drop (i+1))=B7E n (C2k n O i x) (i+1) (R.drop (i+1)):=rfl;rw [es];obtain ⟨okS,lenS⟩:=C8F (n:=n) (i:=i) (x:=x) hO xl hn;have lV:A7 G (.c (.p p 0))=some (.c (.sl id 0 O.length 256)):=C1 kG.var rfl rfl;cases hc:aJ (D.length:Int) n (i:Int) with
  | false =>
   rw [hc] at hW;have e1:C2k n O i x=O:=by unfold C2k;rw [hlen,hc];simp
   rw [e1] at okS lenS ⊢;obtain ⟨h',M',b1,b2⟩:=ih (i+1) M O G (by omega) (by omega) hO hlen kG;refine ⟨h',M',?_,b2⟩;rw [Z2];generalize encI x=X at *;generalize J1 D.length n m=L at *;simp only [esc,Nat.reduceAdd,c0,a1,a2,st,lv3,hW,iP,w1];exact b1
  | true =>
   rw [hc] at hW;obtain ⟨w2,wb,k0,k8⟩:=D0o hc;obtain ⟨wB,hwB⟩:=Int.eq_ofNat_of_zero_le (show 0<=uE D.length n i by omega);obtain ⟨wK,hwK⟩:=Int.eq_ofNat_of_zero_le k0;rw [hwB,hwK] at hW;have hwl:wB<O.length:=by omega
   have cW:(wB:Int)<(O.length:Nat):=by omega
   have hk8:wK<8:=by omega
   have ad:C4 256 (.c (.sl id 0 O.length 256)) (.c (.i .i64 (wB:Int)))=some (.c (.p id (wB*256))):=by rw [E5 hwl];simp
   have lb:A8 G 256 (.c (.p id (wB*256)))=some (.a (A5 O[wB])):=by
    rw [T2 kG.blk (by rw [F7 hO];omega) rfl,fC hO hwl]
   have hT:=B1E (j:=wK) (k:=x.getD 0 0) (l:=x.getD 1 0) (s:=x.getD 2 0) (p:=x.getD 3 0) (d:=x.drop 4) (b:=O[wB]) (h:=G) (hO.at hwl) (by rw [List.length_drop,xl]) hk8 xm;rw [<-C3e xl] at hT;have ei:pA (x.getD 0 0) (x.getD 1 0) (x.getD 2 0) (x.getD 3 0) (x.drop 4)=C6g x:=rfl;rw [ei] at hT;have hbl:(I1 O[wB] (32*wK) (C6g x)).length=256:=by
    rw [L8 (by rw [hO.at hwl,B7D xl];omega),hO.at hwl]
   have sd:B4 G 256 (.c (.p id (wB*256))) (.a (A5 (I1 O[wB] (32*wK) (C6g x))))=some (G.set id (some ⟨D7 (O.set wB (I1 O[wB] (32*wK) (C6g x))),true⟩)):=A0N kG.blk hO hbl hwl;have e1:C2k n O i x=O.set wB (I1 O[wB] (32*wK) (C6g x)):=by
    unfold C2k;rw [hlen,hc,if_pos rfl,hwB,hwK,C7l hwl];unfold nD;rw [if_pos ⟨by omega,cW⟩];simp
   have kS:=kG.set (O':=C2k n O i x) lenS;obtain ⟨h',M',b1,b2⟩:=ih (i+1) M _ _ (by omega) (by omega) okS (by rw [lenS,hlen]) kS;refine ⟨h',M',?_,b2⟩;rw [e1] at b1;rw [Z2];generalize encI x=X at *;generalize J1 D.length n m=L at *;simp only [esc,Nat.reduceAdd,c0,a1,a2,st,lv3,hW,lV,cW,ad,lb,lx,hT,sd,iP,w1];exact b1
theorem D0a {l:List Bool} {i:Nat} (hi:i<l.length):C2E i (l.drop i)=if l[i]=true then i::C2E (i+1) (l.drop (i+1)) else C2E (i+1) (l.drop (i+1)):=by
 rw [List.drop_eq_getElem_cons hi];rfl
theorem D4P {T:List Bool} {N:Nat} (hx:Has g (.c xt) 1 T.length (bD T)) (hT:T.length<=2048) {O:Dev} (hO:okD O) :
  ∀ (e i M:Nat) (S:List Nat) (sid:Nat) (h:A4),i+e=T.length->e<M->S.length<=i->(∀ x∈S,x<2048)->rd h sid=some ⟨encI (S.map fun x:Nat=>(x:Int)),true⟩->g.length<=sid->sid≠p->sid≠id->OutD g p id O h ->
  ∃ h',U4 q M (.c (.p p 0)) (.c (.f 113 [(p,0)])) (.c (.sl sid 0 S.length 1)) (.c xt) (.c (.i .i64 (T.length:Nat))) (.c (.i .i64 (i:Int))) h=some (.c (.sl id 0 O.length 256),h') /\
   OutD g p id (nD O 1 (mZ (S++C2E i (T.drop i)))) h':=by
 intro e
 induction e with
 | zero =>
  intro i M S sid h hi hM hS hS2 hr hg n1 n2 k;obtain ⟨M,rfl⟩:∃ M',M=M'+1:=⟨M-1,by omega⟩;have ei:i=T.length:=by omega
  subst ei;have c0:¬ ((T.length:Nat):Int)<(T.length:Nat):=by omega
  have hC:=B06 (v:=.c (.sl sid 0 S.length 1)) (nv:=S.length) (l:=S) (h:=h) hS2 (by omega) (Has.tr hr (by simp [encI]) (A9s _));have hml:(mZ S).length=256:=by unfold mZ;rw [eE,zeros_length]
  obtain ⟨h1,b1,b2,_⟩:=put_eq (no:=1) (b:=mZ S) k hO hml;have lV:A7 h1 (.c (.p p 0))=some (.c (.sl id 0 (nD O 1 (mZ S)).length 256)):=C1 b2.var rfl rfl;rw [jE] at lV;refine ⟨h1,?_,?_⟩
  ·rw [Z3];simp only [esc,c0,oV,hC,B6g,b1,lV]
  ·rw [List.drop_length];have:S++C2E T.length []=S:=by simp [C2E]
   rw [this];exact b2
 | succ e ih =>
  intro i M S sid h hi hM hS hS2 hr hg n1 n2 k;obtain ⟨M,rfl⟩:∃ M',M=M'+1:=⟨M-1,by omega⟩;have S3:i<T.length:=by omega
  have c0:(i:Int)<(T.length:Nat):=by omega
  have w1:=E8 (show i+1<9223372036854775808 by omega);have hx':=hx.since k.lo;obtain ⟨ii,oi,ei,_,hA,_⟩:=hx'.sl (by omega);cases ei;have a1:C4 1 (.c (.sl ii oi T.length 1)) (.c (.i .i64 (i:Int)))=some (.c (.p ii (oi+i))):=by rw [E5 S3];simp
  have a2:A7 h (.c (.p ii (oi+i)))=some (.c (.b T[i])):=hA i _ (by simp [bD,S3]);rw [D0a S3];cases hb:T[i] with
  | false =>
   rw [hb] at a2;obtain ⟨h',b1,b2⟩:=ih (i+1) M S sid h (by omega) (by omega) (by omega) hS2 hr hg n1 n2 k;refine ⟨h',?_,by simpa using b2⟩;rw [Z3];simp only [esc,Nat.reduceAdd,c0,a1,a2,iQ,w1];exact b1
  | true =>
   rw [hb] at a2;obtain ⟨h1,p1,p2,p3,p4⟩:=C1g (n:=S.length) (sz:=1) (ys:=[Cell.i .i64 (i:Int)]) hr (by simp [encI]) rfl (by omega) (by omega);have hpl:=E4 k.var;have D7h:=E4 k.blk;have kk:OutD g p id O h1:=⟨k.lo.trans (p4 g.length hg (by have:=k.lo.2.1;omega)),k.gp,k.gid,k.ne,p3 _ _ (Ne.symm n1) k.var,p3 _ _ (Ne.symm n2) k.blk⟩;have er:encI (S.map fun x:Nat=>(x:Int))++[Cell.i .i64 (i:Int)]=encI ((S++[i]).map fun x:Nat=>(x:Int)):=by simp [encI]
   rw [er] at p2;have ls:(S++[i]).length=S.length+1:=by simp
   obtain ⟨h',b1,b2⟩:=ih (i+1) M (S++[i]) (h.length+1) h1 (by omega) (by omega) (by rw [ls];omega) (fun x hx=>by
    rcases List.mem_append.1 hx with hx | hx
    ·exact hS2 x hx
    ·simp at hx;omega) p2 (by have:=k.lo.2.1;omega) (by omega) (by omega) kk
   rw [ls] at b1;refine ⟨h',?_,by simpa using b2⟩;have ef:C7 [Cell.i .i64 0] [(0,1,.c (.i .i64 (i:Int)))]=some [.i .i64 (i:Int)]:=rfl;rw [Z3];simp only [esc,Nat.reduceAdd,c0,a1,a2,ef,p1,iQ,w1];exact b1
structure ImgOk (D:Dev) (n:Int) (c:Cl):Prop where
 row:0<c.row.length
 tak:c.taken.length=D.length
 ino:∀ x∈c.ino,C9O x
 il:c.ino.length<=1000
 bm:c.blocks.length=c.made.length
 bl:c.blocks.length<=1000000
 md:∀ b∈c.made,b.length=256
theorem C0c {h:A4} {cs:List Cell} (hD:okD D) (hv:IsView h f D) (hm:T3 D.length n=true) (hc:IsCl h cs c) (ok:ImgOk D n c) :
  M5 [.a (vwC D.length n m f),.a cs] h=some (.c (.sl h.length 0 D.length 256),h++[some ⟨D7 (A86 D n c),true⟩]):=by
 obtain ⟨b16,b512,n8,n128,_,_⟩:=N4.1 hm;obtain ⟨xr,xi,xt,xb,xm,rfl,hr,hi,ht,hb,hmd⟩:=hc.form;obtain ⟨g,hg⟩:∃ g,g=ro h++[some (Row.mk (vwC D.length n m f) true),some (Row.mk [xr,xi,xt,xb,xm,.i .i64 c.lost] true),some (Row.mk [] true)]:=⟨_,rfl⟩;have lg:g.length=(ro h).length+3:=by rw [hg];simp
 have rv:rd g (ro h).length=some ⟨vwC D.length n m f,true⟩:=by rw [hg,H5];rfl
 have rc:rd g ((ro h).length+1)=some ⟨[xr,xi,xt,xb,xm,.i .i64 c.lost],true⟩:=by rw [hg,cG];rfl
 have hvg:IsView g f D:=by rw [hg];exact hv.ro.more _
 have hr':Has g (.c xr) 1 c.row.length (encI c.row):=by rw [hg];exact hr.ro.more _
 have hi':Has g (.c xi) 11 c.ino.length (jA c.ino):=by rw [hg];exact hi.ro.more _
 have ht':Has g (.c xt) 1 c.taken.length (bD c.taken):=by rw [hg];exact ht.ro.more _
 have hb':Has g (.c xb) 1 c.blocks.length (encI c.blocks):=by rw [hg];exact hb.ro.more _
 have hm':Has g (.c xm) 256 c.made.length (D7 c.made):=by rw [hg];exact hmd.ro.more _
 have hI:=C2F (m:=m) hD hvg hm;obtain ⟨H,hH⟩:∃ H,H=g++[some (Row.mk (D7 D) true),some (Row.mk [.sl g.length 0 D.length 256] true)]:=⟨_,rfl⟩;have k0:OutD g (g.length+1) g.length D H:=by
  refine ⟨by rw [hH];exact (Low.refl (Nat.le_refl _)).new _,by omega,Nat.le_refl _,by omega,?_,?_⟩
  ·rw [hH,cG];rfl
  ·rw [hH,H5];rfl
 obtain ⟨h1,M1,e1,k1⟩:=D4M (q:=1000002) (pv:=(ro h).length) rc hb' hm' ok.bm ok.md ok.bl c.blocks.length 0 1000002 D H (by omega) (by have:=ok.bl;omega) hD k0;obtain ⟨ok1,len1⟩:=C1i (l:=c.blocks) (m:=c.made) hD ok.md;obtain ⟨t0,t2,tn0,tn16⟩:=D0h (b:=D.length) (n:=n);obtain ⟨tN,htN⟩:=Int.eq_ofNat_of_zero_le tn0;obtain ⟨h2,M2,e2,k2⟩:=D4N (q:=1000002) (pv:=(ro h).length) (pc:=(ro h).length+1) (A1U D.length n) (A9G D.length n) ⟨by omega,by omega⟩ ⟨by omega,by omega⟩ tN (A1U D.length n) 1000002 _ h1 (by omega) (by omega) (by omega) ok1 (by simpa using k1);obtain ⟨ok2,len2⟩:=B6N (e:=tN) (no:=A1U D.length n) ok1;obtain ⟨h3,M3,e3,k3⟩:=D4O (q:=1000002) (pc:=(ro h).length+1) rv hi' ok.ino n128 (by have:=ok.il;omega) c.ino.length 0 1000002 _ h2 (by omega) (by have:=ok.il;omega) ok2 (by rw [len2,len1]) k2;obtain ⟨ok3,len3⟩:=C0K (n:=n) n128 (l:=c.ino) (i:=0) ok2 (fun x hx=>(ok.ino x hx).1);have k3':=(k3.more [some (Row.mk ([]:List Cell) true)]);obtain ⟨h4,e4,k4⟩:=D4P (q:=1000002) (N:=0) (p:=g.length+1) (id:=g.length) (g:=g) ht' (by rw [ok.tak];omega) ok3 c.taken.length 0 1000002 [] h3.length (h3++[some (Row.mk ([]:List Cell) true)]) (by omega) (by rw [ok.tak];omega) (by simp) (by simp) (by rw [H5];rfl) (by have:=k3.lo.2.1;omega) (by have:=E4 k3.var;omega) (by have:=E4 k3.blk;omega) (by simpa using k3');have eimg:A86 D n c=nD (B7E n (B6M (C1h D c.blocks c.made) (A1U D.length n) tN) 0 c.ino) 1 (mZ ([]++C2E 0 (c.taken.drop 0))):=by
  unfold A86;rw [htN];simp
 have lenF:(A86 D n c).length=D.length:=by rw [eimg,jE,len3,len2,len1]
 have key:W4 1000002 [.a (vwC D.length n m f),.a [xr,xi,xt,xb,xm,.i .i64 c.lost]] (ro h)=some (.c (.sl g.length 0 D.length 256),h4):=by
  have l0:A7 g (.c (.p ((ro h).length+1) 0))=some (.c xr):=C1 rc rfl (by rfl);have l2:A7 g (.c (.p ((ro h).length+1) 2))=some (.c xt):=C1 rc rfl (by rfl);have lv0:A7 g (.c (.p (ro h).length 0))=some (.c (.i .i64 (D.length:Nat))):=C1 rv rfl rfl;have lv4:A8 g 4 (.c (.p (ro h).length 0))=some (.a (vwC D.length n m f)):=D4 rv rfl;have s1:D3 (g++[some (Row.mk (D7 D) true),some (Row.mk [Cell.ns] true)]) (.c (.p (g.length+1) 0)) (.c (.sl g.length 0 D.length 256))=some H:=by
   rw [G3 (cs:=[Cell.ns]) (by rw [cG];rfl) (by simp),A34,hH];rfl
  have l3:A7 H (.c (.p ((ro h).length+1) 3))=some (.c xb):=C1 (k0.lo.rd rc) rfl (by rfl);have mf:A5Q 113 [.c (.p (g.length+1) 0)]=some (.c (.f 113 [(g.length+1,0)])):=rfl;have n1:A7 h2 (.c (.p ((ro h).length+1) 1))=some (.c xi):=C1 (k2.lo.rd rc) rfl (by rfl);have n2:A7 (h3++[some (Row.mk ([]:List Cell) true)]) (.c (.p ((ro h).length+1) 2))=some (.c xt):=C1 ((k3.lo.new _).rd rc) rfl (by rfl);have v3:A8 h1 3 (.c (.p (ro h).length 0))=some (.a (J1 D.length n m)):=by rw [T2 (k1.lo.rd rv) (by simp [vwC]) rfl];rfl
  have hTb:=A3Q (b:=D.length) (n:=n) (m:=m) (h:=h1);have c1:¬ ((c.row.length:Nat):Int)=0:=by have:=ok.row;omega
  have c2:((c.taken.length:Nat):Int)=(D.length:Nat):=by rw [ok.tak]
  have lr:=hr'.len;have lt:=ht'.len;have lb:=(hb'.since k0.lo).len;have lx:=(hi'.since k2.lo).len;have lt3:=(ht'.since (k3.lo.new [some (Row.mk ([]:List Cell) true)])).len;have cl1:cells? (.a (vwC D.length n m f))=some (vwC D.length n m f):=rfl;rw [A1P];simp only [List.length_append,List.length_cons,List.length_nil,Nat.zero_add,List.append_assoc,List.cons_append,List.nil_append,cl1,A8H,V9,<-hg];generalize vwC D.length n m f=V at *;have c00:((0:Nat):Int)=0:=rfl;rw [c00] at e1 e3 e4;rw [lenF.symm] at e4;simp only [esc,Nat.reduceAdd,l0,lr,c1,l2,lt,lv0,c2,lv4,hI,s1,mf,l3,lb];refine e1.trans ?_;have cB:¬ ((c.blocks.length:Nat):Int)<(c.blocks.length:Nat):=by omega
  rw [iR];simp only [esc,Nat.reduceAdd,cB,v3,hTb];refine e2.trans ?_;have wT:IntKind.wrap .i64 (A1U D.length n+A9G D.length n)=A1U D.length n+A9G D.length n:=wrap_i64 (by omega) (by omega);have cT:¬ A1U D.length n+A9G D.length n<A1U D.length n+A9G D.length n:=by omega
  rw [iS];simp only [esc,Nat.reduceAdd,wT,cT,n1,lx];refine e3.trans ?_;have cI:¬ ((c.ino.length:Nat):Int)<(c.ino.length:Nat):=by omega
  rw [Z2];simp only [esc,Nat.reduceAdd,cI,n2,lt3];have eL:([]:List Nat).length=0:=rfl;rw [eL] at e4;rw [e4,lenF,len3,len2,len1]
 have ho:Out h.length h4 (.c (.sl g.length 0 D.length 256)) 256 D.length (D7 (A86 D n c)):=by
  refine ⟨?_,g.length,rfl,by rw [lg,I8];omega,?_⟩
  ·rw [F7,lenF];rw [eimg];refine okD.put ok3 ?_;unfold mZ;rw [eE,zeros_length]
  ·rw [eimg];exact k4.blk
 exact A09 key ho eD
end
end
section
structure MayC (c:Cl):Prop where
 ino:∀ x∈c.ino,C9O x
 par:∀ i,0<=(c.par i).getD 0/\(c.par i).getD 0<=65535
 bm:c.blocks.length=c.made.length
 md:∀ b∈c.made,b.length=256
theorem B2t {D:Dev} {n:Int} {c:Cl} {no:Int} (hm:T3 D.length n=true):M9 (wX D n c no)=true:=by
 rw [A9B];obtain ⟨_,b512,_⟩:=N4.1 hm;unfold wX D0Y;cases hd:uA D.length n no with
 | false=>simp
 | true =>
  have:=C6i hd;cases c.taken.getD no.toNat true with
  | true=>simp
  | false=>simp;omega
theorem C8n {l:List Int} {i:Nat} {x:Int} (h:l.all M9=true) (hx:M9 x=true):(l.set i x).all M9=true:=by
 rw [List.all_eq_true] at h ⊢;intro y hy;rcases List.mem_or_eq_of_mem_set hy with h1 | h1
 ·exact h y h1
 ·rw [h1];exact hx
theorem C0j {D:Dev} {n:Int} {d:List Int} (hm:T3 D.length n=true):∀ {e k:Nat} {s:Cl × List Int},s.2.all M9=true->(C0i D n d e k s).2.all M9=true
 | 0,_,s,h=>h
 | e+1,k,s,h=>by
  rw [C0i];exact C0j hm (C8n h (B2t hm))
theorem C5Y {D:Dev} {n ino:Int} {c:Cl} (hm:T3 D.length n=true):(sX D n c ino).2.all M9=true:=by
 have h1:=C0j (d:=drV D n ino) (e:=(min (B2l (szV D n ino)) 6).toNat) (k:=0) (s:=(c,zI 7)) hm (by show (zI 7).all M9=true;decide);unfold sX C4k;split
 ·exact C8n h1 (B2t hm)
 ·exact h1
theorem D0g {D:Dev} {n i:Int}:0<=szV D n i/\szV D n i<=34304:=by
 unfold szV;cases hc:B8w D n i with
 | false=>simp
 | true =>
  simp only [cond_true];unfold B8w rH A6h at hc;simp only [Bool.and_eq_true] at hc;obtain ⟨_,h1,_⟩:=hc;split at h1
  ·unfold C3O at h1;have:=of_decide_eq_true h1;omega
  ·unfold B7N at h1;simp only [Bool.and_eq_true,decide_eq_true_eq] at h1;exact h1.2.2.2.1
theorem C9P {s:Int} {d:List Int} {l:Int} (hs:0<=s/\s<=34304) (hd:d.length=7) (ha:d.all M9=true) (hl:M9 l=true):C9O (1::l::s::0::d):=by
 refine ⟨by simp [hd],?_⟩;show A6h 1 l s 0 d=true;unfold A6h B7N;have h0:M9 0=true:=by decide
 simp [hl,ha,h0,hs]
theorem D1L {p no:Int} (hp:M9 p=true) (hn:M9 no=true):C9O (2::1::0::p::no::zI 6):=by
 refine ⟨by simp [zI],?_⟩;show A6h 2 1 0 p (no::zI 6)=true;unfold A6h B7N;have h0:M9 0=true:=by decide
 have h1:M9 1=true:=by decide
 have hz:(zI 6).all M9=true:=by decide
 simp [List.all_cons,hn,hz,hp,h1]
theorem C9Q:C9O (zI 11):=⟨by simp [zI],by decide⟩
theorem C0S {α:Type} {l:List α} {i:Nat} {x y:α} (h:y∈l.set i x):y∈l\/y=x:=List.mem_or_eq_of_mem_set h
section
variable {D:Dev} {n:Int} {c:Cl} {ino:Int}
theorem C9u (hm:T3 D.length n=true) (h:MayC c):MayC (dL D n c ino):=by
 have hs:=(B2v (D:=D) (n:=n) (ino:=ino) (c:=c));refine ⟨fun x hx=>?_,fun i=>?_,?_,fun b hb=>?_⟩
 ·rcases C0S hx with h1 | h1
  ·rw [hs.1.ino] at h1;exact h.ino x h1
  ·rw [h1];exact C9P D0g hs.2 (C5Y hm) (by decide)
 ·have:(dL D n c ino).par=c.par:=hs.1.par;rw [this];exact h.par i
 ·have e1:(dL D n c ino).blocks=c.blocks:=hs.1.blocks;have e2:(dL D n c ino).made=c.made:=hs.1.made;rw [e1,e2];exact h.bm
 ·have e2:(dL D n c ino).made=c.made:=hs.1.made;rw [e2] at hb;exact h.md b hb
theorem MayC.same {c':Cl} (h:MayC c) (s:SameC c c'):MayC c':=⟨by rw [s.ino];exact h.ino,by rw [s.par];exact h.par,by rw [s.blocks,s.made];exact h.bm,by rw [s.made];exact h.md⟩
theorem MayC.md' (h:MayC c) {no:Int} {b:List UInt8} (hb:b.length=256):MayC (A1E c no b):=by
 refine ⟨h.ino,h.par,?_,fun x hx=>?_⟩
 ·show (c.blocks++[no]).length=(c.made++[b]).length;simp [h.bm]
 ·rcases List.mem_append.1 (show x∈c.made++[b] from hx) with h1 | h1
  ·exact h.md x h1
  ·simp at h1;rw [h1];exact hb
theorem C9t (hD:okD D) (hm:T3 D.length n=true) (h:MayC c):MayC (A2J D n c ino):=by
 have h1:=C9u (ino:=ino) hm h;unfold A2J;split
 ·exact h1
 ·exact MayC.md' (h1.same (A58 (D:=D) (n:=n) (many:=B2l (szV D n ino)) (e:=128) (k:=0) (s:=(dL D n c ino,blk D ((sX D n c ino).2.getD 6 0))))) (B6r (by omega) (V4 hD))
theorem D1b (hm:T3 D.length n=true) (h:MayC c):MayC (A54 D n c ino):=by
 have hs:=B6n (D:=D) (n:=n) (ino:=ino) (c:=c);have hn:M9 (B6m D n c ino).2=true:=by
  unfold B6m;cases (decide (kdV D n ino=2)&&mW (blk D ((drV D n ino).getD 0 0))) with
  | true=>exact B2t hm
  | false=>show M9 0=true;decide
 refine ⟨fun x hx=>?_,fun i=>?_,?_,fun b hb=>?_⟩
 ·rcases C0S hx with h1 | h1
  ·rw [hs.ino] at h1;exact h.ino x h1
  ·rw [h1];exact D1L (A9B.2 (h.par ino)) hn
 ·have:(A54 D n c ino).par=c.par:=hs.par;rw [this];exact h.par i
 ·have e1:(A54 D n c ino).blocks=c.blocks:=hs.blocks;have e2:(A54 D n c ino).made=c.made:=hs.made;rw [e1,e2];exact h.bm
 ·have e2:(A54 D n c ino).made=c.made:=hs.made;rw [e2] at hb;exact h.md b hb
theorem C3M (hi:0<=ino/\ino<=65535):∀ {L:List Ent} {s:Cl × (List UInt8->Option Int)},MayC s.1->MayC (A7g D n ino s L).1
 | [],_,h=>h
 | x::L,s,h=>by
  have h1:MayC (sD D n ino s x).1:=by
   unfold sD A49;cases A24 D n s.1 x.2 with
   | false=>exact h
   | true =>
    simp only [cond_true];cases (s.1.par x.2).isSome with
    | true=>exact ⟨h.ino,h.par,h.bm,h.md⟩
    | false =>
     refine ⟨h.ino,fun i=>?_,h.bm,h.md⟩;show 0<=(A6B s.1.par x.2 ino i).getD 0/\(A6B s.1.par x.2 ino i).getD 0<=65535;unfold A6B;split
     ·exact hi
     ·exact h.par i
  exact C3M hi (L:=L) (s:=sD D n ino s x) h1
theorem B7u {X:List Int} {K:List UInt8->Option Int}:∀ {L:List Int} {c:Cl},MayC c->MayC (gE D X K c L)
 | [],_,h=>h
 | no::L,c,h=>by
  have hs:=A2H (D:=D) (X:=X) (no:=no) (K:=K) (l:=N8 (blk D no)) (s:=(c,eY []));have hl:=B2s (D:=D) (X:=X) (no:=no) (K:=K) (l:=N8 (blk D no)) (s:=(c,eY [])) (A2V (l:=[])) fun x hx=>(C1n x hx).1
  have h1:MayC (X2 D X no K (c,eY []) (N8 (blk D no))).1:=⟨by rw [hs.ino];exact h.ino,by rw [hs.par];exact h.par,by rw [hs.blocks,hs.made];exact h.bm,by rw [hs.made];exact h.md⟩;exact B7u (L:=L) (c:=C0W D X K c no) (h1.md' hl)
theorem D1a (hi:0<=ino/\ino<=65535) (hm:T3 D.length n=true) (h:MayC c):MayC (B6l D n c ino):=by
 have h1:=D1b (ino:=ino) hm h;unfold B6l;split
 ·exact h1
 ·unfold A8B;have hb:=h1.same (A1m (D:=D) (n:=n) (L:=Z0 (A1w (getD (blk D ((drV D n ino).getD 0 0))) (R8 (blk D ((drV D n ino).getD 0 0)) 32)) (E9 (A1R (getD (blk D ((drV D n ino).getD 0 0))) (R8 (blk D ((drV D n ino).getD 0 0)) 32)))) (s:=(A54 D n c ino,A1w (getD (blk D ((drV D n ino).getD 0 0))) (R8 (blk D ((drV D n ino).getD 0 0)) 32))));refine B7u (MayC.md' (C3M (s:=(_,_)) hi hb) ?_);have hl:=B6e (D:=D) (n:=n) (L:=Z0 (A1w (getD (blk D ((drV D n ino).getD 0 0))) (R8 (blk D ((drV D n ino).getD 0 0)) 32)) (E9 (A1R (getD (blk D ((drV D n ino).getD 0 0))) (R8 (blk D ((drV D n ino).getD 0 0)) 32)))) (s:=(A54 D n c ino,A1w (getD (blk D ((drV D n ino).getD 0 0))) (R8 (blk D ((drV D n ino).getD 0 0)) 32)));cases okX (A1R (getD (blk D ((drV D n ino).getD 0 0))) (R8 (blk D ((drV D n ino).getD 0 0)) 32)) (A4C D n (A54 D n c ino) (getD (blk D ((drV D n ino).getD 0 0))) (R8 (blk D ((drV D n ino).getD 0 0)) 32)).2 with
  | true=>exact A2M (hl.trans A8Z)
  | false=>exact zeros_length
theorem D1U (hi:0<=ino/\ino<=65535) (hD:okD D) (hm:T3 D.length n=true) (h:MayC c):MayC (A7C D n c ino):=by
 unfold A7C;split
 ·exact C9t hD hm h
 ·exact D1a hi hm h
theorem C8P (hD:okD D) (hm:T3 D.length n=true):∀ {e i:Nat} {c:Cl},RowW n c->MayC c->MayC (ofR D n e i c)
 | 0,_,_,_,h=>h
 | e+1,i,c,hr,h=>by
  obtain ⟨_,_,_,n128,_⟩:=N4.1 hm;unfold ofR;cases hc:c.row[i]? with
  | none=>exact h
  | some a =>
   have ha:=hr.rg a (List.mem_of_getElem? hc);exact C8P hD hm (C6C hr) (D1U ⟨by omega,by omega⟩ hD hm h)
end
theorem D0H (D:Dev):IsView [some (Row.mk (D7 D) true),some (Row.mk [.sl 0 0 D.length 256] true)] (.f 67 [(1,0)]) D :=
 ⟨1,0,true,true,rfl,rfl,rfl⟩
section
variable {D:Dev} {n:Int}
theorem A5Z (hD:okD D) (hm:T3 D.length n=true):RowW n (bW D n)/\Small (bW D n) 128 (224*129) (33*129) (224*129)/\(∀ x∈(J0 D n).ino,x.length=11)/\(J0 D n).ino.length=(n+1).toNat/\(J0 D n).taken.length=D.length:=by
 obtain ⟨_,_,_,P,_,_,_,_,_,h1,h2⟩:=C3a (n:=n) (m:=0) hD (D0H D) hm;exact ⟨h1,h2,P.il,P.ilen,P.tlen⟩
theorem claimI_may:MayC (K4 D n):=by
 refine ⟨fun x hx=>?_,fun i=>?_,rfl,fun b hb=>by cases hb⟩
 ·rw [List.eq_of_mem_replicate hx];exact C9Q
 ·have e:((K4 D n).par i).getD 0=if i=1 then 1 else 0:=by
   show ((A6B (fun _=>none) 1 1) i).getD 0=_;unfold A6B;split<;>rfl
  rw [e];split<;>omega
theorem C7o (hD:okD D) (hm:T3 D.length n=true):MayC (bW D n):=by
 obtain ⟨_,_,_,n128,_⟩:=N4.1 hm;unfold bW;have hs:=ownR_same (c:=K4 D n) (k:=(tU D.length n).toNat);refine C8P hD hm ?_ (claimI_may.same hs);refine RowW.same (c:=K4 D n) ⟨by simp [K4],fun i=>?_,fun i hi=>?_⟩ hs.row hs.par
 ·by_cases c1:i=1
  ·subst c1;simp [K4,A6B]
  ·simp [K4,A6B,c1]
 ·obtain ⟨_,_,n8,_⟩:=N4.1 hm;simp [K4] at hi;omega
theorem C9K {c:Cl} {a:Int} (hl:∀ i,M9 ((c.lnk i).getD 0)=true) (h:MayC c):MayC (sZ c a):=by
 unfold sZ;split
 ·rename_i h1;refine ⟨fun x hx=>?_,h.par,h.bm,h.md⟩;rcases C0S hx with h2 | h2
  ·exact h.ino x h2
  ·have hin:c.ino.getD a.toNat []∈c.ino:=by
    by_cases hl:a.toNat<c.ino.length
    ·rw [List.getD_eq_getElem?_getD,List.getElem?_eq_getElem hl];exact List.getElem_mem hl
    ·rw [List.getD_eq_getElem?_getD (l:=c.ino),List.getElem?_eq_none (by omega)] at h1;simp at h1
   obtain ⟨h3,h4⟩:=h.ino _ hin;generalize c.ino.getD a.toNat []=y at *;rw [h2]
   match y,h3 with
   | [y0,y1,y2,y3,y4,y5,y6,y7,y8,y9,y10],_ =>
    have e:y0=1:=h1;subst e;have h5:B7N 1 y1 y2 y3 [y4,y5,y6,y7,y8,y9,y10]=true:=h4;refine ⟨rfl,?_⟩;show B7N 1 ((c.lnk a).getD 0) y2 y3 [y4,y5,y6,y7,y8,y9,y10]=true;unfold B7N at h5 ⊢;simp only [Bool.and_eq_true] at h5 ⊢;exact ⟨h5.1,hl a,h5.2.2⟩
 ·exact h
theorem C0P {c:Cl} {a:Int}:(sZ c a).row=c.row/\(sZ c a).taken=c.taken/\(sZ c a).blocks=c.blocks/\(sZ c a).made=c.made/\(sZ c a).lost=c.lost/\(sZ c a).lnk=c.lnk/\(sZ c a).par=c.par:=by
 unfold sZ;split<;>exact ⟨rfl,rfl,rfl,rfl,rfl,rfl,rfl⟩
theorem A2T:∀ {L:List Int} {c:Cl},(oF c L).row=c.row/\(oF c L).taken=c.taken/\(oF c L).blocks=c.blocks/\(oF c L).made=c.made/\(oF c L).lost=c.lost/\(oF c L).lnk=c.lnk/\(oF c L).par=c.par
 | [],c=>⟨rfl,rfl,rfl,rfl,rfl,rfl,rfl⟩
 | a::L,c=>by
  obtain ⟨a1,a2,a3,a4,a5,a6,a7⟩:=A2T (L:=L) (c:=sZ c a);obtain ⟨b1,b2,b3,b4,b5,b6,b7⟩:=C0P (c:=c) (a:=a);exact ⟨a1.trans b1,a2.trans b2,a3.trans b3,a4.trans b4,a5.trans b5,a6.trans b6,a7.trans b7⟩
theorem C0Q:∀ {L:List Int} {c:Cl},(∀ i,M9 ((c.lnk i).getD 0)=true)->MayC c->MayC (oF c L)
 | [],_,_,h=>h
 | a::L,c,hl,h=>C0Q (L:=L) (c:=sZ c a) (by rw [(C0P (c:=c) (a:=a)).2.2.2.2.2.1];exact hl) (C9K hl h)
theorem C7n (hD:okD D) (hm:T3 D.length n=true):MayC (J0 D n):=by
 obtain ⟨h1,h2,_⟩:=A5Z hD hm;refine C0Q (fun i=>?_) (C7o hD hm);rw [A9B];have:=h2.lnk i;omega
theorem D1V {c:Cl} {k:Nat}:(B2L c k).row=c.row:=ownR_same.row
theorem B6j (hD:okD D) (hm:T3 D.length n=true):ImgOk D n (J0 D n):=by
 obtain ⟨h1,h2,h3,h4,h5⟩:=A5Z hD hm;obtain ⟨_,_,_,n128,_⟩:=N4.1 hm;have hc:=C7n hD hm;obtain ⟨s1,s2,s3,s4,s5,s6,s7⟩:=A2T (L:=(bW D n).row) (c:=bW D n);have hr:1<=(bW D n).row.length:=by
  have:(B2L (K4 D n) (tU D.length n).toNat).row.length<=(bW D n).row.length:=C4W;rw [D1V] at this;simpa [K4] using this
 refine ⟨?_,h5,hc.ino,by rw [h4];omega,hc.bm,?_,hc.md⟩
 ·show 0<(oF _ _).row.length;rw [s1];omega
 ·show (oF _ _).blocks.length<=_;rw [s3];have:=h2.blocks;omega
theorem C15 {m:Int} {f:Cell} {h:A4} {cs:List Cell} (hD:okD D) (hv:IsView h f D) (hm:T3 D.length n=true) (hc:IsCl h cs (J0 D n)) :
  M5 [.a (vwC D.length n m f),.a cs] h=some (.c (.sl h.length 0 D.length 256),h++[some ⟨D7 (A86 D n (J0 D n)),true⟩]) :=
 C0c hD hv hm hc (B6j hD hm)
end
end
theorem C5T {D:Dev} (h:C37 D=true):T3 D.length (B2u D)=true:=by
 unfold C37 at h;rw [Bool.and_eq_true] at h;have h1:=h.1;unfold okS at h1;rw [Bool.and_eq_true,of_decide_eq_true h.2] at h1;exact h1.1
end Go.Proofs.YteckncopbicmcaaGreat
namespace Go.Proofs.YteckncopbicmcaaGreat
open Go Go.Esc
set_option maxRecDepth 100000
noncomputable section
def B4A:ACode:=.ops [aO 39 (.bin .add (.t 22) (.v (.c (.i .i64 1)))),aM 22 39]
def A6i:ACode:=sO [0,6,20,21,22,23] [aO 23 (.bin .lss (.t 22) (.t 21))] (.seq [0,6,20,21,22] (.cond (.t 23) .skip (.exit 0)) (.seq [0,6,20,21,22] (.block 1 (sO [0,6,7,8,20,21,22] [aM 24 22,aO 25 (.iAddrL 256 (.t 20) (.t 22)),aL' 26 256 25,aO 8 (.alloc (List.replicate 256 (.i .u8 0))),aM 7 24,aN (.storeN 256 (.t 8) (.t 26))] (.seq [0,6,7,8,20,21,22,32] (.draw 0 [aL' 27 256 8,aM 28 0,aM 29 7,aO 30 (.iAddrL 256 (.t 28) (.t 29)),aL' 31 256 30] [aO 32 (.eqA true (List.replicate 256 (.i .u8)) (.t 27) (.t 31))]) (.cond (.t 32) (.ops [aM 33 6,aM 34 7,aL' 35 256 8,aO 36 (.build ([.i .i64 0]++List.replicate 256 (.i .u8 0)) [(0,1,(.t 34)),(1,256,(.t 35))]),aO 37 (.buildSl 257 1 (([.i .i64 0]++List.replicate 256 (.i .u8 0))) [(0,257,(.t 36))]),aO 38 (.app 257 (.t 33) (.t 37)),aM 6 38]) .skip)))) B4A))
def B4z:ACode:=sO [2,3] [aM 40 6,aM 2 40,aO 3 (.mv (.v (.c (.i .i64 0))))] .ret
def A1Z:AFn:=⟨sO [0] [aO 2 (.nilrow 257),aO 3 (.mv (.v (.c (.i .i64 0))))] (sO [0,4,5] [aM 10 0,aO 11 (.call 16 [(.t 10)]),aM 9 11,aE 12 9 0,aE 13 9 1,aO 4 (.alloc ([.i .i64 0,.i .i64 0,.i .u64 0,.nf])),aN (.storeN 4 (.t 4) (.t 12)),aM 5 13] (.seq [0,4] (sO [0,4,5,15] [aM 14 5,aO 15 (.bin .neq (.t 14) (.v (.c (.i .i64 0))))] (.cond (.t 15) (sO [2,3] [aM 16 5,aO 2 (.nilrow 257),aM 3 16] .ret) .skip)) (sO [0,4,6] [aO 6 (.nilrow 257)] (.seq [6] (.seq [0,6,20,21,22] (.draw 0 [aL' 17 4 4,aL' 18 4 4,aO 19 (.call 44 [(.t 18)]),aO 20 (.call 50 [(.t 17),(.t 19)]),aO 21 (.len (.t 20)),aO 22 (.mv (.v (.c (.i .i64 0))))] []) (.block 0 (.loop [0,6,20,21,22] A6i))) B4z)))),[.tmp 2,.tmp 3]⟩
def gQ:E2:=D6 16 tM (D6 44 nV (D6 50 M5 E6))
def C4K (n:Nat):KV:=kQ gQ n B4z [6] A1Z.fin
def B4B (n:Nat):KV:=F6 0 (C4K n)
def A0B (n m:Nat) (x0 x6 x20 xU x22:Val):AtH:=ar gQ n A6i [0,6,20,21,22] (B4B n) m [x0,x6,x20,xU,x22]
def A2l:=rx gQ A1Z
def C4L (n m:Nat):KV:=kL gQ n A6i [0,6,20,21,22] (B4B n) m
def A6j (n m:Nat) (x0 x6 x20 xU x22:Val):AtH:=aj gQ n B4A (C4L n m) [0,6,20,21,22] [x0,x6,x20,xU,x22]
theorem B9h (n:Nat) (a0:Val) (h:A4):A2l n [a0] h=bnd (tM [a0] (h++[some (Row.mk ([]) true)])) fun p1=>bnd (H0 p1.1 0) fun v2=>bnd (H0 p1.1 1) fun v3=>bnd (B4 (p1.2++[some (Row.mk ([.i .i64 0,.i .i64 0,.i .u64 0,.nf]) true)]) 4 (.c (.p p1.2.length 0)) v2) fun h4=>bnd (B5 .neq v3 (.c (.i .i64 0))) fun v5=>cnd v5 (I6 [some (.c (.sl h4.length 0 0 257)),some v3] (h4++[some (Row.mk ([]) true)])) (bnd (A8 (h4++[some (Row.mk ([]) true)]) 4 (.c (.p p1.2.length 0))) fun v6=>bnd (A8 (h4++[some (Row.mk ([]) true)]) 4 (.c (.p p1.2.length 0))) fun v7=>bnd (quiet ((h4++[some (Row.mk ([]) true)])++[]) (nV [v7] ((h4++[some (Row.mk ([]) true)])++[]))) fun p8=>bnd (quiet p8.2 (M5 [v6,p8.1] p8.2)) fun p9=>bnd (O0 p9.1) fun T6=>A0B n n a0 (.c (.sl h4.length 0 0 257)) p9.1 T6 (.c (.i .i64 0)) p9.2):=by kernel_rfl
theorem yM (n m:Nat) (x0 x6 x20 xU x22:Val) (h:A4):A0B n (m+1) x0 x6 x20 xU x22 h=bnd (B5 .lss x22 xU) fun v11=>cnd v11 (bnd (C4 256 x20 x22) fun v12=>bnd (A8 h 256 v12) fun v13=>bnd (B4 (h++[some (Row.mk (List.replicate 256 (.i .u8 0)) true)]) 256 (.c (.p h.length 0)) v13) fun h14=>bnd (A8 h14 256 (.c (.p h.length 0))) fun dE=>bnd (C4 256 x0 x22) fun T7=>bnd (A8 h14 256 T7) fun W3=>bnd (aeq true (List.replicate 256 (.i .u8)) dE W3) fun dN=>cnd dN (bnd (A8 (h14++[]) 256 (.c (.p h.length 0))) fun dO=>bnd (C7 ([.i .i64 0]++List.replicate 256 (.i .u8 0)) [(0,1,x22),(1,256,dO)]) fun c20=>bnd (C7 (([.i .i64 0]++List.replicate 256 (.i .u8 0))) [(0,257,(.a c20))]) fun c21=>bnd (W7 ((h14++[])++[some (Row.mk (c21) true)]) 257 x6 (.c (.sl (h14++[]).length 0 1 257))) fun p22=>A6j n m x0 p22.1 x20 xU x22 p22.2) (A6j n m x0 x6 x20 xU x22 (h14++[]))) (I6 [some x6,some (.c (.i .i64 0))] h):=by kernel_rfl
theorem A66 (n m:Nat) (x0 x6 x20 xU x22:Val) (h:A4):A6j n m x0 x6 x20 xU x22 h=bnd (B5 .add x22 (.c (.i .i64 1))) fun v23=>A0B n m x0 x6 x20 xU v23 h:=by kernel_rfl
theorem B6X:FnK Tryz.prog 53 A1Z gQ A2l:=.mk2 (B8 B3L (B8 B0V (B8 A1Q C9))) Tryz.func53 (by kernel_rfl)
def dI:=tl A1Z gQ
theorem A8p:SOk Tryz.prog 53 dI:=B6X.sok
theorem B5V:D5o A2l dI:=B6X.out2
def xO:ACode:=.ops [aO 62 (.bin .add (.t 42) (.v (.c (.i .i64 1)))),aM 42 62]
def jB:ACode:=sO [0,6,7,42,43] [aO 43 (.bin .lss (.t 42) (.v (.c (.i .i64 7))))] (.seq [0,6,7,42] (.cond (.t 43) .skip (.exit 0)) (.seq [0,6,7,42] (.block 1 (sO [0,6,7,8,42] [aM 44 42,aM 8 44] (sO [0,6,7,42,54] [aM 45 8,aO 46 (.iAddrA 7 1 (.t 6) (.t 45)),aL 47 46,aO 48 (.bin .neq (.t 47) (.v (.c (.i .i64 0)))),aM 49 48,gM 50 49 true 8,aG 51 49 true (.iAddrA 7 1 (.t 7) (.t 50)),aG 52 49 true (.load1 (.t 51)),aG 53 49 true (.bin .eql (.t 52) (.v (.c (.i .i64 0)))),aO 54 (.pick (.t 49) (.t 53) (.v (.c (.b false))))] (.cond (.t 54) (.ops [aM 55 0,aO 56 (.nilc (.t 55)),aF 57 56 5,aL 58 57,aO 59 (.bin .add (.t 58) (.v (.c (.i .i64 1)))),aO 60 (.nilc (.t 55)),aF 61 60 5,aN (.store1 (.t 61) (.t 59))]) .skip)))) xO))
def xN:ACode:=.seq [0,6,7] (.draw 2 [aL' 38 11 4,aO 39 (.call 194 [(.t 38)]),aL' 40 11 5,aO 41 (.call 194 [(.t 40)]),aS 6 0 (.alloc ([.i .i64 0,.i .i64 0,.i .i64 0,.i .i64 0,.i .i64 0,.i .i64 0,.i .i64 0])),aS 7 1 (.alloc ([.i .i64 0,.i .i64 0,.i .i64 0,.i .i64 0,.i .i64 0,.i .i64 0,.i .i64 0]))] [aN (.storeN 7 (.t 6) (.t 39)),aN (.storeN 7 (.t 7) (.t 41))]) (sO [0,6,7,42] [aO 42 (.mv (.v (.c (.i .i64 0))))] (.block 0 (.loop [0,6,7,42] jB)))
def xM:ACode:=.seq [0,4,5] (sO [0,4,5,30] [aF 21 5 0,aL 22 21,aO 23 (.bin .eql (.t 22) (.v (.c (.i .i64 2)))),aM 24 23,aG 25 24 true (.fAddr (.t 4) 3),aG 26 24 true (.load1 (.t 25)),aG 27 24 true (.fAddr (.t 5) 3),aG 28 24 true (.load1 (.t 27)),aG 29 24 true (.bin .neq (.t 26) (.t 28)),aO 30 (.pick (.t 24) (.t 29) (.v (.c (.b false))))] (.cond (.t 30) (.ops [aM 31 0,aO 32 (.nilc (.t 31)),aF 33 32 4,aL 34 33,aO 35 (.bin .add (.t 34) (.v (.c (.i .i64 1)))),aO 36 (.nilc (.t 31)),aF 37 36 4,aN (.store1 (.t 37) (.t 35))]) .skip)) xN
def Q4:AFn:=⟨sO [0,4,5] [aB 4 1,aB 5 2] (.seq [0,4,5] (sO [0,4,5,13] [aF 9 4 1,aL 10 9,aF 11 5 1,aL 12 11,aO 13 (.bin .neq (.t 10) (.t 12))] (.cond (.t 13) (.ops [aM 14 0,aO 15 (.nilc (.t 14)),aF 16 15 3,aL 17 16,aO 18 (.bin .add (.t 17) (.v (.c (.i .i64 1)))),aO 19 (.nilc (.t 14)),aF 20 19 3,aN (.store1 (.t 20) (.t 18))]) .skip)) xM),[]⟩
def K1:E2:=D6 194 J8 E6
def bK (n:Nat) (x0 x4 x5:Val):AtH:=aj K1 n xM Q4.fin [0,4,5] [x0,x4,x5]
def lA:=rx K1 Q4
def bL (n:Nat) (x0 x4 x5:Val):AtH:=aj K1 n xN Q4.fin [0,4,5] [x0,x4,x5]
def xP (n:Nat):KV:=F6 0 Q4.fin
def bM (n m:Nat) (x0 x6 x7 x42:Val):AtH:=ar K1 n jB [0,6,7,42] (xP n) m [x0,x6,x7,x42]
def A9q (n m:Nat):KV:=kL K1 n jB [0,6,7,42] (xP n) m
def jC (n m:Nat) (x0 x6 x7 x42:Val):AtH:=aj K1 n xO (A9q n m) [0,6,7,42] [x0,x6,x7,x42]
theorem qH (n:Nat) (a0 a1 a2:Val) (h:A4):lA n [a0,a1,a2] h=bnd (cells? a1) fun c1=>bnd (cells? a2) fun c2=>bnd (A9 (.c (.p h.length 0)) 1) fun v3=>bnd (A7 ((h++[some (Row.mk (c1) true)])++[some (Row.mk (c2) true)]) v3) fun v4=>bnd (A9 (.c (.p (h++[some (Row.mk (c1) true)]).length 0)) 1) fun v5=>bnd (A7 ((h++[some (Row.mk (c1) true)])++[some (Row.mk (c2) true)]) v5) fun v6=>bnd (B5 .neq v4 v6) fun v7=>cnd v7 (bnd (I5 a0) fun v8=>bnd (A9 v8 3) fun v9=>bnd (A7 ((h++[some (Row.mk (c1) true)])++[some (Row.mk (c2) true)]) v9) fun T6=>bnd (B5 .add T6 (.c (.i .i64 1))) fun v11=>bnd (I5 a0) fun v12=>bnd (A9 v12 3) fun v13=>bnd (D3 ((h++[some (Row.mk (c1) true)])++[some (Row.mk (c2) true)]) v13 v11) fun h14=>bK n a0 (.c (.p h.length 0)) (.c (.p (h++[some (Row.mk (c1) true)]).length 0)) h14) (bK n a0 (.c (.p h.length 0)) (.c (.p (h++[some (Row.mk (c1) true)]).length 0)) ((h++[some (Row.mk (c1) true)])++[some (Row.mk (c2) true)])):=by kernel_rfl
theorem dC (n:Nat) (x0 x4 x5:Val) (h:A4):bK n x0 x4 x5 h=bnd (A9 x5 0) fun dE=>bnd (A7 h dE) fun T7=>bnd (B5 .eql T7 (.c (.i .i64 2))) fun W3=>bnd (gd W3 true (bnd (A9 x4 3) fun dN=>some (dN,h)) (some (.no,h))) fun oY=>bnd (gd W3 true (bnd (A7 oY.2 oY.1) fun jN=>some (jN,oY.2)) (some (.no,oY.2))) fun p21=>bnd (gd W3 true (bnd (A9 x5 3) fun v22=>some (v22,p21.2)) (some (.no,p21.2))) fun p23=>bnd (gd W3 true (bnd (A7 p23.2 p23.1) fun v24=>some (v24,p23.2)) (some (.no,p23.2))) fun p25=>bnd (gd W3 true (bnd (B5 .neq p21.1 p25.1) fun v26=>some (v26,p25.2)) (some (.no,p25.2))) fun p27=>bnd (F0 W3 p27.1 (.c (.b false))) fun v28=>cnd v28 (bnd (I5 x0) fun v29=>bnd (A9 v29 4) fun v30=>bnd (A7 p27.2 v30) fun v31=>bnd (B5 .add v31 (.c (.i .i64 1))) fun v32=>bnd (I5 x0) fun v33=>bnd (A9 v33 4) fun v34=>bnd (D3 p27.2 v34 v32) fun h35=>bL n x0 x4 x5 h35) (bL n x0 x4 x5 p27.2):=by kernel_rfl
theorem A42 (n:Nat) (x0 x4 x5:Val) (h:A4):bL n x0 x4 x5 h=bnd (A8 h 11 x4) fun v36=>bnd (quiet (h++[none,none]) (J8 [v36] (h++[none,none]))) fun p37=>bnd (A8 h 11 x5) fun v38=>bnd (quiet p37.2 (J8 [v38] p37.2)) fun p39=>bnd (B4 ((p39.2.set (h.length+0) (some (Row.mk ([.i .i64 0,.i .i64 0,.i .i64 0,.i .i64 0,.i .i64 0,.i .i64 0,.i .i64 0]) true))).set (h.length+1) (some (Row.mk ([.i .i64 0,.i .i64 0,.i .i64 0,.i .i64 0,.i .i64 0,.i .i64 0,.i .i64 0]) true))) 7 (.c (.p (h.length+0) 0)) p37.1) fun h40=>bnd (B4 h40 7 (.c (.p (h.length+1) 0)) p39.1) fun h41=>bM n n x0 (.c (.p (h.length+0) 0)) (.c (.p (h.length+1) 0)) (.c (.i .i64 0)) h41:=by kernel_rfl
theorem U8 (n m:Nat) (x0 x6 x7 x42:Val) (h:A4):bM n (m+1) x0 x6 x7 x42 h=bnd (B5 .lss x42 (.c (.i .i64 7))) fun v42=>cnd v42 (bnd (D8 7 1 x6 x42) fun v43=>bnd (A7 h v43) fun v44=>bnd (B5 .neq v44 (.c (.i .i64 0))) fun v45=>bnd (gd v45 true (some (x42,h)) (some (.no,h))) fun p46=>bnd (gd v45 true (bnd (D8 7 1 x7 p46.1) fun v47=>some (v47,p46.2)) (some (.no,p46.2))) fun p48=>bnd (gd v45 true (bnd (A7 p48.2 p48.1) fun v49=>some (v49,p48.2)) (some (.no,p48.2))) fun p50=>bnd (gd v45 true (bnd (B5 .eql p50.1 (.c (.i .i64 0))) fun v51=>some (v51,p50.2)) (some (.no,p50.2))) fun p52=>bnd (F0 v45 p52.1 (.c (.b false))) fun v53=>cnd v53 (bnd (I5 x0) fun v54=>bnd (A9 v54 5) fun v55=>bnd (A7 p52.2 v55) fun v56=>bnd (B5 .add v56 (.c (.i .i64 1))) fun v57=>bnd (I5 x0) fun v58=>bnd (A9 v58 5) fun v59=>bnd (D3 p52.2 v59 v57) fun h60=>jC n m x0 x6 x7 x42 h60) (jC n m x0 x6 x7 x42 p52.2)) (I6 [] h):=by kernel_rfl
theorem dD (n m:Nat) (x0 x6 x7 x42:Val) (h:A4):jC n m x0 x6 x7 x42 h=bnd (B5 .add x42 (.c (.i .i64 1))) fun v61=>bM n m x0 x6 x7 v61 h:=by kernel_rfl
theorem yS:FnK Tryz.prog 121 Q4 K1 lA:=.mk2 (B8 nZ C9) Tryz.func121 (by kernel_rfl)
def V8:=Lim Q4 K1
theorem A5M:SOk Tryz.prog 121 V8:=yS.ok
theorem qT:OfT lA V8:=yS.of
def B1p:ACode:=.ops [aM 40 10,aO 41 (.bin .add (.t 40) (.v (.c (.i .i64 1)))),aM 10 41]
def A3V:ACode:=.seq [2,6,8,9,10] (sO [2,6,8,9,10,39] [aM 35 10,aF 36 6 0,aF 37 36 1,aL 38 37,aO 39 (.bin .leq (.t 35) (.t 38))] (.cond (.t 39) .skip (.exit 0))) (.seq [2,6,8,9,10] (.block 1 (sO [2,6,8,9,10,11] [aL' 42 4 6,aM 43 10,aO 44 (.call 19 [(.t 42),(.t 43)]),aO 11 (.alloc ([.i .i64 0,.i .i64 0,.i .i64 0,.i .i64 0,.i .i64 0,.i .i64 0,.i .i64 0,.i .i64 0,.i .i64 0,.i .i64 0,.i .i64 0])),aN (.storeN 11 (.t 11) (.t 44))] (.block 2 (sO [2,6,8,9,10,11,45] [aL' 46 6 8,aM 47 10,aO 48 (.call 47 [(.t 46),(.t 47)]),aM 45 48] (.cond (.t 45) (.draw 0 [aL' 49 11 11,aF 50 8 1,aL 51 50,aM 52 10,aO 53 (.iAddrL 11 (.t 51) (.t 52)),aL' 54 11 53] [aO 55 (.call 121 [(.t 9),(.t 49),(.t 54)])]) (sO [2,6,8,9,10,56] [aL' 57 11 11,aO 58 (.build ([.i .i64 0,.i .i64 0,.i .i64 0,.i .i64 0,.i .i64 0,.i .i64 0,.i .i64 0,.i .i64 0,.i .i64 0,.i .i64 0,.i .i64 0]) []),aO 59 (.eqA true ([.i .i64,.i .i64,.i .i64,.i .i64,.i .i64,.i .i64,.i .i64,.i .i64,.i .i64,.i .i64,.i .i64]) (.t 57) (.t 58)),aM 56 59] (.cond (.t 56) (.ops [aF 60 9 2,aL 61 60,aO 62 (.bin .add (.t 61) (.v (.c (.i .i64 1)))),aF 63 9 2,aN (.store1 (.t 63) (.t 62))]) .skip))))))) B1p)
def B1r:ACode:=.ops [aO 96 (.bin .add (.t 67) (.v (.c (.i .i64 1)))),aM 67 96]
def A3W:ACode:=sO [2,6,9,65,66,67,68] [aO 68 (.bin .lss (.t 67) (.t 66))] (.seq [2,6,9,65,66,67] (.cond (.t 68) .skip (.exit 3)) (.seq [2,6,9,65,66,67] (.block 4 (sO [2,6,9,12,13,65,66,67] [aM 69 67,aO 70 (.iAddrL 1 (.t 65) (.t 67)),aL 71 70,aM 12 69,aM 13 71] (.block 5 (sO [2,6,9,12,13,65,66,67,72] [aM 73 13,aM 74 73,aG 75 74 true (.loadN 4 (.t 6)),gM 76 74 true 12,aG 77 74 true (.call 122 [(.t 75),(.t 76)]),aG 78 74 true (.un .not (.t 77)),aO 79 (.pick (.t 74) (.t 78) (.v (.c (.b false)))),aM 72 79] (.cond (.t 72) (.ops [aF 80 9 7,aL 81 80,aO 82 (.bin .add (.t 81) (.v (.c (.i .i64 1)))),aF 83 9 7,aN (.store1 (.t 83) (.t 82))]) (sO [2,6,9,65,66,67,84] [aM 85 13,aO 86 (.un .not (.t 85)),aM 87 86,aG 88 87 true (.loadN 4 (.t 6)),gM 89 87 true 12,aG 90 87 true (.call 122 [(.t 88),(.t 89)]),aO 91 (.pick (.t 87) (.t 90) (.v (.c (.b false)))),aM 84 91] (.cond (.t 84) (.ops [aF 92 9 6,aL 93 92,aO 94 (.bin .add (.t 93) (.v (.c (.i .i64 1)))),aF 95 9 6,aN (.store1 (.t 95) (.t 94))]) .skip))))))) B1r))
def B1q:ACode:=sO [2,3] [aL' 97 8 9,aN (.storeN 8 (.t 2) (.t 97)),aO 3 (.mv (.v (.c (.i .i64 0))))] .ret
def B1o:ACode:=.seq [2,9] (sO [2,6,9,65,66,67] [aF 64 8 2,aL 65 64,aO 66 (.len (.t 65)),aO 67 (.mv (.v (.c (.i .i64 0))))] (.block 3 (.loop [2,6,9,65,66,67] A3W))) B1q
def pJ:AFn:=⟨sO [0,2] [aO 2 (.alloc ([.i .i64 0,.i .i64 0,.i .i64 0,.i .i64 0,.i .i64 0,.i .i64 0,.i .i64 0,.i .i64 0])),aO 3 (.mv (.v (.c (.i .i64 0))))] (sO [0,2,4,5] [aM 15 0,aO 16 (.call 53 [(.t 15)]),aM 14 16,aE 17 14 0,aE 18 14 1,aM 4 17,aM 5 18] (.seq [0,2,4] (sO [0,2,4,5,20] [aM 19 5,aO 20 (.bin .neq (.t 19) (.v (.c (.i .i64 0))))] (.cond (.t 20) (sO [2,3] [aO 21 (.build ([.i .i64 0,.i .i64 0,.i .i64 0,.i .i64 0,.i .i64 0,.i .i64 0,.i .i64 0,.i .i64 0]) []),aM 22 5,aN (.storeN 8 (.t 2) (.t 21)),aM 3 22] .ret) .skip)) (sO [2,4,6] [aM 24 0,aO 25 (.call 16 [(.t 24)]),aM 23 25,aE 26 23 0,aE 27 23 1,aO 6 (.alloc ([.i .i64 0,.i .i64 0,.i .u64 0,.nf])),aN (.storeN 4 (.t 6) (.t 26)),aM 7 27] (sO [2,4,6,8] [aL' 28 4 6,aO 29 (.call 44 [(.t 28)]),aO 8 (.alloc ([.ns,.ns,.ns,.ns,.ns,.i .i64 0])),aN (.storeN 6 (.t 8) (.t 29))] (sO [2,6,8,9] [aM 30 4,aO 31 (.len (.t 30)),aF 32 8 5,aL 33 32,aO 34 (.build ([.i .i64 0,.i .i64 0,.i .i64 0,.i .i64 0,.i .i64 0,.i .i64 0,.i .i64 0,.i .i64 0]) [(0,1,(.t 31)),(1,1,(.t 33))]),aO 9 (.alloc ([.i .i64 0,.i .i64 0,.i .i64 0,.i .i64 0,.i .i64 0,.i .i64 0,.i .i64 0,.i .i64 0])),aN (.storeN 8 (.t 9) (.t 34))] (.seq [2,6,8,9] (sO [2,6,8,9,10] [aO 10 (.mv (.v (.c (.i .i64 1))))] (.block 0 (.loop [2,6,8,9,10] A3V))) B1o)))))),[.cellN 2 8,.tmp 3]⟩
def P7:E2:=D6 53 dI (D6 16 tM (D6 44 nV (D6 19 G1 (D6 47 qN (D6 121 V8 (D6 122 Y6 E6))))))
def C2q (n:Nat):KV:=kQ P7 n B1o [2,6,8,9] pJ.fin
def B1s (n:Nat):KV:=F6 0 (C2q n)
def nA (n m:Nat) (x2 x6 x8 x9 x10:Val):AtH:=ar P7 n A3V [2,6,8,9,10] (B1s n) m [x2,x6,x8,x9,x10]
def A0k:=rx P7 pJ
def C2r (n m:Nat):KV:=kL P7 n A3V [2,6,8,9,10] (B1s n) m
def vN (n m:Nat) (x2 x6 x8 x9 x10:Val):AtH:=aj P7 n B1p (C2r n m) [2,6,8,9,10] [x2,x6,x8,x9,x10]
def C2s (n:Nat):KV:=kQ P7 n B1q [2,9] pJ.fin
def B1t (n:Nat):KV:=F6 3 (C2s n)
def vP (n m:Nat) (x2 x6 x9 x65 x66 x67:Val):AtH:=ar P7 n A3W [2,6,9,65,66,67] (B1t n) m [x2,x6,x9,x65,x66,x67]
def C2t (n m:Nat):KV:=kL P7 n A3W [2,6,9,65,66,67] (B1t n) m
def vO (n m:Nat) (x2 x6 x9 x65 x66 x67:Val):AtH:=aj P7 n B1r (C2t n m) [2,6,9,65,66,67] [x2,x6,x9,x65,x66,x67]
theorem B77 (n:Nat) (a0:Val) (h:A4):A0k n [a0] h=bnd (dI [a0] (h++[some (Row.mk ([.i .i64 0,.i .i64 0,.i .i64 0,.i .i64 0,.i .i64 0,.i .i64 0,.i .i64 0,.i .i64 0]) true)])) fun p1=>bnd (H0 p1.1 0) fun v2=>bnd (H0 p1.1 1) fun v3=>bnd (B5 .neq v3 (.c (.i .i64 0))) fun v4=>cnd v4 (bnd (C7 ([.i .i64 0,.i .i64 0,.i .i64 0,.i .i64 0,.i .i64 0,.i .i64 0,.i .i64 0,.i .i64 0]) []) fun c5=>bnd (B4 p1.2 8 (.c (.p h.length 0)) (.a c5)) fun h6=>I6 [A8 h6 8 (.c (.p h.length 0)),some v3] h6) (bnd (tM [a0] p1.2) fun p7=>bnd (H0 p7.1 0) fun v8=>bnd (H0 p7.1 1) fun v9=>bnd (B4 (p7.2++[some (Row.mk ([.i .i64 0,.i .i64 0,.i .u64 0,.nf]) true)]) 4 (.c (.p p7.2.length 0)) v8) fun h10=>bnd (A8 h10 4 (.c (.p p7.2.length 0))) fun v11=>bnd (nV [v11] h10) fun p12=>bnd (B4 (p12.2++[some (Row.mk ([.ns,.ns,.ns,.ns,.ns,.i .i64 0]) true)]) 6 (.c (.p p12.2.length 0)) p12.1) fun h13=>bnd (O0 v2) fun cE=>bnd (A9 (.c (.p p12.2.length 0)) 5) fun dE=>bnd (A7 h13 dE) fun T7=>bnd (C7 ([.i .i64 0,.i .i64 0,.i .i64 0,.i .i64 0,.i .i64 0,.i .i64 0,.i .i64 0,.i .i64 0]) [(0,1,cE),(1,1,T7)]) fun c17=>bnd (B4 (h13++[some (Row.mk ([.i .i64 0,.i .i64 0,.i .i64 0,.i .i64 0,.i .i64 0,.i .i64 0,.i .i64 0,.i .i64 0]) true)]) 8 (.c (.p h13.length 0)) (.a c17)) fun h18=>nA n n (.c (.p h.length 0)) (.c (.p p7.2.length 0)) (.c (.p p12.2.length 0)) (.c (.p h13.length 0)) (.c (.i .i64 1)) h18):=by kernel_rfl
theorem kE (n m:Nat) (x2 x6 x8 x9 x10:Val) (h:A4):nA n (m+1) x2 x6 x8 x9 x10 h=bnd (A9 x6 0) fun dO=>bnd (A9 dO 1) fun jN=>bnd (A7 h jN) fun v21=>bnd (B5 .leq x10 v21) fun v22=>cnd v22 (bnd (A8 h 4 x6) fun v23=>bnd (G1 [v23,x10] h) fun fU=>bnd (B4 (fU.2++[some (Row.mk ([.i .i64 0,.i .i64 0,.i .i64 0,.i .i64 0,.i .i64 0,.i .i64 0,.i .i64 0,.i .i64 0,.i .i64 0,.i .i64 0,.i .i64 0]) true)]) 11 (.c (.p fU.2.length 0)) fU.1) fun h25=>bnd (A8 h25 6 x8) fun v26=>bnd (qN [v26,x10] h25) fun p27=>cnd p27.1 (bnd (A8 p27.2 11 (.c (.p fU.2.length 0))) fun v28=>bnd (A9 x8 1) fun v29=>bnd (A7 p27.2 v29) fun v30=>bnd (C4 11 v30 x10) fun v31=>bnd (A8 p27.2 11 v31) fun v32=>bnd (V8 [x9,v28,v32] (p27.2++[])) fun p33=>vN n m x2 x6 x8 x9 x10 p33.2) (bnd (A8 p27.2 11 (.c (.p fU.2.length 0))) fun v34=>bnd (C7 ([.i .i64 0,.i .i64 0,.i .i64 0,.i .i64 0,.i .i64 0,.i .i64 0,.i .i64 0,.i .i64 0,.i .i64 0,.i .i64 0,.i .i64 0]) []) fun c35=>bnd (aeq true ([.i .i64,.i .i64,.i .i64,.i .i64,.i .i64,.i .i64,.i .i64,.i .i64,.i .i64,.i .i64,.i .i64]) v34 (.a c35)) fun v36=>cnd v36 (bnd (A9 x9 2) fun v37=>bnd (A7 p27.2 v37) fun v38=>bnd (B5 .add v38 (.c (.i .i64 1))) fun v39=>bnd (A9 x9 2) fun v40=>bnd (D3 p27.2 v40 v39) fun h41=>vN n m x2 x6 x8 x9 x10 h41) (vN n m x2 x6 x8 x9 x10 p27.2))) (bnd (A9 x8 2) fun v42=>bnd (A7 h v42) fun v43=>bnd (O0 v43) fun v44=>vP n n x2 x6 x9 v43 v44 (.c (.i .i64 0)) h):=by kernel_rfl
theorem uD (n m:Nat) (x2 x6 x8 x9 x10:Val) (h:A4):vN n m x2 x6 x8 x9 x10 h=bnd (B5 .add x10 (.c (.i .i64 1))) fun v45=>nA n m x2 x6 x8 x9 v45 h:=by kernel_rfl
theorem dB (n m:Nat) (x2 x6 x9 x65 x66 x67:Val) (h:A4):vP n (m+1) x2 x6 x9 x65 x66 x67 h=bnd (B5 .lss x67 x66) fun v46=>cnd v46 (bnd (C4 1 x65 x67) fun v47=>bnd (A7 h v47) fun v48=>bnd (gd v48 true (bnd (A8 h 4 x6) fun v49=>some (v49,h)) (some (.no,h))) fun p50=>bnd (gd v48 true (some (x67,p50.2)) (some (.no,p50.2))) fun p51=>bnd (gd v48 true (bnd (Y6 [p50.1,p51.1] p51.2) fun p52=>some (p52.1,p52.2)) (some (.no,p51.2))) fun p53=>bnd (gd v48 true (bnd (aun .not p53.1) fun v54=>some (v54,p53.2)) (some (.no,p53.2))) fun p55=>bnd (F0 v48 p55.1 (.c (.b false))) fun v56=>cnd v56 (bnd (A9 x9 7) fun v57=>bnd (A7 p55.2 v57) fun v58=>bnd (B5 .add v58 (.c (.i .i64 1))) fun v59=>bnd (A9 x9 7) fun v60=>bnd (D3 p55.2 v60 v59) fun h61=>vO n m x2 x6 x9 x65 x66 x67 h61) (bnd (aun .not v48) fun v62=>bnd (gd v62 true (bnd (A8 p55.2 4 x6) fun v63=>some (v63,p55.2)) (some (.no,p55.2))) fun p64=>bnd (gd v62 true (some (x67,p64.2)) (some (.no,p64.2))) fun p65=>bnd (gd v62 true (bnd (Y6 [p64.1,p65.1] p65.2) fun p66=>some (p66.1,p66.2)) (some (.no,p65.2))) fun p67=>bnd (F0 v62 p67.1 (.c (.b false))) fun v68=>cnd v68 (bnd (A9 x9 6) fun v69=>bnd (A7 p67.2 v69) fun v70=>bnd (B5 .add v70 (.c (.i .i64 1))) fun v71=>bnd (A9 x9 6) fun v72=>bnd (D3 p67.2 v72 v71) fun h73=>vO n m x2 x6 x9 x65 x66 x67 h73) (vO n m x2 x6 x9 x65 x66 x67 p67.2))) (bnd (A8 h 8 x9) fun v74=>bnd (B4 h 8 x2 v74) fun h75=>I6 [A8 h75 8 x2,some (.c (.i .i64 0))] h75):=by kernel_rfl
theorem kD (n m:Nat) (x2 x6 x9 x65 x66 x67:Val) (h:A4):vO n m x2 x6 x9 x65 x66 x67 h=bnd (B5 .add x67 (.c (.i .i64 1))) fun v76=>vP n m x2 x6 x9 x65 x66 v76 h:=by kernel_rfl
theorem B3a:FnK Tryz.prog 55 pJ P7 A0k:=.mk2 (B8 A8p (B8 B3L (B8 B0V (B8 S7 (B8 B8f (B8 A5M (B8 B0j C9))))))) Tryz.func55 (by kernel_rfl)
def qS:=tl pJ P7
theorem B8n:SOk Tryz.prog 55 qS:=B3a.sok
theorem B3D:G0 A0k qS:=B3a.flat
def B1J:AFn:=⟨sO [1] [aB 1 0,aO 2 (.mv (.v (.c (.i .i64 0))))] (.seq [1] (sO [1,5] [aL' 3 8 1,aO 4 (.build ([.i .i64 0,.i .i64 0,.i .i64 0,.i .i64 0,.i .i64 0,.i .i64 0,.i .i64 0,.i .i64 0]) []),aO 5 (.eqA false ([.i .i64,.i .i64,.i .i64,.i .i64,.i .i64,.i .i64,.i .i64,.i .i64]) (.t 3) (.t 4))] (.cond (.t 5) (sO [2] [aO 2 (.mv (.v (.c (.i .i64 0))))] .ret) .skip)) (sO [2] [aF 6 1 1,aL 7 6,aF 8 1 2,aL 9 8,aO 10 (.bin .add (.t 7) (.t 9)),aF 11 1 3,aL 12 11,aO 13 (.bin .add (.t 10) (.t 12)),aF 14 1 4,aL 15 14,aO 16 (.bin .add (.t 13) (.t 15)),aF 17 1 5,aL 18 17,aO 19 (.bin .add (.t 16) (.t 18)),aF 20 1 6,aL 21 20,aO 22 (.bin .add (.t 19) (.t 21)),aF 23 1 7,aL 24 23,aO 25 (.bin .add (.t 22) (.t 24)),aM 2 25] .ret)),[.tmp 2]⟩
def B1N:E2:=E6
def A5D:=rx B1N B1J
theorem C1J (n:Nat) (a0:Val) (h:A4):A5D n [a0] h=bnd (cells? a0) fun c1=>bnd (A8 (h++[some (Row.mk (c1) true)]) 8 (.c (.p h.length 0))) fun v2=>bnd (C7 ([.i .i64 0,.i .i64 0,.i .i64 0,.i .i64 0,.i .i64 0,.i .i64 0,.i .i64 0,.i .i64 0]) []) fun c3=>bnd (aeq false ([.i .i64,.i .i64,.i .i64,.i .i64,.i .i64,.i .i64,.i .i64,.i .i64]) v2 (.a c3)) fun v4=>cnd v4 (some ((.c (.i .i64 0)),(h++[some (Row.mk (c1) true)]))) (bnd (A9 (.c (.p h.length 0)) 1) fun v5=>bnd (A7 (h++[some (Row.mk (c1) true)]) v5) fun v6=>bnd (A9 (.c (.p h.length 0)) 2) fun v7=>bnd (A7 (h++[some (Row.mk (c1) true)]) v7) fun v8=>bnd (B5 .add v6 v8) fun v9=>bnd (A9 (.c (.p h.length 0)) 3) fun T6=>bnd (A7 (h++[some (Row.mk (c1) true)]) T6) fun v11=>bnd (B5 .add v9 v11) fun v12=>bnd (A9 (.c (.p h.length 0)) 4) fun v13=>bnd (A7 (h++[some (Row.mk (c1) true)]) v13) fun cE=>bnd (B5 .add v12 cE) fun dE=>bnd (A9 (.c (.p h.length 0)) 5) fun T7=>bnd (A7 (h++[some (Row.mk (c1) true)]) T7) fun W3=>bnd (B5 .add dE W3) fun dN=>bnd (A9 (.c (.p h.length 0)) 6) fun dO=>bnd (A7 (h++[some (Row.mk (c1) true)]) dO) fun jN=>bnd (B5 .add dN jN) fun v21=>bnd (A9 (.c (.p h.length 0)) 7) fun v22=>bnd (A7 (h++[some (Row.mk (c1) true)]) v22) fun v23=>bnd (B5 .add v21 v23) fun v24=>some (v24,(h++[some (Row.mk (c1) true)]))):=by kernel_rfl
theorem B84:FnK Tryz.prog 57 B1J B1N A5D:=.mk2 C9 Tryz.func57 (by kernel_rfl)
def A1e:=tl B1J B1N
theorem C1P:SOk Tryz.prog 57 A1e:=B84.sok
theorem B8o:G0 A5D A1e:=B84.flat
def B1m:ACode:=.ops [aO 41 (.bin .add (.t 15) (.v (.c (.i .i64 1)))),aM 15 41]
def A3T:ACode:=sO [2,7,13,14,15,16] [aO 16 (.bin .lss (.t 15) (.t 14))] (.seq [2,7,13,14,15] (.cond (.t 16) .skip (.exit 0)) (.seq [2,7,13,14,15] (.block 1 (sO [2,7,8,9,13,14,15] [aM 17 15,aO 18 (.iAddrL 257 (.t 13) (.t 15)),aL' 19 257 18,aO 9 (.alloc ([.i .i64 0]++List.replicate 256 (.i .u8 0))),aM 8 17,aN (.storeN 257 (.t 9) (.t 19))] (sO [2,7,9,13,14,15,34] [aM 20 8,aM 21 2,aO 22 (.bin .lss (.t 20) (.t 21)),aM 23 22,aG 24 23 true (.fAddr (.t 9) 0),aG 25 23 true (.load1 (.t 24)),aG 26 23 true (.bin .geq (.t 25) (.v (.c (.i .i64 0)))),aO 27 (.pick (.t 23) (.t 26) (.v (.c (.b false)))),aM 28 27,aG 29 28 true (.fAddr (.t 9) 0),aG 30 28 true (.load1 (.t 29)),gM 31 28 true 7,aG 32 28 true (.len (.t 31)),aG 33 28 true (.bin .lss (.t 30) (.t 32)),aO 34 (.pick (.t 28) (.t 33) (.v (.c (.b false))))] (.cond (.t 34) (.ops [aM 35 7,aF 36 9 0,aL 37 36,aF 38 9 1,aL' 39 256 38,aO 40 (.iAddrL 256 (.t 35) (.t 37)),aN (.storeN 256 (.t 40) (.t 39))]) .skip)))) B1m))
def B1l:ACode:=sO [6] [aM 42 7,aM 6 42] .ret
def zU:AFn:=⟨sO [0,1,2] [aO 6 (.nilrow 256)] (sO [1,2,7] [aO 10 (.buildSl 256 0 ([]) []),aM 11 0,aO 12 (.app 256 (.t 10) (.t 11)),aM 7 12] (.seq [7] (sO [2,7,13,14,15] [aM 13 1,aO 14 (.len (.t 13)),aO 15 (.mv (.v (.c (.i .i64 0))))] (.block 0 (.loop [2,7,13,14,15] A3T))) B1l)),[.tmp 6]⟩
def dQ:E2:=E6
def C2o (n:Nat):KV:=kQ dQ n B1l [7] zU.fin
def B1n (n:Nat):KV:=F6 0 (C2o n)
def vM (n m:Nat) (x2 x7 kN x14 x15:Val):AtH:=ar dQ n A3T [2,7,13,14,15] (B1n n) m [x2,x7,kN,x14,x15]
def A0j:=rx dQ zU
def C2p (n m:Nat):KV:=kL dQ n A3T [2,7,13,14,15] (B1n n) m
def A3U (n m:Nat) (x2 x7 kN x14 x15:Val):AtH:=aj dQ n B1m (C2p n m) [2,7,13,14,15] [x2,x7,kN,x14,x15]
theorem B76 (n:Nat) (a0 a1 a2:Val) (h:A4):A0j n [a0,a1,a2] h=bnd (C7 ([]) []) fun c1=>bnd (W7 ((h++[some (Row.mk ([]) true)])++[some (Row.mk (c1) true)]) 256 (.c (.sl (h++[some (Row.mk ([]) true)]).length 0 0 256)) a0) fun p2=>bnd (O0 a1) fun v3=>vM n n a2 p2.1 a1 v3 (.c (.i .i64 0)) p2.2:=by kernel_rfl
theorem dA (n m:Nat) (x2 x7 kN x14 x15:Val) (h:A4):vM n (m+1) x2 x7 kN x14 x15 h=bnd (B5 .lss x15 x14) fun v4=>cnd v4 (bnd (C4 257 kN x15) fun v5=>bnd (A8 h 257 v5) fun v6=>bnd (B4 (h++[some (Row.mk ([.i .i64 0]++List.replicate 256 (.i .u8 0)) true)]) 257 (.c (.p h.length 0)) v6) fun h7=>bnd (B5 .lss x15 x2) fun v8=>bnd (gd v8 true (bnd (A9 (.c (.p h.length 0)) 0) fun v9=>some (v9,h7)) (some (.no,h7))) fun p10=>bnd (gd v8 true (bnd (A7 p10.2 p10.1) fun v11=>some (v11,p10.2)) (some (.no,p10.2))) fun p12=>bnd (gd v8 true (bnd (B5 .geq p12.1 (.c (.i .i64 0))) fun v13=>some (v13,p12.2)) (some (.no,p12.2))) fun dG=>bnd (F0 v8 dG.1 (.c (.b false))) fun dE=>bnd (gd dE true (bnd (A9 (.c (.p h.length 0)) 0) fun T7=>some (T7,dG.2)) (some (.no,dG.2))) fun xQ=>bnd (gd dE true (bnd (A7 xQ.2 xQ.1) fun dN=>some (dN,xQ.2)) (some (.no,xQ.2))) fun oY=>bnd (gd dE true (some (x7,oY.2)) (some (.no,oY.2))) fun gH=>bnd (gd dE true (bnd (O0 gH.1) fun v21=>some (v21,gH.2)) (some (.no,gH.2))) fun p22=>bnd (gd dE true (bnd (B5 .lss oY.1 p22.1) fun v23=>some (v23,p22.2)) (some (.no,p22.2))) fun fU=>bnd (F0 dE fU.1 (.c (.b false))) fun v25=>cnd v25 (bnd (A9 (.c (.p h.length 0)) 0) fun v26=>bnd (A7 fU.2 v26) fun v27=>bnd (A9 (.c (.p h.length 0)) 1) fun v28=>bnd (A8 fU.2 256 v28) fun v29=>bnd (C4 256 x7 v27) fun v30=>bnd (B4 fU.2 256 v30 v29) fun h31=>A3U n m x2 x7 kN x14 x15 h31) (A3U n m x2 x7 kN x14 x15 fU.2)) (some (x7,h)):=by kernel_rfl
theorem kC (n m:Nat) (x2 x7 kN x14 x15:Val) (h:A4):A3U n m x2 x7 kN x14 x15 h=bnd (B5 .add x15 (.c (.i .i64 1))) fun v32=>vM n m x2 x7 kN x14 v32 h:=by kernel_rfl
theorem B29:FnK Tryz.prog 59 zU dQ A0j:=.mk2 C9 Tryz.func59 (by kernel_rfl)
def qR:=tl zU dQ
theorem B8m:SOk Tryz.prog 59 qR:=B29.sok
theorem B5U:B5h A0j qR:=B29.out
end
end Go.Proofs.YteckncopbicmcaaGreat
namespace Go.Proofs.YteckncopbicmcaaGreat
open Go Go.Esc
section
abbrev Wr:=Int × List UInt8
def wrC (w:Wr):List Cell:=.i .i64 w.1::A5 w.2
def jK (l:List Wr):List Cell:=(l.map wrC).flatten
def okW (l:List Wr):Prop:=∀ w∈l,w.2.length=256
theorem jJ {w:Wr} (h:w.2.length=256):(wrC w).length=257:=by simp [wrC,A6,h]
theorem A5a {w:Wr} {l:List Wr}:jK (w::l)=wrC w++jK l:=rfl
theorem B7S {l m:List Wr}:jK (l++m)=jK l++jK m:=by simp [jK]
theorem jL:∀ {l:List Wr},okW l->(jK l).length=l.length*257
 | [],_=>rfl
 | w::l,h=>by
  rw [A5a,List.length_append,jJ (h w (List.mem_cons_self ..)),jL fun x hx=>h x (List.mem_cons_of_mem _ hx),List.length_cons];omega
theorem C00:∀ (l:List Wr),noX (jK l)=true
 | []=>rfl
 | w::l=>by
  have h1:=C00 l;have h2:=T4 w.2;unfold noX at *;rw [A5a,List.all_append,h1,wrC,List.all_cons,h2];rfl
theorem C0q:∀ {l:List Wr},I9 (jK l)=true
 | []=>rfl
 | w::l=>by
  rw [A5a,rQ,C0q (l:=l),wrC,B2y,C0p];rfl
theorem C88:∀ {l:List Wr} {i:Nat} (h:okW l) (hi:i<l.length),((jK l).drop (i*257)).take 257=wrC l[i]
 | w::l,0,h,_=>by
  have:=jJ (h w (List.mem_cons_self ..));simp only [A5a,Nat.zero_mul,List.drop_zero,List.getElem_cons_zero];rw [List.take_append_of_le_length (by omega),List.take_of_length_le (by omega)]
 | w::l,i+1,h,hi=>by
  have h1:=jJ (h w (List.mem_cons_self ..));have:=C88 (l:=l) (i:=i) (fun x hx=>h x (List.mem_cons_of_mem _ hx)) (by simpa using hi);rw [A5a,show (i+1)*257=257+i*257 by omega,<-List.drop_drop,List.drop_left' h1];simpa using this
def bN:Dev->Dev->Nat->List Wr
 | w::W,d::D,i=>if w=d then bN W D (i+1) else ((i:Int),w)::bN W D (i+1)
 | _,_,_=>[]
theorem C1d:∀ {W D:Dev} {i:Nat},okD W->okW (bN W D i)/\(bN W D i).length<=W.length
 | [],_,_,_=>⟨fun x hx=>by simp [bN] at hx,by simp [bN]⟩
 | _::_,[],_,_=>⟨fun x hx=>by simp [bN] at hx,by simp [bN]⟩
 | w::W,d::D,i,h=>by
  obtain ⟨h1,h2⟩:=C1d (W:=W) (D:=D) (i:=i+1) h.cons.2;unfold bN;split
  ·exact ⟨h1,by simp;omega⟩
  ·exact ⟨fun x hx=>by
    rcases List.mem_cons.1 hx with rfl | hx
    ·exact h.cons.1
    ·exact h1 x hx,by simpa using h2⟩
theorem C5r {a:Int} {b:List UInt8} (hb:b.length=256):C7 ([Cell.i .i64 0]++A5 (zeros 256)) [(0,1,.c (.i .i64 a)),(1,256,.a (A5 b))]=some (wrC (a,b)):=by
 have hl:(A5 b).length=256:=by rw [A6,hb]
 have hz:(A5 (zeros 256)).length=256:=by rw [A6,zeros_length]
 show _=some (.i .i64 a::A5 b);generalize A5 (zeros 256)=z at *;generalize A5 b=y at *;simp only [C7,A8H,C5D];rw [if_pos ⟨rfl,by simp⟩];have e1:lay ([Cell.i .i64 0]++z) 0 [.i .i64 a]=.i .i64 a::z:=by simp [lay]
 rw [e1,if_pos ⟨hl,by simp;omega⟩];have e2:lay (Cell.i .i64 a::z) 1 y=.i .i64 a::y:=by
  simp [lay,hl];omega
 rw [e2]
theorem C2Q {w:Wr} (hb:w.2.length=256):C7 ([Cell.i .i64 0]++A5 (zeros 256)) [(0,257,.a (wrC w))]=some (wrC w):=by
 have hl:=jJ hb;have hz:([Cell.i .i64 0]++A5 (zeros 256)).length=257:=by simp [A6,zeros_length]
 generalize [Cell.i .i64 0]++A5 (zeros 256)=z at *;generalize wrC w=y at *;simp only [C7,A8H];rw [if_pos ⟨hl,by omega⟩,lay_all (by omega)]
section
variable {D W:Dev} {n m:Int} {g:A4} {q:Nat} {x0 x20:Val}
def C89 (v:Val) (id:Nat):Prop:=∀ off n sz,v≠.c (.sl id off n sz)
theorem B36 {h h':A4} {v:Val} {sz n id:Nat} {cs:List Cell} (hv:Has h v sz n cs) (ho:C89 v id) (hk:∀ i r,i≠id->rd h i=some r->rd h' i=some r):Has h' v sz n cs:=by
 rcases hv with hv | ⟨j,off,r,rfl,hr,h2⟩
 ·exact .inl hv
 ·exact .inr ⟨j,off,r,rfl,hk j r (fun e=>ho off n sz (by rw [e])) hr,h2⟩
theorem B37 {h:A4} {v:Val} {sz n id:Nat} {cs:List Cell} (hv:Has h v sz n cs) (hid:h.length<=id):C89 v id:=by
 intro off k s e;rcases hv with ⟨e1,_⟩ | ⟨j,off,r,e1,hr,h2⟩
 ·rw [e1] at e;cases e
 ·rw [e1] at e;cases e;have:=E4 hr;omega
theorem C9Z {b:Nat} {hb:A4} (hD:okD D) (hW:okD W) (hWD:W.length=D.length) (h5:D.length<=1000000) :
  ∀ (e i M:Nat) (l:List Wr) (id:Nat) (h:A4),i+e=W.length->e<M->Low b hb h->b<=id->okW l->l.length<=i->Has h x0 256 D.length (D7 D)->Has h x20 256 W.length (D7 W)->C89 x0 id->C89 x20 id->rd h id=some ⟨jK l,true⟩ ->
  ∃ bP h',A0B q M x0 (.c (.sl id 0 l.length 257)) x20 (.c (.i .i64 (W.length:Nat))) (.c (.i .i64 (i:Int))) h=some (.t [.c (.sl bP 0 (l++bN (W.drop i) (D.drop i) i).length 257),.c (.i .i64 0)],h') /\
   Low b hb h'/\b<=bP/\rd h' bP=some ⟨jK (l++bN (W.drop i) (D.drop i) i),true⟩:=by
 intro e
 induction e with
 | zero =>
  intro i M l id h hi hM hlow hid hl hli h0 h20 n0 n20 hr;obtain ⟨M,rfl⟩:∃ M',M=M'+1:=⟨M-1,by omega⟩;have c0:¬ (i:Int)<(W.length:Nat):=by omega
  have e1:bN (W.drop i) (D.drop i) i=[]:=by rw [List.drop_of_length_le (by omega)];rfl
  rw [e1,List.append_nil];refine ⟨id,h,?_,hlow,hid,hr⟩;rw [yM];simp only [esc,c0]
 | succ e ih =>
  intro i M l id h hi hM hlow hid hl hli h0 h20 n0 n20 hr;obtain ⟨M,rfl⟩:∃ M',M=M'+1:=⟨M-1,by omega⟩;have hiW:i<W.length:=by omega
  have hiD:i<D.length:=by omega
  have c0:(i:Int)<(W.length:Nat):=by omega
  have w1:=E8 (show i+1<9223372036854775808 by omega);obtain ⟨_,_,e1,_,a1,b1⟩:=C8B h20 hW hiW;obtain ⟨G,hG⟩:∃ G,G=h++[some (Row.mk (A5 W[i]) true)]:=⟨_,rfl⟩;have lGh:h.length<=G.length:=by rw [hG];simp
  have hlG:Low b hb G:=by rw [hG];exact hlow.new _
  have h0G:Has G x0 256 D.length (D7 D):=by rw [hG];exact h0.more _
  have h20G:Has G x20 256 W.length (D7 W):=by rw [hG];exact h20.more _
  obtain ⟨_,_,e2,_,a2,b2⟩:=C8B h0G hD hiD;have st:B4 (h++[some (Row.mk (A5 (zeros 256)) true)]) 256 (.c (.p h.length 0)) (.a (A5 W[i]))=some G:=by
   rw [storeAll (cs:=A5 (zeros 256)) (by rw [H5];rfl) (by rw [A6,zeros_length]) (by rw [A6,hW.at hiW]),kJ,hG];rfl
  have lG:A8 G 256 (.c (.p h.length 0))=some (.a (A5 W[i])):=D4 (by rw [hG,H5];rfl) (by rw [A6,hW.at hiW]);have q1:=B9Q (l:=W[i]) (m:=D[i]) (n:=256) (hW.at hiW) (hD.at hiD);have hrG:rd G id=some ⟨jK l,true⟩:=by rw [hG];exact B6 hr
  have hbG:b<=G.length:=by have:=hlG.1;have:=hlG.2.1;omega
  have ed:bN (W.drop i) (D.drop i) i=if W[i]=D[i] then bN (W.drop (i+1)) (D.drop (i+1)) (i+1) else ((i:Int),W[i])::bN (W.drop (i+1)) (D.drop (i+1)) (i+1):=by
   rw [List.drop_eq_getElem_cons hiW,List.drop_eq_getElem_cons hiD];rfl
  by_cases cw:W[i]=D[i]
  ·rw [ed,if_pos cw];rw [decide_eq_true cw] at q1;obtain ⟨bP,h',f1,f2,f3,f4⟩:=ih (i+1) M l id G (by omega) (by omega) hlG hid hl (by omega) h0G h20G n0 n20 hrG;generalize l++bN (W.drop (i+1)) (D.drop (i+1)) (i+1)=P at f1 f4 ⊢;refine ⟨bP,h',?_,f2,f3,f4⟩;rw [yM,F5];generalize A5 W[i]=x at *;generalize A5 D[i]=y at *;generalize A5 (zeros 256)=z at *;simp only [esc,Bool.not_true,c0,a1,b1,st,lG,a2,b2,q1,A66,w1];exact f1
  ·rw [ed,if_neg cw];rw [decide_eq_false cw] at q1;have hwl:((i:Int),W[i]).2.length=256:=hW.at hiW;obtain ⟨h1,p1,p2,p3,p4⟩:=C1g (n:=l.length) (sz:=257) (ys:=wrC ((i:Int),W[i])) hrG (jL hl) (jJ hwl) (by omega) (by omega);have hok:okW (l++[((i:Int),W[i])]):=fun x hx=>by
    rcases List.mem_append.1 hx with hx | hx
    ·exact hl x hx
    ·simp at hx;subst hx;exact hwl
   have ls:(l++[((i:Int),W[i])]).length=l.length+1:=by simp
   obtain ⟨bP,h',f1,f2,f3,f4⟩:=ih (i+1) M (l++[((i:Int),W[i])]) (G.length+1) h1 (by omega) (by omega) (hlG.trans (p4 b hid hbG)) (by omega) hok (by rw [ls];omega) (B36 h0G n0 p3) (B36 h20G n20 p3) (B37 h0G (by omega)) (B37 h20G (by omega)) (by rw [p2,B7S];simp [jK]);rw [ls] at f1;rw [List.append_assoc] at f1 f4;have eP:[((i:Int),W[i])]++bN (W.drop (i+1)) (D.drop (i+1)) (i+1)=((i:Int),W[i])::bN (W.drop (i+1)) (D.drop (i+1)) (i+1):=rfl;rw [eP] at f1 f4;generalize l++((i:Int),W[i])::bN (W.drop (i+1)) (D.drop (i+1)) (i+1)=P at f1 f4 ⊢;refine ⟨bP,h',?_,f2,f3,f4⟩;have ef:=C5r (a:=(i:Int)) (hW.at hiW);have ef2:=C2Q hwl;rw [yM,F5];generalize wrC ((i:Int),W[i])=u at *;generalize A5 W[i]=x at *;generalize A5 D[i]=y at *;generalize A5 (zeros 256)=z at *;simp only [List.cons_append,List.nil_append] at ef ef2;simp only [esc,Bool.not_false,c0,a1,b1,st,lG,a2,b2,q1,ef,ef2,p1,A66,w1];exact f1
theorem C4i {D:Dev} {n:Int} (hD:okD D) (hm:T3 D.length n=true):okD (A86 D n (J0 D n))/\(A86 D n (J0 D n)).length=D.length:=by
 have okf:=B6j hD hm;obtain ⟨_,_,_,n128,_⟩:=N4.1 hm;have h1:=C1i (l:=(J0 D n).blocks) (m:=(J0 D n).made) hD okf.md;have h2:=B6N (e:=(A9G D.length n).toNat) (no:=A1U D.length n) h1.1;have h3:=C0K (n:=n) n128 (l:=(J0 D n).ino) (i:=0) h2.1 fun x hx=>(okf.ino x hx).1
 unfold A86;refine ⟨h3.1.put ?_,by rw [jE,h3.2,h2.2,h1.2]⟩;unfold mZ;rw [eE,zeros_length]
theorem A6k {v:Val} {h:A4} (hv:Has h v 256 D.length (D7 D)) (hD:okD D) (hn:C37 D=true) (hl:D.length<=1000000) :
  dI [v] h=some (.t [.c (.sl h.length 0 (bN (A86 D (B2u D) (J0 D (B2u D))) D 0).length 257),.c (.i .i64 0)],h++[some ⟨jK (bN (A86 D (B2u D) (J0 D (B2u D))) D 0),true⟩]):=by
 have hm:=C5T hn;obtain ⟨W,hWd⟩:∃ W,W=A86 D (B2u D) (J0 D (B2u D)):=⟨_,rfl⟩;have key:∃ id g',A2l (D.length+2) [v] (ro h)=some (.t [.c (.sl id 0 (bN W D 0).length 257),.c (.i .i64 0)],g')/\Out (ro h).length g' (.c (.sl id 0 (bN W D 0).length 257)) 257 (bN W D 0).length (jK (bN W D 0)):=by
  obtain ⟨f,t,hO,hV⟩:=C1y (h:=ro h++[some (Row.mk [] true)]) (hv.ro.more _) hD hn (by omega);obtain ⟨H,hHe⟩:∃ H,H=ro h++[some (Row.mk [] true)]++t:=⟨_,rfl⟩;rw [<-hHe] at hO hV;obtain ⟨n,en⟩:∃ n,n=B2u D:=⟨_,rfl⟩;rw [<-en] at hO hm hWd;generalize D27 D=m at *;have hvH:Has H v 256 D.length (D7 D):=by rw [hHe];exact (hv.ro.more _).more _
  have hS5:B4 (H++[some (Row.mk [.i .i64 0,.i .i64 0,.i .u64 0,.nf] true)]) 4 (.c (.p H.length 0)) (.a (vwC D.length n m f))=some (H++[some (Row.mk (vwC D.length n m f) true)]):=by rw [H7];rfl
  obtain ⟨K,hK⟩:∃ K,K=H++[some (Row.mk (vwC D.length n m f) true),some (Row.mk [] true)]:=⟨_,rfl⟩;have k4:A8 K 4 (.c (.p H.length 0))=some (.a (vwC D.length n m f)):=D4 (by rw [hK,H5];rfl) rfl;have hVK:IsView K f D:=by rw [hK];exact hV.more _
  obtain ⟨cs,t2,hC,hI,C2g⟩:=B7q (h:=K) hD hVK hm;have hq1:=jF (h:=K) (h':=K++t2) (v:=.a cs) ⟨List.prefix_append _ _,fun id x hid hx=>by
   rw [rd_some,List.getElem?_append_right hid] at hx;exact List.all_eq_true.1 C2g _ (List.mem_of_getElem? hx)⟩
  have hIm:=C15 (m:=m) hD (hVK.more t2) hm hI;rw [<-hWd] at hIm;have D1z:okD W/\W.length=D.length:=by rw [hWd];exact C4i hD hm
  obtain ⟨N,hN⟩:∃ N,N=K++t2++[some (Row.mk (D7 W) true)]:=⟨_,rfl⟩;have hq2:=jF (h:=K++t2) (h':=N) (v:=.c (.sl (K++t2).length 0 D.length 256)) (by rw [hN];exact (Grows.rfl').new _);rw [<-hN] at hIm;have h20:Has N (.c (.sl (K++t2).length 0 W.length 256)) 256 W.length (D7 W):=by
   rw [hN];exact Has.tr (by rw [H5];rfl) (F7 D1z.1) (cD _)
  have h0N:Has N v 256 D.length (D7 D):=by rw [hN,hK];exact ((hvH.more _).more _).more _
  have lK:(ro h).length<=H.length:=by rw [hHe];simp only [List.length_append];omega
  have rN:rd N (H.length+1)=some ⟨jK [],true⟩:=by rw [hN,hK];refine B6 (B6 ?_);rw [cG];rfl
  have lN:N.length=H.length+2+t2.length+1:=by rw [hN,hK];simp only [List.length_append,List.length_cons,List.length_nil]
  obtain ⟨bP,h',f1,f2,f3,f4⟩:=C9Z (q:=D.length+2) (b:=(ro h).length) (hb:=N) hD D1z.1 D1z.2 hl W.length 0 (D.length+2) [] (H.length+1) N (by omega) (by omega) (Low.refl (by omega)) (by omega) (fun x hx=>by cases hx) (by simp) h0N h20 (B37 hvH (by omega)) (by
   intro off k s e;simp only [Val.c.injEq,Cell.sl.injEq] at e;have e2:=e.1;rw [hK] at e2;simp only [List.length_append,List.length_cons,List.length_nil] at e2;omega) rN
  rw [List.nil_append,List.drop_zero,List.drop_zero] at f1 f4;refine ⟨bP,h',?_,?_,bP,rfl,f3,f4⟩
  ·rw [B9h];have c00:((0:Nat):Int)=0:=rfl;have l00:([]:List Wr).length=0:=rfl;rw [c00,l00] at f1;have eK:H++[some (Row.mk (vwC D.length n m f) true)]++[some (Row.mk [] true)]=K:=by rw [hK];simp
   rw [D1z.2] at f1;generalize hV':vwC D.length n m f=V at *;simp only [V9,hO,D0B,List.getElem?_cons_zero,List.getElem?_cons_succ,Option.map_some,C6z,C6A,hS5,C5q,eq_self,List.length_append,List.length_cons,List.length_nil,Nat.zero_add];simp only [esc,Nat.reduceAdd,eq_self] at *;simp only [<-hK,k4,hC,hq1,hIm,hq2,V9,A9Q];exact f1
  ·exact jL (C1d D1z.1).1
 obtain ⟨id,g',e,ho⟩:=key;rw [<-hWd];exact B5V e (by rw [I8] at ho;exact ho) C0q rfl
end
end
section
def A3K (n:Int):Dev->Nat->List Wr->Dev
 | D,_,[]=>D
 | D,i,w::l=>A3K n (if (i:Int)<n then nD D w.1 w.2 else D) (i+1) l
theorem C2X {n:Int}:∀ {l:List Wr} {D:Dev} {i:Nat},okD D->okW l->okD (A3K n D i l)/\(A3K n D i l).length=D.length
 | [],D,_,h,_=>⟨h,rfl⟩
 | w::l,D,i,h,hw=>by
  have h1:okD (if (i:Int)<n then nD D w.1 w.2 else D)/\(if (i:Int)<n then nD D w.1 w.2 else D).length=D.length:=by
   split
   ·exact ⟨h.put (hw w (List.mem_cons_self ..)),jE⟩
   ·exact ⟨h,rfl⟩
  obtain ⟨h2,h3⟩:=C2X (l:=l) (i:=i+1) h1.1 fun x hx=>hw x (List.mem_cons_of_mem _ hx)
  exact ⟨h2,h3.trans h1.2⟩
theorem D1r {h:A4} {v:Val} {l:List Wr} (hv:Has h v 257 l.length (jK l)) (hl:okW l) {i:Nat} (hi:i<l.length) :
  ∃ id off,v=.c (.sl id off l.length 257)/\id<h.length/\C4 257 v (.c (.i .i64 (i:Int)))=some (.c (.p id (off+i*257)))/\A8 h 257 (.c (.p id (off+i*257)))=some (.a (wrC l[i])) /\
   A7 h (.c (.p id (off+i*257)))=some (.c (.i .i64 (l[i]).1)):=by
 obtain ⟨id,off,rfl,hid,h1,h2⟩:=hv.sl (by omega);have hat:=C88 hl hi;refine ⟨id,off,rfl,hid,E5 hi,?_,h1 _ _ ?_⟩
 ·rw [h2 (i*257) 257 (by rw [jL hl];omega),hat]
 ·have:(((jK l).drop (i*257)).take 257)[0]?=some (.i .i64 (l[i]).1):=by rw [hat];rfl
  rw [List.getElem?_take_of_lt (by omega),List.getElem?_drop] at this;simpa using this
section
variable {D:Dev} {n:Int} {q:Nat} {kN:Val}
theorem C7f {b:Nat} {hb:A4} {l:List Wr} (hl:okW l) (hll:l.length<=1000000) :
  ∀ (e i M:Nat) (O:Dev) (id:Nat) (h:A4),i+e=l.length->e<M->Low b hb h->b<=id->okD O->Has h kN 257 l.length (jK l)->C89 kN id->rd h id=some ⟨D7 O,true⟩ ->
  ∃ h',vM q M (.c (.i .i64 n)) (.c (.sl id 0 O.length 256)) kN (.c (.i .i64 (l.length:Nat))) (.c (.i .i64 (i:Int))) h=some (.c (.sl id 0 O.length 256),h') /\
   Low b hb h'/\rd h' id=some ⟨D7 (A3K n O i (l.drop i)),true⟩:=by
 intro e
 induction e with
 | zero =>
  intro i M O id h hi hM hlow hid hO h13 n13 hr;obtain ⟨M,rfl⟩:∃ M',M=M'+1:=⟨M-1,by omega⟩;have c0:¬ (i:Int)<(l.length:Nat):=by omega
  have e1:A3K n O i (l.drop i)=O:=by rw [List.drop_of_length_le (by omega)];rfl
  rw [e1];refine ⟨h,?_,hlow,hr⟩;rw [dA];simp only [esc,c0]
 | succ e ih =>
  intro i M O id h hi hM hlow hid hO h13 n13 hr;obtain ⟨M,rfl⟩:∃ M',M=M'+1:=⟨M-1,by omega⟩;have S3:i<l.length:=by omega
  have c0:(i:Int)<(l.length:Nat):=by omega
  have w1:=E8 (show i+1<9223372036854775808 by omega);obtain ⟨_,_,e1,_,a1,b1,_⟩:=D1r h13 hl S3;have hwl:=hl _ (List.getElem_mem S3);obtain ⟨w,ew⟩:∃ w,w=l[i]:=⟨_,rfl⟩;rw [<-ew] at b1 hwl;obtain ⟨G,hG⟩:∃ G,G=h++[some (Row.mk (wrC w) true)]:=⟨_,rfl⟩;have hlG:Low b hb G:=by rw [hG];exact hlow.new _
  have hrG:rd G id=some ⟨D7 O,true⟩:=by rw [hG];exact B6 hr
  have h13G:Has G kN 257 l.length (jK l):=by rw [hG];exact h13.more _
  have hz:([Cell.i .i64 0]++A5 (zeros 256)).length=257:=by simp [A6,zeros_length]
  have st:B4 (h++[some (Row.mk ([Cell.i .i64 0]++A5 (zeros 256)) true)]) 257 (.c (.p h.length 0)) (.a (wrC w))=some G:=by
   rw [storeAll (by rw [H5];rfl) hz (jJ hwl),kJ,hG];rfl
  have rG:rd G h.length=some ⟨wrC w,true⟩:=by rw [hG,H5];rfl
  have l0:A7 G (.c (.p h.length 0))=some (.c (.i .i64 w.1)):=C1 rG rfl rfl;have l1:A8 G 256 (.c (.p h.length 1))=some (.a (A5 w.2)):=by
   rw [T2 rG (by have:=jJ hwl;show 1+256<=(wrC w).length;omega) rfl];show some (Val.a ((A5 w.2).take 256))=_;rw [List.take_of_length_le (by rw [A6,hwl];exact Nat.le_refl _)]
  have eA:A3K n O i (l.drop i)=A3K n (if (i:Int)<n then nD O w.1 w.2 else O) (i+1) (l.drop (i+1)):=by
   rw [List.drop_eq_getElem_cons S3,<-ew];rfl
  rw [eA];by_cases ci:(i:Int)<n
  ·rw [if_pos ci];by_cases c1:0<=w.1
   ·have c1':w.1>=0:=c1;by_cases c2:w.1<(O.length:Nat)
    ·obtain ⟨k,hk⟩:=Int.eq_ofNat_of_zero_le c1;have hkl:k<O.length:=by omega
     have ad:C4 256 (.c (.sl id 0 O.length 256)) (.c (.i .i64 w.1))=some (.c (.p id (k*256))):=by rw [hk,E5 hkl];simp
     have sd:B4 G 256 (.c (.p id (k*256))) (.a (A5 w.2))=some (G.set id (some ⟨D7 (O.set k w.2),true⟩)):=A0N hrG hO hwl hkl;have ep:nD O w.1 w.2=O.set k w.2:=by unfold nD;rw [if_pos ⟨c1,c2⟩,hk];simp
     rw [ep];obtain ⟨h',f1,f2,f3⟩:=ih (i+1) M (O.set k w.2) id (G.set id (some ⟨D7 (O.set k w.2),true⟩)) (by omega) (by omega) (hlG.set hid _) hid (hO.set hwl) (B36 h13G n13 fun j r hj hr=>by rw [B7 (Ne.symm hj)];exact hr) n13 (C8 (E4 hrG));rw [List.length_set] at f1;refine ⟨h',?_,f2,f3⟩;rw [dA,F5];generalize wrC w=u at *;generalize A5 w.2=y at *;generalize A5 (zeros 256)=z at *;simp only [List.cons_append,List.nil_append] at st;simp only [esc,Nat.reduceAdd,c0,a1,b1,st,ci,l0,c1',c2,l1,ad,sd,kC,w1];exact f1
    ·have ep:nD O w.1 w.2=O:=by unfold nD;rw [if_neg (by omega)]
     rw [ep];obtain ⟨h',f1,f2,f3⟩:=ih (i+1) M O id G (by omega) (by omega) hlG hid hO h13G n13 hrG;refine ⟨h',?_,f2,f3⟩;rw [dA,F5];generalize wrC w=u at *;generalize A5 w.2=y at *;generalize A5 (zeros 256)=z at *;simp only [List.cons_append,List.nil_append] at st;simp only [esc,Nat.reduceAdd,c0,a1,b1,st,ci,l0,c1',c2,kC,w1];exact f1
   ·have c1':¬ w.1>=0:=c1;have ep:nD O w.1 w.2=O:=by unfold nD;rw [if_neg (by omega)]
    rw [ep];obtain ⟨h',f1,f2,f3⟩:=ih (i+1) M O id G (by omega) (by omega) hlG hid hO h13G n13 hrG;refine ⟨h',?_,f2,f3⟩;rw [dA,F5];generalize wrC w=u at *;generalize A5 w.2=y at *;generalize A5 (zeros 256)=z at *;simp only [List.cons_append,List.nil_append] at st;simp only [esc,Nat.reduceAdd,c0,a1,b1,st,ci,l0,c1',kC,w1];exact f1
  ·rw [if_neg ci];obtain ⟨h',f1,f2,f3⟩:=ih (i+1) M O id G (by omega) (by omega) hlG hid hO h13G n13 hrG;refine ⟨h',?_,f2,f3⟩;rw [dA,F5];generalize wrC w=u at *;generalize A5 (zeros 256)=z at *;simp only [List.cons_append,List.nil_append] at st;simp only [esc,Nat.reduceAdd,c0,a1,b1,st,ci,kC,w1];exact f1
theorem C2n {v:Val} {h:A4} {l:List Wr} (hv:Has h v 256 D.length (D7 D)) (hD:okD D) (h13:Has h kN 257 l.length (jK l)) (hl:okW l) (hll:l.length<=1000000) (hdl:D.length<=1000000) :
  qR [v,kN,.c (.i .i64 n)] h=some (.c (.sl h.length 0 D.length 256),h++[some ⟨D7 (A3K n D 0 l),true⟩]):=by
 obtain ⟨okA,lenA⟩:=C2X (n:=n) (i:=0) hD hl;obtain ⟨G,hG⟩:∃ G,G=ro h++[some (Row.mk [] true),some (Row.mk [] true)]:=⟨_,rfl⟩;have lG:G.length=(ro h).length+2:=by rw [hG];simp
 have hvG:Has G v 256 D.length (D7 D):=by rw [hG];exact hv.ro.more _
 have h13G:Has G kN 257 l.length (jK l):=by rw [hG];exact h13.ro.more _
 have rI:rd G ((ro h).length+1)=some ⟨[],true⟩:=by rw [hG,cG];rfl
 have ho:Out (ro h).length G (.c (.sl ((ro h).length+1) 0 0 256)) 256 0 []:=⟨rfl,(ro h).length+1,rfl,by omega,rI⟩;obtain ⟨id,v',h1,e1,e2,e3,e4,e5⟩:=ho.app (m:=D.length) (by omega) hvG.add (by rw [F7 hD]) (by omega);rw [Nat.zero_add,List.nil_append] at e3;obtain ⟨_,id1,rfl,i1,i2⟩:=e3;have eid:id=(ro h).length+1:=by cases e1;rfl
 have h13h:Has h1 kN 257 l.length (jK l):=B36 h13G (B37 h13.ro (by omega)) fun j r hj hr=>e5 j r hr hj
 have id1n:id1≠(ro h).length+1\/True:=.inr trivial;have D4C:C89 kN id1:=B37 h13.ro (by omega);obtain ⟨h',f1,f2,f3⟩:=C7f (n:=n) (q:=l.length+1) (b:=(ro h).length) (hb:=h1) hl hll l.length 0 (l.length+1) D id1 h1 (by omega) (by omega) (Low.refl (by have:=e4.2.1;omega)) i1 hD h13h D4C i2;rw [List.drop_zero] at f3;have key:A0j (l.length+1) [v,kN,.c (.i .i64 n)] (ro h)=some (.c (.sl id1 0 D.length 256),h'):=by
  have ef:C7 [] []=some []:=rfl;have ll:=h13G.len;have c00:((0:Nat):Int)=0:=rfl;rw [c00] at f1;rw [B76];simp only [esc,Nat.reduceAdd,ef,<-hG,e2,ll];exact f1
 exact B5U key ⟨by rw [F7 okA,lenA],id1,rfl,by rw [I8] at i1;exact i1,f3⟩ eD
theorem C6o {x:List Int} {h:A4} (hx:x.length=8) (hr:∀ a∈x,0<=a/\a<1000000000):A1e [.a (encI x)] h=some (.c (.i .i64 (x.tail.sum)),h):=by
 match x,hx with
 | [a,b,c,d,e,f,g,i],_ =>
  have ha:=hr a (by simp);have hb:=hr b (by simp);have hc:=hr c (by simp);have hd:=hr d (by simp);have he:=hr e (by simp);have hf:=hr f (by simp);have hg:=hr g (by simp);have hi:=hr i (by simp);have key:∀ k,∃ g',A5D 0 [.a (encI [a,b,c,d,e,f,g,i])] k=some (.c (.i .i64 ([b,c,d,e,f,g,i].sum)),g'):=fun k=>by
   obtain ⟨K,hK⟩:∃ K,K=k++[some (Row.mk (encI [a,b,c,d,e,f,g,i]) true)]:=⟨_,rfl⟩;have rK:rd K k.length=some ⟨encI [a,b,c,d,e,f,g,i],true⟩:=by rw [hK,H5];rfl
   have l8:A8 K 8 (.c (.p k.length 0))=some (.a (encI [a,b,c,d,e,f,g,i])):=D4 rK rfl;have l1:A7 K (.c (.p k.length 1))=some (.c (.i .i64 b)):=C1 rK rfl rfl;have l2:A7 K (.c (.p k.length 2))=some (.c (.i .i64 c)):=C1 rK rfl rfl;have l3:A7 K (.c (.p k.length 3))=some (.c (.i .i64 d)):=C1 rK rfl rfl;have l4:A7 K (.c (.p k.length 4))=some (.c (.i .i64 e)):=C1 rK rfl rfl;have l5:A7 K (.c (.p k.length 5))=some (.c (.i .i64 f)):=C1 rK rfl rfl;have l6:A7 K (.c (.p k.length 6))=some (.c (.i .i64 g)):=C1 rK rfl rfl;have l7:A7 K (.c (.p k.length 7))=some (.c (.i .i64 i)):=C1 rK rfl rfl;have ef:C7 [Cell.i .i64 0,.i .i64 0,.i .i64 0,.i .i64 0,.i .i64 0,.i .i64 0,.i .i64 0,.i .i64 0] []=some (encI [0,0,0,0,0,0,0,0]):=rfl;have eq:=C7a (l:=[a,b,c,d,e,f,g,i]) (m:=[0,0,0,0,0,0,0,0]) (n:=8) rfl rfl;have er:List.replicate 8 (Sh.i .i64)=[Sh.i .i64,.i .i64,.i .i64,.i .i64,.i .i64,.i .i64,.i .i64,.i .i64]:=rfl;rw [er] at eq;have cl:cells? (.a (encI [a,b,c,d,e,f,g,i]))=some (encI [a,b,c,d,e,f,g,i]):=rfl;have w1:IntKind.wrap .i64 (b+c)=b+c:=wrap_i64 (by omega) (by omega);have w2:IntKind.wrap .i64 (b+c+d)=b+c+d:=wrap_i64 (by omega) (by omega);have w3:IntKind.wrap .i64 (b+c+d+e)=b+c+d+e:=wrap_i64 (by omega) (by omega);have w4:IntKind.wrap .i64 (b+c+d+e+f)=b+c+d+e+f:=wrap_i64 (by omega) (by omega);have w5:IntKind.wrap .i64 (b+c+d+e+f+g)=b+c+d+e+f+g:=wrap_i64 (by omega) (by omega);have w6:IntKind.wrap .i64 (b+c+d+e+f+g+i)=b+c+d+e+f+g+i:=wrap_i64 (by omega) (by omega);rw [C1J];by_cases c0:[a,b,c,d,e,f,g,i]=[0,0,0,0,0,0,0,0]
   ·rw [decide_eq_true c0] at eq;simp only [List.cons.injEq,and_true] at c0;obtain ⟨rfl,rfl,rfl,rfl,rfl,rfl,rfl,rfl⟩:=c0;generalize encI [0,0,0,0,0,0,0,0]=X at *;exact ⟨_,by simp only [esc,Nat.reduceAdd,cl,<-hK,l8,ef,eq]<;>rfl⟩
   ·rw [decide_eq_false c0] at eq;have es:[b,c,d,e,f,g,i].sum=b+c+d+e+f+g+i:=by simp;omega
    rw [es];generalize encI [0,0,0,0,0,0,0,0]=X at *;generalize encI [a,b,c,d,e,f,g,i]=Y at *;exact ⟨_,by simp only [esc,Nat.reduceAdd,cl,<-hK,l8,ef,eq,l1,l2,l3,l4,l5,l6,l7,w1,w2,w3,w4,w5,w6]<;>rfl⟩
  obtain ⟨g',e'⟩:=key (ro h);exact B8o e' rfl
end
end
section
def bump (s:List Int) (k:Nat):List Int:=s.set k (s.getD k 0+1)
def BndR (s:List Int) (B:Int):Prop:=s.length=8/\∀ a∈s,0<=a/\a<=B
theorem BndR.mono {s:List Int} {B B':Int} (h:BndR s B) (hb:B<=B'):BndR s B':=⟨h.1,fun a ha=>⟨(h.2 a ha).1,Int.le_trans (h.2 a ha).2 hb⟩⟩
theorem BndR.at {s:List Int} {B:Int} (h:BndR s B) {k:Nat} (hk:k<8):0<=s.getD k 0/\s.getD k 0<=B:=by
 have hl:=h.1;rw [List.getD_eq_getElem?_getD,List.getElem?_eq_getElem (by omega)];exact h.2 _ (List.getElem_mem _)
theorem BndR.bump {s:List Int} {B:Int} (h:BndR s B) {k:Nat} (hk:k<8):BndR (bump s k) (B+1):=by
 refine ⟨by simp [Go.Proofs.YteckncopbicmcaaGreat.bump,h.1],fun a ha=>?_⟩;have hb:=h.at hk;rcases List.mem_or_eq_of_mem_set ha with h1 | h1
 ·have:=h.2 a h1;omega
 ·omega
def C5P:List Int->List Int->List Int->List Int
 | x::a,y::b,s=>C5P a b (if x≠0/\y=0 then bump s 5 else s)
 | _,_,s=>s
def C2D (was now s:List Int):List Int :=
 C5P (was.drop 4) (now.drop 4) (if now.getD 0 0=2/\was.getD 3 0≠now.getD 3 0 then bump (if was.getD 1 0≠now.getD 1 0 then bump s 3 else s) 4 else if was.getD 1 0≠now.getD 1 0 then bump s 3 else s)
def C3h (kd:Int) (s:List Int):List Int:=if kd≠0 then bump s 2 else s
def A7D (D:Dev) (n i:Int):List Int:=kdV D n i::lnV D n i::szV D n i::paV D n i::drV D n i
def B6x (D:Dev) (n:Int) (c:Cl) (s:List Int) (i:Int):List Int:=if i∈c.row then C2D (A7D D n i) (c.ino.getD i.toNat []) s else C3h (kdV D n i) s
def A6d (D:Dev) (n:Int) (c:Cl):Nat->Int->List Int->List Int
 | 0,_,s=>s
 | e+1,i,s=>A6d D n c e (i+1) (B6x D n c s i)
def A36 (used taken:Bool) (s:List Int):List Int:=if taken=true/\used=false then bump s 7 else if taken=false/\used=true then bump s 6 else s
def A23 (D:Dev) (n:Int):List Bool->Nat->List Int->List Int
 | [],_,s=>s
 | t::l,i,s=>A23 D n l (i+1) (A36 (C3N D n (i:Int)) t s)
def B6k (D:Dev) (n:Int):List Int :=
 A23 D n (J0 D n).taken 0 (A6d D n (J0 D n) n.toNat 1 [((bN (A86 D n (J0 D n)) D 0).length:Nat),(J0 D n).lost,0,0,0,0,0,0])
theorem D12 (D:Dev) (n i:Int):encI (A7D D n i)=C0F D n i:=by rw [B4n];rfl
theorem A9y {D:Dev} {n i:Int}:(A7D D n i).length=11:=by simp [A7D,tV]
theorem C3C {D:Dev} {n i:Int}:A7D D n i=zI 11↔kdV D n i=0:=by
 constructor
 ·intro h;have:(A7D D n i).getD 0 0=(zI 11).getD 0 0:=by rw [h]
  simpa [A7D,zI] using this
 ·intro h;have hk:=C8G (D:=D) (n:=n) (i:=i);unfold A7D lnV szV paV drV;rw [h];cases hc:B8w D n i with
  | false=>rfl
  | true =>
   rw [hc,cond_true,h] at hk;have hc2:=hc;unfold B8w rH A6h at hc2;rw [<-hk] at hc2;simp only [Bool.and_eq_true,if_true] at hc2;obtain ⟨_,h1,_⟩:=hc2;unfold C3O at h1;obtain ⟨e1,e2,e3,e4⟩:=of_decide_eq_true h1;simp only [cond_true,e1,e2,e3,e4];rfl
def OnlyR (r:Nat) (h h':A4):Prop:=h.length<=h'.length/\∀ j,j<h.length->j≠r->rd h' j=rd h j
theorem OnlyR.refl (r:Nat) (h:A4):OnlyR r h h:=⟨Nat.le_refl _,fun _ _ _=>rfl⟩
theorem OnlyR.trans {r:Nat} {h h' h'':A4} (a:OnlyR r h h') (b:OnlyR r h' h''):OnlyR r h h'' :=
 ⟨Nat.le_trans a.1 b.1,fun j hj hr=>(b.2 j (by have:=a.1;omega) hr).trans (a.2 j hj hr)⟩
theorem OnlyR.more {r:Nat} {h h':A4} (a:OnlyR r h h') (t:A4):OnlyR r h (h'++t) :=
 ⟨by have:=a.1;simp;omega,fun j hj hr=>by rw [E3 (by have:=a.1;omega)];exact a.2 j hj hr⟩
theorem OnlyR.set {r j:Nat} {h h':A4} {x:Option Row} (a:OnlyR r h h') (hj:j=r\/h.length<=j):OnlyR r h (h'.set j x) :=
 ⟨by simpa using a.1,fun k hk hr=>by rw [B7 (by omega)];exact a.2 k hk hr⟩
section
variable {h:A4} {r:Nat} {s:List Int} {B:Int}
theorem A47 (hr:rd h r=some ⟨encI s,true⟩) (hs:s.length=8) {k:Nat} (hk:k<8):A7 h (.c (.p r k))=some (.c (.i .i64 (s.getD k 0))) :=
 C1 hr (by rw [H9,List.getD_eq_getElem?_getD,List.getElem?_eq_getElem (by omega)];rfl) rfl
theorem A0M (hr:rd h r=some ⟨encI s,true⟩) (hs:s.length=8) {k:Nat} (hk:k<8):D3 h (.c (.p r k)) (.c (.i .i64 (s.getD k 0+1)))=some (h.set r (some ⟨encI (bump s k),true⟩)):=by
 rw [G3 hr (by rw [B9];omega),rP];rfl
theorem D0Z {q ra rb:Nat} {a b:List Int} (ha:a.length=7) (hb:b.length=7):∀ (e i M:Nat) (B:Int) (s:List Int) (h:A4),i+e=7->e<M->BndR s B->B+e<=1000000->rd h r=some ⟨encI s,true⟩->rd h ra=some ⟨encI a,true⟩->rd h rb=some ⟨encI b,true⟩->ra≠r->rb≠r ->
  ∃ h',bM q M (.c (.p r 0)) (.c (.p ra 0)) (.c (.p rb 0)) (.c (.i .i64 (i:Int))) h=some (.t [],h')/\rd h' r=some ⟨encI (C5P (a.drop i) (b.drop i) s),true⟩/\OnlyR r h h'/\BndR (C5P (a.drop i) (b.drop i) s) (B+e):=by
 intro e
 induction e with
 | zero =>
  intro i M B s h hi hM hB hB2 hr h1 h2 n1 n2;obtain ⟨M,rfl⟩:∃ M',M=M'+1:=⟨M-1,by omega⟩;have c0:¬ (i:Int)<7:=by omega
  have e1:C5P (a.drop i) (b.drop i) s=s:=by rw [List.drop_of_length_le (by omega)];rfl
  rw [e1];refine ⟨h,?_,hr,OnlyR.refl r h,hB.mono (by omega)⟩;rw [U8];simp only [esc,c0];rfl
 | succ e ih =>
  intro i M B s h hi hM hB hB2 hr h1 h2 n1 n2;obtain ⟨M,rfl⟩:∃ M',M=M'+1:=⟨M-1,by omega⟩;have hia:i<a.length:=by omega
  have hib:i<b.length:=by omega
  have c0:(i:Int)<7:=by omega
  have w1:=E8 (show i+1<9223372036854775808 by omega);have a1:∀ x,D8 7 1 (.c (.p x 0)) (.c (.i .i64 (i:Int)))=some (.c (.p x i)):=fun x=>by rw [I7 (by omega)];simp
  have la:A7 h (.c (.p ra i))=some (.c (.i .i64 a[i])):=C1 h1 (by rw [H9,List.getElem?_eq_getElem hia];rfl) rfl;have lb:A7 h (.c (.p rb i))=some (.c (.i .i64 b[i])):=C1 h2 (by rw [H9,List.getElem?_eq_getElem hib];rfl) rfl;have ed:C5P (a.drop i) (b.drop i) s=C5P (a.drop (i+1)) (b.drop (i+1)) (if a[i]≠0/\b[i]=0 then bump s 5 else s):=by
   rw [List.drop_eq_getElem_cons hia,List.drop_eq_getElem_cons hib];rfl
  have l5:=A47 hr hB.1 (k:=5) (by omega);have s5:=A0M hr hB.1 (k:=5) (by omega);have h5:=hB.at (k:=5) (by omega);have w5:IntKind.wrap .i64 (s.getD 5 0+1)=s.getD 5 0+1:=wrap_i64 (by omega) (by omega);rw [ed];by_cases ca:a[i]=0
  ·rw [if_neg (fun h=>h.1 ca)];obtain ⟨h',f1,f2,f3,f4⟩:=ih (i+1) M B s h (by omega) (by omega) hB (by omega) hr h1 h2 n1 n2;refine ⟨h',?_,f2,f3,f4.mono (by omega)⟩;rw [U8];simp only [esc,c0,a1,la,ca,dD,w1];exact f1
  ·by_cases cb:b[i]=0
   ·rw [if_pos ⟨ca,cb⟩];obtain ⟨h',f1,f2,f3,f4⟩:=ih (i+1) M (B+1) (bump s 5) _ (by omega) (by omega) (hB.bump (by omega)) (by omega) (C8 (E4 hr)) (by rw [B7 (Ne.symm n1)];exact h1) (by rw [B7 (Ne.symm n2)];exact h2) n1 n2;refine ⟨h',?_,f2,(((OnlyR.refl r h).set (.inl rfl)).trans f3),f4.mono (by omega)⟩;rw [U8];simp only [esc,Nat.reduceAdd,c0,a1,la,ca,lb,cb,l5,w5,s5,dD,w1];exact f1
   ·rw [if_neg (fun h=>cb h.2)];obtain ⟨h',f1,f2,f3,f4⟩:=ih (i+1) M B s h (by omega) (by omega) hB (by omega) hr h1 h2 n1 n2;refine ⟨h',?_,f2,f3,f4.mono (by omega)⟩;rw [U8];simp only [esc,c0,a1,la,ca,lb,cb,dD,w1];exact f1
end
end
section
section
variable {h:A4} {r:Nat} {s:List Int} {B:Int}
theorem A9z {x:List Int} {id:Nat} (hr:rd h id=some ⟨encI x,true⟩) {k:Nat} (hk:k<x.length):A7 h (.c (.p id k))=some (.c (.i .i64 (x.getD k 0))) :=
 C1 hr (by rw [H9,List.getD_eq_getElem?_getD,List.getElem?_eq_getElem hk];rfl) rfl
theorem C0k {x:List Int} (h:x.length=11):J8 [.a (encI x)]=fun h=>some (.a (encI (x.drop 4)),h):=by
 funext h
 rw [C3e (by assumption)];exact jZ (by rw [List.length_drop];omega)
theorem C9G {was now:List Int} (hw:was.length=11) (hn:now.length=11) (hr:rd h r=some ⟨encI s,true⟩) (hB:BndR s B) (hB2:B<=900000) :
  ∃ h',V8 [.c (.p r 0),.a (encI was),.a (encI now)] h=some (.t [],h')/\rd h' r=some ⟨encI (C2D was now s),true⟩/\OnlyR r h h'/\BndR (C2D was now s) (B+9):=by
 have hrl:=E4 hr;obtain ⟨G,hG⟩:∃ G,G=h++[some (Row.mk (encI was) true),some (Row.mk (encI now) true)]:=⟨_,rfl⟩;have lG:G.length=h.length+2:=by rw [hG];simp
 have g0:rd G h.length=some ⟨encI was,true⟩:=by rw [hG,H5];rfl
 have g1:rd G (h.length+1)=some ⟨encI now,true⟩:=by rw [hG,cG];rfl
 have gr:rd G r=some ⟨encI s,true⟩:=by rw [hG];exact B6 hr
 have O1:OnlyR r h G:=by rw [hG];exact (OnlyR.refl r h).more _
 obtain ⟨s1,es1⟩:∃ s1,s1=if was.getD 1 0≠now.getD 1 0 then bump s 3 else s:=⟨_,rfl⟩
 obtain ⟨s2,es2⟩:∃ s2,s2=if now.getD 0 0=2/\was.getD 3 0≠now.getD 3 0 then bump s1 4 else s1:=⟨_,rfl⟩
 have er:C2D was now s=C5P (was.drop 4) (now.drop 4) s2:=by unfold C2D;rw [es2,es1]
 have B1:BndR s1 (B+1):=by
  rw [es1];split
  ·exact hB.bump (by omega)
  ·exact hB.mono (by omega)
 have B2:BndR s2 (B+2):=by
  rw [es2];split
  ·exact (B1.bump (by omega)).mono (by omega)
  ·exact B1.mono (by omega)
 have part3:∀ g,rd g r=some ⟨encI s2,true⟩->rd g h.length=some ⟨encI was,true⟩->rd g (h.length+1)=some ⟨encI now,true⟩->OnlyR r h g ->
   ∃ h',bL 20 (.c (.p r 0)) (.c (.p h.length 0)) (.c (.p (h.length+1) 0)) g=some (.t [],h')/\rd h' r=some ⟨encI (C2D was now s),true⟩/\OnlyR r h h'/\BndR (C2D was now s) (B+9):=by
  intro g q1 q2 q3 q4;have hgl:=E4 q3;have z7:[Cell.i .i64 0,.i .i64 0,.i .i64 0,.i .i64 0,.i .i64 0,.i .i64 0,.i .i64 0]=encI (zI 7):=rfl;have hd1:(encI (was.drop 4)).length=7:=by rw [B9,List.length_drop];omega
  have hd2:(encI (now.drop 4)).length=7:=by rw [B9,List.length_drop];omega
  obtain ⟨K,hK⟩:∃ K,K=g++[some (Row.mk (encI (was.drop 4)) true),some (Row.mk (encI (now.drop 4)) true)]:=⟨_,rfl⟩;obtain ⟨h',f1,f2,f3,f4⟩:=D0Z (r:=r) (q:=20) (ra:=g.length) (rb:=g.length+1) (a:=was.drop 4) (b:=now.drop 4) (by rw [List.length_drop];omega) (by rw [List.length_drop];omega) 7 0 20 (B+2) s2 K (by omega) (by omega) B2 (by omega) (by rw [hK];exact B6 q1) (by rw [hK,H5];rfl) (by rw [hK,cG];rfl) (by have:=E4 q1;omega) (by have:=E4 q1;omega);rw [List.drop_zero,List.drop_zero,<-er] at f2 f4;refine ⟨h',?_,f2,q4.trans (OnlyR.trans (by rw [hK];exact (OnlyR.refl r g).more _) f3),f4.mono (by omega)⟩;have l1:A8 g 11 (.c (.p h.length 0))=some (.a (encI was)):=D4 q2 (by rw [B9,hw]);have l2:A8 g 11 (.c (.p (h.length+1) 0))=some (.a (encI now)):=D4 q3 (by rw [B9,hn]);have n1:=congrFun (C0k hw);have n2:=congrFun (C0k hn);have st1:B4 (g++[some (Row.mk (encI (zI 7)) true),some (Row.mk (encI (zI 7)) true)]) 7 (.c (.p g.length 0)) (.a (encI (was.drop 4)))=some (g++[some (Row.mk (encI (was.drop 4)) true),some (Row.mk (encI (zI 7)) true)]):=by
   rw [storeAll (by rw [H5];rfl) (by rfl) hd1,kJ];rfl
  have st2:B4 (g++[some (Row.mk (encI (was.drop 4)) true),some (Row.mk (encI (zI 7)) true)]) 7 (.c (.p (g.length+1) 0)) (.a (encI (now.drop 4)))=some K:=by
   rw [storeAll (cs:=encI (zI 7)) (by rw [cG];rfl) (by rfl) hd2,A34,hK];rfl
  have c00:((0:Nat):Int)=0:=rfl;rw [c00] at f1;rw [A42,z7];generalize encI was=X at *;generalize encI now=Y at *;generalize encI (was.drop 4)=X' at *;generalize encI (now.drop 4)=Y' at *;generalize encI (zI 7)=Z at *;simp only [esc,Nat.reduceAdd,l1,l2,n1,n2,st1,st2];exact f1
 have part2:∀ g,rd g r=some ⟨encI s1,true⟩->rd g h.length=some ⟨encI was,true⟩->rd g (h.length+1)=some ⟨encI now,true⟩->OnlyR r h g ->
   ∃ h',bK 20 (.c (.p r 0)) (.c (.p h.length 0)) (.c (.p (h.length+1) 0)) g=some (.t [],h')/\rd h' r=some ⟨encI (C2D was now s),true⟩/\OnlyR r h h'/\BndR (C2D was now s) (B+9):=by
  intro g q1 q2 q3 q4;have l0:=A9z q3 (k:=0) (by omega);have l3:=A9z q3 (k:=3) (by omega);have k3:=A9z q2 (k:=3) (by omega);have l4:=A47 q1 B1.1 (k:=4) (by omega);have s4:=A0M q1 B1.1 (k:=4) (by omega);have h4:=B1.at (k:=4) (by omega);have w4:IntKind.wrap .i64 (s1.getD 4 0+1)=s1.getD 4 0+1:=wrap_i64 (by omega) (by omega);by_cases c1:now.getD 0 0=2
  ·by_cases c2:was.getD 3 0=now.getD 3 0
   ·rw [if_neg (fun h=>h.2 c2)] at es2;rw [es2] at part3;obtain ⟨h',f1,f2⟩:=part3 g q1 q2 q3 q4;refine ⟨h',?_,f2⟩;rw [dC];simp only [esc,Nat.reduceAdd,l0,c1,k3,l3,c2];exact f1
   ·rw [if_pos ⟨c1,c2⟩] at es2;have D6H:r≠h.length:=by omega
    have D6I:r≠h.length+1:=by omega
    obtain ⟨h',f1,f2⟩:=part3 (g.set r (some ⟨encI s2,true⟩)) (C8 (E4 q1)) (by rw [B7 D6H];exact q2) (by rw [B7 D6I];exact q3) (q4.set (.inl rfl));rw [es2] at f1;refine ⟨h',?_,f2⟩;rw [dC];simp only [esc,Nat.reduceAdd,l0,c1,k3,l3,c2,l4,w4,s4];exact f1
  ·rw [if_neg (fun h=>c1 h.1)] at es2;rw [es2] at part3;obtain ⟨h',f1,f2⟩:=part3 g q1 q2 q3 q4;refine ⟨h',?_,f2⟩;rw [dC];simp only [esc,Nat.reduceAdd,l0,c1];exact f1
 have l1:=A9z g0 (k:=1) (by omega);have l1':=A9z g1 (k:=1) (by omega);have l3:=A47 gr hB.1 (k:=3) (by omega);have s3:=A0M gr hB.1 (k:=3) (by omega);have h3:=hB.at (k:=3) (by omega);have w3:IntKind.wrap .i64 (s.getD 3 0+1)=s.getD 3 0+1:=wrap_i64 (by omega) (by omega);have cl1:cells? (.a (encI was))=some (encI was):=rfl;have cl2:cells? (.a (encI now))=some (encI now):=rfl;by_cases c1:was.getD 1 0=now.getD 1 0
 ·rw [if_neg (fun h=>h c1)] at es1;rw [es1] at part2;obtain ⟨h',f1,f2⟩:=part2 G gr g0 g1 O1;refine ⟨h',qT (n:=20) ?_,f2⟩;rw [qH];simp only [esc,Nat.reduceAdd,cl1,cl2,<-hG,l1,l1',c1];exact f1
 ·rw [if_pos c1] at es1;obtain ⟨h',f1,f2⟩:=part2 (G.set r (some ⟨encI s1,true⟩)) (C8 (E4 gr)) (by rw [B7 (by omega)];exact g0) (by rw [B7 (by omega)];exact g1) (O1.set (.inl rfl));rw [es1] at f1;refine ⟨h',qT (n:=20) ?_,f2⟩;rw [qH];simp only [esc,Nat.reduceAdd,cl1,cl2,<-hG,l1,l1',c1,l3,w3,s3];exact f1
end
end
section
theorem C0L {g h:A4} {cs:List Cell} {c:Cl} (hc:IsCl g cs c) (hl:Low g.length g h):IsCl h cs c:=by
 obtain ⟨xr,xi,xt,xb,xm,e,h1,h2,h3,h4,h5⟩:=hc.form;exact ⟨xr,xi,xt,xb,xm,e,h1.since hl,h2.since hl,h3.since hl,h4.since hl,h5.since hl⟩
theorem OnlyR.low {g h h':A4} {r:Nat} (hl:Low g.length g h) (ho:OnlyR r h h') (hr:g.length<=r):Low g.length g h' :=
 ⟨hl.1,Nat.le_trans hl.2.1 ho.1,fun j hj=>(ho.2 j (by have:=hl.2.1;omega) (by omega)).trans (hl.2.2 j hj)⟩
section
variable {D:Dev} {n m:Int} {f:Cell} {g:A4} {q p0 pv pc r:Nat} {cs:List Cell} {c:Cl}
theorem D01 (hD:okD D) (hv:IsView g f D) (hn:n<=128) (rv:rd g pv=some ⟨vwC D.length n m f,true⟩) (rc:rd g pc=some ⟨cs,true⟩) (hc:IsCl g cs c) (hrow:c.row.length<=1000) (S3:∀ x∈c.ino,x.length=11) (hin:c.ino.length=(n+1).toNat) (hgr:g.length<=r) :
  ∀ (e:Nat) (i:Int) (M:Nat) (B:Int) (s:List Int) (h:A4),i+e=n+1->1<=i->e<M->BndR s B->B+9*e<=900000->rd h r=some ⟨encI s,true⟩->Low g.length g h ->
  ∃ h' M',nA q M (.c (.p p0 0)) (.c (.p pv 0)) (.c (.p pc 0)) (.c (.p r 0)) (.c (.i .i64 i)) h=nA q (M'+1) (.c (.p p0 0)) (.c (.p pv 0)) (.c (.p pc 0)) (.c (.p r 0)) (.c (.i .i64 (n+1))) h' /\
   rd h' r=some ⟨encI (A6d D n c e i s),true⟩/\Low g.length g h'/\BndR (A6d D n c e i s) (B+9*e):=by
 intro e
 induction e with
 | zero =>
  intro i M B s h hi h1 hM hB hB2 hr hl;obtain ⟨M,rfl⟩:∃ M',M=M'+1:=⟨M-1,by omega⟩;have ei:i=n+1:=by omega
  subst ei;exact ⟨h,M,rfl,hr,hl,hB.mono (by omega)⟩
 | succ e ih =>
  intro i M B s h hi h1 hM hB hB2 hr hl;obtain ⟨M,rfl⟩:∃ M',M=M'+1:=⟨M-1,by omega⟩;have c0:i<=n:=by omega
  have w1:IntKind.wrap .i64 (i+1)=i+1:=wrap_i64 (by omega) (by omega);have hrl:=E4 hr;have lv1:A7 h (.c (.p pv 1))=some (.c (.i .i64 n)):=C1 (hl.rd rv) rfl rfl;have lv4:A8 h 4 (.c (.p pv 0))=some (.a (vwC D.length n m f)):=D4 (hl.rd rv) rfl;have hI:=nE (n:=n) (m:=m) (i:=i) (h:=h) hD (hv.since hl);rw [<-D12] at hI;have hIl:(encI (A7D D n i)).length=11:=by rw [B9,A9y]
  obtain ⟨G,hG⟩:∃ G,G=h++[some (Row.mk (encI (A7D D n i)) true)]:=⟨_,rfl⟩;have hlG:Low g.length g G:=by rw [hG];exact hl.new _
  have OG:OnlyR r h G:=by rw [hG];exact (OnlyR.refl r h).more _
  have z11:[Cell.i .i64 0,.i .i64 0,.i .i64 0,.i .i64 0,.i .i64 0,.i .i64 0,.i .i64 0,.i .i64 0,.i .i64 0,.i .i64 0,.i .i64 0]=encI (zI 11):=rfl;have st:B4 (h++[some (Row.mk (encI (zI 11)) true)]) 11 (.c (.p h.length 0)) (.a (encI (A7D D n i)))=some G:=by
   rw [storeAll (by rw [H5];rfl) (by rfl) hIl,kJ,hG];rfl
  have rG:rd G r=some ⟨encI s,true⟩:=by rw [hG];exact B6 hr
  have lI:A8 G 11 (.c (.p h.length 0))=some (.a (encI (A7D D n i))):=D4 (by rw [hG,H5];rfl) hIl;have hcG:=C0L hc hlG;have xW:cs.length=6:=by obtain ⟨_,_,_,_,_,rfl,_⟩:=hc.form;rfl
  have lc6:A8 G 6 (.c (.p pc 0))=some (.a cs):=D4 (hlG.rd rc) xW;have hK:=C16 (a:=i) hcG hrow;have es:A6d D n c (e+1) i s=A6d D n c e (i+1) (B6x D n c s i):=rfl;rw [es];by_cases hk:i∈c.row
  ·rw [decide_eq_true hk] at hK;have e1:B6x D n c s i=C2D (A7D D n i) (c.ino.getD i.toNat []) s:=by unfold B6x;rw [if_pos hk]
   rw [e1];have hit:i.toNat<c.ino.length:=by rw [hin];omega
   obtain ⟨xr,xi,xt,xb,xm,ecs,_,hxi,_⟩:=hcG.form;obtain ⟨ii,oi,ei,_,_,hC⟩:=hxi.sl (by omega);cases ei;have lc1:A7 G (.c (.p pc 1))=some (.c (.sl ii oi c.ino.length 11)):=C1 (hlG.rd rc) (by rw [ecs];rfl) (by rfl);have ei:(i:Int)=((i.toNat:Nat):Int):=by omega
   have ad:C4 11 (.c (.sl ii oi c.ino.length 11)) (.c (.i .i64 i))=some (.c (.p ii (oi+i.toNat*11))):=by
    conv=>lhs;rw [ei]
    exact E5 hit
   have eg:c.ino.getD i.toNat []=c.ino[i.toNat]:=by rw [List.getD_eq_getElem?_getD,List.getElem?_eq_getElem hit];rfl
   have ln:A8 G 11 (.c (.p ii (oi+i.toNat*11)))=some (.a (encI (c.ino.getD i.toNat []))):=by
    rw [hC (i.toNat*11) 11 (by rw [kB S3];omega),C0J S3 hit,eg]
   obtain ⟨h1',r1,r2,r3,r4⟩:=C9G (was:=A7D D n i) (now:=c.ino.getD i.toNat []) A9y (by rw [eg];exact S3 _ (List.getElem_mem hit)) rG hB (by omega);obtain ⟨h',M',f1,f2,f3,f4⟩:=ih (i+1) M (B+9) _ h1' (by omega) (by omega) (by omega) r4 (by omega) r2 (r3.low hlG hgr);refine ⟨h',M',?_,f2,f3,f4.mono (by omega)⟩;rw [kE,z11];generalize encI (A7D D n i)=X at *;generalize encI (c.ino.getD i.toNat [])=Y at *;generalize encI (zI 11)=Z at *;generalize vwC D.length n m f=V at *;simp only [esc,Nat.reduceAdd,lv1,c0,lv4,hI,st,lc6,hK,lI,lc1,ad,ln,r1,uD,w1];exact f1
  ·rw [decide_eq_false hk] at hK;have e1:B6x D n c s i=C3h (kdV D n i) s:=by unfold B6x;rw [if_neg hk]
   rw [e1];have er:List.replicate 11 (Sh.i .i64)=[Sh.i .i64,.i .i64,.i .i64,.i .i64,.i .i64,.i .i64,.i .i64,.i .i64,.i .i64,.i .i64,.i .i64]:=rfl;have q1:=D0A (l:=A7D D n i) (m:=zI 11) (n:=11) A9y (by rfl);rw [er] at q1;have ef:C7 (encI (zI 11)) []=some (encI (zI 11)):=rfl;have l2:=A47 rG hB.1 (k:=2) (by omega);have s2:=A0M rG hB.1 (k:=2) (by omega);have b2:=hB.at (k:=2) (by omega);have w2:IntKind.wrap .i64 (s.getD 2 0+1)=s.getD 2 0+1:=wrap_i64 (by omega) (by omega);by_cases hz:kdV D n i=0
   ·have e2:C3h (kdV D n i) s=s:=by unfold C3h;rw [if_neg (by simp [hz])]
    rw [e2];rw [decide_eq_true (C3C.2 hz)] at q1;obtain ⟨h',M',f1,f2,f3,f4⟩:=ih (i+1) M B s G (by omega) (by omega) (by omega) hB (by omega) rG hlG;refine ⟨h',M',?_,f2,f3,f4.mono (by omega)⟩;rw [kE,z11];generalize encI (A7D D n i)=X at *;generalize encI (zI 11)=Z at *;generalize vwC D.length n m f=V at *;simp only [esc,Bool.not_true,Nat.reduceAdd,lv1,c0,lv4,hI,st,lc6,hK,lI,ef,q1,uD,w1];exact f1
   ·have e2:C3h (kdV D n i) s=bump s 2:=by unfold C3h;rw [if_pos hz]
    rw [e2];rw [decide_eq_false (fun h=>hz (C3C.1 h))] at q1;obtain ⟨h',M',f1,f2,f3,f4⟩:=ih (i+1) M (B+1) _ (G.set r (some ⟨encI (bump s 2),true⟩)) (by omega) (by omega) (by omega) (hB.bump (by omega)) (by omega) (C8 (E4 rG)) (hlG.set hgr _);refine ⟨h',M',?_,f2,f3,f4.mono (by omega)⟩;rw [kE,z11];generalize encI (A7D D n i)=X at *;generalize encI (zI 11)=Z at *;generalize vwC D.length n m f=V at *;simp only [esc,Bool.not_false,Nat.reduceAdd,lv1,c0,lv4,hI,st,lc6,hK,lI,ef,q1,l2,w2,s2,uD,w1];exact f1
theorem D02 {T:List Bool} {xt:Cell} (hD:okD D) (hv:IsView g f D) (rv:rd g pv=some ⟨vwC D.length n m f,true⟩) (hT:Has g (.c xt) 1 T.length (bD T)) (hTl:T.length<=100000) (hgr:g.length<=r) (hp0:p0<g.length) {z8:List Cell} (r0:rd g p0=some ⟨z8,true⟩) (hz8:z8.length=8) :
  ∀ (e i M:Nat) (B:Int) (s:List Int) (h:A4),i+e=T.length->e<M->BndR s B->B+e<=10000000->rd h r=some ⟨encI s,true⟩->Low g.length g h ->
  ∃ h',vP q M (.c (.p p0 0)) (.c (.p pv 0)) (.c (.p r 0)) (.c xt) (.c (.i .i64 (T.length:Nat))) (.c (.i .i64 (i:Int))) h=some (.t [.a (encI (A23 D n (T.drop i) i s)),.c (.i .i64 0)],h')/\BndR (A23 D n (T.drop i) i s) (B+e):=by
 intro e
 induction e with
 | zero =>
  intro i M B s h hi hM hB hB2 hr hl;obtain ⟨M,rfl⟩:∃ M',M=M'+1:=⟨M-1,by omega⟩;have c0:¬ (i:Int)<(T.length:Nat):=by omega
  have e1:A23 D n (T.drop i) i s=s:=by rw [List.drop_of_length_le (by omega)];rfl
  rw [e1];have l8:A8 h 8 (.c (.p r 0))=some (.a (encI s)):=D4 hr (by rw [B9,hB.1]);have s8:B4 h 8 (.c (.p p0 0)) (.a (encI s))=some (h.set p0 (some ⟨encI s,true⟩)):=storeAll (hl.rd r0) hz8 (by rw [B9,hB.1]);have k8:A8 (h.set p0 (some ⟨encI s,true⟩)) 8 (.c (.p p0 0))=some (.a (encI s)):=D4 (C8 (by have:=hl.2.1;omega)) (by rw [B9,hB.1]);refine ⟨h.set p0 (some ⟨encI s,true⟩),?_,hB.mono (by omega)⟩;rw [dB];simp only [esc,c0,l8,s8,k8]
 | succ e ih =>
  intro i M B s h hi hM hB hB2 hr hl;obtain ⟨M,rfl⟩:∃ M',M=M'+1:=⟨M-1,by omega⟩;have S3:i<T.length:=by omega
  have c0:(i:Int)<(T.length:Nat):=by omega
  have w1:=E8 (show i+1<9223372036854775808 by omega);obtain ⟨ii,oi,ei,_,hA,_⟩:=(hT.since hl).sl (by omega);cases ei;have a1:C4 1 (.c (.sl ii oi T.length 1)) (.c (.i .i64 (i:Int)))=some (.c (.p ii (oi+i))):=by rw [E5 S3];simp
  have a2:A7 h (.c (.p ii (oi+i)))=some (.c (.b T[i])):=hA i _ (by simp [bD,S3]);have lv4:A8 h 4 (.c (.p pv 0))=some (.a (vwC D.length n m f)):=D4 (hl.rd rv) rfl;have hU:=C5e (n:=n) (m:=m) (i:=(i:Int)) (h:=h) hD (hv.since hl);have ed:A23 D n (T.drop i) i s=A23 D n (T.drop (i+1)) (i+1) (A36 (C3N D n (i:Int)) T[i] s):=by rw [List.drop_eq_getElem_cons S3];rfl
  have l7:=A47 hr hB.1 (k:=7) (by omega);have s7:=A0M hr hB.1 (k:=7) (by omega);have b7:=hB.at (k:=7) (by omega);have w7:IntKind.wrap .i64 (s.getD 7 0+1)=s.getD 7 0+1:=wrap_i64 (by omega) (by omega);have l6:=A47 hr hB.1 (k:=6) (by omega);have s6:=A0M hr hB.1 (k:=6) (by omega);have b6:=hB.at (k:=6) (by omega);have w6:IntKind.wrap .i64 (s.getD 6 0+1)=s.getD 6 0+1:=wrap_i64 (by omega) (by omega);rw [ed];generalize C3N D n (i:Int)=u at *;cases hb:T[i] with
  | true =>
   rw [hb] at a2;cases u with
   | true =>
    have e1:A36 true true s=s:=by simp [A36]
    rw [e1];obtain ⟨h',f1,f2⟩:=ih (i+1) M B s h (by omega) (by omega) hB (by omega) hr hl;refine ⟨h',?_,f2.mono (by omega)⟩;rw [dB];generalize vwC D.length n m f=V at *;simp only [esc,Nat.reduceAdd,c0,a1,a2,lv4,hU,kD,w1];exact f1
   | false =>
    have e1:A36 false true s=bump s 7:=by simp [A36]
    rw [e1];obtain ⟨h',f1,f2⟩:=ih (i+1) M (B+1) _ (h.set r (some ⟨encI (bump s 7),true⟩)) (by omega) (by omega) (hB.bump (by omega)) (by omega) (C8 (E4 hr)) (hl.set hgr _);refine ⟨h',?_,f2.mono (by omega)⟩;rw [dB];generalize vwC D.length n m f=V at *;simp only [esc,Bool.not_false,Nat.reduceAdd,c0,a1,a2,lv4,hU,l7,w7,s7,kD,w1];exact f1
  | false =>
   rw [hb] at a2;cases u with
   | true =>
    have e1:A36 true false s=bump s 6:=by simp [A36]
    rw [e1];obtain ⟨h',f1,f2⟩:=ih (i+1) M (B+1) _ (h.set r (some ⟨encI (bump s 6),true⟩)) (by omega) (by omega) (hB.bump (by omega)) (by omega) (C8 (E4 hr)) (hl.set hgr _);refine ⟨h',?_,f2.mono (by omega)⟩;rw [dB];generalize vwC D.length n m f=V at *;simp only [esc,Bool.not_false,Nat.reduceAdd,c0,a1,a2,lv4,hU,l6,w6,s6,kD,w1];exact f1
   | false =>
    have e1:A36 false false s=s:=by simp [A36]
    rw [e1];obtain ⟨h',f1,f2⟩:=ih (i+1) M B s h (by omega) (by omega) hB (by omega) hr hl;refine ⟨h',?_,f2.mono (by omega)⟩;rw [dB];generalize vwC D.length n m f=V at *;simp only [esc,Bool.not_false,Nat.reduceAdd,c0,a1,a2,lv4,hU,kD,w1];exact f1
theorem C2u {v:Val} {h:A4} (hv:Has h v 256 D.length (D7 D)) (hD:okD D) (hn:C37 D=true) (hl:D.length<=1000) :
  qS [v] h=some (.t [.a (encI (B6k D (B2u D))),.c (.i .i64 0)],h)/\BndR (B6k D (B2u D)) 1000000:=by
 have hm:=C5T hn;obtain ⟨n,en⟩:∃ n,n=B2u D:=⟨_,rfl⟩;obtain ⟨P,hP⟩:∃ P,P=bN (A86 D n (J0 D n)) D 0:=⟨_,rfl⟩;rw [<-en] at hm ⊢;obtain ⟨b16,b512,n8,n128,_,_⟩:=N4.1 hm;have okf:=B6j hD hm;obtain ⟨fR,fS,fil,fin,ftl⟩:=A5Z hD hm;have D7b:(J0 D n).lost=(bW D n).lost:=(A2T (L:=(bW D n).row) (c:=bW D n)).2.2.2.2.1;have D5L:(J0 D n).row=(bW D n).row:=(A2T (L:=(bW D n).row) (c:=bW D n)).1;have hPl:P.length<=D.length:=by
  have h1:=(C1d (W:=A86 D n (J0 D n)) (D:=D) (i:=0) (C4i hD hm).1).2;rw [(C4i hD hm).2] at h1;rw [hP];exact h1
 obtain ⟨s0,hs0⟩:∃ s0:List Int,s0=[((P.length:Nat):Int),(J0 D n).lost,0,0,0,0,0,0]:=⟨_,rfl⟩;have B0:BndR s0 30000:=by
  rw [hs0];refine ⟨rfl,fun a ha=>?_⟩;have:=fS.lost0;have:=fS.lost;simp only [List.mem_cons,List.not_mem_nil,or_false] at ha;rcases ha with rfl | rfl | rfl | rfl | rfl | rfl | rfl | rfl<;>omega
 have z8:[Cell.i .i64 0,.i .i64 0,.i .i64 0,.i .i64 0,.i .i64 0,.i .i64 0,.i .i64 0,.i .i64 0]=encI (zI 8):=rfl;obtain ⟨G,hG⟩:∃ G,G=ro h++[some (Row.mk (encI (zI 8)) true)]:=⟨_,rfl⟩;have hvG:Has G v 256 D.length (D7 D):=by rw [hG];exact hv.ro.more _
 have D4r:=A6k hvG hD hn (by omega);rw [<-en,<-hP] at D4r;obtain ⟨G2,hG2⟩:∃ G2,G2=G++[some (Row.mk (jK P) true)]:=⟨_,rfl⟩;rw [<-hG2] at D4r;obtain ⟨f,t,hO,hV⟩:=C1y (h:=G2) (by rw [hG2];exact hvG.more _) hD hn (by omega);obtain ⟨H,hHe⟩:∃ H,H=G2++t:=⟨_,rfl⟩;rw [<-hHe] at hO hV;rw [<-en] at hO;generalize D27 D=m at *;have hS5:B4 (H++[some (Row.mk [.i .i64 0,.i .i64 0,.i .u64 0,.nf] true)]) 4 (.c (.p H.length 0)) (.a (vwC D.length n m f))=some (H++[some (Row.mk (vwC D.length n m f) true)]):=by rw [H7];rfl
 obtain ⟨K,hK⟩:∃ K,K=H++[some (Row.mk (vwC D.length n m f) true)]:=⟨_,rfl⟩;rw [<-hK] at hS5;have k4:A8 K 4 (.c (.p H.length 0))=some (.a (vwC D.length n m f)):=D4 (by rw [hK,H5];rfl) rfl;have rvK:rd K H.length=some ⟨vwC D.length n m f,true⟩:=by rw [hK,H5];rfl
 have hVK:IsView K f D:=by rw [hK];exact hV.more _
 obtain ⟨cs,t2,hC,hI,_⟩:=B7q (m:=m) (h:=K) hD hVK hm;obtain ⟨L,hL⟩:∃ L,L=K++t2:=⟨_,rfl⟩;rw [<-hL] at hC hI;have xW:cs.length=6:=by obtain ⟨_,_,_,_,_,rfl,_⟩:=hI.form;rfl
 obtain ⟨Q,hQ⟩:∃ Q,Q=L++[some (Row.mk cs true)]:=⟨_,rfl⟩;have hS6:B4 (L++[some (Row.mk [.ns,.ns,.ns,.ns,.ns,.i .i64 0] true)]) 6 (.c (.p L.length 0)) (.a cs)=some Q:=by
  rw [storeAll (n:=6) (cs:=[.ns,.ns,.ns,.ns,.ns,.i .i64 0]) (by rw [H5];rfl) rfl xW,kJ,hQ];rfl
 have rcQ:rd Q L.length=some ⟨cs,true⟩:=by rw [hQ,H5];rfl
 have rvQ:rd Q H.length=some ⟨vwC D.length n m f,true⟩:=by rw [hQ,hL];exact B6 (B6 rvK)
 have hVQ:IsView Q f D:=by rw [hQ,hL];exact (hVK.more _).more _
 have hIQ:IsCl Q cs (J0 D n):=C0L hI (by rw [hQ];exact (Low.refl (Nat.le_refl _)).new _);obtain ⟨xr,xi,xt,xb,xm,ecs,_,_,hxt,_⟩:=hIQ.form;have lc5:A7 Q (.c (.p L.length 5))=some (.c (.i .i64 (J0 D n).lost)):=C1 rcQ (by rw [ecs];rfl) rfl;have ef:C7 (encI (zI 8)) [(0,1,.c (.i .i64 (P.length:Nat))),(1,1,.c (.i .i64 (J0 D n).lost))]=some (encI s0):=by rw [hs0];rfl
 have s8:B4 (Q++[some (Row.mk (encI (zI 8)) true)]) 8 (.c (.p Q.length 0)) (.a (encI s0))=some (Q++[some (Row.mk (encI s0) true)]):=by
  rw [storeAll (by rw [H5];rfl) (by rfl) (by rw [B9,B0.1]),kJ];rfl
 have p0Q:rd Q (ro h).length=some ⟨encI (zI 8),true⟩:=by
  rw [hQ,hL,hK,hHe,hG2,hG];refine B6 (B6 (B6 (B6 (B6 ?_))));rw [H5];rfl
 have low0:Low Q.length Q (Q++[some (Row.mk (encI s0) true)]):=(Low.refl (Nat.le_refl _)).new _;obtain ⟨h1,M1,f1,f2,f3,f4⟩:=D01 (q:=100000) (p0:=(ro h).length) hD hVQ n128 rvQ rcQ hIQ (by rw [D5L];have:=fS.row;omega) fil fin (Nat.le_refl _) n.toNat 1 100000 30000 s0 (Q++[some (Row.mk (encI s0) true)]) (by omega) (by omega) (by omega) B0 (by omega) (by rw [H5];rfl) low0;obtain ⟨h2,u1,u2⟩:=D02 (q:=100000) (p0:=(ro h).length) (r:=Q.length) (pv:=H.length) hD hVQ rvQ hxt (by rw [ftl];omega) (Nat.le_refl _) (by have:=E4 p0Q;omega) p0Q (by rfl) (J0 D n).taken.length 0 100000 _ _ h1 (by omega) (by rw [ftl];omega) f4 (by rw [ftl];omega) f2 f3;rw [List.drop_zero] at u1 u2;have ec:A23 D n (J0 D n).taken 0 (A6d D n (J0 D n) n.toNat 1 s0)=B6k D n:=by unfold B6k;rw [hs0,hP]
 rw [ec] at u1 u2;refine ⟨?_,u2.mono (by rw [ftl];omega)⟩;have key:A0k 100000 [v] (ro h)=some (.t [.a (encI (B6k D n)),.c (.i .i64 0)],h2):=by
  have lt2:A7 h1 (.c (.p L.length 2))=some (.c xt):=C1 (f3.rd rcQ) (by rw [ecs];rfl) rfl;have ltl:=(hxt.since f3).len;have lv1:A7 h1 (.c (.p H.length 1))=some (.c (.i .i64 n)):=C1 (f3.rd rvQ) rfl rfl;have cn:¬ n+1<=n:=by omega
  have c00:((0:Nat):Int)=0:=rfl;rw [c00] at u1;rw [B77,z8];generalize encI (zI 8)=Z at *;generalize vwC D.length n m f=V at *;generalize encI s0=S0 at *;simp only [esc,Nat.reduceAdd,<-hG,D4r,hO,hS5,k4,hC,hS6,lc5,ef,s8,eq_self];refine f1.trans ?_;rw [kE];simp only [esc,Nat.reduceAdd,lv1,cn,lt2,ltl];exact u1
 exact B3D key (by simp [Val.flat,Cell.flat])
end
end
end Go.Proofs.YteckncopbicmcaaGreat
namespace Go.Proofs.YteckncopbicmcaaGreat
open Go Go.Esc
set_option maxRecDepth 100000
noncomputable section
def B1G:AFn:=⟨sO [0] [aO 2 (.mv (.v (.c .np)))] (sO [0] [aM 3 0,aO 4 (.min (.t 3) (.v (.c (.i .i64 512)))),aO 5 (.max (.v (.c (.i .i64 16))) (.t 4)),aM 0 5] (sO [2] [aM 6 0,aO 7 (.mkSl 256 (List.replicate 256 (.i .u8 0)) (.t 6) (.t 6)),aO 8 (.build ([.ns,.i .i64 0,.b false,.b false,.i .i64 0,.i .i64 0]) [(0,1,(.t 7))]),aB 9 8,aM 2 9] .ret)),[.tmp 2]⟩
def B1K:E2:=E6
def B1Q:=rx B1K B1G
theorem C1F (n:Nat) (a0:Val) (h:A4):B1Q n [a0] h=bnd (A7r a0 (.c (.i .i64 512))) fun v1=>bnd (B6b (.c (.i .i64 16)) v1) fun v2=>bnd (A8x v2 v2) fun n3=>bnd (C7 ([.ns,.i .i64 0,.b false,.b false,.i .i64 0,.i .i64 0]) [(0,1,(.c (.sl h.length 0 n3 256)))]) fun c4=>bnd (cells? (.a c4)) fun c5=>some ((.c (.p (h++[some (Row.mk (rows (List.replicate 256 (.i .u8 0)) n3) true)]).length 0)),((h++[some (Row.mk (rows (List.replicate 256 (.i .u8 0)) n3) true)])++[some (Row.mk (c5) true)])):=by kernel_rfl
theorem B80:FnK Tryz.prog 229 B1G B1K B1Q:=.mk2 C9 Tryz.func229 (by kernel_rfl)
def A1b:=Lim B1G B1K
theorem C1N:SOk Tryz.prog 229 A1b:=B80.ok
theorem C1M:OfT B1Q A1b:=B80.of
def tE:AFn:=⟨sO [0] [aO 2 (.mv (.v (.c (.i .i64 0))))] (.seq [0] (sO [0,4] [aM 3 0,aO 4 (.eqN false false (.t 3))] (.cond (.t 4) (sO [2] [aO 2 (.mv (.v (.c (.i .i64 0))))] .ret) .skip)) (sO [2] [aM 5 0,aO 6 (.nilc (.t 5)),aF 7 6 0,aL 8 7,aO 9 (.len (.t 8)),aM 2 9] .ret)),[.tmp 2]⟩
def tI:E2:=E6
def jP:=rx tI tE
theorem A96 (n:Nat) (a0:Val) (h:A4):jP n [a0] h=bnd (B0k false false a0) fun v1=>cnd v1 (some ((.c (.i .i64 0)),h)) (bnd (I5 a0) fun v2=>bnd (A9 v2 0) fun v3=>bnd (A7 h v3) fun v4=>bnd (O0 v4) fun v5=>some (v5,h)):=by kernel_rfl
theorem A4f:FnK Tryz.prog 254 tE tI jP:=.mk2 C9 Tryz.func254 (by kernel_rfl)
def R5:=tl tE tI
theorem yT:SOk Tryz.prog 254 R5:=A4f.sok
theorem A7n:G0 jP R5:=A4f.flat
def yA:AFn:=⟨sO [0,1] [aO 4 (.mv (.v (.c (.i .i64 0))))] (.seq [] (.block 0 (sO [0,1,5] [aM 6 0,aO 7 (.eqN false false (.t 6)),aM 5 7] (.cond (.t 5) (sO [4] [aO 4 (.mv (.v (.c (.i .i64 1))))] .ret) (sO [0,1,8] [aM 9 0,aO 10 (.nilc (.t 9)),aF 11 10 3,aL 12 11,aM 8 12] (.cond (.t 8) (sO [4] [aO 4 (.mv (.v (.c (.i .i64 12))))] .ret) (sO [13] [aM 14 1,aO 15 (.bin .lss (.t 14) (.v (.c (.i .i64 0)))),aM 16 15,gM 17 16 false 1,gM 18 16 false 0,aG 19 16 false (.nilc (.t 18)),aG 20 16 false (.fAddr (.t 19) 0),aG 21 16 false (.load1 (.t 20)),aG 22 16 false (.len (.t 21)),aG 23 16 false (.bin .geq (.t 17) (.t 22)),aO 24 (.pick (.t 16) (.v (.c (.b true))) (.t 23)),aM 13 24] (.cond (.t 13) (sO [4] [aO 4 (.mv (.v (.c (.i .i64 2))))] .ret) .skip))))))) (sO [4] [aO 4 (.mv (.v (.c (.i .i64 0))))] .ret)),[.tmp 4]⟩
def yD:E2:=E6
def nK:=rx yD yA
theorem B1P (n:Nat) (a0 a1:Val) (h:A4):nK n [a0,a1] h=bnd (B0k false false a0) fun v1=>cnd v1 (some ((.c (.i .i64 1)),h)) (bnd (I5 a0) fun v2=>bnd (A9 v2 3) fun v3=>bnd (A7 h v3) fun v4=>cnd v4 (some ((.c (.i .i64 12)),h)) (bnd (B5 .lss a1 (.c (.i .i64 0))) fun v5=>bnd (gd v5 false (some (a1,h)) (some (.no,h))) fun p6=>bnd (gd v5 false (some (a0,p6.2)) (some (.no,p6.2))) fun p7=>bnd (gd v5 false (bnd (I5 p7.1) fun v8=>some (v8,p7.2)) (some (.no,p7.2))) fun p9=>bnd (gd v5 false (bnd (A9 p9.1 0) fun T6=>some (T6,p9.2)) (some (.no,p9.2))) fun p11=>bnd (gd v5 false (bnd (A7 p11.2 p11.1) fun v12=>some (v12,p11.2)) (some (.no,p11.2))) fun p13=>bnd (gd v5 false (bnd (O0 p13.1) fun cE=>some (cE,p13.2)) (some (.no,p13.2))) fun lU=>bnd (gd v5 false (bnd (B5 .geq p6.1 lU.1) fun T7=>some (T7,lU.2)) (some (.no,lU.2))) fun xQ=>bnd (F0 v5 (.c (.b true)) xQ.1) fun dN=>cnd dN (some ((.c (.i .i64 2)),xQ.2)) (some ((.c (.i .i64 0)),xQ.2)))):=by kernel_rfl
theorem A6H:FnK Tryz.prog 271 yA yD nK:=.mk2 C9 Tryz.func271 (by kernel_rfl)
def V3:=tl yA yD
theorem A1a:SOk Tryz.prog 271 V3:=A6H.sok
theorem A8k:G0 nK V3:=A6H.flat
def kV:AFn:=⟨sO [1,3] [aL 2 0,aO 3 (.bin .eql (.t 2) (.v (.c (.i .i64 0))))] (.cond (.t 3) (.ops [aL 4 1,aO 5 (.nilc (.t 4)),aF 6 5 4,aL 7 6,aO 8 (.bin .add (.t 7) (.v (.c (.i .i64 1)))),aO 9 (.nilc (.t 4)),aF 10 9 4,aN (.store1 (.t 10) (.t 8))]) .skip),[]⟩
def kX:E2:=E6
def kZ:=rx kX kV
theorem A5z (n:Nat) (a0 a1:Val) (h:A4):kZ n [a0,a1] h=bnd (A7 h a0) fun v1=>bnd (B5 .eql v1 (.c (.i .i64 0))) fun v2=>cnd v2 (bnd (A7 h a1) fun v3=>bnd (I5 v3) fun v4=>bnd (A9 v4 4) fun v5=>bnd (A7 h v5) fun v6=>bnd (B5 .add v6 (.c (.i .i64 1))) fun v7=>bnd (I5 v3) fun v8=>bnd (A9 v8 4) fun v9=>bnd (D3 h v9 v7) fun h10=>I6 [] h10) (I6 [] h):=by kernel_rfl
theorem A92:FnK Tryz.prog 272 kV kX kZ:=.mk2 C9 Tryz.func272 (by kernel_rfl)
def K2:=Lim kV kX
theorem A4t:D0r Tryz.prog 272 K2:=C8K (C9) Tryz.func272 (by kernel_rfl)
theorem A5K:OfT kZ K2:=A92.of
def B2U:DFn:=⟨[([1,3,5,6],(.ops [aB 3 0,aB 5 2,aO 6 (.alloc ([.i .i64 0]))])),([1,3,5,6],(sO [1,3,5,6] [aL 7 3,aM 8 1,aO 9 (.call 271 [(.t 7),(.t 8)]),aN (.store1 (.t 6) (.t 9))] (sO [1,3,5,6,11] [aL 10 6,aO 11 (.bin .neq (.t 10) (.v (.c (.i .i64 0))))] (.cond (.t 11) (sO [6] [aL 12 6,aN (.store1 (.t 6) (.t 12))] .ret) .skip))))],[1,3,5,6],13,272,[(.t 6),(.t 3)],(.seq [1,3,5,6] (sO [1,3,5,6,24] [aL 14 3,aO 15 (.nilc (.t 14)),aF 16 15 2,aL 17 16,aM 18 17,aG 19 18 true (.load1 (.t 3)),aG 20 18 true (.nilc (.t 19)),aG 21 18 true (.fAddr (.t 20) 1),aG 22 18 true (.load1 (.t 21)),aG 23 18 true (.bin .eql (.t 22) (.v (.c (.i .i64 0)))),aO 24 (.pick (.t 18) (.t 23) (.v (.c (.b false))))] (.cond (.t 24) (sO [6] [aL 25 3,aO 26 (.nilc (.t 25)),aF 27 26 3,aN (.store1 (.t 27) (.v (.c (.b true))))] (sO [6] [aN (.store1 (.t 6) (.v (.c (.i .i64 12))))] .ret)) .skip)) (.seq [1,3,5,6] (sO [1,3,5,6,31] [aL 28 3,aO 29 (.nilc (.t 28)),aF 30 29 2,aL 31 30] (.cond (.t 31) (.ops [aL 32 3,aO 33 (.nilc (.t 32)),aF 34 33 1,aL 35 34,aO 36 (.bin .sub (.t 35) (.v (.c (.i .i64 1)))),aO 37 (.nilc (.t 32)),aF 38 37 1,aN (.store1 (.t 38) (.t 36))]) .skip)) (.seq [6] (.draw 0 [aL 39 3,aO 40 (.nilc (.t 39)),aF 41 40 0,aL 42 41,aM 43 1,aL' 44 256 5] [aO 45 (.iAddrL 256 (.t 42) (.t 43)),aN (.storeN 256 (.t 45) (.t 44))]) (sO [6] [aN (.store1 (.t 6) (.v (.c (.i .i64 0))))] .ret)))),[.cell1 6]⟩
def B2V:E2:=D6 271 V3 E6
def P9:Fun:=B2U.run B2V K2 0
theorem A8j:SOk Tryz.prog 255 P9:=D07 (B8 A1a C9) A4t Tryz.func255 (by kernel_rfl)
theorem A8i (a0 a1 a2:Val) (h:A4):P9 [a0,a1,a2] h=bnd (cells? a0) fun c1=>bnd (cells? a2) fun c2=>bnd (A7 (((h++[some (Row.mk (c1) true)])++[some (Row.mk (c2) true)])++[some (Row.mk ([.i .i64 0]) true)]) (.c (.p h.length 0))) fun v3=>bnd (V3 [v3,a1] (((h++[some (Row.mk (c1) true)])++[some (Row.mk (c2) true)])++[some (Row.mk ([.i .i64 0]) true)])) fun p4=>bnd (D3 p4.2 (.c (.p ((h++[some (Row.mk (c1) true)])++[some (Row.mk (c2) true)]).length 0)) p4.1) fun h5=>bnd (A7 h5 (.c (.p ((h++[some (Row.mk (c1) true)])++[some (Row.mk (c2) true)]).length 0))) fun v6=>bnd (B5 .neq v6 (.c (.i .i64 0))) fun v7=>cnd v7 (bnd (A7 h5 (.c (.p ((h++[some (Row.mk (c1) true)])++[some (Row.mk (c2) true)]).length 0))) fun v8=>bnd (D3 h5 (.c (.p ((h++[some (Row.mk (c1) true)])++[some (Row.mk (c2) true)]).length 0)) v8) fun h9=>mp (A7 h9 (.c (.p ((h++[some (Row.mk (c1) true)])++[some (Row.mk (c2) true)]).length 0))) fun v=>(v,h9)) (bnd (A5Q 272 [(.c (.p ((h++[some (Row.mk (c1) true)])++[some (Row.mk (c2) true)]).length 0)),(.c (.p h.length 0))]) fun T6=>bnd (A7 h5 (.c (.p h.length 0))) fun v11=>bnd (I5 v11) fun v12=>bnd (A9 v12 2) fun v13=>bnd (A7 h5 v13) fun cE=>bnd (gd cE true (bnd (A7 h5 (.c (.p h.length 0))) fun dE=>some (dE,h5)) (some (.no,h5))) fun sF=>bnd (gd cE true (bnd (I5 sF.1) fun W3=>some (W3,sF.2)) (some (.no,sF.2))) fun pB=>bnd (gd cE true (bnd (A9 pB.1 1) fun dO=>some (dO,pB.2)) (some (.no,pB.2))) fun gH=>bnd (gd cE true (bnd (A7 gH.2 gH.1) fun v21=>some (v21,gH.2)) (some (.no,gH.2))) fun p22=>bnd (gd cE true (bnd (B5 .eql p22.1 (.c (.i .i64 0))) fun v23=>some (v23,p22.2)) (some (.no,p22.2))) fun fU=>bnd (F0 cE fU.1 (.c (.b false))) fun v25=>cnd v25 (bnd (A7 fU.2 (.c (.p h.length 0))) fun v26=>bnd (I5 v26) fun v27=>bnd (A9 v27 3) fun v28=>bnd (D3 fU.2 v28 (.c (.b true))) fun h29=>bnd (D3 h29 (.c (.p ((h++[some (Row.mk (c1) true)])++[some (Row.mk (c2) true)]).length 0)) (.c (.i .i64 12))) fun h30=>bnd (B3R K2 T6 h30) fun p31=>mp (A7 p31.2 (.c (.p ((h++[some (Row.mk (c1) true)])++[some (Row.mk (c2) true)]).length 0))) fun v=>(v,p31.2)) (bnd (A7 fU.2 (.c (.p h.length 0))) fun v32=>bnd (I5 v32) fun v33=>bnd (A9 v33 2) fun v34=>bnd (A7 fU.2 v34) fun v35=>cnd v35 (bnd (A7 fU.2 (.c (.p h.length 0))) fun v36=>bnd (I5 v36) fun v37=>bnd (A9 v37 1) fun v38=>bnd (A7 fU.2 v38) fun v39=>bnd (B5 .sub v39 (.c (.i .i64 1))) fun v40=>bnd (I5 v36) fun v41=>bnd (A9 v41 1) fun v42=>bnd (D3 fU.2 v42 v40) fun h43=>bnd (A7 h43 (.c (.p h.length 0))) fun v44=>bnd (I5 v44) fun v45=>bnd (A9 v45 0) fun v46=>bnd (A7 h43 v46) fun v47=>bnd (A8 h43 256 (.c (.p (h++[some (Row.mk (c1) true)]).length 0))) fun v48=>bnd (C4 256 v47 a1) fun v49=>bnd (B4 (h43++[]) 256 v49 v48) fun h50=>bnd (D3 h50 (.c (.p ((h++[some (Row.mk (c1) true)])++[some (Row.mk (c2) true)]).length 0)) (.c (.i .i64 0))) fun h51=>bnd (B3R K2 T6 h51) fun p52=>mp (A7 p52.2 (.c (.p ((h++[some (Row.mk (c1) true)])++[some (Row.mk (c2) true)]).length 0))) fun v=>(v,p52.2)) (bnd (A7 fU.2 (.c (.p h.length 0))) fun v53=>bnd (I5 v53) fun v54=>bnd (A9 v54 0) fun v55=>bnd (A7 fU.2 v55) fun v56=>bnd (A8 fU.2 256 (.c (.p (h++[some (Row.mk (c1) true)]).length 0))) fun v57=>bnd (C4 256 v56 a1) fun v58=>bnd (B4 (fU.2++[]) 256 v58 v57) fun h59=>bnd (D3 h59 (.c (.p ((h++[some (Row.mk (c1) true)])++[some (Row.mk (c2) true)]).length 0)) (.c (.i .i64 0))) fun h60=>bnd (B3R K2 T6 h60) fun p61=>mp (A7 p61.2 (.c (.p ((h++[some (Row.mk (c1) true)])++[some (Row.mk (c2) true)]).length 0))) fun v=>(v,p61.2)))):=by kernel_rfl
def nQ:AFn:=⟨.ops [aL 1 0,aO 2 (.nilc (.t 1)),aF 3 2 5,aL 4 3,aO 5 (.bin .add (.t 4) (.v (.c (.i .i64 1)))),aO 6 (.nilc (.t 1)),aF 7 6 5,aN (.store1 (.t 7) (.t 5))],[]⟩
def nR:E2:=E6
def nT:=rx nR nQ
theorem A7i (n:Nat) (a0:Val) (h:A4):nT n [a0] h=bnd (A7 h a0) fun v1=>bnd (I5 v1) fun v2=>bnd (A9 v2 5) fun v3=>bnd (A7 h v3) fun v4=>bnd (B5 .add v4 (.c (.i .i64 1))) fun v5=>bnd (I5 v1) fun v6=>bnd (A9 v6 5) fun v7=>bnd (D3 h v7 v5) fun h8=>I6 [] h8:=by kernel_rfl
theorem B1O:FnK Tryz.prog 273 nQ nR nT:=.mk2 C9 Tryz.func273 (by kernel_rfl)
def R4:=Lim nQ nR
theorem A5J:D0r Tryz.prog 273 R4:=C8K (C9) Tryz.func273 (by kernel_rfl)
theorem A7m:OfT nT R4:=B1O.of
def B5c:DFn:=⟨[([1,2,4],(.ops [aB 2 0,aO 4 (.alloc (List.replicate 256 (.i .u8 0))),aO 5 (.mv (.v (.c (.i .i64 0))))])),([1,2,4],(sO [1,2,4,5] [aL 6 2,aM 7 1,aO 8 (.call 271 [(.t 6),(.t 7)]),aM 5 8] (sO [1,2,4,5,10] [aM 9 5,aO 10 (.bin .neq (.t 9) (.v (.c (.i .i64 0))))] (.cond (.t 10) (sO [4,5] [aL' 11 256 4,aM 12 5,aN (.storeN 256 (.t 4) (.t 11)),aM 5 12] .ret) .skip))))],[1,2,4],13,273,[(.t 2)],(sO [4,5] [aL 14 2,aO 15 (.nilc (.t 14)),aF 16 15 0,aL 17 16,aM 18 1,aO 19 (.iAddrL 256 (.t 17) (.t 18)),aL' 20 256 19,aN (.storeN 256 (.t 4) (.t 20)),aO 5 (.mv (.v (.c (.i .i64 0))))] .ret),[.cellN 4 256,.tmp 5]⟩
def B5d:E2:=D6 271 V3 E6
def cM:Fun:=B5c.run B5d R4 0
theorem B0d:SOk Tryz.prog 256 cM:=D07 (B8 A1a C9) A5J Tryz.func256 (by kernel_rfl)
theorem B0c (a0 a1:Val) (h:A4):cM [a0,a1] h=bnd (cells? a0) fun c1=>bnd (A7 ((h++[some (Row.mk (c1) true)])++[some (Row.mk (List.replicate 256 (.i .u8 0)) true)]) (.c (.p h.length 0))) fun v2=>bnd (V3 [v2,a1] ((h++[some (Row.mk (c1) true)])++[some (Row.mk (List.replicate 256 (.i .u8 0)) true)])) fun p3=>bnd (B5 .neq p3.1 (.c (.i .i64 0))) fun v4=>cnd v4 (bnd (A8 p3.2 256 (.c (.p (h++[some (Row.mk (c1) true)]).length 0))) fun v5=>bnd (B4 p3.2 256 (.c (.p (h++[some (Row.mk (c1) true)]).length 0)) v5) fun h6=>I6 [A8 h6 256 (.c (.p (h++[some (Row.mk (c1) true)]).length 0)),some p3.1] h6) (bnd (A5Q 273 [(.c (.p h.length 0))]) fun v7=>bnd (A7 p3.2 (.c (.p h.length 0))) fun v8=>bnd (I5 v8) fun v9=>bnd (A9 v9 0) fun T6=>bnd (A7 p3.2 T6) fun v11=>bnd (C4 256 v11 a1) fun v12=>bnd (A8 p3.2 256 v12) fun v13=>bnd (B4 p3.2 256 (.c (.p (h++[some (Row.mk (c1) true)]).length 0)) v13) fun h14=>bnd (B3R R4 v7 h14) fun lU=>I6 [A8 lU.2 256 (.c (.p (h++[some (Row.mk (c1) true)]).length 0)),some (.c (.i .i64 0))] lU.2):=by kernel_rfl
def pH:AFn:=⟨sO [0] [aO 2 (.nilrow 256)] (.seq [0] (sO [0,4] [aM 3 0,aO 4 (.eqN false false (.t 3))] (.cond (.t 4) (sO [2] [aO 2 (.nilrow 256)] .ret) .skip)) (sO [2] [aO 5 (.buildSl 256 0 ([]) []),aM 6 0,aO 7 (.nilc (.t 6)),aF 8 7 0,aL 9 8,aO 10 (.app 256 (.t 5) (.t 9)),aM 2 10] .ret)),[.tmp 2]⟩
def pS:E2:=E6
def fZ:=rx pS pH
theorem A77 (n:Nat) (a0:Val) (h:A4):fZ n [a0] h=bnd (B0k false false a0) fun v1=>cnd v1 (some ((.c (.sl (h++[some (Row.mk ([]) true)]).length 0 0 256)),((h++[some (Row.mk ([]) true)])++[some (Row.mk ([]) true)]))) (bnd (C7 ([]) []) fun c2=>bnd (I5 a0) fun v3=>bnd (A9 v3 0) fun v4=>bnd (A7 ((h++[some (Row.mk ([]) true)])++[some (Row.mk (c2) true)]) v4) fun v5=>bnd (W7 ((h++[some (Row.mk ([]) true)])++[some (Row.mk (c2) true)]) 256 (.c (.sl (h++[some (Row.mk ([]) true)]).length 0 0 256)) v5) fun p6=>some (p6.1,p6.2)):=by kernel_rfl
theorem A19:FnK Tryz.prog 171 pH pS fZ:=.mk2 C9 Tryz.func171 (by kernel_rfl)
def aZ:=tl pH pS
theorem A8h:SOk Tryz.prog 171 aZ:=A19.sok
theorem A7l:B5h fZ aZ:=A19.out
end
end Go.Proofs.YteckncopbicmcaaGreat
