/- What the proof of this claim leans on, part 6. -/
import Derived.Test.YtbnkgnfhgbhblaaGreatFMendPlansp5
set_option linter.all false
set_option maxRecDepth 100000
open Go Go.Esc
open Bool renaming and_eq_true→E69,and_false→E75,false_and→E7f,not_eq_true'→E7V,not_false→E77,not_true→E8a,or_eq_true→E74,true_and→E7j,false→A6,true→A5
open Int renaming eq_ofNat_of_zero_le→E7Q,toNat_natCast→E7r
open List renaming all_cons→E7P,all_eq_true→E70,append_assoc→E7c,append_nil→E7w,cons_append→E7E,drop_drop→E7X,drop_eq_getElem_cons→E7d,drop_of_length_le→E7k,drop_zero→E7p,getD_eq_getElem?_getD→E7e,getElem?_append_right→E7l,getElem?_cons_succ→E7S,getElem?_eq_getElem→E66,getElem?_eq_none→E7L,getElem_mem→E7J,length_append→E7a,length_cons→E7g,length_drop→E72,length_nil→E7v,length_replicate→E7B,length_set→E7D,map_append→E71,map_cons→E79,mem_cons_of_mem→E7s,mem_cons_self→E7u,mem_of_getElem?→E7y,mem_or_eq_of_mem_set→E7O,nil_append→E7m,range→E7C,range'→E7M,replicate→E68,set_cons_succ→E7U,take_of_length_le→E7i
open Nat renaming le_refl→E7b,le_trans→E7K,zero_add→E7t
open Option renaming bind_some→E7h,getD_none→E7Z,getD_some→E7N,isSome_none→E7x,isSome_some→E7o,none→A7,some→A4
open Go.Proofs.Tryz renaming prog→A8
namespace Go.Proofs.YtbnkgnfhgbhblaaGreat
section
variable {D:Dev} {n m:Int} {P:Nat->Prop} {h:B5} {c:Cl} {cs:List Cell} {v:Val}
theorem E1b {x4 x6 x8 x10 ino:Nat} {many:Int} {ii:List Int} {Q:Nat->Prop} {H:B5} (hv:Has h v 256 D.length (D5 D)) (hD:okD D) (e4:x4=h.length) (e6:x6=h.length+1) (e8:x8=h.length+2) (e10:x10=h.length+4)
  (hQ0:Q=λid=>(P id/\id<h.length)\/h.length+5<=id) (hHl:h.length+5<=H.length) (G:Grows h H) (K:IsRC n Q H cs c) (ht:c.taken.length=D.length) (hl:D.length<=1000) (hm:many<=134)
  (r4:rd H x4=rT cs) (r6:rd H x6=rT (D8 D.length n m)) (r8:rd H x8=rT Z8) (r10:rd H x10=rT (encI ii)) (hii:ii.length=11) (hin:ino<c.ino.length) (O9:∀ x∈c.ino,x.length=11) (hc:c.ino.length<=1000) (hb:c.blocks.length<=100000) (hmd:c.made.length<=100000) :
  ∃ cs' H',A7u 200 v (iV (ino:Int)) (pV x4 0) (pV x6 0) (pV x8 0) (pV x10 0) (iV many) H=A4 (.a cs',H')/\Grows h H'/\IsRC n (λid=>P id\/h.length<=id) H' cs'
   (if ii.getD 10 0=0 then { c with ino:=c.ino.set ino ii } else
    S5 (cF D n many 128 0 ({ c with ino:=c.ino.set ino ii },blk D (ii.getD 10 0))).1 (ii.getD 10 0) (cF D n many 128 0 ({ c with ino:=c.ino.set ino ii },blk D (ii.getD 10 0))).2):=by
 have hQ:∀ id,H.length<=id->Q id:=λid hid=>by rw [hQ0];exact .inr (by omega)
 have nQ4:¬ Q x4:=by rw [hQ0];intro hh;rcases hh with hh | hh<;>omega
 have nQ8:¬ Q x8:=by rw [hQ0];intro hh;rcases hh with hh | hh<;>omega
 obtain ⟨v49,p50,H1,cs1,H2,b1,b2,b3,b4,b5,b6,b7,b8,b9,b10,b11⟩:=D15 (g:=h) G (by omega) K r4 hQ nQ4 r10 hii hin O9 hc (by omega);have ef:E4 [] []=A4 []:=rfl;have q10:rd H2 x10=rT (encI ii):=by rw [b11 _ (C8 r10) (by omega)];exact r10
 have q8:rd H2 x8=rT Z8:=by rw [b11 _ (C8 r8) (by omega)];exact r8
 have q6:rd H2 x6=rT (D8 D.length n m):=by rw [b11 _ (C8 r6) (by omega)];exact r6
 have l10:B8 H2 (pV x10 10)=A4 (iV (ii.getD 10 0)):=fP q10 (by omega);have l8c:D4 H2 8 (pV x4 0)=A4 (.a cs1):=C7 b9 b8.length;have toP:∀ id,Q id->P id\/h.length<=id:=λid hid=>by
  rw [hQ0] at hid;rcases hid with hid | hid
  ·exact .inl hid.1
  ·exact .inr (by omega)
 by_cases hz:ii.getD 10 0=0
 ·rw [if_pos hz];rw [hz] at l10;obtain ⟨H3,zB⟩:∃ H3,H3=H2.set x8 (rT cs1):=⟨_,rfl⟩;have s8:E6 H2 8 (pV x8 0) (.a cs1)=A4 H3:=by rw [storeAll (n:=8) q8 rfl b8.length,zB]
  have l8:D4 H3 8 (pV x8 0)=A4 (.a cs1):=C7 (by rw [zB];exact C6 (C8 q8)) b8.length;refine ⟨cs1,H3,?_,by rw [zB];exact b7.set (by omega) _,by rw [zB];exact (b8.set (.inr nQ8)).mono toP⟩;rw [A8u];simp only [esc,Nat.reduceAdd,ef,b1,b2,b3,b4,b5,b6,l10,l8c,s8,l8]
 ·rw [if_neg hz];have hvr:Has H2 v 256 D.length (D5 D):=hv.grows b7;obtain ⟨u,t,d1,d2,d3,_⟩:=A0V (no:=ii.getD 10 0) hvr hD;have hN:=C1i d3 (O5 hD);obtain ⟨K1,hK1⟩:∃ K1,K1=H2++t:=⟨_,rfl⟩;rw [<-hK1] at d1 hN d3;obtain ⟨K2,hK2⟩:∃ K2,K2=K1++[rT (encI (bE (blk D (ii.getD 10 0)) 128))]:=⟨_,rfl⟩;rw [<-hK2] at hN;have lK1:H2.length<=K1.length:=by rw [hK1];simp
  have lK2:K2.length=K1.length+1:=by rw [hK2];simp
  have G12:Grows H2 K2:=by rw [hK2,hK1];exact (S7 Grows.rfl' d2).new _
  have GK:Grows h K2:=b7.trans' G12;obtain ⟨Q2,hQ2⟩:∃ Q2:Nat->Prop,Q2=λid=>(Q id/\id<K1.length)\/K1.length+1<=id:=⟨_,rfl⟩
  have kQ2:IsRC n Q2 K2 cs1 { c with ino:=c.ino.set ino ii }:=(b8.low.grows G12).mono λid hid=>by
   rw [hQ2];exact .inl ⟨hid.1,by omega⟩
  have E54:∀ id,K2.length<=id->Q2 id:=λid hid=>by rw [hQ2];exact .inr (by omega)
  have nQ2:¬ Q2 K1.length:=by rw [hQ2];intro hh;rcases hh with hh | hh<;>omega
  have E4m:¬ Q2 x4:=by rw [hQ2];intro hh;rcases hh with hh | hh;exact nQ4 hh.1;have:=C8 b9;omega
  have E4n:¬ Q2 x8:=by rw [hQ2];intro hh;rcases hh with hh | hh;exact nQ8 hh.1;have:=C8 q8;omega
  have toK:∀ {id r},rd H2 id=A4 r->rd K2 id=A4 r:=λhr=>G12.rd hr
  have hg:=G.len;have lt4:=C8 b9;have lt6:=C8 q6;have lt8:=C8 q8;have lt10:=C8 q10;obtain ⟨cs2,H5,M5,f1,f2,f3,f4,f5,f6,f7,f8⟩:=E1d (Q:=Q2) (g:=h) (x4:=x4) (x6:=x6) (x8:=x8) (x10:=x10) (nid:=K1.length) (q:=200) (many:=many) hii ⟨by omega,by omega⟩ E4m nQ2 hl hm (by omega) (by omega) (by omega) (by omega) (by omega) (by omega) (by omega) 128 0 200 ({ c with ino:=c.ino.set ino ii },blk D (ii.getD 10 0)) cs1 K2 (by omega) (by omega) (O5 hD) GK E54 kQ2 ht (toK b9) (toK q6) (toK q8) (toK q10) (by rw [hK2,E9];rfl);obtain ⟨S,hS⟩:∃ S,S=cF D n many 128 0 ({ c with ino:=c.ino.set ino ii },blk D (ii.getD 10 0)):=⟨_,rfl⟩;rw [<-hS] at f4 f8 ⊢;have sl:S.2.length=256:=by rw [hS];exact B2v (by omega) (O5 hD)
  have ss:=vE (D:=D) (n:=n) (many:=many) (e:=128) (k:=0) (s:=({ c with ino:=c.ino.set ino ii },blk D (ii.getD 10 0)));rw [<-hS] at ss;have hB:=C8Q (v:=sV K1.length 0 128 1) (nv:=128) (l:=bE S.2 128) (h:=H5) (Has.row f8 (by rw [B7,sG]) (aR _)) (by omega);rw [D8x sl] at hB;obtain ⟨H6,hH6⟩:∃ H6,H6=H5++[rT (B4 S.2)]:=⟨_,rfl⟩;rw [<-hH6] at hB;have hq:=U3 (h:=H5) (h':=H6) (v:=sV H5.length 0 256 1) (by rw [hH6];exact (Grows.rfl').new _);have k6:IsRC n Q2 H6 cs2 S.1:=f4.grows (by rw [hH6];exact (Grows.rfl').new _);obtain ⟨cs3,H7,m1,m2,m3⟩:=D5H (no:=ii.getD 10 0) (y:=.sl H5.length 0 256 1) (b:=S.2) k6 (by rw [hH6];exact Has.row (rw:=A5) (by rw [E9];rfl) (by rw [A9,sl]) (F9 _)) (λid hid=>by cases hid;exact f3 _ (E7b _)) (by rw [ss.blocks];exact hb) (by rw [ss.made];exact hmd) rfl;have lH6:H6.length=H5.length+1:=by rw [hH6];simp
  have q87:rd H7 x8=rT Z8:=m2.rd (by rw [hH6];exact C5 f6);have lt87:=C8 f6;obtain ⟨H8,hH8⟩:∃ H8,H8=H7.set x8 (rT cs3):=⟨_,rfl⟩;have s8:E6 H7 8 (pV x8 0) (.a cs3)=A4 H8:=by rw [storeAll (n:=8) q87 rfl m3.length,hH8]
  have l8:D4 H8 8 (pV x8 0)=A4 (.a cs3):=C7 (by rw [hH8];exact C6 (C8 q87)) m3.length;have G7:Grows h H7:=f2.trans' ((by rw [hH6];exact (Grows.rfl').new _:Grows H5 H6).trans' m2);refine ⟨cs3,H8,?_,by rw [hH8];exact G7.set (by omega) _,?_⟩
  ·have l8c2:D4 H5 8 (pV x4 0)=A4 (.a cs2):=C7 f5 f4.length;have l105:B8 H5 (pV x10 10)=A4 (iV (ii.getD 10 0)):=fP f7 (by omega);have E5U:¬ (128:Int)<128:=by decide
   have c00:((0:Nat):Int)=0:=rfl;rw [c00] at f1;rw [A8u];simp only [esc,Nat.reduceAdd,ef,b1,b2,b3,b4,b5,b6,l10,hz,d1,hN];refine f1.trans ?_;rw [yY];simp only [esc,Nat.reduceAdd,E5U,l8c2,l105,hB,hq,m1,s8,l8]
  ·rw [hH8];refine (m3.set (.inr ?_)).mono ?_
   ·intro hh;rcases hh with hh | hh
    ·exact E4n hh
    ·omega
   ·intro id hid;rcases hid with hid | hid
    ·rw [hQ2] at hid;rcases hid with hid | hid
     ·exact toP _ hid.1
     ·exact .inr (by omega)
    ·exact .inr (by have:=G7.len;have:=m2.len;have:=f2.len;omega)
theorem E1a {ino:Int} (hv:Has h v 256 D.length (D5 D)) (hD:okD D) (K:IsRC n P h cs c) (ht:c.taken.length=D.length) (hl:D.length<=1000) (i0:0<=ino) (i1:ino.toNat<c.ino.length) (O9:∀ x∈c.ino,x.length=11) (hc:c.ino.length<=1000) (hb:c.blocks.length<=100000) (hmd:c.made.length<=100000) :
  ∃ cs' H',B0g [.a cs,v,.a (D8 D.length n m),iV ino] h=A4 (.a cs',H')/\Grows h H'/\IsRC n (λid=>P id\/h.length<=id) H' cs' (iJ D n c ino):=by
 have c8:=K.length;obtain ⟨many,em⟩:∃ many,many=A4d (szV D n ino):=⟨_,rfl⟩;have D1I:0<=many/\many<=134:=by rw [em];unfold A4d;split;omega;split<;>omega
 obtain ⟨was,ew⟩:∃ was,was=A5Y D n ino:=⟨_,rfl⟩;have hwl:was.length=11:=by rw [ew];exact yH
 have hwd:was.drop 4=drV D n ino:=by rw [ew];rfl
 obtain ⟨G3,hG3⟩:∃ G3,G3=h++[rT cs,rT (D8 D.length n m),rT Z8]:=⟨_,rfl⟩;have hI:=sN (v:=v) (n:=n) (m:=m) (i:=ino) (h:=G3) (by rw [hG3];exact hv.more _) hD;rw [<-C8U,<-ew] at hI;obtain ⟨G5,hG5⟩:∃ G5,G5=h++[rT cs,rT (D8 D.length n m),rT Z8,rT (encI was),rT (encI ([1,1,szV D n ino,0]++zI 7))]:=⟨_,rfl⟩;have lG5:G5.length=h.length+5:=by rw [hG5];simp
 obtain ⟨Q,hQ0⟩:∃ Q:Nat->Prop,Q=λid=>(P id/\id<h.length)\/h.length+5<=id:=⟨_,rfl⟩
 have G:Grows h G5:=by rw [hG5];exact S7 Grows.rfl' rfl
 have K5:IsRC n Q G5 cs c:=(K.low.grows G).mono λid hid=>by rw [hQ0];exact .inl hid
 have hQn:∀ id,G5.length<=id->Q id:=λid hid=>by rw [hQ0];exact .inr (by omega)
 have nQ:∀ k,k<5->¬ Q (h.length+k):=λk hk=>by rw [hQ0];intro hh;rcases hh with hh | hh<;>omega
 have n0:¬ Q h.length:=nQ 0 (by omega);have n4:=nQ 4 (by omega);obtain ⟨cs1,H1,M1,f1,f2,f3,f4,f5,f6,f7,f8,f9,f10,f11⟩:=E1c (v:=v) (x3:=iV ino) (g:=h) (Q:=Q) (m:=m) (x4:=h.length) (x6:=h.length+1) (x8:=h.length+2) (x9:=h.length+3) (x10:=h.length+4) (q:=200) (many:=many) (pre:=[1,1,szV D n ino,0]) (r8:=Z8) hwl rfl ⟨by omega,by omega⟩ n0 n4 hl (by omega) (by omega) (by omega) (by omega) (by omega) (by omega) (by omega) D1I.2
  (min many 6).toNat 0 200 c cs (zI 7) G5 (by omega) (by omega) rfl G hQn K5 ht (by rw [hG5,E9];rfl) (by rw [hG5,L5];rfl) (by rw [hG5,L5];rfl) (by rw [hG5,L5];rfl) (by rw [hG5,L5];rfl)
 obtain ⟨s,es⟩:∃ s,s=A7q D n (drV D n ino) (min many 6).toNat 0 (c,zI 7):=⟨_,rfl⟩;rw [hwd,<-es] at f4 f9 f10;have hs:=B2t (D:=D) (n:=n) (d:=drV D n ino) (e:=(min many 6).toNat) (k:=0) (s:=(c,zI 7));rw [<-es] at hs;have hs2:s.2.length=7:=hs.2;have eD:eG D n c ino=B8m D n (drV D n ino) many s:=by unfold eG;rw [es,em]
 have fin:∀ (H2:B5) (cs2:List Cell) (s2:Cl × List Int),B8m D n (drV D n ino) many s=s2->SameC c s2.1->s2.2.length=7->s2.1.taken.length=D.length->Grows h H2->h.length+5<=H2.length->IsRC n Q H2 cs2 s2.1->rd H2 h.length=rT cs2->rd H2 (h.length+1)=rT (D8 D.length n m)->rd H2 (h.length+2)=rT Z8->rd H2 (h.length+4)=rT (encI ([1,1,szV D n ino,0]++s2.2)) ->
   ∃ cs' H',A7u 200 v (iV ino) (pV h.length 0) (pV (h.length+1) 0) (pV (h.length+2) 0) (pV (h.length+4) 0) (iV many) H2=A4 (.a cs',H')/\Grows h H'/\IsRC n (λid=>P id\/h.length<=id) H' cs' (iJ D n c ino):=by
  intro H2 cs2 s2 e2 sm l2 t2 G2 hH2 K2 q4 q6 q8 q10;have ei:ino=((ino.toNat:Nat):Int):=by omega
  obtain ⟨cs',H',j1,j2,j3⟩:=E1b (ino:=ino.toNat) (many:=many) (ii:=[1,1,szV D n ino,0]++s2.2) (Q:=Q) hv hD rfl rfl rfl rfl hQ0 hH2 G2 K2 t2 hl D1I.2 q4 q6 q8 q10 (by simp [l2]) (by rw [sm.ino];exact i1) (by rw [sm.ino];exact O9) (by rw [sm.ino];exact hc) (by rw [sm.blocks];exact hb) (by rw [sm.made];exact hmd);rw [<-ei] at j1;refine ⟨cs',H',j1,j2,?_⟩;have e10:([1,1,szV D n ino,0]++s2.2).getD 10 0=s2.2.getD 6 0:=rfl;rw [e10] at j3;have eC:iJ D n c ino=if s2.2.getD 6 0=0 then { s2.1 with ino:=s2.1.ino.set ino.toNat ([1,1,szV D n ino,0]++s2.2) } else
    S5 (cF D n many 128 0 ({ s2.1 with ino:=s2.1.ino.set ino.toNat ([1,1,szV D n ino,0]++s2.2) },blk D (s2.2.getD 6 0))).1 (s2.2.getD 6 0) (cF D n many 128 0 ({ s2.1 with ino:=s2.1.ino.set ino.toNat ([1,1,szV D n ino,0]++s2.2) },blk D (s2.2.getD 6 0))).2:=by
   unfold iJ Z3;rw [eD,e2,em];rfl
  rw [eC];exact j3
 have key:∃ cs' H',A2A 200 [.a cs,v,.a (D8 D.length n m),iV ino] h=A4 (.a cs',H')/\Grows h H'/\IsRC n (λid=>P id\/h.length<=id) H' cs' (iJ D n c ino):=by
  have z11:[o0,o0,o0,o0,o0,o0,o0,o0,o0,o0,o0]=encI (zI 11):=rfl;have cl1:cells? (.a cs)=A4 cs:=rfl;have cl2:cells? (.a (D8 D.length n m))=A4 (D8 D.length n m):=rfl;have l3:D4 G3 3 (pV (h.length+1) 0)=A4 (.a (D8 D.length n m)):=C7 (by rw [hG3,L5];rfl) rfl;have wl:(encI was).length=11:=by rw [B7,hwl]
  have il:(encI ([1,1,szV D n ino,0]++zI 7)).length=11:=rfl;obtain ⟨G4,hG4⟩:∃ G4,G4=h++[rT cs,rT (D8 D.length n m),rT Z8,rT (encI was)]:=⟨_,rfl⟩;have lG3:G3.length=h.length+3:=by rw [hG3];simp
  have lG4:G4.length=h.length+4:=by rw [hG4];simp
  have s4:E6 (G3++[rT (encI (zI 11))]) 11 (pV (h.length+3) 0) (.a (encI was))=A4 G4:=by
   rw [<-lG3,storeAll (by rw [E9];rfl) (by rfl) wl,V6,hG3,hG4];simp
  have s5:E6 (G4++[rT (encI (zI 11))]) 11 (pV (h.length+4) 0) (.a (encI ([1,1,szV D n ino,0]++zI 7)))=A4 G5:=by
   rw [<-lG4,storeAll (by rw [E9];rfl) (by rfl) il,V6,hG4,hG5];simp
  have eS:was.getD 2 0=szV D n ino:=by rw [ew];rfl
  have w4:B8 G4 (pV (h.length+3) 2)=A4 (iV (szV D n ino)):=by
   have:=fP (h:=G4) (id:=h.length+3) (x:=was) (by rw [hG4,L5];rfl) (k:=2) (by omega);rw [eS] at this;exact this
  have w5:B8 G5 (pV (h.length+3) 2)=A4 (iV (szV D n ino)):=by
   have:=fP (h:=G5) (id:=h.length+3) (x:=was) (by rw [hG5,L5];rfl) (k:=2) (by omega);rw [eS] at this;exact this
  have ef:E4 (encI (zI 11)) [(0,1,iV 1),(1,1,iV 1),(2,1,iV (szV D n ino))]=A4 (encI ([1,1,szV D n ino,0]++zI 7)):=rfl;have hBk:=C4D (x:=szV D n ino) (h:=G5);have eBk:(if szV D n ino<1 then (0:Int) else if 34304<szV D n ino then 134 else (szV D n ino+255)/256)=many:=by rw [em];rfl
  rw [eBk] at hBk;have c00:((0:Nat):Int)=0:=rfl;rw [c00] at f1;have start:A2A 200 [.a cs,v,.a (D8 D.length n m),iV ino] h=A0t 200 (M1+1) v (iV ino) (pV h.length 0) (pV (h.length+1) 0) (pV (h.length+2) 0) (pV (h.length+3) 0) (pV (h.length+4) 0) (iV many) (iV (min many 6)) H1:=by
   rw [C5G,z11,A47];generalize encI (zI 11)=Z at *;generalize encI ([1,1,szV D n ino,0]++zI 7)=I0 at *;generalize encI was=W at *;generalize hLL:D8 D.length n m=L at *;generalize Z8=E8 at *;simp only [cl1,cl2,P9,E7c,E7E,E7m,E7a,E7g,E7v,E7t,Nat.reduceAdd,<-hG3];simp only [esc,Nat.reduceAdd,l3,hI,lG3,s4,w4,ef,lG4,s5,w5,hBk];exact f1
  rw [start,A8w];have cA:¬ ((min many 6<6)/\min many 6<many):=by omega
  by_cases c6:6<many
  ·have em6:min many 6=6:=by omega
   have c66:¬ (6:Int)<6:=by decide
   have cgt:many > 6:=c6;obtain ⟨cs2,K2,H2,H3,a1,a2,a3,a4,a5,a6,a7,a8,a9⟩:=E0B (m:=m) (no:=(drV D n ino).getD 6 0) f2 (by omega) f4 f5 f4.length f3 n0 f10 hl;have l4:D4 H1 8 (pV h.length 0)=A4 (.a cs1):=C7 f5 f4.length;have l6:D4 H1 3 (pV (h.length+1) 0)=A4 (.a (D8 D.length n m)):=C7 f6 rfl;have e10:was.getD 10 0=(drV D n ino).getD 6 0:=by rw [ew];rfl
   have lw:B8 H1 (pV (h.length+3) 10)=A4 (iV ((drV D n ino).getD 6 0)):=by rw [fP f8 (by omega),e10]
   have q10:rd H3 (h.length+4)=rT (encI ([1,1,szV D n ino,0]++s.2)):=by rw [a9 _ (C8 f9) (by omega)];exact f9
   have es':(encI ([1,1,szV D n ino,0]++s.2)).set 10 (.i .i64 (U1 D n s.1 ((drV D n ino).getD 6 0)))=encI ([1,1,szV D n ino,0]++s.2.set 6 (U1 D n s.1 ((drV D n ino).getD 6 0))):=by
    rw [aK];rfl
   obtain ⟨H4,hH4⟩:∃ H4,H4=H3.set (h.length+4) (rT (encI ([1,1,szV D n ino,0]++s.2.set 6 (U1 D n s.1 ((drV D n ino).getD 6 0))))):=⟨_,rfl⟩;have s10:I3 H3 (pV (h.length+4) 10) (iV (U1 D n s.1 ((drV D n ino).getD 6 0)))=A4 H4:=by
    rw [G9 q10 (by rw [B7];simp [hs2]),es',hH4]
   have o4:∀ j,j≠h.length+4->rd H4 j=rd H3 j:=λj hj=>by rw [hH4,B6 (Ne.symm hj)]
   obtain ⟨cs',H',j1,j2,j3⟩:=fin H4 cs2 (dU D n s.1 ((drV D n ino).getD 6 0),s.2.set 6 (U1 D n s.1 ((drV D n ino).getD 6 0))) (by unfold B8m;rw [if_pos c6]) (hs.1.trans (pT ..)) (by simpa using hs2) (by rw [gW];exact f10) (by rw [hH4];exact a5.set (by omega) _) (by rw [hH4];simp;omega) (by rw [hH4];exact a6.set (.inr n4)) (by rw [o4 _ (by omega)];exact a7) (by rw [o4 _ (by omega),a9 _ (C8 f6) (by omega)];exact f6) (by rw [o4 _ (by omega),a9 _ (C8 f7) (by omega)];exact f7) (by rw [hH4];exact C6 (C8 q10));refine ⟨cs',H',?_,j2,j3⟩;rw [em6,A47];simp only [esc,Nat.reduceAdd,c66,cgt,l4,l6,lw,a1,a2,a3,a4,s10];exact j1
  ·have em6:min many 6=many:=by omega
   have cgt:¬ many > 6:=c6;obtain ⟨cs',H',j1,j2,j3⟩:=fin H1 cs1 s (by unfold B8m;rw [if_neg c6]) hs.1 hs2 f10 f2 (by omega) f4 f5 f6 f7 f9;refine ⟨cs',H',?_,j2,j3⟩;rw [em6];by_cases c66:many<6
   ·simp only [esc,Nat.reduceAdd,c66,Int.lt_irrefl,cgt];exact j1
   ·simp only [esc,Nat.reduceAdd,c66,cgt];exact j1
 obtain ⟨cs',H',e1,e2,e3⟩:=key;exact ⟨cs',H',C6o e1,e2,e3⟩
end
theorem B4d {D:Dev} {X:List Int} {s u:List Spt}:I5 D X (s++u)=I5 D X s++I5 D X u:=by
 unfold I5;rw [List.filter_append,E71]
theorem D5i {D:Dev} {X:List Int} {e:Spt} {u:List Spt}:I5 D X (e::u)=(if atH D X e=A5 then [e.2.2.1] else [])++I5 D X u:=by
 rw [show e::u=[e]++u from rfl,B4d]
 congr 1
 unfold I5;by_cases c:atH D X e=A5<;>simp [c]
theorem D7p {t:List Int}:∀ {k:Nat},∀ no∈L8 t k,no≠0
 | 0,no,h=>by simp [L8] at h
 | k+1,no,h=>by
  rw [A0N] at h;rcases List.mem_append.1 h with h | h
  ·exact D7p no h
  ·by_cases c:xO t k=A5
   ·rw [if_pos c] at h;simp at h;subst h;unfold xO at c;simp at c;exact c.1
   ·rw [if_neg c] at h;simp at h
section
variable {D:Dev} {n m:Int} {g:B5} {v:Val}
theorem E5A {d:Int} {t L:List Int} {x3 x4 x6 x8 x12:Val} {x11 bid q M0:Nat} {i:Nat} (hv:Has g v 256 D.length (D5 D)) (hD:okD D) (hX:rd g x11=rT (encI (d::t))) (ht:t.length=32) (h5:d<=5) (hL:rd g bid=rT (encI L)) (hi:i<L.length) (hLl:L.length<=32) (cH:L[i]≠0) :
  ∀ (e k M:Nat) (S:W0) (nid:Nat) (H:B5),k+e=7->e<M->Grows g H->g.length<=nid->rd H nid=rT (encS S)->S.length+e<=10000 ->
  ∃ nid' H',B30 q M0 M v x3 x4 x6 x8 (pV x11 0) x12 (sV bid 0 L.length 1) (sV nid 0 S.length 1) (iV (i:Int)) (iV (k:Int)) H =
    wQ q M0 v x3 x4 x6 x8 (pV x11 0) x12 (sV bid 0 L.length 1) (sV nid' 0 (S++I5 D (d::t) ((N4 (blk D L[i]) e k).map λs=>(L[i],s))).length 1) (iV ((i+1:Nat):Int)) H' /\
   Grows g H'/\g.length<=nid'/\rd H' nid'=rT (encS (S++I5 D (d::t) ((N4 (blk D L[i]) e k).map λs=>(L[i],s)))):=by
 intro e
 induction e with
 | zero =>
  intro k M S nid H hk hM G hn hr hS;obtain ⟨M,rfl⟩:∃ M',M=M'+1:=⟨M-1,by omega⟩;have c0:¬ (k:Int)<7:=by omega
  have w1:=D3 (show i+1<9223372036854775808 by omega);have e1:S++I5 D (d::t) ((N4 (blk D L[i]) 0 k).map λs=>(L[i],s))=S:=by simp [N4,I5]
  rw [e1];refine ⟨nid,H,?_,G,hn,hr⟩;rw [nA];simp only [esc,c0,w1]
 | succ e ih =>
  intro k M S nid H hk hM G hn hr hS;obtain ⟨M,rfl⟩:∃ M',M=M'+1:=⟨M-1,by omega⟩;have k7:k<7:=by omega
  have c0:(k:Int)<7:=by omega
  have w1:=D3 (show k+1<9223372036854775808 by omega);have rL:=G.rd hL;have aL:E1 1 (sV bid 0 L.length 1) (iV (i:Int))=A4 (pV bid i):=by rw [C9 hi];simp
  have lL:∀ K:B5,rd K bid=rT (encI L)->B8 K (pV bid i)=A4 (iV L[i]):=λK hK=>C4 hK (by rw [G8,E66 hi];rfl) rfl
  obtain ⟨u,t1,b1,b2,b3,_⟩:=A0V (no:=L[i]) (hv.grows G) hD;obtain ⟨K,hK⟩:∃ K,K=H++t1:=⟨_,rfl⟩;rw [<-hK] at b1 b3;have GK:Grows H K:=by rw [hK];exact S7 Grows.rfl' b2
  have hRd:=wW (k:=k) b3 (O5 hD) k7;have el2:(W2 (S3 (blk D L[i]) k)).length=2:=by cases S3 (blk D L[i]) k<;>rfl
  obtain ⟨K2,hK2⟩:∃ K2,K2=K++[rT (W2 (S3 (blk D L[i]) k))]:=⟨_,rfl⟩;have s2:E6 (K++[rT [Cell.s [],o0]]) 2 (pV K.length 0) (.a (W2 (S3 (blk D L[i]) k)))=A4 K2:=by
   rw [storeAll (n:=2) (cs:=[Cell.s [],o0]) (by rw [E9];rfl) rfl el2,V6,hK2];rfl
  have G2:Grows H K2:=by rw [hK2];exact GK.new _
  have lX:D4 K2 33 (pV x11 0)=A4 (.a (encI (d::t))):=C7 (G2.rd (G.rd hX)) (by rw [B7];simp [ht]);obtain ⟨nm,enm⟩:∃ nm,nm=((S3 (blk D L[i]) k).map (·.1)).getD []:=⟨_,rfl⟩;have lnm:B8 K2 (pV K.length 0)=A4 (.c (.s nm)):=by
   refine C4 (cs:=W2 (S3 (blk D L[i]) k)) (rw:=A5) (by rw [hK2,E9];rfl) ?_ rfl;rw [enm];cases S3 (blk D L[i]) k<;>rfl
  have hnl:nm.length<=24:=by
   rw [enm];cases hr2:S3 (blk D L[i]) k with
   | none=>simp
   | some x=>exact A0W hr2
  have hAt:=D6S (h:=K2) (d:=d) (t:=t) (nm:=nm) (hv.grows (G.trans' G2)) hD ht h5 (by omega);have lL2:=lL K2 (G2.rd rL);cases hr2:S3 (blk D L[i]) k with
  | none =>
   rw [wU hr2];rw [hr2] at hRd s2;obtain ⟨nid',H',f1,f2⟩:=ih (k+1) M S nid K2 (by omega) (by omega) (G.trans' G2) hn (G2.rd hr) (by omega);generalize S++I5 D (d::t) ((N4 (blk D L[i]) e (k+1)).map λs=>(L[i],s))=TT at f1 f2 ⊢;refine ⟨nid',H',?_,f2⟩;rw [nA];generalize encI (d::t)=X at *;generalize R3 (d::t) nm=hb at *;generalize B5K D (d::t) nm=sl at *;generalize (hmS D (d::t) nm).isSome=hm at *;simp only [esc,Nat.reduceAdd,c0,aL,lL H rL,b1,hRd,E7x,s2,lX,lnm,hAt,fI,w1];exact f1
  | some x =>
   obtain ⟨s,ii⟩:=x;rw [wV hr2,E79,D5i];have es:nm=s:=by rw [enm,hr2];rfl
   have C06:=D9M (X:=d::t) cH hr2;rw [es] at lnm hAt;rw [hr2] at hRd s2;by_cases ha:atH D (d::t) (L[i],(k,(s,ii)))=A5
   ·rw [if_pos ha];rw [ha] at C06;simp only [E69,decide_eq_true_eq] at C06;obtain ⟨⟨g1,g2⟩,g3⟩:=C06;have E6c:rd K2 nid=rT (encS S):=G2.rd hr;have op:=one_app (ys:=[Cell.s s]) E6c (n:=S.length) (sz:=1) (by rw [N3];omega) rfl (by omega) (by omega);obtain ⟨K3,hK3⟩:∃ K3,K3=(K2++[rT [Cell.s s]]).set nid A7++[rT (encS S++[Cell.s s])]:=⟨_,rfl⟩;rw [<-hK3] at op;have G3:Grows g K3:=by rw [hK3];exact (A7z ((G.trans' G2).new _) hn).new _
    have r3:rd K3 (K2.length+1)=rT (encS (S++[s])):=by
     have:rd K3 ((K2++[rT [Cell.s s]]).set nid A7).length=rT (encS S++[Cell.s s]):=by rw [hK3];exact T9
     rw [E7D,E7a] at this;rw [show encS (S++[s])=encS S++[Cell.s s] by simp [encS]];exact this
    have ls:(S++[s]).length=S.length+1:=by simp
    have eT:S++([s]++I5 D (d::t) ((N4 (blk D L[i]) e (k+1)).map λs=>(L[i],s)))=(S++[s])++I5 D (d::t) ((N4 (blk D L[i]) e (k+1)).map λs=>(L[i],s)):=by simp
    have es1:(L[i],((k,(s,ii)):Slt)).2.2.1=s:=rfl;rw [es1,eT]
    ·obtain ⟨nid',H',f1,f2⟩:=ih (k+1) M (S++[s]) (K2.length+1) K3 (by omega) (by omega) G3 (by have:=(G.trans' G2).len;omega) r3 (by rw [ls];omega);generalize (S++[s])++I5 D (d::t) ((N4 (blk D L[i]) e (k+1)).map λs=>(L[i],s))=TT at f1 f2 ⊢;rw [ls] at f1;refine ⟨nid',H',?_,f2⟩;have ef:E4 [Cell.s []] [(0,1,.c (.s s))]=A4 [.s s]:=rfl;rw [nA];generalize encI (d::t)=X at *;generalize R3 (d::t) s=hb at *;generalize B5K D (d::t) s=sl at *;generalize (hmS D (d::t) s).isSome=hm at *;subst g1;simp only [esc,Nat.reduceAdd,c0,aL,lL H rL,b1,hRd,E7o,s2,lX,lnm,hAt,lL2,g2,g3,ef,op,fI,w1,eq_self];exact f1
   ·rw [if_neg ha,E7m];have ha:atH D (d::t) (L[i],(k,(s,ii)))=A6:=by simpa using ha
    rw [ha] at C06;obtain ⟨nid',H',f1,f2⟩:=ih (k+1) M S nid K2 (by omega) (by omega) (G.trans' G2) hn (G2.rd hr) (by omega);generalize S++I5 D (d::t) ((N4 (blk D L[i]) e (k+1)).map λs=>(L[i],s))=TT at f1 f2 ⊢;refine ⟨nid',H',?_,f2⟩;rw [nA];generalize encI (d::t)=X at *;generalize R3 (d::t) s=hb at *;generalize B5K D (d::t) s=sl at *;generalize (hmS D (d::t) s).isSome=hm at *;cases hm with
    | false =>
     simp only [esc,Nat.reduceAdd,c0,aL,lL H rL,b1,hRd,E7o,s2,lX,lnm,hAt,fI,w1];exact f1
    | true =>
     by_cases c1:hb=L[i]
     ·by_cases c2:sl=(k:Int)
      ·simp [c1,c2] at C06
      ·simp only [esc,Nat.reduceAdd,c0,aL,lL H rL,b1,hRd,E7o,s2,lX,lnm,hAt,lL2,c1,c2,fI,w1,eq_self];exact f1
     ·simp only [esc,Nat.reduceAdd,c0,aL,lL H rL,b1,hRd,E7o,s2,lX,lnm,hAt,lL2,c1,fI,w1];exact f1
end
section
variable {D:Dev} {n m:Int} {g:B5} {v:Val}
theorem E5z {d:Int} {t L:List Int} {x3 x4 x6 x8 x12:Val} {x11 bid q:Nat} (hv:Has g v 256 D.length (D5 D)) (hD:okD D) (hX:rd g x11=rT (encI (d::t))) (ht:t.length=32) (h5:d<=5) (hL:rd g bid=rT (encI L)) (hLl:L.length<=32) (cH:∀ no∈L,no≠0) (hq:8<=q) :
  ∀ (e i M:Nat) (S:W0) (nid:Nat) (H:B5),i+e=L.length->e<M->Grows g H->g.length<=nid->rd H nid=rT (encS S)->S.length+7*e<=1000 ->
  ∃ nid' H' M',wQ q M v x3 x4 x6 x8 (pV x11 0) x12 (sV bid 0 L.length 1) (sV nid 0 S.length 1) (iV (i:Int)) H =
    wQ q (M'+1) v x3 x4 x6 x8 (pV x11 0) x12 (sV bid 0 L.length 1) (sV nid' 0 (S++I5 D (d::t) (uU D (L.drop i))).length 1) (iV (L.length:Nat)) H' /\
   Grows g H'/\g.length<=nid'/\rd H' nid'=rT (encS (S++I5 D (d::t) (uU D (L.drop i)))):=by
 intro e
 induction e with
 | zero =>
  intro i M S nid H hi hM G hn hr hS;obtain ⟨M,rfl⟩:∃ M',M=M'+1:=⟨M-1,by omega⟩;have ei:i=L.length:=by omega
  subst ei;have e1:S++I5 D (d::t) (uU D (L.drop L.length))=S:=by rw [List.drop_length];simp [uU,I5]
  rw [e1];exact ⟨nid,H,M,rfl,G,hn,hr⟩
 | succ e ih =>
  intro i M S nid H hi hM G hn hr hS;obtain ⟨M,rfl⟩:∃ M',M=M'+1:=⟨M-1,by omega⟩;have O9:i<L.length:=by omega
  have c0:(i:Int)<(L.length:Nat):=by omega
  obtain ⟨nid1,H1,f1,f2,f3,f4⟩:=E5A (x3:=x3) (x4:=x4) (x6:=x6) (x8:=x8) (x12:=x12) (q:=q) (M0:=M) hv hD hX ht h5 hL O9 hLl (cH _ (E7J O9)) 7 0 q S nid H (by omega) (by omega) G hn hr (by omega);have eX:N4 (blk D L[i]) 7 0=N9 (blk D L[i]):=rfl;rw [eX] at f1 f4;have h7:=dW (blk D L[i]);have cC:(S++I5 D (d::t) ((N9 (blk D L[i])).map λs=>(L[i],s))).length<=S.length+7:=by
   have:=A5O (D:=D) (X:=d::t) (s:=(N9 (blk D L[i])).map λs=>(L[i],s));rw [List.length_map] at this;rw [E7a];omega
  obtain ⟨nid',H',M',k1,k2⟩:=ih (i+1) M _ nid1 H1 (by omega) (by omega) f2 f3 f4 (by omega);have eA:S++I5 D (d::t) (uU D (L.drop i))=(S++I5 D (d::t) ((N9 (blk D L[i])).map λs=>(L[i],s)))++I5 D (d::t) (uU D (L.drop (i+1))):=by
   rw [E7d O9,C0N,B4d,E7c]
  rw [eA];refine ⟨nid',H',M',?_,k2⟩;have c00:((0:Nat):Int)=0:=rfl;rw [c00] at f1;generalize (S++I5 D (d::t) ((N9 (blk D L[i])).map λs=>(L[i],s)))++I5 D (d::t) (uU D (L.drop (i+1)))=TT at k1 ⊢;generalize S++I5 D (d::t) ((N9 (blk D L[i])).map λs=>(L[i],s))=TU at k1 f1;rw [A5C];simp only [esc,c0];exact f1.trans k1
structure KeptR (D:Dev) (X:List Int) (K:List UInt8->Option Int) (l:W0):Prop where
 mem:∀ s,s∈l↔(K s).isSome=A5
 val:∀ s a,K s=A4 a->a=B1A D X s
theorem E0v {X:List Int} {L:List Int} {s:List UInt8} (hs:s∈gI (I5 D X (uU D L))):∃ no x,no∈L/\x∈N9 (blk D no)/\R3 X s=no/\hmS D X s=A4 x/\x.2.1=s:=by
 rw [B2H] at hs;unfold I5 at hs;obtain ⟨e,he,rfl⟩:=List.mem_map.1 hs;obtain ⟨he1,he2⟩:=List.mem_filter.1 he;unfold uU at he1;obtain ⟨no,cH,he3⟩:=List.mem_flatMap.1 he1;obtain ⟨x,hx,rfl⟩:=List.mem_map.1 he3;unfold atH at he2;simp only [E69,decide_eq_true_eq] at he2;exact ⟨no,x,cH,hx,he2.1,he2.2,rfl⟩
theorem E5B {lo:Nat} {P:Nat->Prop} {h:B5} {d ino:Int} {t L:List Int} {x4:Val} {x6 x8 x11 x12 bid sid q:Nat} {r8:List Cell} (hv:Has h v 256 D.length (D5 D)) (hD:okD D) (ht:t.length=32) (h5:d<=5) (cH:∀ no∈L,no≠0) (hn:n<=128)
  (e6:h.length<=x6) (n1:x6≠x8) (n2:x6≠x11) (n3:x6≠x12) (n4:x6≠bid) (n5:x6≠sid) {S:W0} (hS:S=gI (I5 D (d::t) (uU D L))) (hSl:S.length<=300) :
  ∀ (e i M B:Nat) (s:Cl × (List UInt8->Option Int)) (cs:List Cell) (kl:W0) (kid:Nat) (Q:Nat->Prop) (H:B5),i+e=S.length->e<M->Grows h H->IsRC n Q H cs s.1->¬ Q x6->¬ Q kid->(∀ id,Q id->P id\/lo<=id)->lo<=H.length->(∀ id,Q id->id<H.length)->RowW n s.1->s.1.row.length+e<=1000->BndL s.1 B->B+e<=900000 ->
   rd H x6=rT cs->rd H x8=rT (D8 D.length n m)->rd H x11=rT (encI (d::t))->rd H x12=rT r8->rd H bid=rT (encI L)->rd H sid=rT (encS S)->rd H kid=rT (encS kl)->h.length<=kid->kid≠x6->kid≠x8->kid≠x11->kid≠x12->kid≠bid->kid≠sid->kl.length<=i->KeptR D (d::t) s.2 kl ->
  ∃ cs' kl' kid' Q' H' M',A4l q M v (iV ino) x4 (pV x6 0) (pV x8 0) (pV x11 0) (pV x12 0) (sV bid 0 L.length 1) (sV sid 0 S.length 1) (sV kid 0 kl.length 1) (iV (i:Int)) H =
    A4l q (M'+1) v (iV ino) x4 (pV x6 0) (pV x8 0) (pV x11 0) (pV x12 0) (sV bid 0 L.length 1) (sV sid 0 S.length 1) (sV kid' 0 kl'.length 1) (iV (S.length:Nat)) H' /\
   Grows h H'/\IsRC n Q' H' cs' (aT D n ino s ((S.drop i).map λx=>(x,B1A D (d::t) x))).1/\¬ Q' x6/\¬ Q' kid'/\(∀ id,Q' id->P id\/lo<=id)/\lo<=H'.length/\(∀ id,Q' id->id<H'.length) /\
   rd H' x6=rT cs'/\rd H' x11=rT (encI (d::t))/\rd H' x12=rT r8/\rd H' bid=rT (encI L)/\rd H' kid'=rT (encS kl')/\kid'≠x6/\kid'≠x11/\kid'≠x12/\kid'≠bid/\kl'.length<=300/\KeptR D (d::t) (aT D n ino s ((S.drop i).map λx=>(x,B1A D (d::t) x))).2 kl':=by
 intro e
 induction e with
 | zero =>
  intro i M B s cs kl kid Q H hi hM G K nq6 nqk toP hlo low hR hr hB hB2 r6 r8' r11 r12 rb rs rk hk0 k1 k2 k3 k4 k5 k6 hkl KR;obtain ⟨M,rfl⟩:∃ M',M=M'+1:=⟨M-1,by omega⟩;have ei:i=S.length:=by omega
  subst ei;rw [List.drop_length];exact ⟨cs,kl,kid,Q,H,M,rfl,G,K,nq6,nqk,toP,hlo,low,r6,r11,r12,rb,rk,k1,k3,k4,k5,by omega,KR⟩
 | succ e ih =>
  intro i M B s cs kl kid Q H hi hM G K nq6 nqk toP hlo low hR hr hB hB2 r6 r8' r11 r12 rb rs rk hk0 k1 k2 k3 k4 k5 k6 hkl KR;obtain ⟨M,rfl⟩:∃ M',M=M'+1:=⟨M-1,by omega⟩;have O9:i<S.length:=by omega
  have c0:(i:Int)<(S.length:Nat):=by omega
  have w1:=D3 (show i+1<9223372036854775808 by omega);obtain ⟨no,x,E6m,hx,hh1,hh2,hh3⟩:=E0v (D:=D) (X:=d::t) (L:=L) (s:=S[i]) (by rw [<-hS];exact E7J O9);obtain ⟨hx1,hx2⟩:=B2z hx;have hnl:(S[i]).length<=24:=by rw [<-hh3];exact A0W hx1
  have no0:no≠0:=cH no E6m;have hvH:=hv.grows G;have hAt:=D6S (h:=H) (d:=d) (t:=t) (nm:=S[i]) hvH hD ht h5 (by omega);have eSl:B5K D (d::t) S[i]=(x.1:Int):=by
   have E2l:=hh2;unfold hmS at E2l;unfold B5K;rw [hh1] at E2l ⊢;rw [if_neg no0] at E2l ⊢;rw [E2l];rfl
  have eHn:B1A D (d::t) S[i]=x.2.2:=by unfold B1A;rw [hh2];rfl
  rw [hh1,eSl,hh2] at hAt;have lX:D4 H 33 (pV x11 0)=A4 (.a (encI (d::t))):=C7 r11 (by rw [B7];simp [ht]);have aS:∀ (K:B5),rd K sid=rT (encS S)->B8 K (pV sid i)=A4 (.c (.s S[i])):=λK hK=>C4 hK (by simp [encS,O9]) rfl
  have adS:E1 1 (sV sid 0 S.length 1) (iV (i:Int))=A4 (pV sid i):=by rw [C9 O9];simp
  obtain ⟨u,t1,b1,b2,b3,_⟩:=A0V (no:=no) hvH hD;obtain ⟨K1,hK1⟩:∃ K1,K1=H++t1:=⟨_,rfl⟩;rw [<-hK1] at b1 b3;have GK1:Grows H K1:=by rw [hK1];exact S7 Grows.rfl' b2
  have hRd:=wW (k:=x.1) b3 (O5 hD) hx2;rw [hx1] at hRd;obtain ⟨K2,hK2⟩:∃ K2,K2=K1++[rT (W2 (A4 x.2))]:=⟨_,rfl⟩;have s2:E6 (K1++[rT [Cell.s [],o0]]) 2 (pV K1.length 0) (.a (W2 (A4 x.2)))=A4 K2:=by
   rw [storeAll (n:=2) (cs:=[Cell.s [],o0]) (by rw [E9];rfl) rfl rfl,V6,hK2];rfl
  have G2:Grows H K2:=by rw [hK2];exact GK1.new _
  have E6V:=GK1.len;have lK2:K2.length=K1.length+1:=by rw [hK2];simp
  have l6:D4 K2 8 (pV x6 0)=A4 (.a cs):=C7 (G2.rd r6) K.length;have l8:D4 K2 3 (pV x8 0)=A4 (.a (D8 D.length n m)):=C7 (G2.rd r8') rfl;have le:B8 K2 (pV K1.length 1)=A4 (iV x.2.2):=C4 (cs:=W2 (A4 x.2)) (rw:=A5) (by rw [hK2,E9];rfl) rfl rfl;obtain ⟨cs1,K3,t1',t2',t3'⟩:=E1j (m:=m) (dir:=ino) (ino:=x.2.2) (hvH.grows G2) hD (K.grows G2) hR (by omega) (λa=>⟨(hB a).1,by have:=(hB a).2;omega⟩) hn;have E50:=G2.len;have E6W:=t2'.len;obtain ⟨K4,hK4⟩:∃ K4,K4=K3++[rT cs1]:=⟨_,rfl⟩;have s4:E6 (K3++[rT Z8]) 8 (pV K3.length 0) (.a cs1)=A4 K4:=by
   rw [storeAll (n:=8) (cs:=Z8) (by rw [E9];rfl) rfl t3'.length,V6,hK4];rfl
  have l4:D4 K4 8 (pV K3.length 0)=A4 (.a cs1):=C7 (by rw [hK4,E9];rfl) t3'.length;have E5E:∀ {id r},rd H id=A4 r->rd K4 id=A4 r:=λhr=>by rw [hK4];exact C5 (t2'.rd (G2.rd hr))
  obtain ⟨K5,hK5⟩:∃ K5,K5=K4.set x6 (rT cs1):=⟨_,rfl⟩;have s5:E6 K4 8 (pV x6 0) (.a cs1)=A4 K5:=by rw [storeAll (n:=8) (E5E r6) K.length t3'.length,hK5]
  have lK4:K4.length=K3.length+1:=by rw [hK4];simp
  have lK5:K5.length=K3.length+1:=by rw [hK5];simp [lK4]
  have C1n:∀ {id r},rd H id=A4 r->id≠x6->rd K5 id=A4 r:=λhr T8=>by rw [hK5,B6 (Ne.symm T8)];exact E5E hr
  have G5:Grows h K5:=by rw [hK5,hK4];exact (((G.trans' G2).trans' t2').new _).set e6 _
  obtain ⟨Q1,hQ1⟩:∃ Q1:Nat->Prop,Q1=λid=>(Q id\/K2.length<=id)/\id<K3.length:=⟨_,rfl⟩
  have kr:=C8 rk;have x6l:=C8 r6;have nq16:¬ Q1 x6:=by rw [hQ1];intro hh;rcases hh.1 with hh | hh;exact nq6 hh;omega
  have nq1k:¬ Q1 kid:=by rw [hQ1];intro hh;rcases hh.1 with hh | hh;exact nqk hh;omega
  have Kr1:IsRC n Q1 K5 cs1 (dL D n s.1 ino x.2.2):=by
   rw [hK5,hK4];refine IsRC.set (.inr nq16) (IsRC.grows ((Grows.rfl').new _) ?_);rw [hQ1];exact t3'.low
  have E5F:∀ id,Q1 id->P id\/lo<=id:=λid hh=>by
   rw [hQ1] at hh;rcases hh.1 with hh | hh
   ·exact toP id hh
   ·exact .inr (by omega)
  have low1:∀ id,Q1 id->id<K5.length:=λid hh=>by rw [hQ1] at hh;have:=hh.2;omega
  have q6:rd K5 x6=rT cs1:=by rw [hK5];exact C6 (by omega)
  have ed:aT D n ino s ((S.drop i).map λx=>(x,B1A D (d::t) x))=aT D n ino (Z5 D n ino s (S[i],x.2.2)) ((S.drop (i+1)).map λx=>(x,B1A D (d::t) x)):=by
   rw [E7d O9,E79,eHn];rfl
  rw [ed];obtain ⟨_,fB,fr⟩:=A3i (D:=D) (n:=n) (ino:=ino) (e:=(S[i],x.2.2)) hB;have fR:RowW n (Z5 D n ino s (S[i],x.2.2)).1:=C1m (L:=[(S[i],x.2.2)]) hR;cases hb:iP D n s.1 x.2.2 with
  | false =>
   rw [hb] at t1';have e1:Z5 D n ino s (S[i],x.2.2)=s:=by unfold Z5;rw [hb];rfl
   have e2:dL D n s.1 ino x.2.2=s.1:=by unfold dL;rw [hb];rfl
   rw [e2] at Kr1;rw [e1];obtain ⟨cs',kl',kid',Q',H',M',f1,f2⟩:=ih (i+1) M B s cs1 kl kid Q1 K5 (by omega) (by omega) G5 Kr1 nq16 nq1k E5F (by omega) low1 hR (by omega) hB (by omega) q6 (C1n r8' (Ne.symm n1)) (C1n r11 (Ne.symm n2)) (C1n r12 (Ne.symm n3)) (C1n rb (Ne.symm n4)) (C1n rs (Ne.symm n5)) (C1n rk k1) hk0 k1 k2 k3 k4 k5 k6 (by omega) KR;refine ⟨cs',kl',kid',Q',H',M',?_,f2⟩;rw [vB,A47];simp only [esc,Nat.reduceAdd,c0,lX,adS,aS H rs,hAt,b1,hRd,s2,l6,l8,le,t1',s4,l4,s5,A5B,w1];exact f1
  | true =>
   rw [hb] at t1';have e1:Z5 D n ino s (S[i],x.2.2)=(dL D n s.1 ino x.2.2,D0G s.2 S[i] x.2.2):=by unfold Z5;rw [hb];rfl
   rw [e1] at fB fr fR ⊢;have q5k:=C1n rk k1;have op:=one_app (ys:=[Cell.s S[i]]) q5k (n:=kl.length) (sz:=1) (by rw [N3];omega) rfl (by omega) (by omega);obtain ⟨K6,hK6⟩:∃ K6,K6=(K5++[rT [Cell.s S[i]]]).set kid A7++[rT (encS kl++[Cell.s S[i]])]:=⟨_,rfl⟩;rw [<-hK6] at op;have G6:Grows h K6:=by rw [hK6];exact (A7z (G5.new _) hk0).new _
   have lK6:K6.length=K5.length+2:=by rw [hK6];simp
   have D9o:∀ {id r},rd K5 id=A4 r->id≠kid->rd K6 id=A4 r:=λhr T8=>by
    rw [hK6];refine C5 ?_;rw [B6 (Ne.symm T8)];exact C5 hr
   have q6k:rd K6 (K5.length+1)=rT (encS (kl++[S[i]])):=by
    have:rd K6 ((K5++[rT [Cell.s S[i]]]).set kid A7).length=rT (encS kl++[Cell.s S[i]]):=by rw [hK6];exact T9
    rw [E7D,E7a] at this;rw [show encS (kl++[S[i]])=encS kl++[Cell.s S[i]] by simp [encS]];exact this
   have Kr2:IsRC n Q1 K6 cs1 (dL D n s.1 ino x.2.2):=by
    rw [hK6];exact IsRC.grows ((Grows.rfl').new _) (IsRC.set (.inr nq1k) (IsRC.grows ((Grows.rfl').new _) Kr1))
   have KR2:KeptR D (d::t) (D0G s.2 S[i] x.2.2) (kl++[S[i]]):=by
    refine ⟨λa=>?_,λa b hab=>?_⟩
    ·rw [List.mem_append];unfold D0G;by_cases ea:a=S[i]
     ·rw [if_pos ea];simp [ea]
     ·rw [if_neg ea];simp [ea,KR.mem a]
    ·unfold D0G at hab;by_cases ea:a=S[i]
     ·rw [if_pos ea] at hab;cases hab;rw [ea,eHn]
     ·rw [if_neg ea] at hab;exact KR.val a b hab
   have b11:=C8 r11;have b12:=C8 r12;have bb:=C8 rb;have bs:=C8 rs;have b8:=C8 r8';have lkl:(kl++[S[i]]).length=kl.length+1:=by simp
   obtain ⟨cs',kl',kid',Q',H',M',f1,f2⟩:=ih (i+1) M (B+1) (dL D n s.1 ino x.2.2,D0G s.2 S[i] x.2.2) cs1 (kl++[S[i]]) (K5.length+1) Q1 K6 (by omega) (by omega) G6 Kr2 nq16 (λhh=>by have:=low1 _ hh;omega) E5F (by omega) (λid hh=>by have:=low1 id hh;omega) fR (by omega) fB (by omega) (D9o q6 (Ne.symm k1)) (D9o (C1n r8' (Ne.symm n1)) (Ne.symm k2)) (D9o (C1n r11 (Ne.symm n2)) (Ne.symm k3)) (D9o (C1n r12 (Ne.symm n3)) (Ne.symm k4)) (D9o (C1n rb (Ne.symm n4)) (Ne.symm k5)) (D9o (C1n rs (Ne.symm n5)) (Ne.symm k6)) q6k (by have:=G5.len;omega) (by omega) (by omega) (by omega) (by omega) (by omega) (by omega) (by omega) KR2;rw [lkl] at f1;refine ⟨cs',kl',kid',Q',H',M',?_,f2⟩;have ef:E4 [Cell.s []] [(0,1,.c (.s S[i]))]=A4 [.s S[i]]:=rfl;rw [vB,A47];simp only [esc,Nat.reduceAdd,c0,lX,adS,aS H rs,aS K5 (C1n rs (Ne.symm n5)),hAt,b1,hRd,s2,l6,l8,le,t1',s4,l4,s5,ef,op,A5B,w1];exact f1
end
section
variable {D:Dev} {n m:Int} {g:B5} {v:Val} {Q:Nat->Prop} {H:B5} {c:Cl} {cs:List Cell}
theorem IsRC.lost (k:IsRC n Q H cs c) (a:Int):IsRC n Q H (cs.set 5 (.i .i64 a)) { c with lost:=a }:=by
 obtain ⟨xr,xi,xt,xb,xm,xl,xy,ys,rfl,k⟩:=k;exact ⟨xr,xi,xt,xb,xm,xl,xy,ys,rfl,⟨k.row,k.ino,k.tak,k.blk,k.mad,k.mds,k.tol,k.par,k.pr,k.pi,k.pt,k.pb,k.pm,k.pl,k.py⟩⟩
theorem IsRC.atLost (k:IsRC n Q H cs c):cs[5]?=A4 (.i .i64 c.lost):=by
 obtain ⟨xr,xi,xt,xb,xm,xl,xy,ys,rfl,k⟩:=k;rfl
theorem D8F {X:List Int} {K:List UInt8->Option Int} {kl:W0} (KR:KeptR D X K kl) {no:Int} {k:Nat} {s:List UInt8} {i:Int} (hi:1<=i):A28 D X no K (k,(s,i))=(atH D X (no,(k,(s,i)))&&decide (s∈kl)):=by
 unfold A28;cases ha:atH D X (no,(k,(s,i))) with
 | false=>rfl
 | true =>
  rw [E7j,E7j];have h1:hmS D X s=A4 (k,(s,i)):=by
   unfold atH at ha;simp only [E69,decide_eq_true_eq] at ha;exact ha.2
  have h2:B1A D X s=i:=by unfold B1A;rw [h1];rfl
  show decide ((K s).getD 0=i)=decide (s∈kl);cases hK:K s with
  | none =>
   have:s ∉ kl:=λhm=>by have:=(KR.mem s).1 hm;rw [hK] at this;cases this
   rw [decide_eq_false this];simp;omega
  | some a =>
   have hm:s∈kl:=(KR.mem s).2 (by rw [hK];rfl);have ea:=KR.val s a hK;rw [h2] at ea;rw [decide_eq_true hm];simp [ea]
theorem E0O {s:List UInt8} {i:Int} (h:A15 s i=A5):1<=i:=by
 unfold A15 at h;simp only [E69,decide_eq_true_eq] at h;omega
theorem E5D {lo:Nat} {P:Nat->Prop} {h:B5} {d:Int} {t L:List Int} {x6 x11 bid kid q M0 i:Nat} {x12:Val} {kl:W0} {KK:List UInt8->Option Int} (hv:Has h v 256 D.length (D5 D)) (hD:okD D) (ht:t.length=32) (h5:d<=5) (hi:i<L.length) (cH:L[i]≠0)
  (e6:h.length<=x6) (n2:x6≠x11) (n4:x6≠bid) (n5:x6≠kid) (KR:KeptR D (d::t) KK kl) (hkl:kl.length<=300) :
  ∀ (e k M:Nat) (s:Cl × List UInt8) (cs:List Cell) (y:Cell) (H:B5),k+e=7->e<M->Grows h H->IsRC n Q H cs s.1->¬ Q x6->lo<=H.length->(∀ id,nmC y=A4 id->lo<=id/\id≠x6/\id≠x11/\id≠bid/\id≠kid)->y.isX=A6->Has H (.c y) 1 256 (B4 s.2)->s.2.length=256->0<=s.1.lost/\s.1.lost+e<=900000 ->
   rd H x6=rT cs->rd H x11=rT (encI (d::t))->rd H bid=rT (encI L)->rd H kid=rT (encS kl) ->
  ∃ cs' y' H' M',A4n q M0 M v (pV x6 0) (pV x11 0) x12 (sV bid 0 L.length 1) (sV kid 0 kl.length 1) (iV (i:Int)) (.c y) (iV (k:Int)) H =
    A4n q M0 (M'+1) v (pV x6 0) (pV x11 0) x12 (sV bid 0 L.length 1) (sV kid 0 kl.length 1) (iV (i:Int)) (.c y') (iV 7) H' /\
   Grows h H'/\H.length<=H'.length/\IsRC n Q H' cs' (U5 D (d::t) L[i] KK s (N4 (blk D L[i]) e k)).1/\(∀ id,nmC y'=A4 id->lo<=id/\id≠x6/\id≠x11/\id≠bid/\id≠kid)/\y'.isX=A6/\Has H' (.c y') 1 256 (B4 (U5 D (d::t) L[i] KK s (N4 (blk D L[i]) e k)).2) /\
   rd H' x6=rT cs'/\(∀ j,j<H.length->j≠x6->rd H' j=rd H j):=by
 intro e
 induction e with
 | zero =>
  intro k M s cs y H hk hM G K nq hlow hy hyx hY nC hlo r6 r11 rb rk;obtain ⟨M,rfl⟩:∃ M',M=M'+1:=⟨M-1,by omega⟩;have ek:k=7:=by omega
  subst ek;exact ⟨cs,y,H,M,rfl,G,E7b _,K,hy,hyx,hY,r6,λ_ _ _=>rfl⟩
 | succ e ih =>
  intro k M s cs y H hk hM G K nq hlow hy hyx hY nC hlo r6 r11 rb rk;obtain ⟨M,rfl⟩:∃ M',M=M'+1:=⟨M-1,by omega⟩;have k7:k<7:=by omega
  have c0:(k:Int)<7:=by omega
  have w1:=D3 (show k+1<9223372036854775808 by omega);have hvH:=hv.grows G;have aL:E1 1 (sV bid 0 L.length 1) (iV (i:Int))=A4 (pV bid i):=by rw [C9 hi];simp
  have lL:∀ K:B5,rd K bid=rT (encI L)->B8 K (pV bid i)=A4 (iV L[i]):=λK hK=>C4 hK (by rw [G8,E66 hi];rfl) rfl
  obtain ⟨u,t1,b1,b2,b3,_⟩:=A0V (no:=L[i]) hvH hD;obtain ⟨K1,hK1⟩:∃ K1,K1=H++t1:=⟨_,rfl⟩;rw [<-hK1] at b1 b3;have GK1:Grows H K1:=by rw [hK1];exact S7 Grows.rfl' b2
  have hRd:=wW (k:=k) b3 (O5 hD) k7;have el2:(W2 (S3 (blk D L[i]) k)).length=2:=by cases S3 (blk D L[i]) k<;>rfl
  obtain ⟨K2,hK2⟩:∃ K2,K2=K1++[rT (W2 (S3 (blk D L[i]) k))]:=⟨_,rfl⟩;have s2:E6 (K1++[rT [Cell.s [],o0]]) 2 (pV K1.length 0) (.a (W2 (S3 (blk D L[i]) k)))=A4 K2:=by
   rw [storeAll (n:=2) (cs:=[Cell.s [],o0]) (by rw [E9];rfl) rfl el2,V6,hK2];rfl
  have G2:Grows H K2:=by rw [hK2];exact GK1.new _
  have E50:=G2.len;have same2:∀ j,j<H.length->rd K2 j=rd H j:=λj hj=>by
   obtain ⟨tt,hh⟩:=G2.1;rw [<-hh,D9 hj]
  cases hr2:S3 (blk D L[i]) k with
  | none =>
   rw [hr2] at hRd s2;rw [wU hr2];obtain ⟨cs',y',H',M',f1,f2,f3,f4,f5,f6,f7,f8,f9⟩:=ih (k+1) M s cs y K2 (by omega) (by omega) (G.trans' G2) (K.grows G2) nq (by omega) hy hyx (hY.grows G2) nC ⟨hlo.1,by omega⟩ (G2.rd r6) (G2.rd r11) (G2.rd rb) (G2.rd rk);refine ⟨cs',y',H',M',?_,f2,by omega,f4,f5,f6,f7,f8,λj hj T8=>by rw [f9 j (by omega) T8,same2 j hj]⟩;rw [nB];simp only [esc,Nat.reduceAdd,E77,c0,aL,lL H rb,b1,hRd,E7x,s2,bM,w1];exact f1
  | some x =>
   obtain ⟨nm,ii⟩:=x;rw [hr2] at hRd s2;have hnl:nm.length<=24:=A0W (x:=(nm,ii)) hr2;have E5i:A15 nm ii=A5:=D13 (x:=(nm,ii)) hr2;have B50:=E0O E5i;rw [wV hr2];have ec:∀ T,U5 D (d::t) L[i] KK s ((k,(nm,ii))::T)=U5 D (d::t) L[i] KK (gF D (d::t) L[i] KK s (k,(nm,ii))) T:=λT=>rfl
   rw [ec];have hkE:=D8F KR (no:=L[i]) (k:=k) (s:=nm) B50;have C06:=D9M (X:=d::t) cH hr2;have lX:D4 K2 33 (pV x11 0)=A4 (.a (encI (d::t))):=C7 (G2.rd r11) (by rw [B7];simp [ht]);have rE:rd K2 K1.length=rT [.s nm,.i .i64 ii]:=by rw [hK2,E9,hr2];rfl
   have lnm:B8 K2 (pV K1.length 0)=A4 (.c (.s nm)):=C4 rE rfl rfl;have lE:D4 K2 2 (pV K1.length 0)=A4 (.a [.s nm,.i .i64 ii]):=C7 rE rfl;have hAt:=D6S (h:=K2) (d:=d) (t:=t) (nm:=nm) (hvH.grows G2) hD ht h5 (by omega);have lL2:=lL K2 (G2.rd rb);have hIn:=E4C (s:=nm) (h:=K2) (x:=sV kid 0 kl.length 1) (nv:=kl.length) (l:=kl) (Has.row (G2.rd rk) (by rw [N3];omega) (B8H _)) (by omega);cases hke:A28 D (d::t) L[i] KK (k,(nm,ii)) with
   | true =>
    rw [hke] at hkE;have hkE:=hkE.symm;rw [E69,decide_eq_true_eq] at hkE;obtain ⟨ha,hm⟩:=hkE;rw [ha] at C06;simp only [E69,decide_eq_true_eq] at C06;obtain ⟨⟨g1,g2⟩,g3⟩:=C06;rw [decide_eq_true hm] at hIn;have es:gF D (d::t) L[i] KK s (k,(nm,ii))=(s.1,J1 s.2 (K9 k) (Y2 nm ii)):=by unfold gF;rw [hke];rfl
    rw [es];have hB:=B17 (h:=K2) E5i;obtain ⟨K3,hK3⟩:∃ K3,K3=K2++[rT (B4 (Y2 nm ii))]:=⟨_,rfl⟩;rw [<-hK3] at hB;have lK3:K3.length=K2.length+1:=by rw [hK3];simp
    have G3:Grows H K3:=by rw [hK3];exact G2.new _
    have hEl:=Y3 (s:=nm) (n:=ii);have hL:=nJ (v:=.c y) (u:=sV K2.length 0 32 1) (nv:=256) (nu:=32) (l:=s.2) (data:=Y2 nm ii) (h:=K3) (hY.grows G3) (by rw [hK3];exact Has.row (rw:=A5) (by rw [E9];rfl) (by rw [A9,hEl]) (F9 _)) (a:=((32+32*k:Nat):Int)) (by omega) (by omega);have eL:A87 s.2 ((32+32*k:Nat):Int) (Y2 nm ii)=J1 s.2 (K9 k) (Y2 nm ii):=by rw [A0R (by rw [hEl];omega)];rfl
    rw [eL,nC] at hL;obtain ⟨K4,hK4⟩:∃ K4,K4=K3++[rT (B4 (J1 s.2 (K9 k) (Y2 nm ii)))]:=⟨_,rfl⟩;rw [<-hK4] at hL;have G4:Grows H K4:=by rw [hK4];exact G3.new _
    have lK4:K4.length=K3.length+1:=by rw [hK4];simp
    have same4:∀ j,j<H.length->rd K4 j=rd H j:=λj hj=>by
     obtain ⟨tt,hh⟩:=G4.1;rw [<-hh,D9 hj]
    have nl:(J1 s.2 (K9 k) (Y2 nm ii)).length=256:=by rw [P5 (by rw [hEl,nC];unfold K9;omega)];exact nC
    have b6:=C8 r6;have b11:=C8 r11;have bb:=C8 rb;have bk:=C8 rk;obtain ⟨cs',y',H',M',f1,f2,f3,f4,f5,f6,f7,f8,f9⟩:=ih (k+1) M (s.1,J1 s.2 (K9 k) (Y2 nm ii)) cs (.sl K3.length 0 256 1) K4 (by omega) (by omega) (G.trans' G4) (K.grows G4) nq (by omega) (λid hid=>by cases hid;exact ⟨by omega,by omega,by omega,by omega,by omega⟩) rfl (by rw [hK4];exact Has.row (rw:=A5) (by rw [E9];rfl) (by rw [A9,nl]) (F9 _)) nl ⟨hlo.1,by have:=hlo.2;dsimp only;omega⟩ (G4.rd r6) (G4.rd r11) (G4.rd rb) (G4.rd rk);refine ⟨cs',y',H',M',?_,f2,by omega,f4,f5,f6,f7,f8,λj hj T8=>by rw [f9 j (by omega) T8,same4 j hj]⟩;have wm:IntKind.wrap .i64 (32*(k:Int))=32*(k:Int):=wrap_i64 (by omega) (by omega);have wa:IntKind.wrap .i64 (32+32*(k:Int))=((32+32*k:Nat):Int):=by rw [wrap_i64 (by omega) (by omega)];omega
    rw [nB];generalize encI (d::t)=X at *;generalize R3 (d::t) nm=hb at *;generalize B5K D (d::t) nm=sl at *;generalize (hmS D (d::t) nm).isSome=hm2 at *;subst g1;simp only [esc,Nat.reduceAdd,E8a,c0,aL,lL H rb,b1,hRd,E7o,s2,lX,lnm,hAt,lL2,g2,g3,hIn,wm,wa,lE,hB,hL,bM,w1,eq_self];exact f1
   | false =>
    have es:gF D (d::t) L[i] KK s (k,(nm,ii))=({ s.1 with lost:=s.1.lost+1 },s.2):=by unfold gF;rw [hke];rfl
    rw [es];rw [hke] at hkE;have wl:IntKind.wrap .i64 (s.1.lost+1)=s.1.lost+1:=wrap_i64 (by omega) (by omega);have q6:=G2.rd r6;have c8:=K.length;have l5:B8 K2 (pV x6 5)=A4 (iV s.1.lost):=C4 q6 K.atLost rfl;obtain ⟨K3,hK3⟩:∃ K3,K3=K2.set x6 (rT (cs.set 5 (.i .i64 (s.1.lost+1)))):=⟨_,rfl⟩;have s5:I3 K2 (pV x6 5) (iV (s.1.lost+1))=A4 K3:=by rw [G9 q6 (by omega),hK3]
    have lK3:K3.length=K2.length:=by rw [hK3];simp
    have o3:∀ j,j≠x6->rd K3 j=rd K2 j:=λj hj=>by rw [hK3,B6 (Ne.symm hj)]
    have b6:=C8 r6;have hY3:Has K3 (.c y) 1 256 (B4 s.2):=by rw [hK3];exact has_set (hY.grows G2) (.inr λhh=>(hy _ hh).2.1 rfl)
    obtain ⟨cs',y',H',M',f1,f2,f3,f4,f5,f6,f7,f8,f9⟩:=ih (k+1) M ({ s.1 with lost:=s.1.lost+1 },s.2) (cs.set 5 (.i .i64 (s.1.lost+1))) y K3 (by omega) (by omega) (by rw [hK3];exact (G.trans' G2).set e6 _) (by rw [hK3];exact ((K.grows G2).set (.inr nq)).lost _) nq (by omega) hy hyx hY3 nC ⟨by have:=hlo.1;dsimp only;omega,by have:=hlo.2;dsimp only;omega⟩ (by rw [hK3];exact C6 (by omega)) (by rw [o3 _ (Ne.symm n2)];exact G2.rd r11) (by rw [o3 _ (Ne.symm n4)];exact G2.rd rb) (by rw [o3 _ (Ne.symm n5)];exact G2.rd rk);refine ⟨cs',y',H',M',?_,f2,by omega,f4,f5,f6,f7,f8,λj hj T8=>by rw [f9 j (by omega) T8,o3 j T8,same2 j hj]⟩;rw [nB];generalize encI (d::t)=X at *;generalize R3 (d::t) nm=hb at *;generalize B5K D (d::t) nm=sl at *;generalize (hmS D (d::t) nm).isSome=hm2 at *;cases hm2 with
    | false =>
     simp only [esc,Nat.reduceAdd,E8a,c0,aL,lL H rb,b1,hRd,E7o,s2,lX,lnm,hAt,l5,wl,s5,bM,w1];exact f1
    | true =>
     by_cases c1:hb=L[i]
     ·by_cases c2:sl=(k:Int)
      ·have hm3:decide (nm∈kl)=A6:=by
        have hat:atH D (d::t) (L[i],(k,(nm,ii)))=A5:=by rw [<-C06];simp [c1,c2]
        rw [hat,E7j] at hkE;exact hkE.symm
       rw [hm3] at hIn;simp only [esc,Nat.reduceAdd,E8a,c0,aL,lL H rb,b1,hRd,E7o,s2,lX,lnm,hAt,lL2,c1,c2,hIn,l5,wl,s5,bM,w1,eq_self];exact f1
      ·simp only [esc,Nat.reduceAdd,E8a,c0,aL,lL H rb,b1,hRd,E7o,s2,lX,lnm,hAt,lL2,c1,c2,l5,wl,s5,bM,w1,eq_self];exact f1
     ·simp only [esc,Nat.reduceAdd,E8a,c0,aL,lL H rb,b1,hRd,E7o,s2,lX,lnm,hAt,lL2,c1,l5,wl,s5,bM,w1];exact f1
end
def jT (o:W0) (x:List UInt8):Bool:=match o.getLast? with | none=>A5 | some y=>M7 y x
def iM (o:W0) (a:Option (List UInt8)) (x:List UInt8):Option (List UInt8) :=
 bif jT o x then (match a with | none=>A4 x | some y=>bif M7 x y then A4 x else A4 y) else a
def A4v (o:W0) (l:W0) (a:Option (List UInt8)):Option (List UInt8):=l.foldl (iM o) a
theorem B4n {v:Val} {nv q m id:Nat} {l o:W0} {h:B5} (hv:Has h v 1 nv (encS l)) (hn:l.length=nv) (h62:nv<1073741824) (hb:∀ x∈l,x.length<9223372036854775807) (hr:rd h id=rT (encS o)) (hol:o.length<9223372036854775808) (hob:∀ x∈o,x.length<9223372036854775807) :
  ∀ (e i m2:Nat) (a:Option (List UInt8)),i+e=nv->e<m2 ->
  B8b q m m2 v (sV id 0 o.length 1) (bV a.isSome) (.c (.s (a.getD []))) (iV i) h =
   match A4v o (l.drop i) a with
   | none=>A4 (sV id 0 o.length 1,h)
   | some y=>bnd (jZ (h++[rT [.s y]]) 1 (sV id 0 o.length 1) (sV h.length 0 1 1)) λp=>A7t q m v p.1 p.2
 | e,i,0,a,_,hm=>by omega
 | 0,i,m2+1,a,hi,hm=>by
  have e0:i=nv:=by omega
  subst e0;have c0:¬ (i:Int)<i:=by omega
  rw [A8q,E7k (by omega)];unfold A4v;rw [List.foldl_nil];cases a with
  | none=>simp only [esc,hv.len,c0,E7x]
  | some y =>
   have ef:E4 [Cell.s []] [(0,1,.c (.s y))]=A4 [.s y]:=rfl;simp only [esc,hv.len,c0,E7o,E7N,ef]
 | e+1,i,m2+1,a,hi,hm=>by
  have ih:=λa=>B4n (q:=q) (m:=m) hv hn h62 hb hr hol hob e (i+1) m2 a (by omega) (by omega)
  have c0:(i:Int)<nv:=by omega
  have hlen:=hv.len;obtain ⟨jd,off,ev,hjd,k1,k2⟩:=hv.sl (by omega);have hx:=k1 i (.s l[i]) (by rw [A5m,E66 (by omega)];rfl);have eb:E1 1 v (iV (i:Int))=A4 (pV jd (off+i)):=by rw [ev,C9 (by omega)];simp
  have w1:=D3 (show i+1<9223372036854775808 by omega);have hxb:=hb l[i] (E7J (by omega));have ed:A4v o (l.drop i) a=A4v o (l.drop (i+1)) (iM o a l[i]):=by
   unfold A4v;rw [E7d (by omega:i<l.length),List.foldl_cons]
  rw [ed,A8q];generalize l[i]=s at *;rcases Nat.eq_zero_or_pos o.length with h0 | h0
  ·have eo:o=[]:=List.eq_nil_of_length_eq_zero h0;subst eo;have ea:jT [] s=A5:=rfl;have c1:¬ (0:Int)<((0:Nat):Int):=by omega
   cases a with
   | none =>
    have es:iM [] A7 s=A4 s:=rfl;have ih:=ih (A4 s);rw [es];simp only [E7o,E7N,E7x,E7Z] at ih ⊢;simp only [esc,hlen,c0,c1,eb,hx,aA,w1] at ih ⊢;exact ih
   | some y =>
    have hL:=λh=>B6c (s:=s) (t:=y) hxb h
    cases cb:M7 s y with
    | true =>
     have es:iM [] (A4 y) s=A4 s:=by unfold iM;rw [ea,cond_true];simp only;rw [cb,cond_true]
     have ih:=ih (A4 s);rw [cb] at hL;rw [es];simp only [E7o,E7N] at ih ⊢;simp only [esc,hlen,c0,c1,eb,hx,hL,aA,w1] at ih ⊢;exact ih
    | false =>
     have es:iM [] (A4 y) s=A4 y:=by unfold iM;rw [ea,cond_true];simp only;rw [cb,cond_false]
     have ih:=ih (A4 y);rw [cb] at hL;rw [es];simp only [E7o,E7N] at ih ⊢;simp only [esc,hlen,c0,c1,eb,hx,hL,aA,w1] at ih ⊢;exact ih
  ·have c1:(0:Int)<(o.length:Nat):=by omega
   have w2:IntKind.wrap .i64 ((o.length:Int)-1)=((o.length-1:Nat):Int):=by rw [wrap_i64 (by omega) (by omega)];omega
   have eg:o.getLast?=A4 o[o.length-1]:=by rw [List.getLast?_eq_getElem?,E66 (by omega)]
   have ea2:E1 1 (sV id 0 o.length 1) (iV ((o.length-1:Nat):Int))=A4 (pV id (o.length-1)):=by rw [C9 (by omega)];simp
   have hy:B8 h (pV id (o.length-1))=A4 (.c (.s o[o.length-1])):=C4 hr (by rw [A5m,E66 (by omega)];rfl) rfl;have hL:=λh=>B6c (s:=o[o.length-1]) (t:=s) (hob _ (E7J (by omega))) h
   have eab:jT o s=M7 o[o.length-1] s:=by unfold jT;rw [eg]
   generalize o[o.length-1]=z at *;generalize o.length-1=k at *;cases ca:M7 z s with
   | false =>
    rw [ca] at hL eab;have es:iM o a s=a:=by unfold iM;rw [eab,cond_false]
    rw [es];have ih:=ih a;simp only [esc,hlen,c0,c1,w2,ea2,hy,eb,hx,hL,aA,w1] at ih ⊢;exact ih
   | true =>
    rw [ca] at hL eab;cases a with
    | none =>
     have es:iM o A7 s=A4 s:=by unfold iM;rw [eab,cond_true]
     have ih:=ih (A4 s);rw [es];simp only [E7o,E7N,E7x,E7Z] at ih ⊢;simp only [esc,hlen,c0,c1,w2,ea2,hy,eb,hx,hL,aA,w1] at ih ⊢;exact ih
    | some y =>
     have hL2:=λh=>B6c (s:=s) (t:=y) hxb h
     cases cb:M7 s y with
     | true =>
      have es:iM o (A4 y) s=A4 s:=by unfold iM;rw [eab,cond_true];simp only;rw [cb,cond_true]
      have ih:=ih (A4 s);rw [cb] at hL2;rw [es];simp only [E7o,E7N] at ih ⊢;simp only [esc,hlen,c0,c1,w2,ea2,hy,eb,hx,hL,hL2,aA,w1] at ih ⊢;exact ih
     | false =>
      have es:iM o (A4 y) s=A4 y:=by unfold iM;rw [eab,cond_true];simp only;rw [cb,cond_false]
      have ih:=ih (A4 y);rw [cb] at hL2;rw [es];simp only [E7o,E7N] at ih ⊢;simp only [esc,hlen,c0,c1,w2,ea2,hy,eb,hx,hL,hL2,aA,w1] at ih ⊢;exact ih
theorem A3b (o:W0):∀ (l:W0) (y:List UInt8),∃ z,A4v o l (A4 y)=A4 z/\(z=y\/(z∈l/\jT o z=A5/\M7 z y=A5))/\∀ x∈l,jT o x=A5->M7 x z=A6
 | [],y=>⟨y,rfl,.inl rfl,by simp⟩
 | x::l,y=>by
  unfold A4v;rw [List.foldl_cons];cases ca:jT o x with
  | false =>
   have es:iM o (A4 y) x=A4 y:=by unfold iM;rw [ca,cond_false]
   obtain ⟨z,h1,h2,h3⟩:=A3b o l y;rw [es];refine ⟨z,h1,?_,λw hw haw=>?_⟩
   ·rcases h2 with h2 | ⟨h2,h4⟩
    ·exact .inl h2
    ·exact .inr ⟨E7s _ h2,h4⟩
   ·rcases List.mem_cons.1 hw with e | hw
    ·subst e;rw [ca] at haw;cases haw
    ·exact h3 w hw haw
  | true =>
   cases cb:M7 x y with
   | true =>
    have es:iM o (A4 y) x=A4 x:=by unfold iM;rw [ca,cond_true];simp only;rw [cb,cond_true]
    obtain ⟨z,h1,h2,h3⟩:=A3b o l x;rw [es];refine ⟨z,h1,.inr ?_,λw hw haw=>?_⟩
    ·rcases h2 with h2 | ⟨h2,h4,h5⟩
     ·subst h2;exact ⟨E7u ..,ca,cb⟩
     ·exact ⟨E7s _ h2,h4,kQ h5 cb⟩
    ·rcases List.mem_cons.1 hw with e | hw
     ·subst e;rcases h2 with h2 | ⟨_,_,h5⟩
      ·subst h2;exact pP _
      ·cases c:M7 w z with
       | false=>rfl
       | true=>have:=kQ c h5;rw [pP] at this;cases this
     ·exact h3 w hw haw
   | false =>
    have es:iM o (A4 y) x=A4 y:=by unfold iM;rw [ca,cond_true];simp only;rw [cb,cond_false]
    obtain ⟨z,h1,h2,h3⟩:=A3b o l y;rw [es];refine ⟨z,h1,?_,λw hw haw=>?_⟩
    ·rcases h2 with h2 | ⟨h2,h4⟩
     ·exact .inl h2
     ·exact .inr ⟨E7s _ h2,h4⟩
    ·rcases List.mem_cons.1 hw with e | hw
     ·subst e;rcases h2 with h2 | ⟨_,_,h5⟩
      ·subst h2;exact cb
      ·cases c:M7 w z with
       | false=>rfl
       | true=>have:=kQ c h5;rw [cb] at this;cases this
     ·exact h3 w hw haw
theorem C24 (o:W0):∀ l:W0,(A4v o l A7=A7/\∀ x∈l,jT o x=A6)\/∃ z,A4v o l A7=A4 z/\z∈l/\jT o z=A5/\∀ x∈l,jT o x=A5->M7 x z=A6
 | []=>.inl ⟨rfl,by simp⟩
 | x::l=>by
  unfold A4v;rw [List.foldl_cons];cases ca:jT o x with
  | false =>
   have es:iM o A7 x=A7:=by unfold iM;rw [ca,cond_false]
   rw [es];rcases C24 o l with ⟨h1,h2⟩ | ⟨z,h1,h2,h3,h4⟩
   ·exact .inl ⟨h1,λw hw=>by rcases List.mem_cons.1 hw with e | hw;subst e;exact ca;exact h2 w hw⟩
   ·exact .inr ⟨z,h1,E7s _ h2,h3,λw hw haw=>by
     rcases List.mem_cons.1 hw with e | hw
     ·subst e;rw [ca] at haw;cases haw
     ·exact h4 w hw haw⟩
  | true =>
   have es:iM o A7 x=A4 x:=by unfold iM;rw [ca,cond_true]
   rw [es];obtain ⟨z,h1,h2,h3⟩:=A3b o l x;refine .inr ⟨z,h1,?_⟩;rcases h2 with h2 | ⟨h2,h4,h5⟩
   ·subst h2;exact ⟨E7u ..,ca,λw hw haw=>by
     rcases List.mem_cons.1 hw with e | hw
     ·subst e;exact pP _
     ·exact h3 w hw haw⟩
   ·exact ⟨E7s _ h2,h4,λw hw haw=>by
     rcases List.mem_cons.1 hw with e | hw
     ·subst e;cases c:M7 w z with
      | false=>rfl
      | true=>have:=kQ c h5;rw [pP] at this;cases this
     ·exact h3 w hw haw⟩
def Part (l o:W0):Prop:=Up o/\(∀ x∈o,x∈l)/\∀ x∈l,jT o x=A6->x∈o
theorem B5D {o:W0} {z x:List UInt8}:jT (o++[z]) x=M7 z x:=by unfold jT;simp
theorem E27 {o:W0} {z x:List UInt8} (ho:Up o) (ha:jT o z=A5) (hx:x∈o):M7 x z=A5:=by
 unfold jT at ha;cases hg:o.getLast? with
 | none=>rw [List.getLast?_eq_none_iff] at hg;subst hg;cases hx
 | some y =>
  rw [hg] at ha;obtain ⟨ini,rfl⟩:=List.getLast?_eq_some_iff.1 hg;rcases List.mem_append.1 hx with h | h
  ·have:=(List.pairwise_append.1 ho).2.2 x h y (by simp);exact kQ this ha
  ·simp at h;subst h;exact ha
theorem D8X {l o:W0} {z:List UInt8} (hp:Part l o) (hz:z∈l) (ha:jT o z=A5) (hm:∀ x∈l,jT o x=A5->M7 x z=A6):Part l (o++[z]):=by
 obtain ⟨h1,h2,h3⟩:=hp;refine ⟨?_,?_,?_⟩
 ·show List.Pairwise _ _;rw [List.pairwise_append];exact ⟨h1,by simp,λx hx y hy=>by simp at hy;subst hy;exact E27 h1 ha hx⟩
 ·intro x hx;rcases List.mem_append.1 hx with h | h
  ·exact h2 x h
  ·simp at h;subst h;exact hz
 ·intro x hx hab;rw [B5D] at hab;cases c:jT o x with
  | false=>exact List.mem_append_left _ (h3 x hx c)
  | true =>
   have k:=hm x hx c;rcases C0Q x z with h | h | h
   ·rw [h] at k;cases k
   ·subst h;simp
   ·rw [h] at hab;cases hab
def D1O (l o:W0):Nat:=(l.filter (jT o)).length
theorem filter_lt {α:Type} {p r:α -> Bool}:∀ {l:List α} {z:α},(∀ x∈l,p x=A5->r x=A5)->z∈l->p z=A6->r z=A5->(l.filter p).length<(l.filter r).length
 | [],z,_,hz,_,_=>by cases hz
 | x::l,z,h,hz,hp,hr=>by
  have cC:∀ {l:List α},(∀ x∈l,p x=A5->r x=A5)->(l.filter p).length<=(l.filter r).length:=by
   intro l
   induction l with
   | nil=>intro _;simp
   | cons y l ih =>
    intro h;have h1:=ih λx hx=>h x (E7s _ hx)
    have h2:=h y (E7u ..);simp only [List.filter_cons];cases hy:p y with
    | true=>rw [h2 hy];simpa using h1
    | false=>cases r y<;>simp<;>omega
  have h1:=h x (E7u ..);have h':∀ y∈l,p y=A5->r y=A5:=λy hy=>h y (E7s _ hy)
  rcases List.mem_cons.1 hz with e | hz
  ·subst e;have:=cC h';simp only [List.filter_cons,hp,hr,if_true,E7g];simp;omega
  ·have ih:=filter_lt h' hz hp hr;simp only [List.filter_cons];cases hx:p x with
   | true=>rw [h1 hx];simpa using ih
   | false=>cases r x<;>simp<;>omega
theorem D6x {l o:W0} {z:List UInt8} (hz:z∈l) (ha:jT o z=A5):D1O l (o++[z])<D1O l o:=by
 refine filter_lt (z:=z) (λx hx h=>?_) hz (by rw [B5D,pP]) ha;rw [B5D] at h;unfold jT at ha ⊢;cases hg:o.getLast? with
 | none=>rfl
 | some y=>rw [hg] at ha;exact kQ ha h
theorem B4o {v:Val} {nv q:Nat} {l:W0} {g:B5} (hq:nv<q) (hv:Has g v 1 nv (encS l)) (hn:l.length=nv) (h62:nv<1073741824) (hb:∀ x∈l,x.length<9223372036854775807) :
  ∀ (f m:Nat) (o:W0) (h:B5) (id:Nat),D1O l o<=f->f<m->o.length+D1O l o<=nv->Part l o->Low g.length g h->g.length<=id->rd h id=rT (encS o) ->
  ∃ v2 h2,A7t q m v (.c (.sl id 0 o.length 1)) h=A4 (v2,h2)/\Out g.length h2 v2 1 (gI l).length (encS (gI l))
 | f,0,o,h,id,_,hm,_,_,_,_,_=>by omega
 | f,m+1,o,h,id,hf,hm,hol,hp,hlow,hid,hr=>by
  have e1:=B4n (q:=q) (m:=m) (hv.since hlow) hn h62 hb hr (by omega) (λx hx=>hb x (hp.2.1 x hx)) nv 0 q A7 (by omega) hq;rw [E7p] at e1;rw [C4w];simp only [E7x,E7Z] at e1;rw [show (((0:Nat):Int))=0 from rfl] at e1;rcases C24 o l with ⟨k1,k2⟩ | ⟨z,k1,k2,k3,k4⟩
  ·rw [k1] at e1;have eo:o=gI l:=E4Q hp.1 (E1C l) λx=>by
    rw [B2H];exact ⟨hp.2.1 x,λhx=>hp.2.2 x hx (k2 x hx)⟩
   rw [<-eo];exact ⟨_,_,e1,by rw [N3];omega,_,rfl,hid,hr⟩
  ·rw [k1] at e1;have V5:=D6x k2 k3 (o:=o);obtain ⟨h1,a1,a2,a3,a4,a5⟩:=push (ys:=[.s z]) (sz:=1) (n:=o.length) hlow hr (by rw [N3];omega) hid rfl (by omega) (by omega);have he:encS o++[.s z]=encS (o++[z]):=by simp [encS]
   rw [he] at a2;have el:(o++[z]).length=o.length+1:=by simp
   obtain ⟨v2,h2,f1,f2⟩:=B4o hq hv hn h62 hb (f-1) m (o++[z]) h1 (h.length+1) (by omega) (by omega) (by omega) (D8X hp k2 k3 k4) a3 a4 a2;rw [el] at f1;refine ⟨v2,h2,?_,f2⟩;rw [e1];simp only [a1,P9];exact f1
theorem D0z {v:Val} {nv:Nat} {l:W0} {h:B5} (hv:Has h v 1 nv (encS l)) (h62:nv<1073741824) (hb:∀ x∈l,x.length<9223372036854775807) :
  A95 [v] h=A4 (sV h.length 0 (gI l).length 1,h++[rT (encS (gI l))]):=by
 have hn:l.length=nv:=by simpa [N3] using hv.length
 have key:∀ N,nv<N->∀ g,Has g v 1 nv (encS l)->∃ v2 g',A9n N [v] g=A4 (v2,g')/\Out g.length g' v2 1 (gI l).length (encS (gI l)):=by
  intro N hN g hv;have hf:D1O l []=nv:=by
   unfold D1O;have e:l.filter (jT [])=l:=List.filter_eq_self.2 λx _=>rfl
   rw [e,hn]
  obtain ⟨v2,g',f1,f2⟩:=B4o (q:=N) hN hv hn h62 hb nv N [] ((g++[rT []])++[rT []]) (g.length+1) (by omega) hN (by simp;omega)
   ⟨List.Pairwise.nil,by simp,λx _ h=>by cases h⟩ (((Low.refl (E7b _)).new _).new _) (by omega) (by simp [encS])
  rw [C5w];refine ⟨v2,g',?_,f2⟩;simpa using f1
 obtain ⟨v2,g',e,ho⟩:=key (nv+1) (by omega) (ro h) hv.ro;exact C3V e (by simpa [F7] using ho) (by simp)
theorem E0R:bN []=hdB:=by decide +kernel
theorem E0s {h:B5}:A2C [] h=A4 (sV h.length 0 256 1,h++[rT (B4 (bN []))]):=by rw [E0R];exact D0C
section
variable {D:Dev} {n m:Int} {v:Val}
theorem D7K {lo:Nat} {P:Nat->Prop} {h H:B5} {Q:Nat->Prop} {c:Cl} {cs:List Cell} {y:Cell} {b:List UInt8} {no:Int} {x6:Nat} (G:Grows h H) (e6:h.length<=x6) (K:IsRC n Q H cs c) (nq:¬ Q x6) (toP:∀ id,Q id->P id\/lo<=id) (hlo:lo<=H.length) (r6:rd H x6=rT cs) (hY:Has H (.c y) 1 256 (B4 b)) (hy:∀ id,nmC y=A4 id->lo<=id/\id≠x6) (hyx:y.isX=A6) (h1:c.blocks.length<=100000) (h2:c.made.length<=100000) :
  ∃ cs' H1 H2 Q',A2E [.a cs,iV no,.c y] H=A4 (.a cs',H1)/\E6 H1 8 (pV x6 0) (.a cs')=A4 H2/\Grows h H2/\H.length<=H2.length/\IsRC n Q' H2 cs' (S5 c no b)/\¬ Q' x6/\(∀ id,Q' id->P id\/lo<=id)/\rd H2 x6=rT cs'/\(∀ j,j<H.length->j≠x6->rd H2 j=rd H j):=by
 have K1:IsRC n (λid=>Q id\/nmC y=A4 id) H cs c:=K.mono λ_=>.inl
 obtain ⟨cs',H1,m1,m2,m3⟩:=D5H (no:=no) K1 hY (λid hid=>.inr hid) h1 h2 hyx;have q6:=m2.rd r6;have b6:=C8 r6;obtain ⟨H2,hH2⟩:∃ H2,H2=H1.set x6 (rT cs'):=⟨_,rfl⟩;have hgl:=G.len;have hHl:=m2.len;have nq':¬ ((Q x6\/nmC y=A4 x6)\/H.length<=x6):=by
  intro hh;rcases hh with (hh | hh) | hh
  ·exact nq hh
  ·exact (hy _ hh).2 rfl
  ·omega
 refine ⟨cs',H1,H2,_,m1,by rw [storeAll (n:=8) q6 K.length m3.length,hH2],by rw [hH2];exact (G.trans' m2).set e6 _,by rw [hH2];simp;omega,by rw [hH2];exact m3.set (.inr nq'),nq',λid hid=>?_,by rw [hH2];exact C6 (by omega),λj hj T8=>?_⟩
 ·rcases hid with (hh | hh) | hh
  ·exact toP id hh
  ·exact .inr (hy _ hh).1
  ·exact .inr (by omega)
 ·rw [hH2,B6 (Ne.symm T8)];obtain ⟨tt,hh⟩:=m2.1;rw [<-hh,D9 hj]
theorem E5C {lo:Nat} {P:Nat->Prop} {h:B5} {d:Int} {t L:List Int} {x6 x11 x12 bid kid q:Nat} {kl:W0} {KK:List UInt8->Option Int} {r8:List Cell} (hv:Has h v 256 D.length (D5 D)) (hD:okD D) (ht:t.length=32) (h5:d<=5) (hLl:L.length<=32) (cH:∀ no∈L,no≠0) (hq:8<=q)
  (e6:h.length<=x6) (n2:x6≠x11) (n3:x6≠x12) (n4:x6≠bid) (n5:x6≠kid) (KR:KeptR D (d::t) KK kl) (hkl:kl.length<=300) :
  ∀ (e i M:Nat) (c:Cl) (cs:List Cell) (Q:Nat->Prop) (H:B5),i+e=L.length->e<M->Grows h H->IsRC n Q H cs c->¬ Q x6->(∀ id,Q id->P id\/lo<=id)->lo<=H.length->0<=c.lost/\c.lost+7*e<=900000->c.blocks.length+e<=100000->c.made.length+e<=100000 ->
   rd H x6=rT cs->rd H x11=rT (encI (d::t))->rd H x12=rT r8->rd H bid=rT (encI L)->rd H kid=rT (encS kl) ->
  ∃ cs' Q' H' M',A4m q M v (pV x6 0) (pV x11 0) (pV x12 0) (sV bid 0 L.length 1) (sV kid 0 kl.length 1) (iV (i:Int)) H =
    A4m q (M'+1) v (pV x6 0) (pV x11 0) (pV x12 0) (sV bid 0 L.length 1) (sV kid 0 kl.length 1) (iV (L.length:Nat)) H' /\
   Grows h H'/\IsRC n Q' H' cs' (N6 D (d::t) KK c (L.drop i))/\¬ Q' x6/\(∀ id,Q' id->P id\/lo<=id)/\rd H' x6=rT cs'/\(∀ j,j<H.length->j≠x6->rd H' j=rd H j):=by
 intro e
 induction e with
 | zero =>
  intro i M c cs Q H hi hM G K nq toP hlow hlo hb hmd r6 r11 r12 rb rk;obtain ⟨M,rfl⟩:∃ M',M=M'+1:=⟨M-1,by omega⟩;have ei:i=L.length:=by omega
  subst ei;rw [List.drop_length];exact ⟨cs,Q,H,M,rfl,G,K,nq,toP,r6,λ_ _ _=>rfl⟩
 | succ e ih =>
  intro i M c cs Q H hi hM G K nq toP hlow hlo hb hmd r6 r11 r12 rb rk;obtain ⟨M,rfl⟩:∃ M',M=M'+1:=⟨M-1,by omega⟩;have O9:i<L.length:=by omega
  have c0:(i:Int)<(L.length:Nat):=by omega
  have w1:=D3 (show i+1<9223372036854775808 by omega);have hHd:=E0s (h:=H);obtain ⟨K1,hK1⟩:∃ K1,K1=H++[rT (B4 (bN []))]:=⟨_,rfl⟩;rw [<-hK1] at hHd;have G1:Grows H K1:=by rw [hK1];exact (Grows.rfl').new _
  have b6:=C8 r6;have b11:=C8 r11;have bb:=C8 rb;have bk:=C8 rk;have hgl:=G.len;have lK1:K1.length=H.length+1:=by rw [hK1];simp
  obtain ⟨cs1,y,H2,M2,f1,f2,f3,f4,f5,f6,f7,f8,f9⟩:=E5D (lo:=lo) (P:=P) (n:=n) (Q:=Q) (M0:=M) (q:=q) (i:=i) (x12:=pV x12 0) (KK:=KK) hv hD ht h5 O9 (cH _ (E7J O9)) e6 n2 n4 n5 KR hkl 7 0 q (c,bN []) cs (.sl H.length 0 256 1) K1 (by omega) (by omega) (G.trans' G1) (K.grows G1) nq (by omega) (λid hid=>by cases hid;exact ⟨by omega,by omega,by omega,by omega,by omega⟩) rfl (by rw [hK1];exact Has.row (rw:=A5) (by rw [E9];rfl) (by rw [A9,pY]) (F9 _)) (pY (l:=[])) ⟨hlo.1,by have:=hlo.2;dsimp only;omega⟩ (G1.rd r6) (G1.rd r11) (G1.rd rb) (G1.rd rk);have eX:N4 (blk D L[i]) 7 0=N9 (blk D L[i]):=rfl;rw [eX] at f4 f7;have hs:=pS (D:=D) (X:=d::t) (no:=L[i]) (K:=KK) (l:=N9 (blk D L[i])) (s:=(c,bN []));have E5g:=A2W (D:=D) (X:=d::t) (no:=L[i]) (K:=KK) (l:=N9 (blk D L[i])) (s:=(c,bN []));have h7:=dW (blk D L[i]);obtain ⟨S,hS⟩:∃ S,S=U5 D (d::t) L[i] KK (c,bN []) (N9 (blk D L[i])):=⟨_,rfl⟩;rw [<-hS] at f4 f7 hs E5g;dsimp only at E5g;have same2:∀ j,j<H.length->j≠x6->rd H2 j=rd H j:=λj hj T8=>by rw [f9 j (by omega) T8,hK1,D9 hj]
  have q11:rd H2 x11=rT (encI (d::t)):=by rw [same2 _ b11 (Ne.symm n2)];exact r11
  have q12:rd H2 x12=rT r8:=by rw [same2 _ (C8 r12) (Ne.symm n3)];exact r12
  have qb:rd H2 bid=rT (encI L):=by rw [same2 _ bb (Ne.symm n4)];exact rb
  have qk:rd H2 kid=rT (encS kl):=by rw [same2 _ bk (Ne.symm n5)];exact rk
  obtain ⟨cs2,H3,H4,Q2,m1,m2,m3,m4,m5,m6,m7,m8,m9⟩:=D7K (lo:=lo) (no:=L[i]) (P:=P) f2 e6 f4 nq toP (by omega) f8 f7 (λid hid=>⟨(f5 id hid).1,(f5 id hid).2.1⟩) f6 (by rw [hs.blocks];dsimp only;omega) (by rw [hs.made];dsimp only;omega);have ec:N6 D (d::t) KK c (L.drop i)=N6 D (d::t) KK (S5 S.1 L[i] S.2) (L.drop (i+1)):=by
   rw [E7d O9,hS];rfl
  rw [ec];have lb:(S5 S.1 L[i] S.2).blocks.length=c.blocks.length+1:=by show (S.1.blocks++[L[i]]).length=_;rw [E7a,hs.blocks];rfl
  have lm:(S5 S.1 L[i] S.2).made.length=c.made.length+1:=by show (S.1.made++[S.2]).length=_;rw [E7a,hs.made];rfl
  have ll:(S5 S.1 L[i] S.2).lost=S.1.lost:=rfl;obtain ⟨cs',Q',H',M',g1,g2,g3,g4,g5,g6,g7⟩:=ih (i+1) M (S5 S.1 L[i] S.2) cs2 Q2 H4 (by omega) (by omega) m3 m5 m6 m7 (by omega) (by rw [ll];omega) (by rw [lb];omega) (by rw [lm];omega) m8 (by rw [m9 _ (C8 q11) (Ne.symm n2)];exact q11) (by rw [m9 _ (C8 q12) (Ne.symm n3)];exact q12) (by rw [m9 _ (C8 qb) (Ne.symm n4)];exact qb) (by rw [m9 _ (C8 qk) (Ne.symm n5)];exact qk);refine ⟨cs',Q',H',M',?_,g2,g3,g4,g5,g6,λj hj T8=>by rw [g7 j (by omega) T8,m9 j (by omega) T8,same2 j hj T8]⟩;have l6:D4 H2 8 (pV x6 0)=A4 (.a cs1):=C7 f8 f4.length;have aL:E1 1 (sV bid 0 L.length 1) (iV (i:Int))=A4 (pV bid i):=by rw [C9 O9];simp
  have lL:B8 H2 (pV bid i)=A4 (iV L[i]):=C4 qb (by rw [G8,E66 O9];rfl) rfl;have c77:¬ (7:Int)<7:=by decide
  have c00:((0:Nat):Int)=0:=rfl;rw [c00] at f1;rw [A5D];simp only [esc,c0,hHd];refine f1.trans ?_;rw [nB];simp only [esc,c77,l6,aL,lL,m1,m2,w1];exact g1
theorem D84 {P:Nat->Prop} {h:B5} {c:Cl} {cs:List Cell} {d ino at_:Int} {t:List Int} (hv:Has h v 256 D.length (D5 D)) (hD:okD D) (K:IsRC n P h cs c) (ht:t.length=32) (h5:d<=5) (hok:okX d t=A5) (hn:n<=128) (hR:RowW n c) {Rr B S Lo:Nat} (sm:Small c Rr B S Lo) (hRr:Rr<=700) (hB:B<=500000) (hSs:S<=50000) (hLo:Lo<=500000) :
  ∃ cs' H',A6Y [.a cs,v,.a (D8 D.length n m),.c (.i .i64 ino),.c (.i .i64 at_),.a (encI (d::t))] h=A4 (.a cs',H')/\Grows h H' /\
   IsRC n (λid=>P id\/h.length<=id) H' cs' (N6 D (d::t) (aT D n ino (c,λ_=>A7) (nP D (d::t) (L8 t (D1 d)))).2 (S5 (aT D n ino (c,λ_=>A7) (nP D (d::t) (L8 t (D1 d)))).1 at_ (bif okX d t then fU d t else zeros 256)) (L8 t (D1 d))):=by
 have c8:=K.length;have h33:(encI (d::t)).length=33:=by rw [B7];simp [ht]
 obtain ⟨L,hL⟩:∃ L,L=L8 t (D1 d):=⟨_,rfl⟩;have hLl:L.length<=32:=by rw [hL];exact E7K (gE ..) (O6 d)
 have cH:∀ no∈L,no≠0:=by rw [hL];exact D7p
 rw [<-hL];obtain ⟨g1,hg1⟩:∃ g1,g1=h++[rT cs,rT (D8 D.length n m),rT (encI (d::t)),rT Z8]:=⟨_,rfl⟩;have lg1:g1.length=h.length+4:=by rw [hg1];simp
 have hB1:=A5W (d:=d) (t:=t) (h:=g1) ht;rw [<-hL] at hB1;obtain ⟨g2,hg2⟩:∃ g2,g2=g1++[rT (encI L)]:=⟨_,rfl⟩;rw [<-hg2] at hB1;have lg2:g2.length=h.length+5:=by rw [hg2];simp [lg1]
 have G2:Grows h g2:=by rw [hg2,hg1];exact (S7 Grows.rfl' rfl).new _
 have r6:rd g2 h.length=rT cs:=by rw [hg2];refine C5 ?_;rw [hg1,E9];rfl
 have r8:rd g2 (h.length+1)=rT (D8 D.length n m):=by rw [hg2];refine C5 ?_;rw [hg1,L5];rfl
 have r11:rd g2 (h.length+2)=rT (encI (d::t)):=by rw [hg2];refine C5 ?_;rw [hg1,L5];rfl
 have r12:rd g2 (h.length+3)=rT Z8:=by rw [hg2];refine C5 ?_;rw [hg1,L5];rfl
 have rb:rd g2 (h.length+4)=rT (encI L):=by rw [hg2,<-lg1,E9];rfl
 obtain ⟨nid,H1,M1,f1,f2,f3,f4⟩:=E5z (x3:=.c (.i .i64 ino)) (x4:=.c (.i .i64 at_)) (x6:=.c (.p h.length 0)) (x8:=.c (.p (h.length+1) 0)) (x12:=.c (.p (h.length+3) 0)) (x11:=h.length+2) (bid:=h.length+4) (q:=400) (hv.grows G2) hD r11 ht h5 rb hLl cH (by omega) L.length 0 400 [] g2.length (g2++[rT []]) (by omega) (by omega) (S7 Grows.rfl' rfl) (E7b _) (by rw [E9];rfl) (by simp;omega);rw [E7p,E7m] at f1 f4;have hNl:(I5 D (d::t) (uU D L)).length<=224:=by
  have h1:=B0R (D:=D) (L:=L);have h2:=A5O (D:=D) (X:=d::t) (s:=uU D L);omega
 obtain ⟨N,hN⟩:∃ N,N=I5 D (d::t) (uU D L):=⟨_,rfl⟩;rw [<-hN] at f1 f4 hNl;have hNs:∀ x∈N,x.length<9223372036854775807:=λx hx=>by
  rw [hN] at hx;obtain ⟨no,y,_,hy,_,_,e⟩:=E0v (D:=D) (X:=d::t) (L:=L) (s:=x) (by rw [B2H];exact hx);have:=A0W (B2z hy).1;rw [e] at this;omega
 have hSt:=D0z (v:=.c (.sl nid 0 N.length 1)) (nv:=N.length) (l:=N) (h:=H1) (Has.row f4 (by rw [N3];omega) (B8H _)) (by omega) hNs;obtain ⟨S0,hS0⟩:∃ S0,S0=gI N:=⟨_,rfl⟩;rw [<-hS0] at hSt;have hSl:S0.length<=300:=by rw [hS0];have:=A7S N;omega
 obtain ⟨H2,hH2⟩:∃ H2,H2=H1++[rT (encS S0)]:=⟨_,rfl⟩;rw [<-hH2] at hSt;obtain ⟨H3,zB⟩:∃ H3,H3=H2++[rT []]:=⟨_,rfl⟩;have lH2:H2.length=H1.length+1:=by rw [hH2];simp
 have lH3:H3.length=H2.length+1:=by rw [zB];simp
 have G13:Grows g2 H3:=by rw [zB,hH2];exact (f2.new _).new _
 have E6Y:=f2.len;have to3:∀ {id r},rd g2 id=A4 r->rd H3 id=A4 r:=λhr=>G13.rd hr
 have GH3:Grows h H3:=G2.trans' G13;obtain ⟨Q0,hQ0⟩:∃ Q0:Nat->Prop,Q0=λid=>P id/\id<h.length:=⟨_,rfl⟩
 have K3:IsRC n Q0 H3 cs c:=by rw [hQ0];exact K.low.grows GH3
 have nq0:∀ id,h.length<=id->¬ Q0 id:=λid hid=>by rw [hQ0];intro hh;omega
 have rs3:rd H3 H1.length=rT (encS S0):=by rw [zB,hH2];refine C5 ?_;rw [E9];rfl
 have rk3:rd H3 H2.length=rT (encS []):=by rw [zB,E9];rfl
 have E6X:=GH3.len;obtain ⟨cs1,kl,kid,Q1,H4,M4,k1,k2,k3,k4,k5,k6,k6b,k7,k8,k9,k10,k11,k12,k13,k14,k15,k16,k17,k18⟩:=E5B (lo:=h.length+5) (P:=λid=>P id/\id<h.length) (m:=m) (n:=n) (ino:=ino) (x4:=.c (.i .i64 at_)) (x6:=h.length) (x8:=h.length+1) (x11:=h.length+2) (x12:=h.length+3) (bid:=h.length+4) (sid:=H1.length) (q:=400) (r8:=Z8) (L:=L) hv hD ht h5 cH hn (E7b _) (by omega) (by omega) (by omega) (by omega) (by omega) (S:=S0) (by rw [hS0,hN]) hSl
  S0.length 0 400 B (c,λ_=>A7) cs [] H2.length Q0 H3 (by omega) (by omega) GH3 K3 (nq0 _ (E7b _)) (nq0 _ (by omega)) (λid hid=>by rw [hQ0] at hid;exact .inl hid) (by omega) (λid hid=>by rw [hQ0] at hid;omega) hR (by have:=sm.row;dsimp only;omega) sm.lnk (by omega) (to3 r6) (to3 r8) (to3 r11) (to3 r12) (to3 rb) rs3 rk3 (by omega) (by omega) (by omega) (by omega) (by omega) (by omega) (by omega) (by simp) ⟨λs=>by simp,λs a ha=>by cases ha⟩
 rw [E7p] at k3 k18;have eLH:S0.map (λx=>(x,B1A D (d::t) x))=nP D (d::t) L:=by unfold nP;rw [hS0,hN]
 rw [eLH] at k3 k18;obtain ⟨T,hT⟩:∃ T,T=aT D n ino (c,λ_=>A7) (nP D (d::t) L):=⟨_,rfl⟩;rw [<-hT] at k3 k18 ⊢;have hTs:SameT c T.1:=by
  rw [hT];have:∀ (l:List Ent) (s:Cl × (List UInt8->Option Int)) (Bx:Int),BndL s.1 Bx->SameT s.1 (aT D n ino s l).1:=by
   intro l
   induction l with
   | nil=>intro s Bx _;exact ⟨rfl,rfl,rfl,rfl,rfl⟩
   | cons x l ih =>
    intro s Bx hb;obtain ⟨a1,a2,_⟩:=A3i (D:=D) (n:=n) (ino:=ino) (e:=x) hb;have a3:=ih (Z5 D n ino s x) _ a2;exact ⟨a3.ino.trans a1.ino,a3.blocks.trans a1.blocks,a3.made.trans a1.made,a3.taken.trans a1.taken,a3.lost.trans a1.lost⟩
  exact this _ (c,λ_=>A7) _ sm.lnk
 have hP:=B83 (d:=d) (t:=t) (h:=H4) ht;rw [hok] at hP;simp only [cond_true] at hP;obtain ⟨H5,hH5⟩:∃ H5,H5=H4++[rT (B4 (fU d t))]:=⟨_,rfl⟩;rw [<-hH5] at hP;have il:=lJ (d:=d) ht;have G45:Grows H4 H5:=by rw [hH5];exact (Grows.rfl').new _
 have E62:=k2.len;obtain ⟨cs2,H6,H7,Q2,m1,m2,m3,m4,m5,m6,m7,m8,m9⟩:=D7K (lo:=h.length+5) (n:=n) (P:=λid=>P id/\id<h.length) (no:=at_) (b:=fU d t) (y:=.sl H4.length 0 256 1) (k2.trans' G45) (E7b _) (k3.grows G45) k4 k6 (by have:=G45.len;omega) (G45.rd k8) (by rw [hH5];exact Has.row (rw:=A5) (by rw [E9];rfl) (by rw [A9,il]) (F9 _)) (λid hid=>by cases hid;exact ⟨by omega,by have:=C8 k8;omega⟩) rfl (by rw [hTs.blocks];have:=sm.blocks;omega) (by rw [hTs.made];have:=sm.made;omega);have lH5:H5.length=H4.length+1:=by rw [hH5];simp
 have keep7:∀ {id r},rd H4 id=A4 r->id≠h.length->rd H7 id=A4 r:=λhr T8=>by
  rw [m9 _ (by have:=C8 hr;omega) T8];exact G45.rd hr
 have lbm:(S5 T.1 at_ (fU d t)).blocks.length=c.blocks.length+1:=by show (T.1.blocks++[at_]).length=_;rw [E7a,hTs.blocks];rfl
 have lmm:(S5 T.1 at_ (fU d t)).made.length=c.made.length+1:=by show (T.1.made++[_]).length=_;rw [E7a,hTs.made];rfl
 have llm:(S5 T.1 at_ (fU d t)).lost=c.lost:=hTs.lost;obtain ⟨cs3,Q3,H8,M8,o1,o2,o3,o4,o5,o6,o7⟩:=E5C (lo:=h.length+5) (n:=n) (P:=λid=>P id/\id<h.length) (x6:=h.length) (x11:=h.length+2) (x12:=h.length+3) (bid:=h.length+4) (kid:=kid) (q:=400) (r8:=Z8) (L:=L) hv hD ht h5 hLl cH (by omega) (E7b _) (by omega) (by omega) (by omega) (Ne.symm k13) k18 k17 L.length 0 400 (S5 T.1 at_ (fU d t)) cs2 Q2 H7 (by omega) (by omega) m3 m5 m6 m7 (by omega) (by rw [llm];have:=sm.lost0;have:=sm.lost;omega) (by rw [lbm];have:=sm.blocks;omega) (by rw [lmm];have:=sm.made;omega) m8 (keep7 k9 (by omega)) (keep7 k10 (by omega)) (keep7 k11 (by omega)) (keep7 k12 k13);rw [E7p] at o3;have q12:rd H8 (h.length+3)=rT Z8:=by rw [o7 _ (C8 (keep7 k10 (by omega))) (by omega)];exact keep7 k10 (by omega)
 obtain ⟨H9,hH9⟩:∃ H9,H9=H8.set (h.length+3) (rT cs3):=⟨_,rfl⟩;have s9:E6 H8 8 (.c (.p (h.length+3) 0)) (.a cs3)=A4 H9:=by rw [storeAll (n:=8) q12 rfl o3.length,hH9]
 have l9:D4 H9 8 (.c (.p (h.length+3) 0))=A4 (.a cs3):=C7 (by rw [hH9];exact C6 (C8 q12)) o3.length;have l8:D4 H8 8 (.c (.p h.length 0))=A4 (.a cs3):=C7 o6 o3.length;have o3':IsRC n (λid=>P id\/h.length<=id) H9 cs3 (N6 D (d::t) T.2 (S5 T.1 at_ (fU d t)) L):=by
  rw [hH9];refine (o3.set (.inr λhh=>?_)).mono λid hid=>?_
  ·rcases o5 _ hh with hh | hh<;>omega
  ·rcases o5 id hid with hh | hh
   ·exact .inl hh.1
   ·exact .inr (by omega)
 refine ⟨cs3,H9,C4f (n:=400) ?_,by rw [hH9];exact o2.set (by omega) _,by rw [hok];exact o3'⟩;have cl1:cells? (.a cs)=A4 cs:=rfl;have cl2:cells? (.a (D8 D.length n m))=A4 (D8 D.length n m):=rfl;have cl3:cells? (.a (encI (d::t)))=A4 (encI (d::t)):=rfl;have l33:D4 g1 33 (.c (.p (h.length+2) 0))=A4 (.a (encI (d::t))):=C7 (by rw [hg1,L5];rfl) h33;have l33':D4 H4 33 (.c (.p (h.length+2) 0))=A4 (.a (encI (d::t))):=C7 k9 h33;have l84:D4 H5 8 (.c (.p h.length 0))=A4 (.a cs1):=C7 (G45.rd k8) k3.length;have cL:¬ ((L.length:Nat):Int)<(L.length:Nat):=by omega
 have cS:¬ ((S0.length:Nat):Int)<(S0.length:Nat):=by omega
 have c00:((0:Nat):Int)=0:=rfl;have l0:([]:W0).length=0:=rfl;rw [c00,l0] at f1 k1;rw [c00] at o1;rw [lg1] at hB1;rw [C3z,A47];generalize hXX:encI (d::t)=X at *;generalize Z8=E8 at *;simp only [cl1,cl2,cl3,P9,E7c,E7E,E7m,E7a,E7g,E7v,E7t,Nat.reduceAdd,<-hg1];simp only [esc,Nat.reduceAdd,l33,hB1];refine f1.trans ?_;rw [A5C];simp only [esc,cL,hSt,<-zB];refine k1.trans ?_;rw [vB];simp only [esc,cS,l33',hP,l84,m1,m2];refine o1.trans ?_;rw [A5D];simp only [esc,cL,l8,s9,l9]
end
theorem set_self {h:B5} {id:Nat} {r:Row} (hr:rd h id=A4 r):h.set id (A4 r)=h:=by
 refine List.ext_getElem? λi=>?_
 rw [List.getElem?_set];by_cases e:id=i
 ·subst e;rw [if_pos rfl,if_pos (C8 hr)];unfold rd at hr;cases hh:h[id]? with
  | none=>rw [hh] at hr;cases hr
  | some x=>rw [hh] at hr;exact congrArg A4 hr.symm
 ·rw [if_neg e]
theorem D8w {d:Int} {t:List Int}:(fT d t).all vF=A5:=by
 have z:∀ k,(zI k).all vF=A5:=λk=>List.all_eq_true.2 λx hx=>by rw [List.eq_of_mem_replicate hx];rfl
 unfold fT;split
 ·unfold qG;rw [List.all_append,z,Bool.and_true,E70];intro x hx;obtain ⟨i,_,rfl⟩:=List.mem_map.1 hx;unfold sR;cases hk:A29 d t i with
  | true=>exact (D8G.1 hk).2.1
  | false=>rfl
 ·exact z 32
theorem C9e {no:Int}:∀ {e i:Nat} {t:List Int},t.all vF=A5->(yM no e i t).all vF=A5
 | 0,_,_,h=>h
 | e+1,i,t,h=>by
  rw [yM];refine C9e ?_;split
  ·rw [E70] at h ⊢;intro x hx;rcases E7O hx with h1 | h1
   ·exact h x h1
   ·rw [h1];rfl
  ·exact h
theorem C7b {D:Dev} {n:Int}:∀ {L:List Int} {s:Cl × List Int},s.2.all vF=A5->(nM D n s L).2.all vF=A5
 | [],_,h=>h
 | no::L,s,h=>by
  show (nM D n (kR D n s no) L).2.all vF=A5;refine C7b ?_;unfold kR;dsimp only;split
  ·exact C9e h
  ·exact h
theorem C7I {d:Int} {t:List Int}:0<=W6 d t/\W6 d t<=5:=by unfold W6;split<;>omega
theorem E14 {D:Dev} {n:Int} {c:Cl} {d:Int} {t:List Int}:okX (W6 d t) (U7 D n c d t).2=A5:=by
 have h1:=C7I (d:=d) (t:=t);have h2:(U7 D n c d t).2.all vF=A5:=C7b D8w;unfold okX;rw [decide_eq_true h1.1,decide_eq_true h1.2,h2];rfl
theorem B0V {D:Dev} {n:Int}:∀ {L:List Int} {s:Cl × List Int},(nM D n s L).1.taken.length=s.1.taken.length
 | [],_=>rfl
 | no::L,s=>by
  show (nM D n (kR D n s no) L).1.taken.length=_;rw [B0V];exact gW
section
variable {D:Dev} {n m:Int} {P Q:Nat->Prop} {g h:B5} {v:Val}
theorem B6e {L:List Int} {no d:Int} {k q M x11 bid:Nat} {x1 x3 x4 x6 x8 x9:Val} (hk:k<L.length) (cH:L[k]=no) (hL:L.length<=32) (nb:bid≠x11) :
  ∀ (e i M2:Nat) (t:List Int) (H:B5),i+e=32->e<M2->t.length=32->rd H x11=rT (encI (d::t))->rd H bid=rT (encI L) ->
   B1v q M M2 x1 x3 x4 x6 x8 x9 (pV x11 0) (sV bid 0 L.length 1) (iV (k:Int)) (iV 0) (iV (i:Int)) H =
    xT q M x1 x3 x4 x6 x8 x9 (pV x11 0) (sV bid 0 L.length 1) (iV ((k+1:Nat):Int)) (H.set x11 (rT (encI (d::yM no e i t))))
 | e,i,0,t,H,_,hM,_,_,_=>by omega
 | 0,i,M2+1,t,H,hi,hM,ht,hx,hb=>by
  have c0:¬ ((i:Int)<32):=by omega
  have wk:=D3 (show k+1<9223372036854775808 by omega);rw [yM,set_self hx,sE];simp only [esc,c0,wk]
 | e+1,i,M2+1,t,H,hi,hM,ht,hx,hb=>by
  have c0:((i:Int)<32):=by omega
  have E30:i<32:=by omega
  have ad:J8 32 1 (pV x11 1) (iV (i:Int))=A4 (pV x11 (1+i)):=by rw [J4 E30];simp
  have l1:B8 H (pV x11 (1+i))=A4 (iV (t.getD i 0)):=by
   refine C4 hx ?_ rfl;rw [Nat.add_comm,G8,E7S,E7e,E66 (by omega)];rfl
  have w1:=D3 (show i+1<9223372036854775808 by omega);have aL:E1 1 (sV bid 0 L.length 1) (iV (k:Int))=A4 (pV bid k):=by rw [C9 hk];simp
  have lL:B8 H (pV bid k)=A4 (iV no):=C4 hb (by rw [G8,E66 hk,cH];rfl) rfl;have c00:((0:Int)=0):=rfl;by_cases cz:t.getD i 0=no
  ·have s1:=G9 (x:=o0) (off:=1+i) hx (by simp [B7,ht];omega);have es:(encI (d::t)).set (1+i) o0=encI (d::t.set i 0):=by rw [aK,Nat.add_comm,E7U]
   rw [es] at s1;have ih:=B6e (x1:=x1) (x3:=x3) (x4:=x4) (x6:=x6) (x8:=x8) (x9:=x9) (q:=q) (M:=M) (d:=d) hk cH hL nb e (i+1) M2 (t.set i 0) (H.set x11 (rT (encI (d::t.set i 0)))) (by omega) (by omega) (by simp [ht]) (C6 (C8 hx)) (by rw [B6 (Ne.symm nb)];exact hb);rw [List.set_set] at ih;rw [yM,if_pos cz,<-ih,sE];simp only [esc,Nat.reduceAdd,c0,ad,l1,aL,lL,cz,E7w,s1,B1t,w1]
  ·have ih:=B6e (x1:=x1) (x3:=x3) (x4:=x4) (x6:=x6) (x8:=x8) (x9:=x9) (q:=q) (M:=M) (d:=d) hk cH hL nb e (i+1) M2 t H (by omega) (by omega) ht hx hb;rw [yM,if_neg cz,<-ih,sE];simp only [esc,Nat.reduceAdd,c0,ad,l1,aL,lL,cz,E7w,B1t,w1]
theorem E2G {L:List Int} {d:Int} {x4 x6 x8 x9 x11 bid q:Nat} {x1 x3:Val} (hL:L.length<=32) (hq:33<=q) (hg:g.length<=x4/\g.length<=x11) (hx4:¬ Q x4) (C7Z:¬ Q x11) (hl:D.length<=1000) (n1:x4≠x11) (n2:x4≠x6) (n3:x4≠bid) (n4:x11≠x6) (n5:x11≠bid) :
  ∀ (e i M:Nat) (s:Cl × List Int) (cs:List Cell) (H:B5),i+e=L.length->e<M->s.2.length=32->Grows g H->(∀ id,H.length<=id->Q id)->IsRC n Q H cs s.1->s.1.taken.length=D.length->rd H x4=rT cs->rd H x6=rT (D8 D.length n m)->rd H x11=rT (encI (d::s.2))->rd H bid=rT (encI L) ->
  ∃ cs' H' M',xT q M x1 x3 (pV x4 0) (pV x6 0) (pV x8 0) (pV x9 0) (pV x11 0) (sV bid 0 L.length 1) (iV (i:Int)) H =
    xT q (M'+1) x1 x3 (pV x4 0) (pV x6 0) (pV x8 0) (pV x9 0) (pV x11 0) (sV bid 0 L.length 1) (iV (L.length:Nat)) H' /\
   Grows g H'/\(∀ id,H'.length<=id->Q id)/\IsRC n Q H' cs' (nM D n s (L.drop i)).1/\rd H' x4=rT cs'/\rd H' x11=rT (encI (d::(nM D n s (L.drop i)).2))/\H.length<=H'.length/\(∀ j,j<H.length->j≠x4->j≠x11->rd H' j=rd H j):=by
 intro e
 induction e with
 | zero =>
  intro i M s cs H hi hM hs G hQ K ht r4 r6 r11 rb;obtain ⟨M,rfl⟩:∃ M',M=M'+1:=⟨M-1,by omega⟩;have ei:i=L.length:=by omega
  subst ei;rw [List.drop_length];exact ⟨cs,H,M,rfl,G,hQ,K,r4,r11,E7b _,λ_ _ _ _=>rfl⟩
 | succ e ih =>
  intro i M s cs H hi hM hs G hQ K ht r4 r6 r11 rb;obtain ⟨M,rfl⟩:∃ M',M=M'+1:=⟨M-1,by omega⟩;have O9:i<L.length:=by omega
  have c0:(i:Int)<(L.length:Nat):=by omega
  have w1:=D3 (show i+1<9223372036854775808 by omega);have l4:D4 H 8 (pV x4 0)=A4 (.a cs):=C7 r4 K.length;have l6:D4 H 3 (pV x6 0)=A4 (.a (D8 D.length n m)):=C7 r6 rfl;have aL:E1 1 (sV bid 0 L.length 1) (iV (i:Int))=A4 (pV bid i):=by rw [C9 O9];simp
  have lL:B8 H (pV bid i)=A4 (iV L[i]):=C4 rb (by rw [G8,E66 O9];rfl) rfl;obtain ⟨cs',K1,H1,H2,a1,a2,a3,a4,a5,a6,a7,a8,a9⟩:=E0A (m:=m) (no:=L[i]) G hg.1 K r4 K.length (λid h=>hQ id (by omega)) hx4 ht hl;have q11:rd H2 x11=rT (encI (d::s.2)):=by rw [a9 _ (C8 r11) (Ne.symm n1)];exact r11
  have qb:rd H2 bid=rT (encI L):=by rw [a9 _ (C8 rb) (Ne.symm n3)];exact rb
  have q6:rd H2 x6=rT (D8 D.length n m):=by rw [a9 _ (C8 r6) (Ne.symm n2)];exact r6
  have eB:nM D n s (L.drop i)=nM D n (kR D n s L[i]) (L.drop (i+1)):=by rw [E7d O9];rfl
  rw [eB];have b1:(kR D n s L[i]).1=dU D n s.1 L[i]:=rfl;obtain ⟨H3,zB⟩:∃ H3,H3=H2.set x11 (rT (encI (d::(kR D n s L[i]).2))):=⟨_,rfl⟩;have lH3:H3.length=H2.length:=by rw [zB];simp
  have o3:∀ j,j≠x11->rd H3 j=rd H2 j:=λj hj=>by rw [zB,B6 (Ne.symm hj)]
  obtain ⟨cs2,H',M',f1,f2,f3,f4,f5,f6,f7,f8⟩:=ih (i+1) M (kR D n s L[i]) cs' H3 (by omega) (by omega) (by rw [C0S];exact hs) (by rw [zB];exact a5.set hg.2 _) (λid h=>hQ id (by omega)) (by rw [zB];exact a6.set (.inr C7Z)) (by rw [b1,gW];exact ht) (by rw [o3 _ n1];exact a7) (by rw [o3 _ (Ne.symm n4)];exact q6) (by rw [zB];exact C6 (C8 q11)) (by rw [o3 _ (Ne.symm n5)];exact qb);refine ⟨cs2,H',M',?_,f2,f3,f4,f5,f6,by omega,λj hj h1 h2=>by rw [f8 j (by omega) h1 h2,o3 j h2,a9 j hj h1]⟩;have step:B1v q M q x1 x3 (pV x4 0) (pV x6 0) (pV x8 0) (pV x9 0) (pV x11 0) (sV bid 0 L.length 1) (iV (i:Int)) (iV (U1 D n s.1 L[i])) (iV 0) H2 =
    xT q M x1 x3 (pV x4 0) (pV x6 0) (pV x8 0) (pV x9 0) (pV x11 0) (sV bid 0 L.length 1) (iV ((i+1:Nat):Int)) H3:=by
   by_cases cz:U1 D n s.1 L[i]=0
   ·have eb2:(kR D n s L[i]).2=yM L[i] 32 0 s.2:=by unfold kR;dsimp only;rw [if_pos cz]
    have:=B6e (x1:=x1) (x3:=x3) (x4:=pV x4 0) (x6:=pV x6 0) (x8:=pV x8 0) (x9:=pV x9 0) (q:=q) (M:=M) (d:=d) O9 rfl hL (Ne.symm n5) 32 0 q s.2 H2 (by omega) (by omega) hs q11 qb;rw [cz,zB,eb2];exact this
   ·have eb2:(kR D n s L[i]).2=s.2:=by unfold kR;dsimp only;rw [if_neg cz]
    obtain ⟨q',rfl⟩:∃ q',q=q'+1:=⟨q-1,by omega⟩;have E5T:(0:Int)<32:=by decide
    rw [zB,eb2,set_self q11,sE];simp only [esc,E5T,cz,w1]
  rw [B1u,A47];simp only [esc,Nat.reduceAdd,c0,l4,l6,aL,lL,a1,a2,a3,a4];exact step.trans f1
end
theorem D4u {d:Int} {t:List Int} {i c:Nat} (h:C4r (D1 d) t i c=A5):cE d t i<=c:=by
 false_or_by_contra
 have:=D4v (d:=d) (t:=t) (p:=i) (c:=c) (by omega);rw [h] at this;cases this
theorem E1H {d:Int} {t:List Int} {i c:Nat} (hi:i<D1 d) (hc:C4r (D1 d) t i c=A5\/W1 d<=c) (h:∀ k,k<D1 d->toX t k=toX t i->k%2 ^ c=i%2 ^ c):A3j d t i=A5:=by
 have hb:cE d t i<=c:=by
  rcases hc with hc | hc
  ·exact D4u hc
  ·exact E7K C67 hc
 rw [D2j hi];exact λk hk hs=>D6C hb (h k hk hs)
def D1s (t:List Int) (no:Int) (f b i:Nat):Bool:=decide (toX t i=no)==(i%2 ^ b==f%2 ^ b)
def C0Y (n:Nat) (t:List Int) (no:Int) (f b:Nat):Bool:=(E7M 0 n).all (D1s t no f b)
def A0r (n:Nat) (t:List Int) (no:Int) (f b:Nat):Nat->Bool
 | 0=>A6
 | e+1=>C0Y n t no f b||A0r n t no f (b+1) e
theorem C2G {d no:Int} {t:List Int} {g:B5} {f b q m:Nat} (ht:t.length=32) (hb:b<=5):∀ (e i m2:Nat) (a:Bool),i+e=D1 d->e<m2 ->
  B3W q m m2 (iV no) (pV g.length 0) (iV (f:Int)) (iV (b:Int)) (bV a) (iV (i:Int)) (g++[rT (encI (d::t))]) =
   bif a&&(E7M i e).all (D1s t no f b) then A4 (.t [.c (.i .i64 (b:Int)),.c (.b A5)],g++[rT (encI (d::t))])
   else A4h q m (iV no) (pV g.length 0) (iV (f:Int)) (iV ((b+1:Nat):Int)) (g++[rT (encI (d::t))])
 | e,i,0,a,_,hm=>by omega
 | 0,i,m2+1,a,hi,hm=>by
  have c0:¬ (i:Int)<(D1 d:Nat):=by omega
  have w1:=D3 (show b+1<9223372036854775808 by omega);have hB:=E3 (d:=d) ht;have hD:=λh=>bG (d:=d) (t:=t) (h:=h)
  have hP:=λh=>bH (d:=d) (h:=h)
  rw [A5v,List.range'_zero,List.all_nil,Bool.and_true];generalize encI (d::t)=y at *;cases a<;>simp only [esc,esh,Nat.reduceAdd,Nat.reduceMul,Nat.reduceLT,hB,hD,hP,c0,w1]
 | e+1,i,m2+1,a,hi,hm=>by
  have ih:=λa=>C2G (d:=d) (no:=no) (g:=g) (f:=f) (q:=q) (m:=m) ht hb e (i+1) m2 a (by omega) (by omega)
  have c0:(i:Int)<(D1 d:Nat):=by omega
  have C7W:=O6 d;have hB:=E3 (d:=d) ht;have hD:=λh=>bG (d:=d) (t:=t) (h:=h)
  have hP:=λh=>bH (d:=d) (h:=h)
  have hI:=λh=>D5B (i:=i) (p:=f) (b:=b) (h:=h) (by omega)
  have a1:=adX (id:=g.length) (i:=i) (by omega);have x1:=C7B (d:=d) (i:=i) ht (by omega);have w1:=D3 (show i+1<9223372036854775808 by omega);rw [A5v,List.range'_succ,E7P];cases a with
  | false =>
   have ih:=ih A6;rw [E7f,cond_false] at ih ⊢;generalize encI (d::t)=y at *;simp only [esc,esh,Nat.reduceAdd,Nat.reduceMul,Nat.reduceLT,hB,hD,hP,c0,w1];exact ih
  | true =>
   rw [E7j];have ih:=ih (D1s t no f b i);rw [<-ih];unfold D1s;by_cases ce:toX t i=no
   ·rw [decide_eq_true ce];generalize (i%2 ^ b==f%2 ^ b)=C at *;generalize encI (d::t)=y at *;cases C<;>simp only [esc,esh,Nat.reduceAdd,Nat.reduceMul,Nat.reduceLT,hB,hD,hP,c0,hI,a1,x1,ce,w1]<;>rfl
   ·rw [decide_eq_false ce];generalize (i%2 ^ b==f%2 ^ b)=C at *;generalize encI (d::t)=y at *;cases C<;>simp only [esc,esh,Nat.reduceAdd,Nat.reduceMul,Nat.reduceLT,hB,hD,hP,c0,hI,a1,x1,ce,w1]<;>rfl
theorem C2H {d no:Int} {t:List Int} {g:B5} {f q:Nat} (ht:t.length=32) (hq:32<q):∀ (e b m:Nat),b+e=W1 d+1->e<m ->
  ∃ w:Int,A4h q m (iV no) (pV g.length 0) (iV (f:Int)) (iV (b:Int)) (g++[rT (encI (d::t))])=A4 (.t [.c (.i .i64 w),.c (.b (A0r (D1 d) t no f b e))],g++[rT (encI (d::t))])
 | e,b,0,_,hm=>by omega
 | 0,b,m+1,hb,hm=>by
  have c0:¬ (b:Int)<=(W1 d:Nat):=by omega
  have hB:=E3 (d:=d) ht;have hD:=λh=>bG (d:=d) (t:=t) (h:=h)
  have e0:A0r (D1 d) t no f b 0=A6:=rfl;rw [A5u,e0];generalize encI (d::t)=y at *;exact ⟨0,by simp only [esc,esh,Nat.reduceAdd,Nat.reduceMul,Nat.reduceLT,hB,hD,c0]⟩
 | e+1,b,m+1,hb,hm=>by
  have hdl:=sC d;have C7W:=O6 d;have c0:(b:Int)<=(W1 d:Nat):=by omega
  have c1:(f:Int)>=0:=by omega
  have hB:=E3 (d:=d) ht;have hD:=λh=>bG (d:=d) (t:=t) (h:=h)
  obtain ⟨w,ih⟩:=C2H (d:=d) (no:=no) (t:=t) (g:=g) (f:=f) (q:=q) ht hq e (b+1) m (by omega) (by omega);have hI:=C2G (d:=d) (no:=no) (g:=g) (f:=f) (b:=b) (q:=q) (m:=m) ht (by omega) (D1 d) 0 q A5 (by omega) (by omega);rw [E7j,show (((0:Nat):Int))=0 from rfl,show (E7M 0 (D1 d)).all (D1s t no f b)=C0Y (D1 d) t no f b from rfl] at hI;rw [A0r,A5u];cases ca:C0Y (D1 d) t no f b with
  | true =>
   rw [ca,cond_true] at hI;rw [Bool.true_or];refine ⟨b,?_⟩;generalize encI (d::t)=y at *;simp only [esc,esh,Nat.reduceAdd,Nat.reduceMul,Nat.reduceLT,hB,hD,c0,c1];exact hI
  | false =>
   rw [ca,cond_false] at hI;rw [Bool.false_or];refine ⟨w,?_⟩;rw [<-ih];generalize encI (d::t)=y at *;simp only [esc,esh,Nat.reduceAdd,Nat.reduceMul,Nat.reduceLT,hB,hD,c0,c1];exact hI
theorem A2V {d no:Int} {t:List Int} {g:B5} {f q:Nat} (ht:t.length=32) (hq:32<q) (hf:f<D1 d) (he:toX t f=no) (hn:∀ k,k<f->toX t k≠no):∀ (e i m:Nat) (x:Int),i+e=D1 d->e<m->x=(if i<=f then -1 else (f:Int)) ->
  ∃ w:Int,B3V q m (iV no) (pV g.length 0) (iV x) (iV (i:Int)) (g++[rT (encI (d::t))])=A4 (.t [.c (.i .i64 w),.c (.b (A0r (D1 d) t no f 0 (W1 d+1)))],g++[rT (encI (d::t))])
 | e,i,0,x,_,hm,_=>by omega
 | 0,i,m+1,x,hi,hm,hx=>by
  have c0:¬ (i:Int)<(D1 d:Nat):=by omega
  rw [if_neg (by omega)] at hx;subst hx;have hB:=E3 (d:=d) ht;have hD:=λh=>bG (d:=d) (t:=t) (h:=h)
  have hP:=λh=>bH (d:=d) (h:=h)
  have hdl:=sC d;obtain ⟨w,e⟩:=C2H (d:=d) (no:=no) (t:=t) (g:=g) (f:=f) (q:=q) ht hq (W1 d+1) 0 q (by omega) (by omega);rw [A5t];refine ⟨w,?_⟩;generalize encI (d::t)=y at *;simp only [esc,esh,Nat.reduceAdd,Nat.reduceMul,Nat.reduceLT,hB,hD,hP,c0];exact e
 | e+1,i,m+1,x,hi,hm,hx=>by
  have c0:(i:Int)<(D1 d:Nat):=by omega
  have C7W:=O6 d;have hB:=E3 (d:=d) ht;have hD:=λh=>bG (d:=d) (t:=t) (h:=h)
  have hP:=λh=>bH (d:=d) (h:=h)
  have a1:=adX (id:=g.length) (i:=i) (by omega);have x1:=C7B (d:=d) (i:=i) ht (by omega);have w1:=D3 (show i+1<9223372036854775808 by omega);rw [A5t];by_cases ce:toX t i=no
  ·by_cases cx:i<=f
   ·rw [if_pos cx] at hx;subst hx;have:i=f:=by
     by_cases c:i<f
     ·exact absurd ce (hn i c)
     ·omega
    subst this;have c1:(-1:Int)<0:=by omega
    obtain ⟨w,ih⟩:=A2V (d:=d) (no:=no) (t:=t) (f:=i) (q:=q) (g:=g) ht hq hf he hn e (i+1) m (i:Int) (by omega) (by omega) (by rw [if_neg (by omega)]);refine ⟨w,?_⟩;generalize encI (d::t)=y at *;simp only [esc,esh,Nat.reduceAdd,Nat.reduceMul,Nat.reduceLT,hB,hD,hP,c0,a1,x1,ce,c1,uZ,w1];exact ih
   ·rw [if_neg cx] at hx;subst hx;have c1:¬ (f:Int)<0:=by omega
    obtain ⟨w,ih⟩:=A2V (d:=d) (no:=no) (t:=t) (f:=f) (q:=q) (g:=g) ht hq hf he hn e (i+1) m (f:Int) (by omega) (by omega) (by rw [if_neg (by omega)]);refine ⟨w,?_⟩;generalize encI (d::t)=y at *;simp only [esc,esh,Nat.reduceAdd,Nat.reduceMul,Nat.reduceLT,hB,hD,hP,c0,a1,x1,ce,c1,uZ,w1];exact ih
  ·have:(i+1<=f)↔i<=f:=by
    constructor
    ·omega
    ·intro h;by_cases c:i=f
     ·rw [c] at ce;exact absurd he ce
     ·omega
   obtain ⟨w,ih⟩:=A2V (d:=d) (no:=no) (t:=t) (f:=f) (q:=q) (g:=g) ht hq hf he hn e (i+1) m x (by omega) (by omega) (by rw [hx];by_cases c:i<=f;rw [if_pos c,if_pos (this.2 c)];rw [if_neg c,if_neg (λh=>c (this.1 h))]);refine ⟨w,?_⟩;generalize encI (d::t)=y at *;simp only [esc,esh,Nat.reduceAdd,Nat.reduceMul,Nat.reduceLT,hB,hD,hP,c0,a1,x1,ce,uZ,w1];exact ih
theorem E0k {t:List Int}:∀ i,∃ f,f<=i/\toX t f=toX t i/\∀ k,k<f->toX t k≠toX t i:=by
 intro i
 induction i using Nat.strongRecOn with
 | ind i ih =>
  by_cases c:∃ k,k<i/\toX t k=toX t i
  ·obtain ⟨k,hk,he⟩:=c;obtain ⟨f,h1,h2,h3⟩:=ih k hk;exact ⟨f,by omega,h2.trans he,λj hj=>by rw [<-he];exact h3 j hj⟩
  ·exact ⟨i,E7b _,rfl,λk hk he=>c ⟨k,hk,he⟩⟩
theorem C7p {n:Nat} {t:List Int} {no:Int} {f b:Nat}:C0Y n t no f b=A5↔∀ k,k<n->(toX t k=no↔k%2 ^ b=f%2 ^ b):=by
 unfold C0Y D1s;rw [<-List.range_eq_range',E70];constructor
 ·intro h k hk;have:=h k (List.mem_range.2 hk);rw [beq_iff_eq,Bool.eq_iff_iff,decide_eq_true_eq,beq_iff_eq] at this;exact this
 ·intro h k hk;rw [beq_iff_eq,Bool.eq_iff_iff,decide_eq_true_eq,beq_iff_eq];exact h k (List.mem_range.1 hk)
theorem C2J {n:Nat} {t:List Int} {no:Int} {f:Nat}:∀ e b,A0r n t no f b e=A5↔∃ c,b<=c/\c<b+e/\C0Y n t no f c=A5
 | 0,b=>by
  unfold A0r;constructor
  ·intro h;cases h
  ·rintro ⟨c,h1,h2,_⟩;omega
 | e+1,b=>by
  unfold A0r;rw [E74,C2J e (b+1)];constructor
  ·rintro (h | ⟨c,h1,h2,h3⟩)
   ·exact ⟨b,E7b _,by omega,h⟩
   ·exact ⟨c,by omega,by omega,h3⟩
  ·rintro ⟨c,h1,h2,h3⟩;by_cases e:c=b
   ·rw [e] at h3;exact .inl h3
   ·exact .inr ⟨c,by omega,by omega,h3⟩
theorem D4H {d:Int} {t:List Int} {i f:Nat} (hi:i<D1 d) (hz:toX t i≠0) (he:toX t f=toX t i) (hf:f<D1 d):A0r (D1 d) t (toX t i) f 0 (W1 d+1)=A3j d t i:=by
 rw [Bool.eq_iff_iff,C2J];constructor
 ·rintro ⟨c,_,hc,h⟩;have h:=C7p.1 h;have hif:=(h i hi).1 rfl;refine E1H (c:=c) hi (.inl (D4g.2 ⟨hz,λk hk hm=>(h k hk).2 (hm.trans hif)⟩)) λk hk hs=>((h k hk).1 hs).trans hif.symm
 ·intro h;have h:=(D2j hi).1 h;refine ⟨cE d t i,Nat.zero_le _,by have:=C67 (d:=d) (t:=t) (p:=i);omega,C7p.2 λk hk=>?_⟩;have hfi:=h f hf he;constructor
  ·intro hs;exact (h k hk hs).trans hfi.symm
  ·intro hm;exact C7q hi hk (hm.trans hfi)
theorem C8P {d:Int} {t:List Int} {i:Nat} {h:B5} (ht:t.length=32) (hi:i<D1 d) (hz:toX t i≠0):∃ w:Int,A6T [.a (encI (d::t)),iV (toX t i)] h=A4 (.t [.c (.i .i64 w),.c (.b (A3j d t i))],h):=by
 obtain ⟨f,h1,h2,h3⟩:=E0k (t:=t) i;have hm:=O6 d;obtain ⟨w,e⟩:=A2V (d:=d) (no:=toX t i) (t:=t) (g:=ro h) (f:=f) (q:=33) ht (by omega) (by omega) h2 h3 (D1 d) 0 33 (-1) (by omega) (by omega) (by rw [if_pos (by omega)]);rw [D4H hi hz h2 (by omega)] at e;refine ⟨w,B7m (n:=33) (h2:=ro h++[rT (encI (d::t))]) ?_ rfl⟩;rw [C3v];exact e
theorem B18 {d:Int} {t:List Int} {g h:B5} {i q m:Nat} {x3:Val} {x6:Bool} (ht:t.length=32) (hi:i<32) (hrd:rd h g.length=rT (encI (d::t))):∀ (e k m2:Nat) (a:Bool),k+e=i->e<m2 ->
  ∃ a2:Bool,a2=(a&&(E7M k e).all λk=>!decide (toX t k=toX t i)) /\
  A21 q m m2 (pV g.length 0) (pV (g.length+1) 0) x3 (iV (i:Int)) (bV x6) (bV a) (iV (k:Int)) h =
   A21 q m 1 (pV g.length 0) (pV (g.length+1) 0) x3 (iV (i:Int)) (bV x6) (bV a2) (iV (i:Int)) h
 | e,k,0,a,_,hm=>by omega
 | 0,k,m2+1,a,hk,hm=>by
  have e0:k=i:=by omega
  subst e0;have c0:¬ (k:Int)<k:=by omega
  refine ⟨a,by rw [List.range'_zero,List.all_nil,Bool.and_true],?_⟩;rw [lA,lA];cases a<;>cases x6<;>simp only [esc,c0]
 | e+1,k,m2+1,a,hk,hm=>by
  have c0:(k:Int)<i:=by omega
  have a1:=adX (id:=g.length) (i:=k) (by omega);have l1:=ldX (h:=h) (id:=g.length) hrd ht (i:=k) (by omega);have a2:=adX (id:=g.length) (i:=i) (by omega);have l2:=ldX (h:=h) (id:=g.length) hrd ht (i:=i) (by omega);have w1:=D3 (show k+1<9223372036854775808 by omega);cases a with
  | false =>
   obtain ⟨b,hb,ih⟩:=B18 (q:=q) (m:=m) (x3:=x3) (x6:=x6) ht hi hrd e (k+1) m2 A6 (by omega) (by omega);refine ⟨b,by rw [hb,E7f,E7f],?_⟩;rw [<-ih]
   conv=>lhs;rw [lA]
   simp only [esc,c0,w1]
  | true =>
   obtain ⟨b,hb,ih⟩:=B18 (q:=q) (m:=m) (x3:=x3) (x6:=x6) ht hi hrd e (k+1) m2 (!decide (toX t k=toX t i)) (by omega) (by omega);refine ⟨b,by rw [hb,List.range'_succ,E7P,E7j],?_⟩;rw [<-ih]
   conv=>lhs;rw [lA]
   by_cases c:toX t k=toX t i
   ·rw [decide_eq_true c];rw [c] at l1;simp only [esc,c0,a1,l1,a2,l2,w1]
   ·rw [decide_eq_false c];simp only [esc,c0,a1,l1,a2,l2,c,w1]
theorem C1j {d:Int} {t:List Int} {g:B5} {q:Nat} (ht:t.length=32) (h0:0<=d) (h5:d<=5) (hq:32<q):∀ (e i m:Nat) (h:B5),i+e=D1 d->e<m->Low (g++[rT (encI (d::t)),rT (encI (0::zI 32))]).length (g++[rT (encI (d::t)),rT (encI (0::zI 32))]) h->rd h (g.length+2)=rT (encI (d::qG d t i)) ->
  ∃ h',A20 q m (pV g.length 0) (pV (g.length+1) 0) (pV (g.length+2) 0) (iV (i:Int)) h=A4 (.a (encI (d::qG d t (D1 d))),h')
 | e,i,0,h,_,hm,_,_=>by omega
 | 0,i,m+1,h,hi,hm,hlow,hr=>by
  have e0:i=D1 d:=by omega
  subst e0;have c0:¬ ((D1 d:Nat):Int)<(D1 d:Nat):=by omega
  have hF:=E3 (d:=d) (xW (d:=d) (t:=t) (O6 d));have hz:(encI (0::zI 32)).length=33:=E3 (d:=0) I8;have hrd:rd h g.length=rT (encI (d::t)):=hlow.rd (by simp);have hr1:rd h (g.length+1)=rT (encI (0::zI 32)):=hlow.rd (by simp);have ld:B8 h (pV g.length 0)=A4 (iV d):=C4 (off:=0) (c:=.i .i64 d) hrd rfl (by simp [Cell.isX]);have hP:=λh=>bH (d:=d) (h:=h)
  rw [B2s h0 h5] at hP;have s1:=C7 (h:=h) (id:=g.length+2) hr hF;have s2:=storeAll (h:=h) (id:=g.length+1) (xs:=encI (d::qG d t (D1 d))) hr1 hz hF;have s3:=C7 (h:=h.set (g.length+1) (rT (encI (d::qG d t (D1 d))))) (id:=g.length+1) (C6 (C8 hr1)) hF;rw [B1m];generalize encI (d::qG d t (D1 d))=z at *;exact ⟨_,by simp only [esc,ld,hP,c0,s1,s2,s3]<;>rfl⟩
 | e+1,i,m+1,h,hi,hm,hlow,hr=>by
  have C7W:=O6 d;have c0:(i:Int)<(D1 d:Nat):=by omega
  have hB:=E3 (d:=d) ht;have hrd:rd h g.length=rT (encI (d::t)):=hlow.rd (by simp);have ld:B8 h (pV g.length 0)=A4 (iV d):=C4 (off:=0) (c:=.i .i64 d) hrd rfl (by simp [Cell.isX]);have hP:=λh=>bH (d:=d) (h:=h)
  rw [B2s h0 h5] at hP;have s1:=C7 (h:=h) (id:=g.length) (cs:=encI (d::t)) hrd hB;have a1:=adX (id:=g.length) (i:=i) (by omega);have l1:=ldX (h:=h) (id:=g.length) hrd ht (i:=i) (by omega);have hFi:=λh=>B4m (n:=toX t i) (h:=h)
  have w1:=D3 (show i+1<9223372036854775808 by omega);have hk:i<32:=by omega
  have skip:sR d t i=0 ->
    ∃ h',A20 q m (pV g.length 0) (pV (g.length+1) 0) (pV (g.length+2) 0) (iV ((i+1:Nat):Int)) h=A4 (.a (encI (d::qG d t (D1 d))),h'):=by
   intro hf;exact C1j (q:=q) ht h0 h5 hq e (i+1) m h (by omega) (by omega) hlow (by rw [D1A hk hf];exact hr)
  have a3:=adX (id:=g.length+2) (i:=i) hk;have put:sR d t i=toX t i ->
    ∃ h3,I3 h (pV (g.length+2) (1+i)) (iV (toX t i))=A4 h3/\∃ h',A20 q m (pV g.length 0) (pV (g.length+1) 0) (pV (g.length+2) 0) (iV ((i+1:Nat):Int)) h3=A4 (.a (encI (d::qG d t (D1 d))),h'):=by
   intro hf;have hF:=E3 (d:=d) (xW (d:=d) (t:=t) (k:=i) (by omega));have t1:=G9 (x:=.i .i64 (toX t i)) (off:=1+i) hr (by rw [hF];omega);rw [B73,<-hf,<-D1B hk,hf] at t1;refine ⟨_,t1,C1j (q:=q) ht h0 h5 hq e (i+1) m _ (by omega) (by omega) (hlow.set (by simp) _) (C6 (C8 hr))⟩
  rw [B1m];by_cases cz:toX t i=0
  ·have hf:sR d t i=0:=by unfold sR A29;rw [decide_eq_true cz];rfl
   obtain ⟨h',ih⟩:=skip hf;rw [cz] at l1;refine ⟨h',?_⟩;generalize encI (d::t)=z at *;simp only [esc,ld,hP,c0,a1,l1,kZ,w1];exact ih
  ·cases cf:vF (toX t i) with
   | false =>
    rw [cf] at hFi;have hf:sR d t i=0:=by unfold sR A29;rw [cf,E7f,E75,cond_false]
    obtain ⟨h',ih⟩:=skip hf;refine ⟨h',?_⟩;generalize encI (d::t)=z at *;simp only [esc,ld,hP,c0,a1,l1,cz,hFi,kZ,w1];exact ih
   | true =>
    rw [cf] at hFi;obtain ⟨wb,hC⟩:=C8P (d:=d) (t:=t) (i:=i) (h:=h) ht (by omega) cz;have hq2:=U3 (Grows.rfl' (h:=h)) (v:=.t [.c (.i .i64 wb),.c (.b (A3j d t i))]);obtain ⟨a2,ha2,hL⟩:=B18 (d:=d) (t:=t) (g:=g) (h:=h) (i:=i) (q:=q) (m:=m) (x3:=pV (g.length+2) 0) (x6:=A3j d t i) ht hk hrd i 0 q A5 (by omega) (by omega);rw [E7j,<-List.range_eq_range',show (E7C i).all (λk=>!decide (toX t k=toX t i))=nV t i from rfl] at ha2;subst ha2;rw [lA q m 0] at hL;have ci:¬ (i:Int)<i:=by omega
    rw [show (((0:Nat):Int))=0 from rfl] at hL;have fin:∃ h',A21 q m q (pV g.length 0) (pV (g.length+1) 0) (pV (g.length+2) 0) (iV (i:Int)) (bV (A3j d t i)) (bV A5) (iV 0) h=A4 (.a (encI (d::qG d t (D1 d))),h'):=by
     rw [hL];cases cw:A3j d t i with
     | true =>
      have hf:sR d t i=toX t i:=by unfold sR A29;rw [cf,cw,decide_eq_false cz,Bool.or_true];rfl
      obtain ⟨h3,st,h',ih⟩:=put hf;refine ⟨h',?_⟩;simp only [esc,ci,a1,l1,a3,st,kZ,w1];exact ih
     | false =>
      cases cs:nV t i with
      | true =>
       have hf:sR d t i=toX t i:=by unfold sR A29;rw [cf,cs,decide_eq_false cz];rfl
       obtain ⟨h3,st,h',ih⟩:=put hf;refine ⟨h',?_⟩;simp only [esc,ci,a1,l1,a3,st,kZ,w1];exact ih
      | false =>
       have hf:sR d t i=0:=by unfold sR A29;rw [cf,cs,cw,decide_eq_false cz];rfl
       obtain ⟨h',ih⟩:=skip hf;refine ⟨h',?_⟩;simp only [esc,ci,kZ,w1];exact ih
    obtain ⟨h',e⟩:=fin;refine ⟨h',?_⟩;generalize encI (d::t)=z at *;simp only [esc,ld,hP,c0,a1,l1,cz,hFi,s1,hC,hq2];exact e
theorem D3J {d:Int} {t:List Int} {h:B5} (ht:t.length=32):B5b [.a (encI (d::t))] h=A4 (.a (encI (D0j d t)),h):=by
 have key:∀ N,32<N->∀ g,∃ g',B4E N [.a (encI (d::t))] g=A4 (.a (encI (D0j d t)),g'):=by
  intro N hN g;have hB:=E3 (d:=d) ht;have hz:(encI (0::zI 32)).length=33:=E3 (d:=0) I8;have l0:(encI (d::t))[0]?=A4 (.i .i64 d):=rfl;have haf:E4 (encI (0::zI 32)) []=A4 (encI (0::zI 32)):=rfl;rw [C9v,B2e];unfold D0j;by_cases c1:d<0
  ·rw [if_neg (by omega)];generalize encI (0::zI 32)=z at *;generalize encI (d::t)=y at *;exact ⟨_,by simp only [esc,esh,Nat.reduceAdd,Nat.reduceMul,Nat.reduceLT,hB,hz,l0,c1,haf]<;>rfl⟩
  ·by_cases c2:5<d
   ·rw [if_neg (by omega)];generalize encI (0::zI 32)=z at *;generalize encI (d::t)=y at *;exact ⟨_,by simp only [esc,esh,Nat.reduceAdd,Nat.reduceMul,Nat.reduceLT,hB,hz,l0,c1,c2,haf]<;>rfl⟩
   ·rw [if_pos (by omega)];have es:(encI (0::zI 32)).set 0 (.i .i64 d)=encI (d::zI 32):=rfl;have hz2:(encI (d::zI 32)).length=33:=E3 (d:=d) I8;have V5:0<(encI (0::zI 32)).length:=by rw [hz];omega
    obtain ⟨h',e⟩:=C1j (g:=g) (d:=d) (t:=t) (q:=N) ht (by omega) (by omega) hN (D1 d) 0 N (g++[rT (encI (d::t)),rT (encI (0::zI 32)),rT (encI (d::zI 32))]) (by omega) (by have:=O6 d;omega)
     (by have:=(Low.refl (h:=g++[rT (encI (d::t)),rT (encI (0::zI 32))]) (E7b _)).new [rT (encI (d::zI 32))];simpa using this) (by rw [D1C];simp)
    refine ⟨h',?_⟩;generalize encI (d::zI 32)=z2 at *;generalize encI (0::zI 32)=z at *;generalize encI (d::t)=y at *;simp only [esc,esh,Nat.reduceAdd,Nat.reduceMul,Nat.reduceLT,hB,hz,l0,c1,c2,haf,V5,es,hz2];exact e
 obtain ⟨g',e⟩:=key (h.length+33) (by omega) (ro h);exact C39 e (by simp)
section
variable {D:Dev} {n m:Int} {P:Nat->Prop} {h:B5} {c:Cl} {cs:List Cell} {v:Val}
theorem E2F {x4 x6 x8 x9 x11 ino:Nat} {no p0 d:Int} {t:List Int} {Q:Nat->Prop} {H:B5} {Rr B S Lo:Nat} (hv:Has h v 256 D.length (D5 D)) (hD:okD D) (e4:x4=h.length) (e6:x6=h.length+1) (e8:x8=h.length+2) (e9:x9=h.length+3) (e11:h.length+4<x11)
  (hQ0:Q=λid=>(P id/\id<h.length)\/x11+1<=id) (hHl:x11+1<=H.length) (G:Grows h H) (K:IsRC n Q H cs c) (ht:c.taken.length=D.length) (hl:D.length<=1000) (h32:t.length=32) (hn:n<=128)
  (r4:rd H x4=rT cs) (r6:rd H x6=rT (D8 D.length n m)) (r8:rd H x8=rT Z8) (r9:rd H x9=rT (encI (2::1::0::p0::no::zI 6))) (r11:rd H x11=rT (encI (d::t))) (hin:ino<c.ino.length) (O9:∀ x∈c.ino,x.length=11) (hc:c.ino.length<=1000)
  (hR:RowW n c) (sm:Small c Rr B S Lo) (hRr:Rr<=700) (hB:B<=500000) (hSs:S<=50000) (hLo:Lo<=500000) :
  ∃ cs' H',B1r 200 v (iV (ino:Int)) (pV x4 0) (pV x6 0) (pV x8 0) (pV x9 0) (pV x11 0) H=A4 (.a cs',H')/\Grows h H'/\IsRC n (λid=>P id\/h.length<=id) H' cs'
   (if no=0 then { c with ino:=c.ino.set ino (2::1::0::p0::no::zI 6) } else xN D n { c with ino:=c.ino.set ino (2::1::0::p0::no::zI 6) } ino no d t):=by
 obtain ⟨ii,hii⟩:∃ ii,ii=2::1::0::p0::no::zI 6:=⟨_,rfl⟩;rw [<-hii] at r9 ⊢;have iil:ii.length=11:=by rw [hii];rfl
 have i4:ii.getD 4 0=no:=by rw [hii];rfl
 have hQ:∀ id,H.length<=id->Q id:=λid hid=>by rw [hQ0];exact .inr (by omega)
 have nQ4:¬ Q x4:=by rw [hQ0];intro hh;rcases hh with hh | hh<;>omega
 have nQ8:¬ Q x8:=by rw [hQ0];intro hh;rcases hh with hh | hh<;>omega
 have E5r:¬ Q x11:=by rw [hQ0];intro hh;rcases hh with hh | hh<;>omega
 obtain ⟨v49,p50,H1,cs1,H2,b1,b2,b3,b4,b5,b6,b7,b8,b9,b10,b11⟩:=D15 (g:=h) G (by omega) K r4 hQ nQ4 r9 iil hin O9 hc (by omega);have ef:E4 [] []=A4 []:=rfl;have q9:rd H2 x9=rT (encI ii):=by rw [b11 _ (C8 r9) (by omega)];exact r9
 have q8:rd H2 x8=rT Z8:=by rw [b11 _ (C8 r8) (by omega)];exact r8
 have q6:rd H2 x6=rT (D8 D.length n m):=by rw [b11 _ (C8 r6) (by omega)];exact r6
 have q11:rd H2 x11=rT (encI (d::t)):=by rw [b11 _ (C8 r11) (by omega)];exact r11
 have l9:B8 H2 (pV x9 4)=A4 (iV no):=by rw [fP q9 (by omega),i4]
 have l8c:D4 H2 8 (pV x4 0)=A4 (.a cs1):=C7 b9 b8.length;have ad0:∀ x,J8 6 1 (pV x 4) (iV 0)=A4 (pV x 4):=λx=>J4 (j:=0) (by omega)
 have toP:∀ id,Q id->P id\/h.length<=id:=λid hid=>by
  rw [hQ0] at hid;rcases hid with hid | hid
  ·exact .inl hid.1
  ·exact .inr (by omega)
 by_cases hz:no=0
 ·rw [if_pos hz];obtain ⟨H3,zB⟩:∃ H3,H3=H2.set x8 (rT cs1):=⟨_,rfl⟩;have s8:E6 H2 8 (pV x8 0) (.a cs1)=A4 H3:=by rw [storeAll (n:=8) q8 rfl b8.length,zB]
  have l8:D4 H3 8 (pV x8 0)=A4 (.a cs1):=C7 (by rw [zB];exact C6 (C8 q8)) b8.length;refine ⟨cs1,H3,?_,by rw [zB];exact b7.set (by omega) _,by rw [zB];exact (b8.set (.inr nQ8)).mono toP⟩;rw [hz] at l9;rw [B1s];simp only [esc,Nat.reduceAdd,ef,b1,b2,b3,b4,b5,b6,ad0,l9,l8c,s8,l8]
 ·rw [if_neg hz];have h33:(encI (d::t)).length=33:=by simp [B7,h32]
  have l11:D4 H2 33 (pV x11 0)=A4 (.a (encI (d::t))):=C7 q11 h33;have hF:=D3J (d:=d) (t:=t) (h:=H2) h32;rw [B5X] at hF;have f32:=xX (d:=d) (t:=t);obtain ⟨d',hd'⟩:∃ d',d'=W6 d t:=⟨_,rfl⟩;obtain ⟨t0,ht0⟩:∃ t0,t0=fT d t:=⟨_,rfl⟩;rw [<-hd',<-ht0] at hF;rw [<-ht0] at f32;have C7U:(encI (d'::t0)).length=33:=by simp [B7,f32]
  obtain ⟨H3,zB⟩:∃ H3,H3=H2.set x11 (rT (encI (d'::t0))):=⟨_,rfl⟩;have s11:E6 H2 33 (pV x11 0) (.a (encI (d'::t0)))=A4 H3:=by rw [storeAll q11 h33 C7U,zB]
  have q311:rd H3 x11=rT (encI (d'::t0)):=by rw [zB];exact C6 (C8 q11)
  have l311:D4 H3 33 (pV x11 0)=A4 (.a (encI (d'::t0))):=C7 q311 C7U;have o3:∀ j,j≠x11->rd H3 j=rd H2 j:=λj hj=>by rw [zB,B6 (Ne.symm hj)]
  have lH3:H3.length=H2.length:=by rw [zB];simp
  have hBu:=A5W (d:=d') (t:=t0) (h:=H3) f32;obtain ⟨L,hL⟩:∃ L,L=L8 t0 (D1 d'):=⟨_,rfl⟩;have hLl:L.length<=32:=by rw [hL];exact E7K (gE ..) (O6 d')
  rw [<-hL] at hBu;obtain ⟨H4,hH4⟩:∃ H4,H4=H3++[rT (encI L)]:=⟨_,rfl⟩;rw [<-hH4] at hBu;have lH4:H4.length=H3.length+1:=by rw [hH4];simp
  have G3:Grows h H3:=by rw [zB];exact b7.set (by omega) _
  have G34:Grows H3 H4:=by rw [hH4];exact (Grows.rfl').new _
  obtain ⟨Q2,hQ2⟩:∃ Q2:Nat->Prop,Q2=λid=>(Q id/\id<H2.length)\/H2.length+1<=id:=⟨_,rfl⟩
  have K4:IsRC n Q2 H4 cs1 { c with ino:=c.ino.set ino ii }:=by
   have k2:=b8.low;have k3:IsRC n (λid=>Q id/\id<H2.length) H3 cs1 { c with ino:=c.ino.set ino ii }:=by
    rw [zB];exact k2.set (.inr λhh=>E5r hh.1)
   exact (k3.grows G34).mono λid hid=>by rw [hQ2];exact .inl hid
  have E4m:¬ Q2 x4:=by rw [hQ2];intro hh;rcases hh with hh | hh;exact nQ4 hh.1;have:=C8 b9;omega
  have E4n:¬ Q2 x8:=by rw [hQ2];intro hh;rcases hh with hh | hh;exact nQ8 hh.1;have:=C8 q8;omega
  have E5s:¬ Q2 x11:=by rw [hQ2];intro hh;rcases hh with hh | hh;exact E5r hh.1;have:=C8 q11;omega
  have to4:∀ {id r},rd H2 id=A4 r->id≠x11->rd H4 id=A4 r:=λhr T8=>G34.rd (by rw [o3 _ T8];exact hr)
  have lt8:=C8 q8;have lt9:=C8 q9;have lt11:=C8 q11;have lt4:=C8 b9;have lt6:=C8 q6;obtain ⟨cs2,H5,M5,f1,f2,f3,f4,f5,f6,f7,f8⟩:=E2G (D:=D) (m:=m) (g:=h) (Q:=Q2) (n:=n) (L:=L) (d:=d') (x1:=v) (x3:=iV (ino:Int)) (x4:=x4) (x6:=x6) (x8:=x8) (x9:=x9) (x11:=x11) (bid:=H2.length) (q:=200) hLl (by omega) ⟨by omega,by omega⟩ E4m E5s hl (by omega) (by omega) (by omega) (by omega) (by omega) L.length 0 200 ({ c with ino:=c.ino.set ino ii },t0) cs1 H4 (by omega) (by omega) f32 (G3.trans' G34) (λid hid=>by rw [hQ2];exact .inr (by omega)) K4 ht (to4 b9 (by omega)) (to4 q6 (by omega)) (G34.rd q311) (by rw [hH4,<-lH3,E9];rfl);rw [E7p] at f4 f6;obtain ⟨c1,hc1⟩:∃ c1:Cl,c1={ c with ino:=c.ino.set ino ii }:=⟨_,rfl⟩;have eb:nM D n (c1,t0) L=U7 D n c1 d t:=by unfold U7;rw [hL,ht0,hd']
  rw [<-hc1] at f4 f6 ⊢;rw [eb] at f4 f6;have hbs:SameC c1 (U7 D n c1 d t).1:=gO (D:=D) (n:=n) (L:=L8 (fT d t) (D1 (W6 d t))) (s:=(c1,fT d t));have hbT:(U7 D n c1 d t).2.length=32:=(B2r (D:=D) (n:=n) (L:=L8 (fT d t) (D1 (W6 d t))) (s:=(c1,fT d t))).trans xX;have hok:=E14 (D:=D) (n:=n) (c:=c1) (d:=d) (t:=t);have hdr:=C7I (d:=d) (t:=t);have eC:xN D n c1 ino no d t=N6 D (d'::(U7 D n c1 d t).2) (aT D n ino ((U7 D n c1 d t).1,λ_=>A7) (nP D (d'::(U7 D n c1 d t).2) (L8 (U7 D n c1 d t).2 (D1 d')))).2 (S5 (aT D n ino ((U7 D n c1 d t).1,λ_=>A7) (nP D (d'::(U7 D n c1 d t).2) (L8 (U7 D n c1 d t).2 (D1 d')))).1 no (bif okX d' (U7 D n c1 d t).2 then fU d' (U7 D n c1 d t).2 else zeros 256)) (L8 (U7 D n c1 d t).2 (D1 d')):=by
   rw [hd'];rfl
  rw [<-hd'] at hok hdr;have r1:c1.row=c.row:=by rw [hc1]
  have r2:c1.lnk=c.lnk:=by rw [hc1]
  have r3:c1.blocks=c.blocks:=by rw [hc1]
  have r4':c1.made=c.made:=by rw [hc1]
  have r5:c1.lost=c.lost:=by rw [hc1]
  have r6':c1.par=c.par:=by rw [hc1]
  have sm2:Small (U7 D n c1 d t).1 Rr B S Lo:=⟨by rw [hbs.row,r1];exact sm.row,λi=>by rw [hbs.lnk,r2];exact sm.lnk i,by rw [hbs.blocks,r3];exact sm.blocks,by rw [hbs.made,r4'];exact sm.made,by rw [hbs.lost,r5];exact sm.lost0,by rw [hbs.lost,r5];exact sm.lost⟩;have hR2:RowW n (U7 D n c1 d t).1:=hR.same (by rw [hbs.row,r1]) (by rw [hbs.par,r6']);rw [eC];obtain ⟨s2,hs2⟩:∃ s2,s2=U7 D n c1 d t:=⟨_,rfl⟩;rw [<-hs2] at f4 f6 hbT hok sm2 hR2 ⊢;obtain ⟨cs3,H6,g1,g2,g3⟩:=D84 (m:=m) (ino:=ino) (at_:=no) (hv.grows f2) hD f4 hbT hdr.2 hok hn hR2 sm2 hRr hB hSs hLo;have lt5:=f2.len;have k8:rd H5 x8=rT Z8:=by rw [f8 _ (by omega) (by omega) (by omega)];exact to4 q8 (by omega)
  have k9:rd H5 x9=rT (encI ii):=by rw [f8 _ (by omega) (by omega) (by omega)];exact to4 q9 (by omega)
  have k6:rd H5 x6=rT (D8 D.length n m):=by rw [f8 _ (by omega) (by omega) (by omega)];exact to4 q6 (by omega)
  have q86:rd H6 x8=rT Z8:=g2.rd k8;obtain ⟨H7,hH7⟩:∃ H7,H7=H6.set x8 (rT cs3):=⟨_,rfl⟩;have s8:E6 H6 8 (pV x8 0) (.a cs3)=A4 H7:=by rw [storeAll (n:=8) q86 rfl g3.length,hH7]
  have l8:D4 H7 8 (pV x8 0)=A4 (.a cs3):=C7 (by rw [hH7];exact C6 (C8 q86)) g3.length;have G6:Grows h H6:=f2.trans' g2;refine ⟨cs3,H7,?_,by rw [hH7];exact G6.set (by omega) _,?_⟩
  ·have l45:D4 H5 8 (pV x4 0)=A4 (.a cs2):=C7 f5 f4.length;have l65:D4 H5 3 (pV x6 0)=A4 (.a (D8 D.length n m)):=C7 k6 rfl;have l95:B8 H5 (pV x9 4)=A4 (iV no):=by rw [fP k9 (by omega),i4]
   have l115:D4 H5 33 (pV x11 0)=A4 (.a (encI (d'::s2.2))):=C7 f6 (by simp [B7,hbT]);have cL:¬ ((L.length:Nat):Int)<(L.length:Nat):=by omega
   have c00:((0:Nat):Int)=0:=rfl;rw [c00] at f1;rw [lH3] at hBu;rw [B1s];generalize encI (d::t)=X at *;generalize encI (d'::t0)=X0 at *;generalize encI (d'::s2.2)=X2 at *;generalize hLL:D8 D.length n m=LC at *;simp only [esc,Nat.reduceAdd,ef,b1,b2,b3,b4,b5,b6,ad0,l9,hz,l11,hF,s11,l311,hBu];refine f1.trans ?_;rw [B1u];simp only [esc,Nat.reduceAdd,cL,l45,l65,ad0,l95,l115,g1,s8,l8]
  ·rw [hH7];refine (g3.set (.inr ?_)).mono ?_
   ·intro hh;rcases hh with hh | hh
    ·exact E4n hh
    ·have:=C8 k8;omega
   ·intro id hid;rcases hid with hid | hid
    ·rw [hQ2] at hid;rcases hid with hid | hid
     ·exact toP _ hid.1
     ·exact .inr (by omega)
    ·exact .inr (by omega)
theorem D7R {ino:Int} {Rr B S Lo:Nat} (hv:Has h v 256 D.length (D5 D)) (hD:okD D) (K:IsRC n P h cs c) (ht:c.taken.length=D.length) (hl:D.length<=1000) (hn:n<=128) (i0:0<=ino) (i1:ino.toNat<c.ino.length) (i2:ino<=n) (O9:∀ x∈c.ino,x.length=11) (hc:c.ino.length<=1000)
  (hR:RowW n c) (sm:Small c Rr B S Lo) (hRr:Rr<=700) (hB:B<=500000) (hSs:S<=50000) (hLo:Lo<=500000) :
  ∃ cs' H',B5g [.a cs,v,.a (D8 D.length n m),iV ino] h=A4 (.a cs',H')/\Grows h H'/\IsRC n (λid=>P id\/h.length<=id) H' cs' (qF D n c ino):=by
 obtain ⟨k,rfl⟩:=E7Q i0;rw [E7r] at i1;have c8:=K.length;obtain ⟨p0,hp0⟩:∃ p0,p0=(c.par k).getD 0:=⟨_,rfl⟩;obtain ⟨d0,hd0⟩:∃ d0,d0=(drV D n k).getD 0 0:=⟨_,rfl⟩;obtain ⟨b,hb⟩:∃ b,b=blk D d0:=⟨_,rfl⟩;have hbl:b.length=256:=by rw [hb];exact O5 hD
 obtain ⟨was,ew⟩:∃ was,was=A5Y D n (k:Int):=⟨_,rfl⟩;have hwl:was.length=11:=by rw [ew];exact yH
 have was0:was.getD 0 0=kdV D n k:=by rw [ew];rfl
 have was4:was.getD 4 0=d0:=by rw [ew,hd0];rfl
 obtain ⟨X0,hX0⟩:∃ X0:List Int,X0=(bif U8 b then getD b::N7 b 32 else 0::zI 32):=⟨_,rfl⟩;have X0l:X0.length=33:=by rw [hX0];cases U8 b<;>simp [lD,I8]
 obtain ⟨G3,hG3⟩:∃ G3,G3=h++[rT cs,rT (D8 D.length n m),rT Z8]:=⟨_,rfl⟩;obtain ⟨G4,hG4⟩:∃ G4,G4=h++[rT cs,rT (D8 D.length n m),rT Z8,rT (encI (2::1::0::p0::0::zI 6))]:=⟨_,rfl⟩;obtain ⟨G5,hG5⟩:∃ G5,G5=h++[rT cs,rT (D8 D.length n m),rT Z8,rT (encI (2::1::0::p0::0::zI 6)),rT (encI was)]:=⟨_,rfl⟩;have lG3:G3.length=h.length+3:=by rw [hG3];simp
 have lG4:G4.length=h.length+4:=by rw [hG4];simp
 have lG5:G5.length=h.length+5:=by rw [hG5];simp
 have G05:Grows h G5:=by rw [hG5];exact S7 Grows.rfl' rfl
 have hI:=sN (v:=v) (n:=n) (m:=m) (i:=(k:Int)) (h:=G4) (by rw [hG4];exact hv.more _) hD;rw [<-C8U,<-ew] at hI;obtain ⟨u,tb,d1,d2,d3,_⟩:=A0V (no:=d0) (hv.grows G05) hD;rw [<-hb] at d3;have B8g:=D3K hbl d3;rw [<-hX0] at B8g;obtain ⟨H6,hH6⟩:∃ H6,H6=(G5++tb)++[rT (encI X0)]:=⟨_,rfl⟩;obtain ⟨x11,C7Z⟩:∃ x11,x11=(G5++tb).length:=⟨_,rfl⟩;have lx11:h.length+5<=x11:=by rw [C7Z];simp [lG5]
 have lH6:H6.length=x11+1:=by rw [hH6,C7Z,E7a];rfl
 have G06:Grows h H6:=by rw [hH6];exact (G05.trans' (S7 Grows.rfl' d2)).new _
 obtain ⟨Q,hQ0⟩:∃ Q:Nat->Prop,Q=λid=>(P id/\id<h.length)\/x11+1<=id:=⟨_,rfl⟩
 have K6:IsRC n Q H6 cs c:=(K.low.grows G06).mono λid hid=>by rw [hQ0];exact .inl hid
 have lift:∀ {id r},rd G5 id=A4 r->rd H6 id=A4 r:=λhr=>by rw [hH6];exact C5 (C5 hr)
 have s4:rd H6 h.length=rT cs:=lift (by rw [hG5,E9];rfl);have s6:rd H6 (h.length+1)=rT (D8 D.length n m):=lift (by rw [hG5,L5];rfl);have s8:rd H6 (h.length+2)=rT Z8:=lift (by rw [hG5,L5];rfl);have s9:rd H6 (h.length+3)=rT (encI (2::1::0::p0::0::zI 6)):=lift (by rw [hG5,L5];rfl);have s10:rd H6 (h.length+4)=rT (encI was):=lift (by rw [hG5,L5];rfl);have s11:rd H6 x11=rT (encI X0):=by rw [hH6,C7Z,E9];rfl
 have nQ4:¬ Q h.length:=by rw [hQ0];intro hh;rcases hh with hh | hh<;>omega
 have nQ9:¬ Q (h.length+3):=by rw [hQ0];intro hh;rcases hh with hh | hh<;>omega
 have eO:gX D n c k=(bif decide (kdV D n k=2)&&U8 b then (dU D n c d0,U1 D n c d0) else (c,0)):=by unfold gX;rw [<-hd0,<-hb]
 have eC:∀ s:Cl × Int,gX D n c k=s->(s.2≠0->U8 b=A5)->qF D n c k=(if s.2=0 then { s.1 with ino:=s.1.ino.set k (2::1::0::p0::s.2::zI 6) } else xN D n { s.1 with ino:=s.1.ino.set k (2::1::0::p0::s.2::zI 6) } k s.2 (X0.getD 0 0) (X0.drop 1)):=by
  intro s es hg;have eI:Y1 D n c k={ s.1 with ino:=s.1.ino.set k (2::1::0::p0::s.2::zI 6) }:=by unfold Y1;rw [es,<-hp0];rfl
  unfold qF;rw [es,eI,<-hd0,<-hb];by_cases hz:s.2=0
  ·rw [if_pos hz,if_pos hz]
  ·rw [if_neg hz,if_neg hz,hX0,hg hz];rfl
 have X0c:X0=X0.getD 0 0::X0.drop 1:=by
  cases hx:X0 with
  | nil=>rw [hx] at X0l;cases X0l
  | cons a l=>rfl
 have X0d:(X0.drop 1).length=32:=by rw [E72,X0l]
 have fin:∀ (s:Cl × Int) (cs2:List Cell) (H7:B5),gX D n c k=s->(s.2≠0->U8 b=A5)->SameC c s.1->s.1.taken.length=D.length->Grows h H7->x11+1<=H7.length->IsRC n Q H7 cs2 s.1->rd H7 h.length=rT cs2->rd H7 (h.length+3)=rT (encI (2::1::0::p0::s.2::zI 6))->(∀ j,j<x11+1->j≠h.length->j≠h.length+3->rd H7 j=rd H6 j) ->
   ∃ cs' H',B1r 200 v (iV (k:Int)) (pV h.length 0) (pV (h.length+1) 0) (pV (h.length+2) 0) (pV (h.length+3) 0) (pV x11 0) H7=A4 (.a cs',H')/\Grows h H'/\IsRC n (λid=>P id\/h.length<=id) H' cs' (qF D n c k):=by
  intro s cs2 H7 es hg ss tl G7 hl7 K7 q4 q9 same;rw [eC s es hg];exact E2F (m:=m) hv hD rfl rfl rfl rfl (by omega) hQ0 hl7 G7 K7 tl hl X0d hn q4 (by rw [same _ (by omega) (by omega) (by omega)];exact s6) (by rw [same _ (by omega) (by omega) (by omega)];exact s8) q9 (by rw [same _ (by omega) (by omega) (by omega),<-X0c];exact s11) (by rw [ss.ino];exact i1) (by rw [ss.ino];exact O9) (by rw [ss.ino];exact hc) (hR.same ss.row ss.par) ⟨by rw [ss.row];exact sm.row,λi=>by rw [ss.lnk];exact sm.lnk i,by rw [ss.blocks];exact sm.blocks,by rw [ss.made];exact sm.made,by rw [ss.lost];exact sm.lost0,by rw [ss.lost];exact sm.lost⟩ hRr hB hSs hLo
 have key:∃ cs' H',B4H 200 [.a cs,v,.a (D8 D.length n m),iV (k:Int)] h=A4 (.a cs',H')/\Grows h H'/\IsRC n (λid=>P id\/h.length<=id) H' cs' (qF D n c k):=by
  have z11:[o0,o0,o0,o0,o0,o0,o0,o0,o0,o0,o0]=encI (zI 11):=rfl;have cl1:cells? (.a cs)=A4 cs:=rfl;have cl2:cells? (.a (D8 D.length n m))=A4 (D8 D.length n m):=rfl;have l3:D4 G4 3 (pV (h.length+1) 0)=A4 (.a (D8 D.length n m)):=C7 (by rw [hG4,L5];rfl) rfl;have wl:(encI was).length=11:=by rw [B7,hwl]
  have ef:E4 (encI (zI 11)) [(0,1,iV 2),(1,1,iV 1),(3,1,iV p0)]=A4 (encI (2::1::0::p0::0::zI 6)):=rfl;have st4:E6 (G3++[rT (encI (zI 11))]) 11 (pV (h.length+3) 0) (.a (encI (2::1::0::p0::0::zI 6)))=A4 G4:=by
   rw [<-lG3,storeAll (by rw [E9];rfl) (by rfl) (by rfl),V6,hG3,hG4];simp
  have st5:E6 (G4++[rT (encI (zI 11))]) 11 (pV (h.length+4) 0) (.a (encI was))=A4 G5:=by
   rw [<-lG4,storeAll (by rw [E9];rfl) (by rfl) wl,V6,hG4,hG5];simp
  have ad0:∀ x,J8 6 1 (pV x 4) (iV 0)=A4 (pV x 4):=λx=>J4 (j:=0) (by omega)
  have w5:B8 G5 (pV (h.length+4) 4)=A4 (iV d0):=by
   have:=fP (h:=G5) (id:=h.length+4) (x:=was) (by rw [hG5,L5];rfl) (k:=4) (by omega);rw [was4] at this;exact this
  have e0:D56 (.t [.a (encI X0),.c (.b (U8 b))]) 0=A4 (.a (encI X0)):=rfl;have e1:D56 (.t [.a (encI X0),.c (.b (U8 b))]) 1=A4 (bV (U8 b)):=rfl;have z33:([o0]++E68 32 o0).length=33:=rfl;have xl:(encI X0).length=33:=by rw [B7,X0l]
  have st6:E6 ((G5++tb)++[rT ([o0]++E68 32 o0)]) 33 (pV (G5++tb).length 0) (.a (encI X0))=A4 H6:=by
   rw [storeAll (by rw [E9];rfl) z33 xl,V6,hH6];rfl
  have w60:B8 H6 (pV (h.length+4) 0)=A4 (iV (kdV D n k)):=by rw [fP s10 (by omega),was0]
  have w64:B8 H6 (pV (h.length+4) 4)=A4 (iV d0):=by rw [fP s10 (by omega),was4]
  obtain ⟨v4,v5,y1,y2,y3⟩:∃ v4 v5,B8 G3 (pV h.length 7)=A4 v4/\E1 1 v4 (iV (k:Int))=A4 v5/\B8 G3 v5=A4 (iV p0):=by
   obtain ⟨xr,xi,xt,xb,xm,xl,xy,ys,rfl,kk⟩:=K;have hk1:k<(fJ n c.par).length:=by rw [R8];omega
   have lky:B8 G3 (pV h.length 7)=A4 (.c xy):=C4 (cs:=rcC xr xi xt xb xm c.lost xl xy) (by rw [hG3,E9];rfl) rfl rfl;obtain ⟨it,ot,et,_,hA,_⟩:=(kk.par.more [rT (rcC xr xi xt xb xm c.lost xl xy),rT (D8 D.length n m),rT Z8]).sl (by omega);cases et;rw [<-hG3] at hA;exact ⟨_,_,lky,by rw [C9 (by omega),Nat.mul_one],hA k _ (by rw [G8,A5J (by rw [R8] at hk1;exact hk1),hp0];rfl)⟩
  by_cases ck:kdV D n k=2
  ·cases cg:U8 b with
   | true =>
    rw [ck,cg] at eO;have eO:gX D n c k=(dU D n c d0,U1 D n c d0):=eO;obtain ⟨cs',K1,H7,H8,a1,a2,a3,a4,a5,a6,a7,a8,a9⟩:=E0B (m:=m) (no:=d0) (g:=h) G06 (E7b _) K6 s4 c8 (λid hid=>by rw [hQ0];exact .inr (by omega)) nQ4 ht hl;have q9:rd H8 (h.length+3)=rT (encI (2::1::0::p0::0::zI 6)):=by rw [a9 _ (by omega) (by omega)];exact s9
    have es:(encI (2::1::0::p0::0::zI 6)).set 4 (.i .i64 (U1 D n c d0))=encI (2::1::0::p0::U1 D n c d0::zI 6):=rfl;obtain ⟨H9,hH9⟩:∃ H9,H9=H8.set (h.length+3) (rT (encI (2::1::0::p0::U1 D n c d0::zI 6))):=⟨_,rfl⟩;have st9:I3 H8 (pV (h.length+3) 4) (iV (U1 D n c d0))=A4 H9:=by rw [G9 q9 (by rw [B7];simp [I8]),es,hH9]
    obtain ⟨cs2,H',j1,j2,j3⟩:=fin (dU D n c d0,U1 D n c d0) cs' H9 eO (λ_=>cg) (pT ..) (by rw [gW];exact ht) (by rw [hH9];exact a5.set (by omega) _) (by rw [hH9];simp;omega) (by rw [hH9];exact a6.set (.inr nQ9)) (by rw [hH9,B6 (by omega)];exact a7) (by rw [hH9];exact C6 (C8 q9)) (λj hj h1 h2=>by rw [hH9,B6 (Ne.symm h2),a9 j (by omega) h1]);refine ⟨cs2,H',?_,j2,j3⟩;have l46:D4 H6 8 (pV h.length 0)=A4 (.a cs):=C7 s4 c8;have l66:D4 H6 3 (pV (h.length+1) 0)=A4 (.a (D8 D.length n m)):=C7 s6 rfl;rw [cg] at e0 e1 B8g;rw [ck] at w60;rw [<-C7Z,E7c] at st6;rw [A3u,z11,A47];generalize encI (zI 11)=Z at *;generalize encI (2::1::0::p0::0::zI 6)=I0 at *;generalize encI was=W at *;generalize encI X0=XX at *;generalize [o0]++E68 32 o0=Z33 at *;generalize hLL:D8 D.length n m=LC at *;generalize Z8=E8 at *;simp only [cl1,cl2,P9,E7c,E7E,E7m,E7a,E7g,E7v,E7t,Nat.reduceAdd,<-hG3];simp only [esc,Nat.reduceAdd,y1,y2,y3,ef,lG3,st4,l3,hI,lG4,st5,ad0,w5,d1,B8g,e0,e1,<-C7Z,st6,w60,l46,l66,w64,a1,a2,a3,a4,st9];exact j1
   | false =>
    rw [ck,cg] at eO;have eO:gX D n c k=(c,0):=eO;obtain ⟨cs2,H',j1,j2,j3⟩:=fin (c,0) cs H6 eO (λhh=>absurd rfl hh) (.rfl' _) ht G06 (by omega) K6 s4 s9 (λ_ _ _ _=>rfl);refine ⟨cs2,H',?_,j2,j3⟩;rw [cg] at e0 e1 B8g;rw [ck] at w60;rw [<-C7Z,E7c] at st6;rw [A3u,z11,A47];generalize encI (zI 11)=Z at *;generalize encI (2::1::0::p0::0::zI 6)=I0 at *;generalize encI was=W at *;generalize encI X0=XX at *;generalize [o0]++E68 32 o0=Z33 at *;generalize hLL:D8 D.length n m=LC at *;generalize Z8=E8 at *;simp only [cl1,cl2,P9,E7c,E7E,E7m,E7a,E7g,E7v,E7t,Nat.reduceAdd,<-hG3];simp only [esc,Nat.reduceAdd,y1,y2,y3,ef,lG3,st4,l3,hI,lG4,st5,ad0,w5,d1,B8g,e0,e1,<-C7Z,st6,w60];exact j1
  ·have eO:gX D n c k=(c,0):=by rw [eO];simp [ck]
   obtain ⟨cs2,H',j1,j2,j3⟩:=fin (c,0) cs H6 eO (λhh=>absurd rfl hh) (.rfl' _) ht G06 (by omega) K6 s4 s9 (λ_ _ _ _=>rfl);refine ⟨cs2,H',?_,j2,j3⟩;rw [<-C7Z,E7c] at st6;rw [A3u,z11,A47];generalize encI (zI 11)=Z at *;generalize encI (2::1::0::p0::0::zI 6)=I0 at *;generalize encI was=W at *;generalize encI X0=XX at *;generalize [o0]++E68 32 o0=Z33 at *;generalize hLL:D8 D.length n m=LC at *;generalize Z8=E8 at *;simp only [cl1,cl2,P9,E7c,E7E,E7m,E7a,E7g,E7v,E7t,Nat.reduceAdd,<-hG3];simp only [esc,Nat.reduceAdd,y1,y2,y3,ef,lG3,st4,l3,hI,lG4,st5,ad0,w5,d1,B8g,e0,e1,<-C7Z,st6,w60,ck];exact j1
 obtain ⟨cs',H',e1,e2,e3⟩:=key;exact ⟨cs',H',C9T e1,e2,e3⟩
end
section
variable {D:Dev} {n:Int}
theorem B5U {d:List Int}:∀ {e k:Nat} {s:Cl × List Int},(A7q D n d e k s).1.taken.length=s.1.taken.length
 | 0,_,_=>rfl
 | e+1,k,s=>by rw [A7q,B5U];exact gW
theorem D4X {c:Cl} {ino:Int}:(eG D n c ino).1.taken.length=c.taken.length:=by
 unfold eG B8m;split
 ·rw [gW,B5U]
 ·rw [B5U]
theorem D4V {c:Cl} {ino:Int}:(iJ D n c ino).taken.length=c.taken.length:=by
 have h1:(Z3 D n c ino).taken.length=c.taken.length:=D4X;unfold iJ;split
 ·exact h1
 ·have hs:=B1w (D:=D) (n:=n) (many:=A4d (szV D n ino)) (e:=128) (k:=0) (s:=(Z3 D n c ino,blk D ((eG D n c ino).2.getD 6 0)));dsimp only at hs;generalize cF D n (A4d (szV D n ino)) 128 0 (Z3 D n c ino,blk D ((eG D n c ino).2.getD 6 0))=s at *;exact hs.trans h1
theorem D8s {c:Cl} {ino:Int}:(iJ D n c ino).ino=c.ino.set ino.toNat (1::1::szV D n ino::0::(eG D n c ino).2):=by
 have h1:(Z3 D n c ino).ino=c.ino.set ino.toNat (1::1::szV D n ino::0::(eG D n c ino).2):=by unfold Z3;rw [A1H.1.ino]
 unfold iJ;split
 ·exact h1
 ·have hs:=vE (D:=D) (n:=n) (many:=A4d (szV D n ino)) (e:=128) (k:=0) (s:=(Z3 D n c ino,blk D ((eG D n c ino).2.getD 6 0)));dsimp only at hs;generalize cF D n (A4d (szV D n ino)) 128 0 (Z3 D n c ino,blk D ((eG D n c ino).2.getD 6 0))=s at *;exact hs.ino.trans h1
theorem C3g {ino:Int}:∀ {L:List Ent} {s:Cl × (List UInt8->Option Int)} {B:Int},BndL s.1 B->SameT s.1 (aT D n ino s L).1/\BndL (aT D n ino s L).1 (B+L.length)/\(aT D n ino s L).1.row.length<=s.1.row.length+L.length
 | [],s,B,hb=>⟨⟨rfl,rfl,rfl,rfl,rfl⟩,by have h2:BndL s.1 (B+(([]:List Ent).length:Int)):=hb.mono (by simp);exact h2,E7b _⟩
 | x::L,s,B,hb=>by
  obtain ⟨a1,a2,a3⟩:=A3i (D:=D) (n:=n) (ino:=ino) (e:=x) hb;obtain ⟨b1,b2,b3⟩:=C3g (L:=L) (s:=Z5 D n ino s x) a2;refine ⟨⟨b1.ino.trans a1.ino,b1.blocks.trans a1.blocks,b1.made.trans a1.made,b1.taken.trans a1.taken,b1.lost.trans a1.lost⟩,?_,?_⟩
  ·rw [E7g];exact b2.mono (by omega)
  ·rw [E7g];show (aT D n ino (Z5 D n ino s x) L).1.row.length<=_;omega
theorem wP {X:List Int} {K:List UInt8->Option Int}:∀ {L:List Int} {c:Cl},(N6 D X K c L).row=c.row/\(N6 D X K c L).lnk=c.lnk/\(N6 D X K c L).taken=c.taken/\(N6 D X K c L).ino=c.ino/\(N6 D X K c L).blocks.length=c.blocks.length+L.length/\(N6 D X K c L).made.length=c.made.length+L.length/\c.lost<=(N6 D X K c L).lost/\(N6 D X K c L).lost<=c.lost+7*L.length
 | [],c=>⟨rfl,rfl,rfl,rfl,rfl,rfl,Int.le_refl _,by show c.lost<=_;simp⟩
 | no::L,c=>by
  have hs:=pS (D:=D) (X:=X) (no:=no) (K:=K) (l:=N9 (blk D no)) (s:=(c,bN []));have hl:=A2W (D:=D) (X:=X) (no:=no) (K:=K) (l:=N9 (blk D no)) (s:=(c,bN []));have h7:=dW (blk D no);obtain ⟨a1,a2,a3,a4,a5,a6,a7,a8⟩:=wP (X:=X) (K:=K) (L:=L) (c:=vM D X K c no);have e1:(vM D X K c no).blocks.length=c.blocks.length+1:=by show (_++[no]).length=_;rw [E7a,hs.blocks];rfl
  have e2:(vM D X K c no).made.length=c.made.length+1:=by show (_++[_]).length=_;rw [E7a,hs.made];rfl
  have e3:(vM D X K c no).lost=(U5 D X no K (c,bN []) (N9 (blk D no))).1.lost:=rfl;dsimp only at hl;refine ⟨a1.trans hs.row,a2.trans hs.lnk,a3.trans hs.taken,a4.trans hs.ino,?_,?_,?_,?_⟩
  ·rw [E7g];show (N6 D X K (vM D X K c no) L).blocks.length=_;omega
  ·rw [E7g];show (N6 D X K (vM D X K c no) L).made.length=_;omega
  ·show _<=(N6 D X K (vM D X K c no) L).lost;omega
  ·rw [E7g];show (N6 D X K (vM D X K c no) L).lost<=_;omega
theorem C7x {c:Cl} {ino:Int}:(gX D n c ino).1.taken.length=c.taken.length:=by
 unfold gX;cases (decide (kdV D n ino=2)&&U8 (blk D ((drV D n ino).getD 0 0))) with
 | true=>exact gW
 | false=>rfl
theorem D5U {ino:Int}:∀ {L:List Ent} {s:Cl × (List UInt8->Option Int)},(aT D n ino s L).1.ino=s.1.ino/\(aT D n ino s L).1.taken=s.1.taken
 | [],_=>⟨rfl,rfl⟩
 | x::L,s=>by
  have ih:=D5U (ino:=ino) (L:=L) (s:=Z5 D n ino s x);have h1:(Z5 D n ino s x).1.ino=s.1.ino/\(Z5 D n ino s x).1.taken=s.1.taken:=by
   unfold Z5 dL;cases iP D n s.1 x.2 with
   | false=>exact ⟨rfl,rfl⟩
   | true =>
    simp only [cond_true];cases (s.1.par x.2).isSome with
    | true=>exact ⟨rfl,rfl⟩
    | false=>exact ⟨rfl,rfl⟩
  exact ⟨ih.1.trans h1.1,ih.2.trans h1.2⟩
theorem D96 {c:Cl} {ino:Int}:(qF D n c ino).ino=c.ino.set ino.toNat (2::1::0::(c.par ino).getD 0::(gX D n c ino).2::zI 6)/\(qF D n c ino).taken.length=c.taken.length:=by
 have hs:=A0P (D:=D) (n:=n) (ino:=ino) (c:=c);have eI:(Y1 D n c ino).ino=c.ino.set ino.toNat (2::1::0::(c.par ino).getD 0::(gX D n c ino).2::zI 6):=by unfold Y1;rw [hs.ino]
 have tI:(Y1 D n c ino).taken.length=c.taken.length:=C7x;unfold qF;split
 ·exact ⟨eI,tI⟩
 ·obtain ⟨d,hd⟩:∃ d,d=getD (blk D ((drV D n ino).getD 0 0)):=⟨_,rfl⟩;obtain ⟨t,ht⟩:∃ t,t=N7 (blk D ((drV D n ino).getD 0 0)) 32:=⟨_,rfl⟩;rw [<-hd,<-ht];unfold xN;have hb:SameC (Y1 D n c ino) (U7 D n (Y1 D n c ino) d t).1:=gO (D:=D) (n:=n) (L:=L8 (fT d t) (D1 (W6 d t))) (s:=(Y1 D n c ino,fT d t));have tb:(U7 D n (Y1 D n c ino) d t).1.taken.length=(Y1 D n c ino).taken.length:=B0V (D:=D) (n:=n) (L:=L8 (fT d t) (D1 (W6 d t))) (s:=(Y1 D n c ino,fT d t));obtain ⟨s1,hs1⟩:∃ s1,s1=U7 D n (Y1 D n c ino) d t:=⟨_,rfl⟩;have eT:bodyT D n (Y1 D n c ino) ino d t=aT D n ino (s1.1,λ_=>A7) (nP D (W6 d t::s1.2) (L8 s1.2 (D1 (W6 d t)))):=by rw [hs1];rfl
  rw [eT];rw [<-hs1] at hb tb ⊢;have q:=D5U (D:=D) (n:=n) (ino:=ino) (L:=nP D (W6 d t::s1.2) (L8 s1.2 (D1 (W6 d t)))) (s:=(s1.1,λ_=>A7));dsimp only at q;generalize aT D n ino (s1.1,λ_=>A7) (nP D (W6 d t::s1.2) (L8 s1.2 (D1 (W6 d t))))=s2 at *;generalize (bif okX (W6 d t) s1.2 then fU (W6 d t) s1.2 else zeros 256)=ib;obtain ⟨a1,a2,a3,a4,a5,a6,a7,a8⟩:=wP (D:=D) (X:=W6 d t::s1.2) (K:=s2.2) (L:=L8 s1.2 (D1 (W6 d t))) (c:=S5 s2.1 (gX D n c ino).2 ib);generalize N6 D (W6 d t::s1.2) s2.2 (S5 s2.1 (gX D n c ino).2 ib) (L8 s1.2 (D1 (W6 d t)))=z at *;have m3:(S5 s2.1 (gX D n c ino).2 ib).taken=s2.1.taken:=rfl;have m4:(S5 s2.1 (gX D n c ino).2 ib).ino=s2.1.ino:=rfl;exact ⟨by rw [a4,m4,q.1,hb.ino,eI],by rw [a3,m3,q.2,tb,tI]⟩
theorem D6k {c:Cl} {ino:Int} {R B S Lo:Nat} (sm:Small c R B S Lo):Small (qF D n c ino) (R+224) (B+224) (S+33) (Lo+224)/\(qF D n c ino).ino=c.ino.set ino.toNat (2::1::0::(c.par ino).getD 0::(gX D n c ino).2::zI 6)/\(qF D n c ino).taken.length=c.taken.length:=by
 have hs:=A0P (D:=D) (n:=n) (ino:=ino) (c:=c);have eI:(Y1 D n c ino).ino=c.ino.set ino.toNat (2::1::0::(c.par ino).getD 0::(gX D n c ino).2::zI 6):=by unfold Y1;rw [hs.ino]
 have tI:(Y1 D n c ino).taken.length=c.taken.length:=C7x;have i1:(Y1 D n c ino).row=c.row:=hs.row;have i2:(Y1 D n c ino).lnk=c.lnk:=hs.lnk;have i3:(Y1 D n c ino).blocks=c.blocks:=hs.blocks;have i4:(Y1 D n c ino).made=c.made:=hs.made;have i5:(Y1 D n c ino).lost=c.lost:=hs.lost;have b1:=sm.row;have b2:=sm.blocks;have b3:=sm.made;have b4:=sm.lost0;have b5:=sm.lost;unfold qF;split
 ·exact ⟨⟨by rw [i1];omega,by intro i;rw [i2];have:=sm.lnk i;omega,by rw [i3];omega,by rw [i4];omega,by rw [i5];omega,by rw [i5];omega⟩,eI,tI⟩
 ·obtain ⟨d,hd⟩:∃ d,d=getD (blk D ((drV D n ino).getD 0 0)):=⟨_,rfl⟩;obtain ⟨t,ht⟩:∃ t,t=N7 (blk D ((drV D n ino).getD 0 0)) 32:=⟨_,rfl⟩;rw [<-hd,<-ht];unfold xN;have hb:SameC (Y1 D n c ino) (U7 D n (Y1 D n c ino) d t).1:=gO (D:=D) (n:=n) (L:=L8 (fT d t) (D1 (W6 d t))) (s:=(Y1 D n c ino,fT d t));have tb:(U7 D n (Y1 D n c ino) d t).1.taken.length=(Y1 D n c ino).taken.length:=B0V (D:=D) (n:=n) (L:=L8 (fT d t) (D1 (W6 d t))) (s:=(Y1 D n c ino,fT d t));obtain ⟨s1,hs1⟩:∃ s1,s1=U7 D n (Y1 D n c ino) d t:=⟨_,rfl⟩;have eT:bodyT D n (Y1 D n c ino) ino d t=aT D n ino (s1.1,λ_=>A7) (nP D (W6 d t::s1.2) (L8 s1.2 (D1 (W6 d t)))):=by rw [hs1];rfl
  rw [eT];rw [<-hs1] at hb tb ⊢;obtain ⟨L,hL⟩:∃ L,L=L8 s1.2 (D1 (W6 d t)):=⟨_,rfl⟩;have hLl:L.length<=32:=by rw [hL];exact E7K (gE ..) (O6 _)
  rw [<-hL];have hNl:=B8C (D:=D) (X:=W6 d t::s1.2) (L:=L);generalize nP D (W6 d t::s1.2) L=N at *;obtain ⟨t1,t2,t3⟩:=C3g (D:=D) (n:=n) (ino:=ino) (L:=N) (s:=(s1.1,λ_=>A7)) (B:=B) (by intro i;show 0<=(s1.1.lnk i).getD 0/\(s1.1.lnk i).getD 0<=_;rw [hb.lnk,i2];exact sm.lnk i);dsimp only at t1 t2 t3;generalize aT D n ino (s1.1,λ_=>A7) N=s2 at *;generalize (bif okX (W6 d t) s1.2 then fU (W6 d t) s1.2 else zeros 256)=ib;obtain ⟨a1,a2,a3,a4,a5,a6,a7,a8⟩:=wP (D:=D) (X:=W6 d t::s1.2) (K:=s2.2) (L:=L) (c:=S5 s2.1 (gX D n c ino).2 ib);generalize N6 D (W6 d t::s1.2) s2.2 (S5 s2.1 (gX D n c ino).2 ib) L=z at *;have m1:(S5 s2.1 (gX D n c ino).2 ib).row=s2.1.row:=rfl;have m2:(S5 s2.1 (gX D n c ino).2 ib).lnk=s2.1.lnk:=rfl;have m3:(S5 s2.1 (gX D n c ino).2 ib).taken=s2.1.taken:=rfl;have m4:(S5 s2.1 (gX D n c ino).2 ib).ino=s2.1.ino:=rfl;have m5:(S5 s2.1 (gX D n c ino).2 ib).blocks.length=s2.1.blocks.length+1:=by show (_++[_]).length=_;simp
  have m6:(S5 s2.1 (gX D n c ino).2 ib).made.length=s2.1.made.length+1:=by show (_++[_]).length=_;simp
  have m7:(S5 s2.1 (gX D n c ino).2 ib).lost=s2.1.lost:=rfl;have u1:s2.1.blocks.length=c.blocks.length:=by rw [t1.blocks,hb.blocks,i3]
  have u2:s2.1.made.length=c.made.length:=by rw [t1.made,hb.made,i4]
  have u3:s2.1.lost=c.lost:=by rw [t1.lost,hb.lost,i5]
  have u4:s1.1.row.length=c.row.length:=by rw [hb.row,i1]
  refine ⟨⟨by rw [a1,m1];omega,λi=>?_,by omega,by omega,by omega,by omega⟩,by rw [a4,m4,t1.ino,hb.ino,eI],by rw [a3,m3,t1.taken,tb,tI]⟩;rw [a2,m2];have:=t2 i;omega
structure InoW (D:Dev) (n:Int) (c:Cl):Prop where
 il:∀ x∈c.ino,x.length=11
 ilen:c.ino.length=(n+1).toNat
 tlen:c.taken.length=D.length
 kd:∀ k:Nat,(k:Int) ∉ c.row\/k=1->(c.ino.getD k []).getD 0 0≠1
theorem C7P {α:Type} {l:List α} {i k:Nat} {x d:α}:(l.set i x).getD k d=if i=k/\i<l.length then x else l.getD k d:=by
 simp only [E7e,List.getElem?_set];by_cases e:i=k
 ·subst e;by_cases hl:i<l.length
  ·simp [hl]
  ·simp [hl]
 ·simp [e]
theorem D2W {c:Cl} {ino:Int}:∀ {x:Int},x∈c.row->x∈(qF D n c ino).row:=by
 have tsub:∀ (L:List Ent) (s:Cl × (List UInt8->Option Int)) (x:Int),x∈s.1.row->x∈(aT D n ino s L).1.row:=by
  intro L
  induction L with
  | nil=>intro s x hx;exact hx
  | cons e L ih =>
   intro s x hx;refine ih (Z5 D n ino s e) x ?_;unfold Z5 dL;cases iP D n s.1 e.2 with
   | false=>exact hx
   | true =>
    simp only [cond_true];cases (s.1.par e.2).isSome with
    | true=>exact hx
    | false=>exact List.mem_append_left _ hx
 intro x hx;have i1:(Y1 D n c ino).row=c.row:=(A0P (D:=D) (n:=n) (ino:=ino) (c:=c)).row;unfold qF;split
 ·rw [i1];exact hx
 ·obtain ⟨d,hd⟩:∃ d,d=getD (blk D ((drV D n ino).getD 0 0)):=⟨_,rfl⟩;obtain ⟨t,ht⟩:∃ t,t=N7 (blk D ((drV D n ino).getD 0 0)) 32:=⟨_,rfl⟩;rw [<-hd,<-ht];have hb:SameC (Y1 D n c ino) (U7 D n (Y1 D n c ino) d t).1:=gO (D:=D) (n:=n) (L:=L8 (fT d t) (D1 (W6 d t))) (s:=(Y1 D n c ino,fT d t));unfold xN;rw [wP.1,D1Q];unfold bodyT;refine tsub _ _ x ?_;show x∈(U7 D n (Y1 D n c ino) d t).1.row;rw [hb.row,i1];exact hx
theorem D6I {c:Cl} {ino:Int} (i0:0<=ino) (hi:ino∈c.row) (w:InoW D n c):InoW D n (iN D n c ino):=by
 by_cases hf:ino≠1/\kdV D n ino=1
 ·have e:iN D n c ino=iJ D n c ino:=by unfold iN;rw [if_pos hf]
  rw [e];have e1:=D8s (D:=D) (n:=n) (c:=c) (ino:=ino);have l7:=(A1H (D:=D) (n:=n) (ino:=ino) (c:=c)).2;refine ⟨λx hx=>?_,by rw [e1,E7D];exact w.ilen,by rw [D4V];exact w.tlen,λk hk=>?_⟩
  ·rw [e1] at hx;rcases E7O hx with h1 | h1
   ·exact w.il x h1
   ·rw [h1];simp [l7]
  ·rw [vD.1] at hk;rw [e1,C7P];split
   ·rename_i h2;exfalso;have:(k:Int)=ino:=by omega
    rcases hk with hk | hk
    ·exact hk (by rw [this];exact hi)
    ·exact hf.1 (by omega)
   ·exact w.kd k hk
 ·have e:iN D n c ino=qF D n c ino:=by unfold iN;rw [if_neg hf]
  rw [e];have e1:=D96 (D:=D) (n:=n) (c:=c) (ino:=ino);refine ⟨λx hx=>?_,by rw [e1.1,E7D];exact w.ilen,by rw [e1.2];exact w.tlen,λk hk=>?_⟩
  ·rw [e1.1] at hx;rcases E7O hx with h1 | h1
   ·exact w.il x h1
   ·rw [h1];simp [I8]
  ·rw [e1.1,C7P];split
   ·show (2:Int)≠1;decide
   ·refine w.kd k (hk.imp (λhh hx=>hh (D2W hx)) id)
theorem D6J {c:Cl} {ino:Int} {R B S Lo:Nat} (sm:Small c R B S Lo):Small (iN D n c ino) (R+224) (B+224) (S+33) (Lo+224):=by
 unfold iN;split
 ·have hs:=vD (D:=D) (n:=n) (ino:=ino) (c:=c);have b1:=sm.row;have b2:=sm.blocks;have b3:=sm.made;have b4:=sm.lost0;have b5:=sm.lost;exact ⟨by rw [hs.1];omega,λj=>by rw [hs.2.2.1];have:=sm.lnk j;omega,by have:=hs.2.2.2.2.2.1;omega,by have:=hs.2.2.2.2.2.2;omega,by rw [hs.2.2.2.1];omega,by rw [hs.2.2.2.1];omega⟩
 ·exact (D6k sm).1
def lk1 (c:Cl) (k:Nat) (x:List Int):List Int:=if x.getD 0 0=1 then x.set 1 ((c.lnk (k:Int)).getD 0) else x
theorem D8L {c:Cl} {k:Nat} {x:List Int}:lk1 c k (lk1 c k x)=lk1 c k x:=by
 unfold lk1;by_cases h:x.getD 0 0=1
 ·rw [if_pos h];have:(x.set 1 ((c.lnk (k:Int)).getD 0)).getD 0 0=1:=by rw [C7P,if_neg (by omega)];exact h
  rw [if_pos this,List.set_set]
 ·rw [if_neg h,if_neg h]
theorem B53:∀ {L:List Int} {c:Cl},(∀ a∈L,0<=a)->∀ k:Nat,(T0 c L).ino[k]?=(c.ino[k]?).map λx=>if (k:Int)∈L then lk1 c k x else x
 | [],c,_,k=>by simp [T0]
 | a::L,c,h0,k=>by
  have ih:=B53 (L:=L) (c:=aQ c a) (λb hb=>h0 b (E7s _ hb)) k;have ha:=h0 a (E7u ..);have elk:(aQ c a).lnk=c.lnk:=A7H.2.2.2.2.2.1;have lke:∀ x,lk1 (aQ c a) k x=lk1 c k x:=λx=>by unfold lk1;rw [elk]
  show (T0 (aQ c a) L).ino[k]?=_;rw [ih];have eL:(aQ c a).ino[k]?=(c.ino[k]?).map λx=>if (k:Int)=a then lk1 c k x else x:=by
   unfold aQ;by_cases hk:(k:Int)=a
   ·have hk2:a.toNat=k:=by omega
    rw [hk2];cases hx:c.ino[k]? with
    | none =>
     have hg:c.ino.getD k []=[]:=by rw [E7e,hx];rfl
     have:(c.ino.getD k []).getD 0 0≠1:=by rw [hg];decide
     rw [if_neg this,hx];rfl
    | some x =>
     have hg:c.ino.getD k []=x:=by rw [E7e,hx];rfl
     have hkl:=(List.getElem?_eq_some_iff.1 hx).1;rw [hg,Option.map_some,if_pos hk];unfold lk1;by_cases h1:x.getD 0 0=1
     ·rw [if_pos h1,if_pos h1];show (c.ino.set k _)[k]?=_;rw [List.getElem?_set_self hkl,hk]
     ·rw [if_neg h1,if_neg h1,hx]
   ·have:∀ y,(c.ino.set a.toNat y)[k]?=c.ino[k]? := λy=>by rw [List.getElem?_set];rw [if_neg (by omega)]
    split
    ·rw [this];cases c.ino[k]?<;>simp [hk]
    ·cases c.ino[k]?<;>simp [hk]
  rw [eL,Option.map_map];cases c.ino[k]? with
  | none=>rfl
  | some x =>
   simp only [Option.map_some,Function.comp]
   congr 1
   by_cases h1:(k:Int)=a
   ·rw [if_pos h1,lke,D8L];have:(k:Int)∈a::L:=by rw [h1];exact E7u ..
    rw [if_pos this];split<;>rfl
   ·rw [if_neg h1,lke];simp [h1]
theorem D6z {c:Cl} (w:InoW D n c) (hr:∀ i∈c.row,1<=i/\i<=n) {L:List Int} (hL:∀ a,a∈L↔2<=a/\a<=n):T0 c L=T0 c c.row:=by
 obtain ⟨a1,a2,a3,a4,a5,a6,a7⟩:=lU (L:=L) (c:=c);obtain ⟨b1,b2,b3,b4,b5,b6,b7⟩:=lU (L:=c.row) (c:=c);have e:(T0 c L).ino=(T0 c c.row).ino:=by
  refine List.ext_getElem? λk=>?_
  rw [B53 (λa ha=>by have:=(hL a).1 ha;omega),B53 (λa ha=>by have:=hr a ha;omega)];cases hx:c.ino[k]? with
  | none=>rfl
  | some x =>
   have hg:c.ino.getD k []=x:=by rw [E7e,hx];rfl
   have hkl:=(List.getElem?_eq_some_iff.1 hx).1;simp only [Option.map_some]
   congr 1
   by_cases h1:x.getD 0 0=1
   ·have hk:(k:Int)∈c.row/\k≠1:=by
     refine ⟨Classical.byContradiction λhh=>?_,λhh=>?_⟩
     ·exact w.kd k (.inl hh) (by rw [hg];exact h1)
     ·exact w.kd k (.inr hh) (by rw [hg];exact h1)
    have h2:=hr _ hk.1;rw [if_pos hk.1,if_pos ((hL _).2 (by omega))]
   ·have:lk1 c k x=x:=by unfold lk1;rw [if_neg h1]
    rw [this];simp
 cases h1:T0 c L;cases h2:T0 c c.row;rw [h1] at a1 a2 a3 a4 a5 a6 a7 e;rw [h2] at b1 b2 b3 b4 b5 b6 b7 e
 simp_all
theorem D5s {c:Cl}:∀ {k i:Nat},(qI c k).taken[i]?=if i<k then (c.taken[i]?).map λ_=>A5 else c.taken[i]?
 | 0,i=>by simp [qI]
 | k+1,i=>by
  have ih:=D5s (c:=c) (k:=k) (i:=i);show ((qI c k).taken.set k A5)[i]?=_;rw [List.getElem?_set];have hl:(qI c k).taken.length=c.taken.length:=by
   have:∀ j:Nat,(qI c j).taken.length=c.taken.length:=by
    intro j;induction j with
    | zero=>rfl
    | succ j ih=>show ((qI c j).taken.set j A5).length=_;rw [E7D];exact ih
   exact this k
  by_cases e:k=i
  ·subst e;rw [if_pos rfl,hl,if_pos (show k<k+1 by omega)];by_cases h:k<c.taken.length
   ·rw [if_pos h,E66 h];rfl
   ·rw [if_neg h,E7L (by omega)];rfl
  ·rw [if_neg e,ih];by_cases h:i<k
   ·rw [if_pos h,if_pos (by omega)]
   ·rw [if_neg h,if_neg (by omega)]
end
def B1V (D:Dev) (n:Int) (i:Nat):List Bool:=(E7C i).map λk:Nat=>!decide (tK D.length n (k:Int)=4)
theorem yG {D:Dev} {n:Int} {i:Nat}:(B1V D n i).length=i:=by simp [B1V]
theorem D8V {D:Dev} {n:Int} {i:Nat}:B1V D n (i+1)=B1V D n i++[!decide (tK D.length n (i:Int)=4)]:=by simp [B1V,List.range_succ]
theorem B7W {l:List Bool}:(J3 l).length=l.length:=by simp [J3]
theorem E01 {D:Dev} {n:Int} (hm:S4 D.length n=A5):(qI (I6 D n) (kY D.length n).toNat).taken=B1V D n D.length:=by
 have hr:=A1D (b:=(D.length:Int)) (n:=n);refine List.ext_getElem? λi=>?_
 rw [D5s];have e0:(I6 D n).taken=E68 D.length A6:=rfl;rw [e0];by_cases hi:i<D.length
 ·have e1:(E68 D.length A6)[i]?=A4 A6:=by simp [hi]
  have e2:(B1V D n D.length)[i]?=A4 (!decide (tK D.length n (i:Int)=4)):=by simp [B1V,hi]
  rw [e1,e2,D4o];unfold jF;rw [hm];by_cases hk:i<(kY D.length n).toNat
  ·rw [if_pos hk,decide_eq_false (show ¬ kY D.length n<=(i:Int) by omega)];rfl
  ·rw [if_neg hk,decide_eq_true (show kY D.length n<=(i:Int) by omega),decide_eq_true (show (i:Int)<(D.length:Int) by omega)];rfl
 ·rw [E7L (l:=E68 D.length A6) (by simp;omega),E7L (l:=B1V D n D.length) (by rw [yG];omega)];split<;>rfl
theorem E4q {K:B5} {id n sz:Nat} {ys:List Cell} (hy:ys.length=sz) (hsz:0<sz) :
  jZ (K++[rT ys]) sz (.c .ns) (sV K.length 0 1 sz)=A4 (sV (K.length+1) 0 1 sz,K++[rT ys,rT ys]):=by
 have h2:P8 (K++[rT ys]) sz (sV K.length 0 1 sz)=A4 ys:=by
  simp [P8,iE,hy,E7i (Nat.le_of_eq hy)]
 simp only [jZ,h2,E7h,hy,Nat.div_self hsz];simp
section
variable {D:Dev} {n m:Int} {P Q:Nat->Prop} {g h:B5} {v:Val}
theorem D85 {x3 x5 q lo:Nat} {xr xi xb xm xl xy:Cell} {lost:Int} {x4:Val} (hg:g.length<=x5) (h3:x3<lo) (h5:x5<lo) (n35:x3≠x5) (E6Z:g.length<=lo) (hl:D.length<=1000) :
  ∀ (e i M:Nat) (xt:Cell) (H:B5),i+e=D.length->e<M->Grows g H->lo<=H.length->rd H x5=rT (rcC xr xi xt xb xm lost xl xy)->rd H x3=rT (D8 D.length n m)->((i=0/\xt=.ns)\/∃ tid,xt=.sl tid 0 i 1/\lo<=tid/\rd H tid=rT (J3 (B1V D n i))) ->
  ∃ xt' H',C7G q M v (pV x3 0) x4 (pV x5 0) (iV (i:Int)) H=vC q q v (pV x3 0) x4 (pV x5 0) (iV 0) H'/\Grows g H'/\lo<=H'.length/\rd H' x5=rT (rcC xr xi xt' xb xm lost xl xy) /\
   ((D.length=0/\xt'=.ns)\/∃ tid,xt'=.sl tid 0 D.length 1/\lo<=tid/\rd H' tid=rT (J3 (B1V D n D.length)))/\(∀ j,j<lo->j≠x5->rd H' j=rd H j):=by
 intro e
 induction e with
 | zero =>
  intro i M xt H hi hM G hlo r5 r3 hx;obtain ⟨M,rfl⟩:∃ M',M=M'+1:=⟨M-1,by omega⟩;have ei:i=D.length:=by omega
  subst ei;have l3:B8 H (pV x3 0)=A4 (iV (D.length:Nat)):=C4 r3 rfl rfl;have cL:¬ ((D.length:Nat):Int)<(D.length:Nat):=by omega
  refine ⟨xt,H,?_,G,hlo,r5,hx,λ_ _ _=>rfl⟩;rw [B32];simp only [esc,l3,cL]
 | succ e ih =>
  intro i M xt H hi hM G hlo r5 r3 hx;obtain ⟨M,rfl⟩:∃ M',M=M'+1:=⟨M-1,by omega⟩;have l3:B8 H (pV x3 0)=A4 (iV (D.length:Nat)):=C4 r3 rfl rfl;have l3N:D4 H 3 (pV x3 0)=A4 (.a (D8 D.length n m)):=C7 r3 rfl;have c0:(i:Int)<(D.length:Nat):=by omega
  have w1:=D3 (show i+1<9223372036854775808 by omega);have l5:B8 H (pV x5 2)=A4 (.c xt):=C4 r5 rfl rfl;have hA:=A4B (b:=(D.length:Int)) (n:=n) (m:=m) (no:=(i:Int)) (h:=H++[A7]);have hq:=U3 (h:=H++[A7]) (h':=H++[A7]) (v:=iV (tK D.length n (i:Int))) Grows.rfl';obtain ⟨w,hw⟩:∃ w,w = !decide (tK D.length n (i:Int)=4):=⟨_,rfl⟩;have st0:(H++[A7]).set H.length (rT [.b w])=H++[rT [.b w]]:=by rw [V6];rfl
  have ew:O4 .neq (iV (tK D.length n (i:Int))) (iV 4)=A4 (bV w):=by rw [hw];rfl
  have ef:E4 [.b A6] [(0,1,bV w)]=A4 [.b w]:=rfl;have hbo:J3 (B1V D n (i+1))=J3 (B1V D n i)++[.b w]:=by rw [D8V,hw];simp [J3]
  have h5l:=C8 r5;obtain ⟨tid,K2,a1,a2,a3,a4,a5⟩:∃ tid K2,jZ (H++[rT [.b w]]) 1 (.c xt) (sV H.length 0 1 1)=A4 (sV tid 0 (i+1) 1,K2)/\lo<=tid/\rd K2 tid=rT (J3 (B1V D n (i+1)))/\Grows g K2/\(lo<=K2.length/\∀ j,j<lo->rd K2 j=rd H j):=by
   rcases hx with ⟨hi0,rfl⟩ | ⟨tid,rfl,t1,t2⟩
   ·subst hi0;refine ⟨H.length+1,_,E4q (id:=0) (n:=0) rfl (by omega),by omega,?_,S7 G rfl,by simp;omega,λj hj=>D9 (by omega)⟩;rw [L5,hbo];rfl
   ·have o:=one_app (ys:=[Cell.b w]) t2 (n:=i) (sz:=1) (by rw [B7W,yG];omega) rfl (by omega) (by omega);refine ⟨H.length+1,_,o,by omega,?_,(A7z (G.new _) (by omega)).new _,by simp;omega,λj hj=>?_⟩
    ·have:rd ((H++[rT [Cell.b w]]).set tid A7++[rT (J3 (B1V D n i)++[Cell.b w])]) ((H++[rT [Cell.b w]]).set tid A7).length=rT (J3 (B1V D n i)++[Cell.b w]):=T9;rw [E7D,E7a] at this;rw [hbo];exact this
    ·rw [D9 (by simp;omega),B6 (by omega),D9 (by omega)]
  have r52:rd K2 x5=rT (rcC xr xi xt xb xm lost xl xy):=by rw [a5.2 _ h5];exact r5
  obtain ⟨K3,hK3⟩:∃ K3,K3=K2.set x5 (rT (rcC xr xi (.sl tid 0 (i+1) 1) xb xm lost xl xy)):=⟨_,rfl⟩;have s3:I3 K2 (pV x5 2) (sV tid 0 (i+1) 1)=A4 K3:=by rw [G9 r52 (by simp [rcC]),hK3];rfl
  have o3:∀ j,j≠x5->rd K3 j=rd K2 j:=λj hj=>by rw [hK3,B6 (Ne.symm hj)]
  obtain ⟨xt',H',f1,f2,f3,f4,f5,f6⟩:=ih (i+1) M (.sl tid 0 (i+1) 1) K3 (by omega) (by omega) (by rw [hK3];exact a4.set hg _) (by rw [hK3];simp;exact a5.1) (by rw [hK3];exact C6 (C8 r52)) (by rw [o3 _ n35,a5.2 _ h3];exact r3) (.inr ⟨tid,rfl,a2,by rw [o3 _ (by omega)];exact a3⟩);refine ⟨xt',H',?_,f2,f3,f4,f5,λj hj T8=>by rw [f6 j hj T8,o3 j T8,a5.2 j hj]⟩;rw [B32];simp only [esc,Nat.reduceAdd,l3,c0,l5,l3N,hA,hq,ew,ef,st0,a1,s3,w1];exact f1
theorem E1f {x3 x5 q:Nat} {x4:Val} (hv:Has g v 256 D.length (D5 D)) (hD:okD D) (hn:n<=128) (n8:1<=n) (hl:D.length<=1000) (hg:g.length<=x5) (n35:x3≠x5) (nQ:¬ Q x5) :
  ∀ (e i M:Nat) (c:Cl) (cs:List Cell) (H:B5),i+e=129->e<M->i<=c.row.length->RowW n c->Small c 128 (224*i) (33*i) (224*i)->InoW D n c->Grows g H->IsRC n Q H cs c->(∀ id,H.length<=id->Q id)->rd H x5=rT cs->rd H x3=rT (D8 D.length n m) ->
  ∃ cs' H' M',vC q M v (pV x3 0) x4 (pV x5 0) (iV (i:Int)) H=vC q (M'+1) v (pV x3 0) x4 (pV x5 0) (iV ((ofR D n e i c).row.length:Nat)) H' /\
   Grows g H'/\IsRC n Q H' cs' (ofR D n e i c)/\(∀ id,H'.length<=id->Q id)/\rd H' x5=rT cs'/\InoW D n (ofR D n e i c)/\H.length<=H'.length/\(∀ j,j<H.length->j≠x5->rd H' j=rd H j):=by
 intro e
 induction e with
 | zero =>
  intro i M c cs H hi hM cC hR;have:=B86 hR.nd λa ha=>⟨(hR.rg a ha).1,by have:=(hR.rg a ha).2;omega⟩
  omega
 | succ e ih =>
  intro i M c cs H hi hM cC hR sm w G K hQ r5 r3;obtain ⟨M,rfl⟩:∃ M',M=M'+1:=⟨M-1,by omega⟩;unfold ofR;cases hc:c.row[i]? with
  | none =>
   have hlen:=List.getElem?_eq_none_iff.1 hc;have ei:i=c.row.length:=by omega
   dsimp only;rw [<-ei];exact ⟨cs,H,M,rfl,G,K,hQ,r5,w,E7b _,λ_ _ _=>rfl⟩
  | some a =>
   dsimp only;have O9:i<c.row.length:=(List.getElem?_eq_some_iff.1 hc).1;have ha:a∈c.row:=E7y hc;obtain ⟨ra1,ra2⟩:=hR.rg a ha;have w1:=D3 (show i+1<9223372036854775808 by omega);have c0:((i:Int)<(c.row.length:Nat)):=by omega
   have hvH:=hv.grows G;have hR':=C8w (D:=D) (ino:=a) hR;have r128:=B86 hR'.nd λa ha=>⟨(hR'.rg a ha).1,by have:=(hR'.rg a ha).2;omega⟩
   have sm':=D6J (D:=D) (n:=n) (ino:=a) sm;have sm2:Small (iN D n c a) 128 (224*(i+1)) (33*(i+1)) (224*(i+1)):=⟨r128,sm'.lnk.mono (by omega),by have:=sm'.blocks;omega,by have:=sm'.made;omega,sm'.lost0,by have:=sm'.lost;omega⟩;have w2:=D6I (D:=D) (n:=n) (c:=c) (ino:=a) (by omega) ha w;have il:c.ino.length<=1000:=by rw [w.ilen];omega
   have i1:a.toNat<c.ino.length:=by rw [w.ilen];omega
   have sb:=sm.blocks;have sd:=sm.made;have K8:=K.length;obtain ⟨v35,v40,y1,y2,y3,y4⟩:∃ v35 v40,B8 H (pV x5 0)=A4 v35/\D2R v35=A4 (iV (c.row.length:Nat))/\E1 1 v35 (iV (i:Int))=A4 v40/\B8 H v40=A4 (iV a):=by
    obtain ⟨xr,xi,xt,xb,xm,xl,xy,ys,rfl,kk⟩:=id K;have l0:B8 H (pV x5 0)=A4 (.c xr):=C4 r5 rfl rfl;have hlen:=kk.row.len;obtain ⟨it,ot,et,_,hA,_⟩:=kk.row.sl (by omega);cases et;exact ⟨_,_,l0,hlen,by rw [C9 O9,Nat.mul_one],hA i _ (by rw [G8,hc];rfl)⟩
   have l3N:D4 H 3 (pV x3 0)=A4 (.a (D8 D.length n m)):=C7 r3 rfl;have l5N:D4 H 8 (pV x5 0)=A4 (.a cs):=C7 r5 K8;have hI:=sN (v:=v) (n:=n) (m:=m) (i:=a) (h:=H) hvH hD;rw [A7D] at hI;have f0:∀ k l s p d,C2u (.a (F8 k l s p d)) 0=A4 (iV k):=λ_ _ _ _ _=>rfl
   have step:∃ cs1 H1 H2,Grows H H1/\IsRC n (λid=>Q id\/H.length<=id) H1 cs1 (iN D n c a)/\E6 H1 8 (pV x5 0) (.a cs1)=A4 H2/\H2=H1.set x5 (rT cs1) /\
     vC q (M+1) v (pV x3 0) x4 (pV x5 0) (iV (i:Int)) H=vC q M v (pV x3 0) x4 (pV x5 0) (iV ((i+1:Nat):Int)) H2:=by
    rw [B33];by_cases c1:a=1
    ·obtain ⟨cs1,H1,f1,f2,f3⟩:=D7R (m:=m) (ino:=a) hvH hD K w.tlen hl hn (by omega) i1 ra2 w.il il hR sm (by omega) (by omega) (by omega) (by omega);have eo:iN D n c a=qF D n c a:=by unfold iN;rw [if_neg (by simp [c1])]
     have s5:E6 H1 8 (pV x5 0) (.a cs1)=A4 (H1.set x5 (rT cs1)):=storeAll (f2.rd r5) K8 f3.length;refine ⟨cs1,H1,_,f2,by rw [eo];exact f3,s5,rfl,?_⟩;rw [c1] at y4 f1;generalize D8 D.length n m=LC at *;simp only [esc,Nat.reduceAdd,y1,y2,c0,y3,y4,eq_self,l5N,l3N,f1,s5,A4o,w1]
    ·by_cases c2:kdV D n a=1
     ·obtain ⟨cs1,H1,f1,f2,f3⟩:=E1a (m:=m) (ino:=a) hvH hD K w.tlen hl (by omega) i1 w.il il (by omega) (by omega);have eo:iN D n c a=iJ D n c a:=by unfold iN;rw [if_pos ⟨c1,c2⟩]
      have s5:E6 H1 8 (pV x5 0) (.a cs1)=A4 (H1.set x5 (rT cs1)):=storeAll (f2.rd r5) K8 f3.length;refine ⟨cs1,H1,_,f2,by rw [eo];exact f3,s5,rfl,?_⟩;generalize D8 D.length n m=LC at *;simp only [esc,Nat.reduceAdd,y1,y2,c0,y3,y4,c1,hI,f0,c2,l5N,l3N,f1,s5,A4o,w1]
     ·obtain ⟨cs1,H1,f1,f2,f3⟩:=D7R (m:=m) (ino:=a) hvH hD K w.tlen hl hn (by omega) i1 ra2 w.il il hR sm (by omega) (by omega) (by omega) (by omega);have eo:iN D n c a=qF D n c a:=by unfold iN;rw [if_neg (by simp [c2])]
      have s5:E6 H1 8 (pV x5 0) (.a cs1)=A4 (H1.set x5 (rT cs1)):=storeAll (f2.rd r5) K8 f3.length;refine ⟨cs1,H1,_,f2,by rw [eo];exact f3,s5,rfl,?_⟩;generalize D8 D.length n m=LC at *;simp only [esc,Nat.reduceAdd,y1,y2,c0,y3,y4,c1,hI,f0,c2,l5N,l3N,f1,s5,A4o,w1]
   obtain ⟨cs1,H1,H2,s1,s2,s3,s4,s5⟩:=step;have lH1:=s1.len;have h5l:=C8 r5;have lH2:H2.length=H1.length:=by rw [s4];simp
   have same:∀ j,j<H.length->j≠x5->rd H2 j=rd H j:=λj hj T8=>by
    rw [s4,B6 (Ne.symm T8)];obtain ⟨tt,hh⟩:=s1.1;rw [<-hh,D9 hj]
   have K2:IsRC n Q H2 cs1 (iN D n c a):=by
    have:IsRC n Q H1 cs1 (iN D n c a):=s2.mono λid hid=>hid.elim (λx=>x) (hQ id)
    rw [s4];exact this.set (.inr nQ)
   have hlen:i+1<=(iN D n c a).row.length:=by
    have:c.row.length<=(iN D n c a).row.length:=C8x;omega
   obtain ⟨cs',H',M',e1,e2,e3,e4,e5,e6,e7,e8⟩:=ih (i+1) M (iN D n c a) cs1 H2 (by omega) (by omega) hlen hR' sm2 w2 (by rw [s4];exact (G.trans' s1).set hg _) K2 (λid hid=>hQ id (by omega)) (by rw [s4];exact C6 (by omega)) (by rw [same _ (C8 r3) n35];exact r3);exact ⟨cs',H',M',s5.trans e1,e2,e3,e4,e5,e6,by omega,λj hj T8=>by rw [e8 j (by omega) T8,same j hj T8]⟩
theorem D6V {x3 x5 nid q:Nat} {x4:Val} {c:Cl} {xr xi xt xb xm xl xy:Cell} {lost:Int} {N:Nat} (eN:(n+1)=(N:Int)) (hN:N<=1000) (n3:nid≠x3) (n5:nid≠x5) :
  ∀ (e k M:Nat) (c:Cl) (H:B5),k+e=N->e<M->(∀ x∈c.ino,x.length=11)->c.ino.length=N->rd H x5=rT (rcC xr xi xt xb xm lost xl xy)->rd H x3=rT (D8 D.length n m)->rd H nid=rT (U2 c.ino)->Has H (.c xl) 1 N (encI (fJ n c.lnk))->nmC xl≠A4 nid ->
  ∃ H' M',B5V q M (pV x3 0) x4 (pV x5 0) (sV nid 0 N 11) (iV (k:Int)) H=B5V q (M'+1) (pV x3 0) x4 (pV x5 0) (sV nid 0 N 11) (iV (N:Int)) H' /\
   rd H' nid=rT (U2 (T0 c ((E7M k e).map λi:Nat=>(i:Int))).ino)/\((∀ x∈(T0 c ((E7M k e).map λi:Nat=>(i:Int))).ino,x.length=11)/\(T0 c ((E7M k e).map λi:Nat=>(i:Int))).ino.length=N)/\∃ y:List Cell,H'=H.set nid (rT y):=by
 intro e
 induction e with
 | zero =>
  intro k M c H hk hM il ilen r5 r3 rn hx hnx;obtain ⟨M,rfl⟩:∃ M',M=M'+1:=⟨M-1,by omega⟩;have ek:k=N:=by omega
  subst ek;exact ⟨H,M,rfl,rn,⟨il,ilen⟩,_,(set_self rn).symm⟩
 | succ e ih =>
  intro k M c H hk hM il ilen r5 r3 rn hx hnx;obtain ⟨M,rfl⟩:∃ M',M=M'+1:=⟨M-1,by omega⟩;have hkN:k<N:=by omega
  have c0:(k:Int)<=n:=by omega
  have w1:=D3 (show k+1<9223372036854775808 by omega);have l3:B8 H (pV x3 1)=A4 (iV n):=C4 r3 rfl rfl;have ad:E1 11 (sV nid 0 N 11) (iV (k:Int))=A4 (pV nid (k*11)):=by rw [C9 hkN];simp
  have gi:=C7R (l:=c.ino) (i:=k) (k:=0) il (by omega) (by omega);have lk:B8 H (pV nid (k*11))=A4 (iV ((c.ino.getD k []).getD 0 0)):=C4 rn gi rfl;have l6:B8 H (pV x5 6)=A4 (.c xl):=C4 r5 rfl rfl;obtain ⟨it,ot,et,_,hA,_⟩:=hx.sl (by omega);cases et;have aL:E1 1 (sV it ot N 1) (iV (k:Int))=A4 (pV it (ot+k)):=by rw [C9 hkN,Nat.mul_one]
  have lL:B8 H (pV it (ot+k))=A4 (iV ((c.lnk (k:Int)).getD 0)):=hA k _ (by rw [G8,A5J (by omega)];rfl);have er:(E7M k (e+1)).map (λi:Nat=>(i:Int))=(k:Int)::(E7M (k+1) e).map (λi:Nat=>(i:Int)):=rfl;rw [er];have el:T0 c ((k:Int)::(E7M (k+1) e).map (λi:Nat=>(i:Int)))=T0 (aQ c (k:Int)) ((E7M (k+1) e).map (λi:Nat=>(i:Int))):=rfl;rw [el];have elk:(aQ c (k:Int)).lnk=c.lnk:=A7H.2.2.2.2.2.1;by_cases h1:(c.ino.getD k []).getD 0 0=1
  ·have ec:(aQ c (k:Int)).ino=c.ino.set k ((c.ino.getD k []).set 1 ((c.lnk (k:Int)).getD 0)):=by unfold aQ;rw [E7r,if_pos h1]
   obtain ⟨H1,hH1⟩:∃ H1,H1=H.set nid (rT (U2 (aQ c (k:Int)).ino)):=⟨_,rfl⟩;have s1:I3 H (pV nid (k*11+1)) (iV ((c.lnk (k:Int)).getD 0))=A4 H1:=by
    rw [G9 rn (by rw [T5 il];omega),C8X il (by omega) (by omega),hH1,ec]
   have il2:∀ x∈(aQ c (k:Int)).ino,x.length=11:=λx hx=>by
    rw [ec] at hx;rcases E7O hx with h2 | h2
    ·exact il x h2
    ·rw [h2,E7D,E7e,E66 (by omega)];exact il _ (E7J _)
   obtain ⟨H',M',f1,f2,f3,y,f4⟩:=ih (k+1) M (aQ c (k:Int)) H1 (by omega) (by omega) il2 (by rw [ec,E7D];exact ilen) (by rw [hH1,B6 n5];exact r5) (by rw [hH1,B6 n3];exact r3) (by rw [hH1];exact C6 (C8 rn)) (by rw [hH1,elk];exact has_set hx (.inr hnx)) hnx;refine ⟨H',M',?_,f2,f3,y,by rw [f4,hH1,List.set_set]⟩;rw [h1] at lk;rw [A4p];simp only [esc,Nat.reduceAdd,l3,c0,ad,lk,l6,aL,lL,s1,B31,w1];exact f1
  ·have ec:aQ c (k:Int)=c:=by unfold aQ;rw [E7r,if_neg h1]
   rw [ec];obtain ⟨H',M',f1,f2,f3,y,f4⟩:=ih (k+1) M c H (by omega) (by omega) il ilen r5 r3 rn hx hnx;refine ⟨H',M',?_,f2,f3,y,f4⟩;rw [A4p];simp only [esc,Nat.reduceAdd,l3,c0,ad,lk,h1,B31,w1];exact f1
end
section
variable {D:Dev} {n m:Int} {h:B5} {v:Val}
theorem E1e (hv:Has h v 256 D.length (D5 D)) (hD:okD D) (hm:S4 D.length n=A5) :
  ∃ cs' H',A42 [v,.a (D8 D.length n m)] h=A4 (.a cs',H')/\Grows h H'/\IsRC n (λid=>h.length<=id) H' cs' (L6 D n):=by
 obtain ⟨b16,b512,n8,n128,_,_⟩:=J9.1 hm;obtain ⟨N,hN⟩:∃ N:Nat,n+1=(N:Int):=E7Q (by omega);have hNn:(n+1).toNat=N:=by omega
 obtain ⟨xl,hxl⟩:∃ xl,xl=Cell.sl (h.length+4) 0 N 1:=⟨_,rfl⟩;obtain ⟨xy,hxy⟩:∃ xy,xy=Cell.sl (h.length+5) 0 N 1:=⟨_,rfl⟩;obtain ⟨xr,hxr⟩:∃ xr,xr=Cell.sl (h.length+2) 0 1 1:=⟨_,rfl⟩;obtain ⟨xi,hxi⟩:∃ xi,xi=Cell.sl (h.length+3) 0 N 11:=⟨_,rfl⟩;obtain ⟨C0,hC0⟩:∃ C0,C0=rcC xr xi .ns .ns .ns 0 xl xy:=⟨_,rfl⟩;obtain ⟨H0,hH0⟩:∃ H0,H0=h++[rT (D8 D.length n m),rT Z8,rT [.i .i64 1],rT (U2 (E68 N (zI 11))),rT (encI (fJ n λ_=>A7)),rT (encI (fJ n λ_=>A7)),rT C0]:=⟨_,rfl⟩;obtain ⟨H1,hH1⟩:∃ H1,H1=h++[rT (D8 D.length n m),rT Z8,rT [.i .i64 1],rT (U2 (E68 N (zI 11))),rT (encI (fJ n λ_=>A7)),rT (encI (fJ n (I6 D n).par)),rT C0]:=⟨_,rfl⟩;have lH1:H1.length=h.length+7:=by rw [hH1];simp
 have G1:Grows h H1:=by rw [hH1];exact S7 Grows.rfl' rfl
 have at1:∀ (k:Nat) (x:Option Row),[rT (D8 D.length n m),rT Z8,rT [.i .i64 1],rT (U2 (E68 N (zI 11))),rT (encI (fJ n λ_=>A7)),rT (encI (fJ n (I6 D n).par)),rT C0][k]?=A4 x->rd H1 (h.length+k)=x:=λk x hk=>by
  rw [hH1];unfold rd;rw [E7l (by omega),show h.length+k-h.length=k by omega,hk];rfl
 have r3:rd H1 h.length=rT (D8 D.length n m):=at1 0 _ rfl;have r4:rd H1 (h.length+1)=rT Z8:=at1 1 _ rfl;have rr:rd H1 (h.length+2)=rT [.i .i64 1]:=at1 2 _ rfl;have ri:rd H1 (h.length+3)=rT (U2 (E68 N (zI 11))):=at1 3 _ rfl;have rl:rd H1 (h.length+4)=rT (encI (fJ n λ_=>A7)):=at1 4 _ rfl;have ry:rd H1 (h.length+5)=rT (encI (fJ n (I6 D n).par)):=at1 5 _ rfl;have r5:rd H1 (h.length+6)=rT C0:=at1 6 _ rfl;have O9:∀ x∈E68 N (zI 11),x.length=11:=λx hx=>by rw [List.eq_of_mem_replicate hx];simp [zI]
 obtain ⟨Q,hQ⟩:∃ Q:Nat->Prop,Q=λid=>h.length<=id/\id≠h.length/\id≠h.length+1/\id≠h.length+6:=⟨_,rfl⟩
 have nQ5:¬ Q (h.length+6):=by rw [hQ];intro hh;omega
 have nQ3:¬ Q h.length:=by rw [hQ];intro hh;omega
 have nQ4:¬ Q (h.length+1):=by rw [hQ];intro hh;omega
 have Qhi:∀ id,h.length+7<=id->Q id:=λid hid=>by rw [hQ];exact ⟨by omega,by omega,by omega,by omega⟩
 rw [hC0] at r5;obtain ⟨xt,H2,f1,f2,f3,f4,f5,f6⟩:=D85 (D:=D) (n:=n) (m:=m) (v:=v) (g:=h) (x3:=h.length) (x5:=h.length+6) (q:=1200) (lo:=h.length+7) (xr:=xr) (xi:=xi) (xb:=.ns) (xm:=.ns) (xl:=xl) (xy:=xy) (lost:=0) (x4:=pV (h.length+1) 0) (by omega) (by omega) (by omega) (by omega) (by omega) (by omega) D.length 0 1200 .ns H1 (by omega) (by omega) G1 (by omega) r5 r3 (.inl ⟨rfl,rfl⟩);obtain ⟨tid,rfl,t1,t2⟩:∃ tid,xt=.sl tid 0 D.length 1/\h.length+7<=tid/\rd H2 tid=rT (J3 (B1V D n D.length)):=by
  rcases f5 with ⟨h0,_⟩ | hh
  ·omega
  ·exact hh
 obtain ⟨K,hK⟩:∃ K,K=(kY D.length n).toNat:=⟨_,rfl⟩;have hsO:=ownR_same (c:=I6 D n) (k:=K);have vH:=E01 hm;rw [<-hK] at vH;have low:∀ j,j<h.length+7->j≠h.length+6->rd H2 j=rd H1 j:=f6;have lz:(E68 N (zI 11)).length=N:=by simp
 have K2:IsRC n Q H2 (rcC xr xi (.sl tid 0 D.length 1) .ns .ns 0 xl xy) (qI (I6 D n) K):=by
  refine ⟨xr,xi,.sl tid 0 D.length 1,.ns,.ns,xl,xy,[],by rw [hsO.lost];rfl,⟨?_,?_,?_,?_,?_,⟨by rw [hsO.made];rfl,rfl,λi y hy=>by simp at hy⟩,?_,?_,?_,?_,?_,?_,?_,?_,?_⟩⟩
  ·rw [hsO.row,hxr];exact Has.row (rw:=A5) (by rw [low _ (by omega) (by omega)];exact rr) rfl rfl
  ·have e:(qI (I6 D n) K).ino=E68 N (zI 11):=by rw [hsO.ino];show E68 (n+1).toNat (zI 11)=_;rw [hNn]
   rw [e,hxi,lz];exact Has.row (rw:=A5) (by rw [low _ (by omega) (by omega)];exact ri) (by rw [T5 O9,lz]) (B2C _)
  ·rw [vH,yG];refine Has.row (rw:=A5) t2 (by rw [B7W,yG];omega) ?_;exact List.all_eq_true.2 λx hx=>by obtain ⟨y,_,rfl⟩:=List.mem_map.1 hx;rfl
  ·rw [hsO.blocks];exact .inl ⟨rfl,rfl,rfl⟩
  ·rw [hsO.made];exact .inl ⟨rfl,rfl,rfl⟩
  ·rw [hsO.lnk,hNn,hxl];exact Has.row (rw:=A5) (by rw [low _ (by omega) (by omega)];exact rl) (by rw [B7,R8];omega) (aR _)
  ·rw [hsO.par,hNn,hxy];exact Has.row (rw:=A5) (by rw [low _ (by omega) (by omega)];exact ry) (by rw [B7,R8];omega) (aR _)
  ·intro id hi;rw [hxr] at hi;cases hi;rw [hQ];exact ⟨by omega,by omega,by omega,by omega⟩
  ·intro id hi;rw [hxi] at hi;cases hi;rw [hQ];exact ⟨by omega,by omega,by omega,by omega⟩
  ·intro id hi;cases hi;exact Qhi _ t1
  ·intro id hi;cases hi
  ·intro id hi;cases hi
  ·intro id hi;rw [hxl] at hi;cases hi;rw [hQ];exact ⟨by omega,by omega,by omega,by omega⟩
  ·intro id hi;rw [hxy] at hi;cases hi;rw [hQ];exact ⟨by omega,by omega,by omega,by omega⟩
 have rI:RowW n (qI (I6 D n) K):=by
  refine RowW.same (c:=I6 D n) ⟨by simp [I6],λi=>?_,λi hi=>?_⟩ hsO.row hsO.par
  ·by_cases c1:i=1
   ·subst c1;simp [I6,vO]
   ·simp [I6,vO,c1]
  ·simp [I6] at hi;omega
 have smI:Small (qI (I6 D n) K) 128 (224*0) (33*0) (224*0):=⟨by rw [hsO.row];simp [I6],λi=>by rw [hsO.lnk];simp [I6],by rw [hsO.blocks];simp [I6],by rw [hsO.made];simp [I6],by rw [hsO.lost];simp [I6],by rw [hsO.lost];simp [I6]⟩;have wI:InoW D n (qI (I6 D n) K):=by
  have e:(qI (I6 D n) K).ino=E68 N (zI 11):=by rw [hsO.ino];show E68 (n+1).toNat (zI 11)=_;rw [hNn]
  refine ⟨by rw [e];exact O9,by rw [e,lz,hNn],by rw [vH,yG],λk _=>?_⟩;rw [e];cases hx:(E68 N (zI 11))[k]? with
  | none=>rw [show (E68 N (zI 11)).getD k []=[] by rw [E7e,hx];rfl];decide
  | some x=>rw [show (E68 N (zI 11)).getD k []=x by rw [E7e,hx];rfl,List.eq_of_mem_replicate (E7y hx)];decide
 obtain ⟨cs3,H3,M3,g1,g2,g3,g4,g5,g6,g7,g8⟩:=E1f (D:=D) (n:=n) (m:=m) (v:=v) (g:=h) (Q:=Q) (x3:=h.length) (x5:=h.length+6) (q:=1200) (x4:=pV (h.length+1) 0) hv hD n128 (by omega) (by omega) (by omega) (by omega) nQ5 129 0 1200 (qI (I6 D n) K) _ H2 (by omega) (by omega) (by omega) rI smI wI f2 K2 (λid hid=>Qhi id (by omega)) f4 (by rw [low _ (by omega) (by omega)];exact r3);have ecO:ofR D n 129 0 (qI (I6 D n) K)=aX D n:=by unfold aX;rw [<-hK]
 rw [ecO] at g1 g3 g6;obtain ⟨c,hc⟩:∃ c,c=aX D n:=⟨_,rfl⟩;have hcr:=(mY hD hm).1;rw [<-hc] at g1 g3 g6 hcr;have q3:rd H3 h.length=rT (D8 D.length n m):=by rw [g8 _ (by omega) (by omega),low _ (by omega) (by omega)];exact r3
 have q4:rd H3 (h.length+1)=rT Z8:=by rw [g8 _ (by omega) (by omega),low _ (by omega) (by omega)];exact r4
 obtain ⟨yr,yi,yt,yb,ym,yl,yy,ys,rfl,k3⟩:=id g3;have ilen:c.ino.length=N:=by rw [g6.ilen,hNn]
 have cp:=B5T (H:=H3) k3.ino (by omega) (by omega);obtain ⟨H4,hH4⟩:∃ H4,H4=H3++[A7,rT (U2 c.ino)]:=⟨_,rfl⟩;rw [<-hH4,ilen] at cp;have lH4:H4.length=H3.length+2:=by rw [hH4];simp
 have G34:Grows H3 H4:=by rw [hH4];exact S7 Grows.rfl' rfl
 have rn:rd H4 (H3.length+1)=rT (U2 c.ino):=by rw [hH4,L5];rfl
 have hl3:=g2.len;have h73:h.length+7<=H3.length:=by omega
 have k4:=k3.low.grows G34;have lL:Has H4 (.c yl) 1 N (encI (fJ n c.lnk)):=by have:=k4.tol;rw [hNn] at this;exact this
 obtain ⟨L,hL⟩:∃ L,L=(E7M 2 (N-2)).map λi:Nat=>(i:Int):=⟨_,rfl⟩
 obtain ⟨H5,M5,o1,o2,o3,y,o4⟩:=D6V (D:=D) (n:=n) (m:=m) (x3:=h.length) (x5:=h.length+6) (nid:=H3.length+1) (q:=1200) (x4:=pV (h.length+1) 0) (c:=c) (xr:=yr) (xi:=yi) (xt:=yt) (xb:=yb) (xm:=ym) (xl:=yl) (xy:=yy) (lost:=c.lost) (N:=N) hN (by omega) (by omega) (by omega) (N-2) 2 1200 c H4 (by omega) (by omega) g6.il ilen (G34.rd g5) (G34.rd q3) rn lL (λhh=>by have:=k4.pl _ hh;omega);rw [<-hL] at o2 o3;have eF:T0 c L=L6 D n:=by
  have h1:T0 c L=T0 c c.row:=D6z g6 hcr.rg λa=>by
   rw [hL,List.mem_map];constructor
   ·rintro ⟨i,hi,rfl⟩;have:=List.mem_range'_1.1 hi;omega
   ·intro ha;exact ⟨a.toNat,List.mem_range'_1.2 (by omega),by omega⟩
  rw [h1,hc];rfl
 have q55:rd H5 (h.length+6)=rT (rcC yr yi yt yb ym c.lost yl yy):=by rw [o4,B6 (by omega)];exact G34.rd g5
 obtain ⟨C',hC'⟩:∃ C',C'=rcC yr (.sl (H3.length+1) 0 N 11) yt yb ym c.lost yl yy:=⟨_,rfl⟩;obtain ⟨H6,hH6⟩:∃ H6,H6=H5.set (h.length+6) (rT C'):=⟨_,rfl⟩;have s6:I3 H5 (pV (h.length+6) 1) (sV (H3.length+1) 0 N 11)=A4 H6:=by rw [G9 q55 (by simp [rcC]),hH6,hC'];rfl
 have l6:D4 H6 8 (pV (h.length+6) 0)=A4 (.a C'):=C7 (by rw [hH6];exact C6 (C8 q55)) (by rw [hC'];rfl);have q46:rd H6 (h.length+1)=rT Z8:=by rw [hH6,B6 (by omega),o4,B6 (by omega)];exact G34.rd q4
 obtain ⟨H7,hH7⟩:∃ H7,H7=H6.set (h.length+1) (rT C'):=⟨_,rfl⟩;have s7:E6 H6 8 (pV (h.length+1) 0) (.a C')=A4 H7:=by rw [storeAll (n:=8) q46 rfl (by rw [hC'];rfl),hH7]
 have l7:D4 H7 8 (pV (h.length+1) 0)=A4 (.a C'):=C7 (by rw [hH7];exact C6 (C8 q46)) (by rw [hC'];rfl);have G4:Grows h H4:=g2.trans' G34;have G7:Grows h H7:=by rw [hH7,hH6,o4];exact ((G4.set (show h.length<=H3.length+1 by omega) _).set (show h.length<=h.length+6 by omega) _).set (show h.length<=h.length+1 by omega) _
 obtain ⟨a1,a2,a3,a4,a5,a6,a7⟩:=lU (L:=L) (c:=c);rw [eF] at a1 a2 a3 a4 a5 a6 a7 o2 o3;have k7:RCF n (λid=>h.length<=id) H7 c yr yi yt yb ym yl yy ys:=by
  rw [hH7,hH6,o4];have nn:∀ j,¬ Q j->¬ (Q j/\j<H3.length):=λj hj hh=>hj hh.1
  exact (((k4.set (.inr (by omega))).set (.inr (nn _ nQ5))).set (.inr (nn _ nQ4))).mono λid hid=>by have:=hid.1;rw [hQ] at this;exact this.1
 have rn7:rd H7 (H3.length+1)=rT (U2 (L6 D n).ino):=by rw [hH7,B6 (by omega),hH6,B6 (by omega)];exact o2
 refine ⟨C',H7,D2I (n:=1200) ?_,G7,yr,.sl (H3.length+1) 0 N 11,yt,yb,ym,yl,yy,ys,by rw [hC',a5],
  ⟨by rw [a1];exact k7.row,?_,by rw [a2];exact k7.tak,by rw [a3];exact k7.blk,by rw [a4];exact k7.mad,by rw [a4];exact k7.mds,by rw [a6];exact k7.tol,by rw [a7];exact k7.par,k7.pr,λid hi=>by cases hi;omega,k7.pt,k7.pb,k7.pm,k7.pl,k7.py⟩⟩
 rotate_left
 ·rw [o3.2];exact Has.row (rw:=A5) rn7 (by rw [T5 o3.1,o3.2]) (B2C _)
 have z11:[o0,o0,o0,o0,o0,o0,o0,o0,o0,o0,o0]=encI (zI 11):=rfl;have cl1:cells? (.a (D8 D.length n m))=A4 (D8 D.length n m):=rfl;have ef1:E4 [o0] [(0,1,iV 1)]=A4 [.i .i64 1]:=rfl;have wn:IntKind.wrap .i64 (n+1)=(N:Int):=by rw [wrap_i64 (by omega) (by omega),hN]
 have nt:∀ k:Nat,k<=1000->A5P (iV (k:Int))=A4 k:=λk hk=>by
  simp only [A5P];rw [if_pos (by omega)];simp
 have am1:A13 (iV (N:Int)) (iV (N:Int))=A4 N:=by simp only [A13,nt N (by omega),E7h];rw [if_pos (E7b _)]
 have rz1:rows (encI (zI 11)) N=U2 (E68 N (zI 11)):=by unfold rows U2;rw [List.map_replicate]
 have rz2:rows [o0] N=encI (fJ n λ_=>A7):=by
  have e:fJ n (λ_=>A7)=zI N:=by
   unfold fJ;rw [hNn];refine List.ext_getElem? λi=>?_
   simp [zI,List.getElem?_replicate];split<;>simp_all
  rw [e];unfold rows;rw [List.flatten_replicate_singleton];simp [encI,zI]
 have ef2:E4 Z8 [(0,1,sV (h.length+2) 0 1 1),(1,1,sV (h.length+3) 0 N 11),(6,1,sV (h.length+4) 0 N 1),(7,1,sV (h.length+5) 0 N 1)]=A4 C0:=by rw [hC0,hxr,hxi,hxl,hxy];rfl
 have lay1:B8 (h++[rT (D8 D.length n m),rT Z8]) (pV h.length 1)=A4 (iV n):=C4 (cs:=D8 D.length n m) (by rw [E9];rfl) rfl rfl;obtain ⟨Hs,hHs⟩:∃ Hs,Hs=h++[rT (D8 D.length n m),rT Z8,rT [.i .i64 1],rT (U2 (E68 N (zI 11))),rT (encI (fJ n λ_=>A7)),rT (encI (fJ n λ_=>A7)),rT Z8]:=⟨_,rfl⟩;have sH0:E6 Hs 8 (pV (h.length+6) 0) (.a C0)=A4 H0:=by
  rw [storeAll (cs:=Z8) (n:=8) (by rw [hHs,L5];rfl) rfl (by rw [hC0];rfl),hHs,pA,hH0];rfl
 have lY:B8 H0 (pV (h.length+6) 7)=A4 (sV (h.length+5) 0 N 1):=C4 (cs:=C0) (by rw [hH0,L5];rfl) (by rw [hC0,hxy];rfl) rfl;have aY:E1 1 (sV (h.length+5) 0 N 1) (iV 1)=A4 (pV (h.length+5) 1):=C9 (j:=1) (by omega);have sY:I3 H0 (pV (h.length+5) 1) (iV 1)=A4 H1:=by
  rw [G9 (cs:=encI (fJ n λ_=>A7)) (by rw [hH0,L5];rfl) (by rw [B7,R8];omega),aK,C8f,hH0,pA,hH1];rfl
 have c00:((0:Nat):Int)=0:=rfl;rw [c00] at f1 g1;have c2:((2:Nat):Int)=2:=rfl;rw [c2] at o1;have l35:B8 H3 (pV (h.length+6) 0)=A4 (.c yr):=C4 g5 rfl rfl;have alr:=k3.row.len;have cR:¬ ((c.row.length:Nat):Int)<(c.row.length:Nat):=by omega
 have l63:B8 (H3++[rT []]) (pV (h.length+6) 1)=A4 (.c yi):=C4 (C5 g5) rfl rfl;have efN:E4 [] []=A4 []:=rfl;have l25:B8 H5 (pV h.length 1)=A4 (iV n):=C4 (cs:=D8 D.length n m) (by rw [o4,B6 (by omega)];exact G34.rd q3) rfl rfl;have cN:¬ ((N:Int)<=n):=by omega
 rw [D2v,z11,A47];generalize encI (zI 11)=Z at *;generalize hLL:D8 D.length n m=LC at *;generalize hZ8:Z8=E8 at *;simp only [cl1,P9,E7c,E7E,E7m,E7a,E7g,E7v,E7t,Nat.reduceAdd];simp only [esc,Nat.reduceAdd,lay1,wn,am1,ef1,rz1,rz2,ef2,Nat.add_assoc,<-hHs];simp only [esc,sH0,lY,aY,sY];refine f1.trans (g1.trans ?_);rw [B33];simp only [esc,l35,alr,cR,efN,l63,cp];refine o1.trans ?_;rw [A4p];simp only [esc,l25,cN,s6,l6,s7,l7]
end
noncomputable section
variable (n m m2:Nat) (a0 a1 x0 x5 x6 x7:Val) (h:B5)
def fX:FD A8:=⟨px 0X1298412c4a1241219c715607c5e2a1318028c5161e13cc61011113fc3c02c05182462bc62e221ac261c61a11983c0380068861a4881987a002c1180193d765053157650411a0702461e17c61c84e03e1e14297650527650437650406051017650425136c6162a2e311ac261a201ac4a338003a338018150196503313b815303213b8432ed23022,[],[.slA 256 1 (.t 22) A7 A7],[.tmp 4],[cal B7p,cal A8c,cal bO]⟩
def C2c:=fX.R
def B8e:AtH:=fX.lj 0 n [m] [x0,x5,x6,x7]
def D23:AtH:=fX.lj 1 n [m] [x0,x5,x6,x7]
def B0K:=tT [⟨2,4,B8e⟩,⟨2,4,D23⟩]
def C5I:=mR C2c fX B0K n [a0,a1] h
def zA:=mL fX B0K 0 n [m] [x0,x5,x6,x7] h
def A8x:=mJ fX B0K 1 n [m] [x0,x5,x6,x7] h
def C1J:=fX.K Tryz.func25
def B0j:=fX.S
theorem C6u:SOk A8 25 B0j:=C1J.sok
theorem C4h:oP C2c B0j:=C1J.out
end
theorem C8E:∀ {W D:Dev} {k i:Nat} {w:Wr},(R9 W D k)[i]?=A4 w->∃ j,w.1=((k+j:Nat):Int)/\W[j]?=A4 w.2
 | [],_,_,_,_,h=>by simp [R9] at h
 | _::_,[],_,_,_,h=>by simp [R9] at h
 | x::W,d::D,k,i,w,h=>by
  unfold R9 at h;split at h
  ·obtain ⟨j,h1,h2⟩:=C8E h;exact ⟨j+1,by rw [h1];omega,h2⟩
  ·cases i with
   | zero=>simp at h;subst h;exact ⟨0,rfl,rfl⟩
   | succ i =>
    obtain ⟨j,h1,h2⟩:=C8E (by simpa using h);exact ⟨j+1,by rw [h1];omega,h2⟩
theorem E2i {h:B5} {v:Val} {l:List Wr} (hv:Has h v 257 l.length (qJ l)) (hl:okW l) {i:Nat} (hi:i<l.length) :
  ∃ id off,v=sV id off l.length 257/\B0T h 256 1 (pV id (off+i*257+1)) A7 A7=A4 (sV id (off+i*257+1) 256 1)/\Has h (sV id (off+i*257+1) 256 1) 1 256 (B4 l[i].2):=by
 rcases hv with ⟨_,h0,_⟩ | ⟨id,off,r,rfl,hr,h1,h2,h3,h4⟩
 ·omega
 ·have cC:off+i*257+1+256*1<=r.cells.length:=by omega
  have hs:=C4R h3 h4 (show i*257+1<l.length*257 by omega) h2;rw [<-Nat.add_assoc] at hs;refine ⟨id,off,rfl,?_,?_⟩
  ·simp only [B0T,hr,E7h,bound];rw [if_pos ⟨by omega,by omega,cC,hs⟩]
  ·refine Has.part (cs:=r.cells) (rw:=r.rw) hr cC ?_ (F9 _);have hat:=D3U hl hi;have e2:((qJ l).drop (i*257+1)).take 256=B4 l[i].2:=by
    have:((qJ l).drop (i*257+1)).take 256=(((qJ l).drop (i*257)).take 257).drop 1:=by rw [List.drop_take,E7X]
    rw [this,hat];rfl
   rw [<-e2,<-h3,List.drop_take,List.take_take,E7X]
   congr 1
   omega
theorem E3P {h:B5} {x:Cell} {j w:Nat} {l:List Cell} (hv:Has h (.c x) 1 w l) (hw:0<w) (hj:rd h j=rT []):nmC x≠A4 j:=by
 intro e;rcases hv with ⟨_,h0,_⟩ | ⟨id,off,r,e1,hr,h1,h2,_⟩
 ·omega
 ·cases e1;cases e;rw [hj] at hr;cases hr;simp at h2;omega
section
variable {D W:Dev} {n m:Int} {h:B5} {q:Nat} {x0:Val}
theorem E1i {b iy:Nat} {hb:B5} {ys:List Cell} (hD:okD D) (hW:okD W) (hWD:W.length=D.length) (h5:D.length<=1000000) :
  ∀ (e i M:Nat) (l:List Int) (id:Nat) (h:B5),i+e=W.length->e<M->Low b hb h->b<=id->l.length<=i->Has h x0 256 D.length (D5 D)->D9t x0 id->rd h iy=rT ys->iy≠id->D3V (λj=>j≠id) h ys W->rd h id=rT (encI l) ->
  ∃ bF h',B8e q M x0 (sV id 0 l.length 1) (sV iy 0 W.length 1) (iV (i:Int)) h=A4 (sV bF 0 (l++(R9 (W.drop i) (D.drop i) i).map (·.1)).length 1,h') /\
   b<=bF/\rd h' bF=rT (encI (l++(R9 (W.drop i) (D.drop i) i).map (·.1))):=by
 intro e
 induction e with
 | zero =>
  intro i M l id h hi hM hlow hid hli h0 n0 ry T8 md hr;obtain ⟨M,rfl⟩:∃ M',M=M'+1:=⟨M-1,by omega⟩;have c0:¬ (i:Int)<(W.length:Nat):=by omega
  have e1:R9 (W.drop i) (D.drop i) i=[]:=by rw [E7k (by omega)];rfl
  rw [e1,List.map_nil,E7w];refine ⟨id,h,?_,hid,hr⟩;rw [zA];simp only [esc,c0]
 | succ e ih =>
  intro i M l id h hi hM hlow hid hli h0 n0 ry T8 md hr;obtain ⟨M,rfl⟩:∃ M',M=M'+1:=⟨M-1,by omega⟩;have hiW:i<W.length:=by omega
  have hiD:i<D.length:=by omega
  have c0:(i:Int)<(W.length:Nat):=by omega
  have w1:=D3 (show i+1<9223372036854775808 by omega);obtain ⟨ad,u,d1,d2,d3⟩:=D27 h0 hD hiD;have a2:E1 1 (sV iy 0 W.length 1) (iV (i:Int))=A4 (pV iy i):=by rw [C9 hiW];simp
  have hyl:=md.1;have hy:ys[i]?=A4 (ys[i]'(by omega)):=E66 _;obtain ⟨_,bb,y1,y2,y3⟩:=md.2.2 i _ hy;rw [E66 hiW] at y1;cases y1;have b2:B8 h (pV iy i)=A4 (.c (ys[i]'(by omega))):=C4 ry hy rfl;have hS:=dZ d3 y3 (by rw [hD.at hiD];omega);have ed:R9 (W.drop i) (D.drop i) i=if W[i]=D[i] then R9 (W.drop (i+1)) (D.drop (i+1)) (i+1) else ((i:Int),W[i])::R9 (W.drop (i+1)) (D.drop (i+1)) (i+1):=by
   rw [E7d hiW,E7d hiD];rfl
  by_cases cw:W[i]=D[i]
  ·rw [ed,if_pos cw];rw [decide_eq_true cw.symm] at hS;obtain ⟨bF,h',f1,f2,f3⟩:=ih (i+1) M l id h (by omega) (by omega) hlow hid (by omega) h0 n0 ry T8 md hr;generalize l++(R9 (W.drop (i+1)) (D.drop (i+1)) (i+1)).map (·.1)=P at f1 f3 ⊢;refine ⟨bF,h',?_,f2,f3⟩;rw [zA];simp only [esc,E8a,c0,d1,d2,a2,b2,hS,A8x,w1];exact f1
  ·rw [ed,if_neg cw];rw [decide_eq_false (Ne.symm cw)] at hS;obtain ⟨h1,p1,p2,p3,p4⟩:=C8H (n:=l.length) (sz:=1) (ys:=[Cell.i .i64 (i:Int)]) hr (by simp [encI]) rfl (by omega) (by omega);have hbG:b<=h.length:=by have:=hlow.1;have:=hlow.2.1;omega
   have hiy:=C8 ry;have er:encI l++[Cell.i .i64 (i:Int)]=encI (l++[(i:Int)]):=by simp [encI]
   rw [er] at p2;have ls:(l++[(i:Int)]).length=l.length+1:=by simp
   have keep:∀ {x:Cell} {cs:List Cell} {w:Nat},InR (λj=>j≠id) x->Has h (.c x) 1 w cs->Has h1 (.c x) 1 w cs:=λ{x cs w} hx hv=>by
    rcases hv with hv | ⟨j,off,r,e1,hr,h2⟩
    ·exact .inl hv
    ·cases e1;exact .inr ⟨j,off,r,rfl,p3 j r (hx j rfl) hr,h2⟩
   obtain ⟨bF,h',f1,f2,f3⟩:=ih (i+1) M (l++[(i:Int)]) (h.length+1) h1 (by omega) (by omega) (hlow.trans (p4 b hid hbG)) (by omega) (by rw [ls];omega) (C7V h0 n0 p3) (B8h h0 (by omega)) (p3 _ _ T8 ry) (by omega)
    ⟨md.1,md.2.1,λj x hj=>by
     obtain ⟨z1,b,z2,z3,z4⟩:=md.2.2 j x hj;exact ⟨λk hk=>by have:=A1I z4 hk;omega,b,z2,z3,keep z1 z4⟩⟩ p2
   rw [ls,E7c] at f1;rw [E7c] at f3;have eP:[(i:Int)]++(R9 (W.drop (i+1)) (D.drop (i+1)) (i+1)).map (·.1)=(((i:Int),W[i])::R9 (W.drop (i+1)) (D.drop (i+1)) (i+1)).map (·.1):=rfl;rw [eP] at f1 f3;generalize l++(((i:Int),W[i])::R9 (W.drop (i+1)) (D.drop (i+1)) (i+1)).map (·.1)=P at f1 f3 ⊢;refine ⟨bF,h',?_,f2,f3⟩;have ef:E4 [o0] [(0,1,iV (i:Int))]=A4 [.i .i64 (i:Int)]:=rfl;rw [zA];simp only [esc,E77,c0,d1,d2,a2,b2,hS,ef,p1,A8x,w1];exact f1
theorem E1h {v:Val} (hv:Has h v 256 D.length (D5 D)) (hD:okD D) (hm:S4 D.length n=A5) :
  B0j [v,.a (D8 D.length n m)] h=A4 (sV h.length 0 ((R9 (vI D n (L6 D n)) D 0).map (·.1)).length 1,h++[rT (encI ((R9 (vI D n (L6 D n)) D 0).map (·.1)))]):=by
 obtain ⟨b16,b512,_⟩:=J9.1 hm;obtain ⟨W,eW⟩:∃ W,W=vI D n (L6 D n):=⟨_,rfl⟩;obtain ⟨okW,lW⟩:=B8l hD hm;rw [<-eW] at okW lW ⊢;obtain ⟨g,hg⟩:∃ g,g=ro h:=⟨_,rfl⟩;have hvg:Has g v 256 D.length (D5 D):=by rw [hg];exact hv.ro
 obtain ⟨G,hG⟩:∃ G,G=g++[rT (D8 D.length n m),rT [],rT []]:=⟨_,rfl⟩;have lG:G.length=g.length+3:=by rw [hG];simp
 have l3:D4 G 3 (pV g.length 0)=A4 (.a (D8 D.length n m)):=C7 (by rw [hG,E9];rfl) rfl;have hvG:Has G v 256 D.length (D5 D):=by rw [hG];exact hvg.more _
 obtain ⟨cs',F,r1,r2,r3⟩:=E1e (n:=n) (m:=m) hvG hD hm;have q2:=U3 (v:=.a cs') r2;rw [<-r1] at q2;have q2':quiet G (A42 [v,.a (D8 D.length n m)] G)=A4 (.a cs',F):=by rw [q2,r1]
 obtain ⟨_,_,_,hfl,_⟩:=mY hD hm;obtain ⟨iy,ys,Y,s1,s2,s3,s4⟩:=D7U (n:=n) (m:=m) (hvG.grows r2) hD hm r3.low (λid hid=>hid.2) (A5g hD hm) hfl;rw [<-eW] at s4;have GY:Grows G Y:=r2.trans' s2;have r5:rd Y (g.length+2)=rT []:=GY.rd (by rw [hG,L5];rfl);have hy0:iy≠g.length+2:=by
  intro e;rw [e,r5] at s3;have h1:=s4.1;cases s3;simp at h1;omega
 have lY:=GY.len;obtain ⟨bF,h',f1,f2,f3⟩:=E1i (q:=D.length+1) (b:=g.length) (hb:=Y) hD okW lW (by omega) W.length 0 (D.length+1) [] (g.length+2) Y (by omega) (by omega) (Low.refl (by omega)) (by omega) (by simp) (hvG.grows GY) (B8h hvg (by omega)) s3 hy0
  ⟨s4.1,s4.2.1,λj x hj=>by
   obtain ⟨_,b,z2,z3,z4⟩:=s4.2.2 j x hj;exact ⟨λk hk e=>E3P z4 (by omega) r5 (by rw [hk,e]),b,z2,z3,z4⟩⟩ r5
 rw [E7m,E7p,E7p] at f1 f3;refine C4h (n:=D.length+1) (h2:=h') (v:=sV bF 0 ((R9 W D 0).map (·.1)).length 1) ?_ ⟨by simp [encI],bF,rfl,by rw [hg,F7] at f2;exact f2,f3⟩ B5Z;have z0:((0:Nat):Int)=0:=rfl;have z1:([]:List Int).length=0:=rfl;rw [z0,z1,lW] at f1;have cl1:cells? (.a (D8 D.length n m))=A4 (D8 D.length n m):=rfl;rw [<-hg,C5I];generalize D8 D.length n m=L at *;simp only [esc,Nat.reduceAdd,cl1,<-hG,l3,q2',s1];exact f1
end
section
variable {h:B5} {r:Nat} {s:List Int} {B:Int}
theorem B19 {x:List Int} {id:Nat} (hr:rd h id=rT (encI x)) {k:Nat} (hk:k<x.length):B8 h (pV id k)=A4 (iV (x.getD k 0)) :=
 C4 hr (by rw [G8,E7e,E66 hk];rfl) rfl
theorem C7A {x:List Int} (h:x.length=11):oN [.a (encI x)]=λh=>A4 (.a (encI (x.drop 4)),h):=by
 funext h
 rw [C02 (by assumption)];exact nD (by rw [E72];omega)
theorem D8D {was now:List Int} (hw:was.length=11) (hn:now.length=11) (hr:rd h r=rT (encI s)) (hB:BndR s B) (hB2:B<=900000) :
  ∃ h',nU [pV r 0,.a (encI was),.a (encI now)] h=A4 (.t [],h')/\rd h' r=rT (encI (D0E was now s))/\OnlyR r h h'/\BndR (D0E was now s) (B+9):=by
 have hrl:=C8 hr;obtain ⟨G,hG⟩:∃ G,G=h++[rT (encI was),rT (encI now)]:=⟨_,rfl⟩;have lG:G.length=h.length+2:=by rw [hG];simp
 have g0:rd G h.length=rT (encI was):=by rw [hG,E9];rfl
 have g1:rd G (h.length+1)=rT (encI now):=by rw [hG,L5];rfl
 have gr:rd G r=rT (encI s):=by rw [hG];exact C5 hr
 have O1:OnlyR r h G:=by rw [hG];exact (OnlyR.refl r h).more _
 obtain ⟨s1,es1⟩:∃ s1,s1=if was.getD 1 0≠now.getD 1 0 then bump s 3 else s:=⟨_,rfl⟩
 obtain ⟨s2,es2⟩:∃ s2,s2=if now.getD 0 0=2/\was.getD 3 0≠now.getD 3 0 then bump s1 4 else s1:=⟨_,rfl⟩
 have er:D0E was now s=D4K (was.drop 4) (now.drop 4) s2:=by unfold D0E;rw [es2,es1]
 have B1:BndR s1 (B+1):=by
  rw [es1];split
  ·exact hB.bump (by omega)
  ·exact hB.mono (by omega)
 have B2:BndR s2 (B+2):=by
  rw [es2];split
  ·exact (B1.bump (by omega)).mono (by omega)
  ·exact B1.mono (by omega)
 have part3:∀ g,rd g r=rT (encI s2)->rd g h.length=rT (encI was)->rd g (h.length+1)=rT (encI now)->OnlyR r h g ->
   ∃ h',yE 20 (pV r 0) (pV h.length 0) (pV (h.length+1) 0) g=A4 (.t [],h')/\rd h' r=rT (encI (D0E was now s))/\OnlyR r h h'/\BndR (D0E was now s) (B+9):=by
  intro g q1 q2 q3 q4;have hgl:=C8 q3;have z7:[o0,o0,o0,o0,o0,o0,o0]=encI (zI 7):=rfl;have hd1:(encI (was.drop 4)).length=7:=by rw [B7,E72];omega
  have hd2:(encI (now.drop 4)).length=7:=by rw [B7,E72];omega
  obtain ⟨K,hK⟩:∃ K,K=g++[rT (encI (was.drop 4)),rT (encI (now.drop 4))]:=⟨_,rfl⟩;obtain ⟨h',f1,f2,f3,f4⟩:=D9W (r:=r) (q:=20) (ra:=g.length) (rb:=g.length+1) (a:=was.drop 4) (b:=now.drop 4) (by rw [E72];omega) (by rw [E72];omega) 7 0 20 (B+2) s2 K (by omega) (by omega) B2 (by omega) (by rw [hK];exact C5 q1) (by rw [hK,E9];rfl) (by rw [hK,L5];rfl) (by have:=C8 q1;omega) (by have:=C8 q1;omega);rw [E7p,E7p,<-er] at f2 f4;refine ⟨h',?_,f2,q4.trans (OnlyR.trans (by rw [hK];exact (OnlyR.refl r g).more _) f3),f4.mono (by omega)⟩;have l1:D4 g 11 (pV h.length 0)=A4 (.a (encI was)):=C7 q2 (by rw [B7,hw]);have l2:D4 g 11 (pV (h.length+1) 0)=A4 (.a (encI now)):=C7 q3 (by rw [B7,hn]);have n1:=congrFun (C7A hw);have n2:=congrFun (C7A hn);have st1:E6 (g++[rT (encI (zI 7)),rT (encI (zI 7))]) 7 (pV g.length 0) (.a (encI (was.drop 4)))=A4 (g++[rT (encI (was.drop 4)),rT (encI (zI 7))]):=by
   rw [storeAll (by rw [E9];rfl) (by rfl) hd1,V6];rfl
  have st2:E6 (g++[rT (encI (was.drop 4)),rT (encI (zI 7))]) 7 (pV (g.length+1) 0) (.a (encI (now.drop 4)))=A4 K:=by
   rw [storeAll (cs:=encI (zI 7)) (by rw [L5];rfl) (by rfl) hd2,pA,hK];rfl
  have c00:((0:Nat):Int)=0:=rfl;rw [c00] at f1;rw [A5L,z7];generalize encI was=X at *;generalize encI now=Y at *;generalize encI (was.drop 4)=X' at *;generalize encI (now.drop 4)=Y' at *;generalize encI (zI 7)=Z at *;simp only [esc,Nat.reduceAdd,l1,l2,n1,n2,st1,st2];exact f1
 have part2:∀ g,rd g r=rT (encI s1)->rd g h.length=rT (encI was)->rd g (h.length+1)=rT (encI now)->OnlyR r h g ->
   ∃ h',yD 20 (pV r 0) (pV h.length 0) (pV (h.length+1) 0) g=A4 (.t [],h')/\rd h' r=rT (encI (D0E was now s))/\OnlyR r h h'/\BndR (D0E was now s) (B+9):=by
  intro g q1 q2 q3 q4;have l0:=B19 q3 (k:=0) (by omega);have l3:=B19 q3 (k:=3) (by omega);have k3:=B19 q2 (k:=3) (by omega);have l4:=A5X q1 B1.1 (k:=4) (by omega);have s4:=A0X q1 B1.1 (k:=4) (by omega);have h4:=B1.at (k:=4) (by omega);have w4:IntKind.wrap .i64 (s1.getD 4 0+1)=s1.getD 4 0+1:=wrap_i64 (by omega) (by omega);by_cases c1:now.getD 0 0=2
  ·by_cases c2:was.getD 3 0=now.getD 3 0
   ·rw [if_neg (λh=>h.2 c2)] at es2;rw [es2] at part3;obtain ⟨h',f1,f2⟩:=part3 g q1 q2 q3 q4;refine ⟨h',?_,f2⟩;rw [fM];simp only [esc,Nat.reduceAdd,l0,c1,k3,l3,c2];exact f1
   ·rw [if_pos ⟨c1,c2⟩] at es2;have E6k:r≠h.length:=by omega
    have E6l:r≠h.length+1:=by omega
    obtain ⟨h',f1,f2⟩:=part3 (g.set r (rT (encI s2))) (C6 (C8 q1)) (by rw [B6 E6k];exact q2) (by rw [B6 E6l];exact q3) (q4.set (.inl rfl));rw [es2] at f1;refine ⟨h',?_,f2⟩;rw [fM];simp only [esc,Nat.reduceAdd,l0,c1,k3,l3,c2,l4,w4,s4];exact f1
  ·rw [if_neg (λh=>c1 h.1)] at es2;rw [es2] at part3;obtain ⟨h',f1,f2⟩:=part3 g q1 q2 q3 q4;refine ⟨h',?_,f2⟩;rw [fM];simp only [esc,Nat.reduceAdd,l0,c1];exact f1
 have l1:=B19 g0 (k:=1) (by omega);have l1':=B19 g1 (k:=1) (by omega);have l3:=A5X gr hB.1 (k:=3) (by omega);have s3:=A0X gr hB.1 (k:=3) (by omega);have h3:=hB.at (k:=3) (by omega);have w3:IntKind.wrap .i64 (s.getD 3 0+1)=s.getD 3 0+1:=wrap_i64 (by omega) (by omega);have cl1:cells? (.a (encI was))=A4 (encI was):=rfl;have cl2:cells? (.a (encI now))=A4 (encI now):=rfl;by_cases c1:was.getD 1 0=now.getD 1 0
 ·rw [if_neg (λh=>h c1)] at es1;rw [es1] at part2;obtain ⟨h',f1,f2⟩:=part2 G gr g0 g1 O1;refine ⟨h',rF (n:=20) ?_,f2⟩;rw [qT];simp only [esc,Nat.reduceAdd,cl1,cl2,<-hG,l1,l1',c1];exact f1
 ·rw [if_pos c1] at es1;obtain ⟨h',f1,f2⟩:=part2 (G.set r (rT (encI s1))) (C6 (C8 gr)) (by rw [B6 (by omega)];exact g0) (by rw [B6 (by omega)];exact g1) (O1.set (.inl rfl));rw [es1] at f1;refine ⟨h',rF (n:=20) ?_,f2⟩;rw [qT];simp only [esc,Nat.reduceAdd,cl1,cl2,<-hG,l1,l1',c1,l3,w3,s3];exact f1
end
theorem C76 {g h:B5} {cs:List Cell} {c:Cl} (hc:IsCl g cs c) (hl:Low g.length g h):IsCl h cs c:=by
 obtain ⟨xr,xi,xt,xb,xm,e,h1,h2,h3,h4,h5⟩:=hc.form;exact ⟨xr,xi,xt,xb,xm,e,h1.since hl,h2.since hl,h3.since hl,h4.since hl,h5.since hl⟩
theorem OnlyR.low {g h h':B5} {r:Nat} (hl:Low g.length g h) (ho:OnlyR r h h') (hr:g.length<=r):Low g.length g h' :=
 ⟨hl.1,E7K hl.2.1 ho.1,λj hj=>(ho.2 j (by have:=hl.2.1;omega) (by omega)).trans (hl.2.2 j hj)⟩
section
variable {D:Dev} {n m:Int} {f:Cell} {g:B5} {q p0 pv pc r:Nat} {cs:List Cell} {c:Cl}
theorem D9Y (hD:okD D) (hv:IsView g f D) (hn:n<=128) (rv:rd g pv=rT (vwC D.length n m f)) (rc:rd g pc=rT cs) (hc:IsCl g cs c) (hrow:c.row.length<=1000) (O9:∀ x∈c.ino,x.length=11) (hin:c.ino.length=(n+1).toNat) (hgr:g.length<=r) :
  ∀ (e:Nat) (i:Int) (M:Nat) (B:Int) (s:List Int) (h:B5),i+e=n+1->1<=i->e<M->BndR s B->B+9*e<=900000->rd h r=rT (encI s)->Low g.length g h ->
  ∃ h' M',A4x q M (pV p0 0) (pV pv 0) (pV pc 0) (pV r 0) (iV i) h=A4x q (M'+1) (pV p0 0) (pV pv 0) (pV pc 0) (pV r 0) (iV (n+1)) h' /\
   rd h' r=rT (encI (A7F D n c e i s))/\Low g.length g h'/\BndR (A7F D n c e i s) (B+9*e):=by
 intro e
 induction e with
 | zero =>
  intro i M B s h hi h1 hM hB hB2 hr hl;obtain ⟨M,rfl⟩:∃ M',M=M'+1:=⟨M-1,by omega⟩;have ei:i=n+1:=by omega
  subst ei;exact ⟨h,M,rfl,hr,hl,hB.mono (by omega)⟩
 | succ e ih =>
  intro i M B s h hi h1 hM hB hB2 hr hl;obtain ⟨M,rfl⟩:∃ M',M=M'+1:=⟨M-1,by omega⟩;have c0:i<=n:=by omega
  have w1:IntKind.wrap .i64 (i+1)=i+1:=wrap_i64 (by omega) (by omega);have hrl:=C8 hr;have lv1:B8 h (pV pv 1)=A4 (iV n):=C4 (hl.rd rv) rfl rfl;have lv4:D4 h 4 (pV pv 0)=A4 (.a (vwC D.length n m f)):=C7 (hl.rd rv) rfl;have hI:=oF (n:=n) (m:=m) (i:=i) (h:=h) hD (hv.since hl);rw [<-C8U] at hI;have hIl:(encI (A5Y D n i)).length=11:=by rw [B7,yH]
  obtain ⟨G,hG⟩:∃ G,G=h++[rT (encI (A5Y D n i))]:=⟨_,rfl⟩;have hlG:Low g.length g G:=by rw [hG];exact hl.new _
  have OG:OnlyR r h G:=by rw [hG];exact (OnlyR.refl r h).more _
  have z11:[o0,o0,o0,o0,o0,o0,o0,o0,o0,o0,o0]=encI (zI 11):=rfl;have st:E6 (h++[rT (encI (zI 11))]) 11 (pV h.length 0) (.a (encI (A5Y D n i)))=A4 G:=by
   rw [storeAll (by rw [E9];rfl) (by rfl) hIl,V6,hG];rfl
  have rG:rd G r=rT (encI s):=by rw [hG];exact C5 hr
  have lI:D4 G 11 (pV h.length 0)=A4 (.a (encI (A5Y D n i))):=C7 (by rw [hG,E9];rfl) hIl;have hcG:=C76 hc hlG;have xY:cs.length=6:=by obtain ⟨_,_,_,_,_,rfl,_⟩:=hc.form;rfl
  have lc6:D4 G 6 (pV pc 0)=A4 (.a cs):=C7 (hlG.rd rc) xY;have hK:=C98 (a:=i) hcG hrow;have es:A7F D n c (e+1) i s=A7F D n c e (i+1) (C09 D n c s i):=rfl;rw [es];by_cases hk:i∈c.row
  ·rw [decide_eq_true hk] at hK;have e1:C09 D n c s i=D0E (A5Y D n i) (c.ino.getD i.toNat []) s:=by unfold C09;rw [if_pos hk]
   rw [e1];have hit:i.toNat<c.ino.length:=by rw [hin];omega
   obtain ⟨xr,xi,xt,xb,xm,ecs,_,hxi,_⟩:=hcG.form;obtain ⟨ii,oi,ei,_,_,hC⟩:=hxi.sl (by omega);cases ei;have lc1:B8 G (pV pc 1)=A4 (sV ii oi c.ino.length 11):=C4 (hlG.rd rc) (by rw [ecs];rfl) (by rfl);have ei:(i:Int)=((i.toNat:Nat):Int):=by omega
   have ad:E1 11 (sV ii oi c.ino.length 11) (iV i)=A4 (pV ii (oi+i.toNat*11)):=by
    conv=>lhs;rw [ei]
    exact C9 hit
   have eg:c.ino.getD i.toNat []=c.ino[i.toNat]:=by rw [E7e,E66 hit];rfl
   have ln:D4 G 11 (pV ii (oi+i.toNat*11))=A4 (.a (encI (c.ino.getD i.toNat []))):=by
    rw [hC (i.toNat*11) 11 (by rw [T5 O9];omega),B8x O9 hit,eg]
   obtain ⟨h1',r1,r2,r3,r4⟩:=D8D (was:=A5Y D n i) (now:=c.ino.getD i.toNat []) yH (by rw [eg];exact O9 _ (E7J hit)) rG hB (by omega);obtain ⟨h',M',f1,f2,f3,f4⟩:=ih (i+1) M (B+9) _ h1' (by omega) (by omega) (by omega) r4 (by omega) r2 (r3.low hlG hgr);refine ⟨h',M',?_,f2,f3,f4.mono (by omega)⟩;rw [nF,z11];generalize encI (A5Y D n i)=X at *;generalize encI (c.ino.getD i.toNat [])=Y at *;generalize encI (zI 11)=Z at *;generalize vwC D.length n m f=V at *;simp only [esc,Nat.reduceAdd,lv1,c0,lv4,hI,st,lc6,hK,lI,lc1,ad,ln,r1,vL,w1];exact f1
  ·rw [decide_eq_false hk] at hK;have e1:C09 D n c s i=D1F (kdV D n i) s:=by unfold C09;rw [if_neg hk]
   rw [e1];have er:E68 11 (Sh.i .i64)=[Sh.i .i64,.i .i64,.i .i64,.i .i64,.i .i64,.i .i64,.i .i64,.i .i64,.i .i64,.i .i64,.i .i64]:=rfl;have q1:=D9A (l:=A5Y D n i) (m:=zI 11) (n:=11) yH (by rfl);rw [er] at q1;have ef:E4 (encI (zI 11)) []=A4 (encI (zI 11)):=rfl;have l2:=A5X rG hB.1 (k:=2) (by omega);have s2:=A0X rG hB.1 (k:=2) (by omega);have b2:=hB.at (k:=2) (by omega);have w2:IntKind.wrap .i64 (s.getD 2 0+1)=s.getD 2 0+1:=wrap_i64 (by omega) (by omega);by_cases hz:kdV D n i=0
   ·have e2:D1F (kdV D n i) s=s:=by unfold D1F;rw [if_neg (by simp [hz])]
    rw [e2];rw [decide_eq_true (D17.2 hz)] at q1;obtain ⟨h',M',f1,f2,f3,f4⟩:=ih (i+1) M B s G (by omega) (by omega) (by omega) hB (by omega) rG hlG;refine ⟨h',M',?_,f2,f3,f4.mono (by omega)⟩;rw [nF,z11];generalize encI (A5Y D n i)=X at *;generalize encI (zI 11)=Z at *;generalize vwC D.length n m f=V at *;simp only [esc,E8a,Nat.reduceAdd,lv1,c0,lv4,hI,st,lc6,hK,lI,ef,q1,vL,w1];exact f1
   ·have e2:D1F (kdV D n i) s=bump s 2:=by unfold D1F;rw [if_pos hz]
    rw [e2];rw [decide_eq_false (λh=>hz (D17.1 h))] at q1;obtain ⟨h',M',f1,f2,f3,f4⟩:=ih (i+1) M (B+1) _ (G.set r (rT (encI (bump s 2)))) (by omega) (by omega) (by omega) (hB.bump (by omega)) (by omega) (C6 (C8 rG)) (hlG.set hgr _);refine ⟨h',M',?_,f2,f3,f4.mono (by omega)⟩;rw [nF,z11];generalize encI (A5Y D n i)=X at *;generalize encI (zI 11)=Z at *;generalize vwC D.length n m f=V at *;simp only [esc,E77,Nat.reduceAdd,lv1,c0,lv4,hI,st,lc6,hK,lI,ef,q1,l2,w2,s2,vL,w1];exact f1
theorem D9Z {T:List Bool} {xt:Cell} (hD:okD D) (hv:IsView g f D) (rv:rd g pv=rT (vwC D.length n m f)) (hT:Has g (.c xt) 1 T.length (J3 T)) (hTl:T.length<=100000) (hgr:g.length<=r) (hp0:p0<g.length) {z8:List Cell} (r0:rd g p0=rT z8) (hz8:z8.length=8) :
  ∀ (e i M:Nat) (B:Int) (s:List Int) (h:B5),i+e=T.length->e<M->BndR s B->B+e<=10000000->rd h r=rT (encI s)->Low g.length g h ->
  ∃ h',B4a q M (pV p0 0) (pV pv 0) (pV r 0) (.c xt) (iV (T.length:Nat)) (iV (i:Int)) h=A4 (.t [.a (encI (A3h D n (T.drop i) i s)),.c o0],h')/\BndR (A3h D n (T.drop i) i s) (B+e):=by
 intro e
 induction e with
 | zero =>
  intro i M B s h hi hM hB hB2 hr hl;obtain ⟨M,rfl⟩:∃ M',M=M'+1:=⟨M-1,by omega⟩;have c0:¬ (i:Int)<(T.length:Nat):=by omega
  have e1:A3h D n (T.drop i) i s=s:=by rw [E7k (by omega)];rfl
  rw [e1];have l8:D4 h 8 (pV r 0)=A4 (.a (encI s)):=C7 hr (by rw [B7,hB.1]);have s8:E6 h 8 (pV p0 0) (.a (encI s))=A4 (h.set p0 (rT (encI s))):=storeAll (hl.rd r0) hz8 (by rw [B7,hB.1]);have k8:D4 (h.set p0 (rT (encI s))) 8 (pV p0 0)=A4 (.a (encI s)):=C7 (C6 (by have:=hl.2.1;omega)) (by rw [B7,hB.1]);refine ⟨h.set p0 (rT (encI s)),?_,hB.mono (by omega)⟩;rw [fL];simp only [esc,c0,l8,s8,k8]
 | succ e ih =>
  intro i M B s h hi hM hB hB2 hr hl;obtain ⟨M,rfl⟩:∃ M',M=M'+1:=⟨M-1,by omega⟩;have O9:i<T.length:=by omega
  have c0:(i:Int)<(T.length:Nat):=by omega
  have w1:=D3 (show i+1<9223372036854775808 by omega);obtain ⟨ii,oi,ei,_,hA,_⟩:=(hT.since hl).sl (by omega);cases ei;have a1:E1 1 (sV ii oi T.length 1) (iV (i:Int))=A4 (pV ii (oi+i)):=by rw [C9 O9];simp
  have a2:B8 h (pV ii (oi+i))=A4 (bV T[i]):=hA i _ (by simp [J3,O9]);have lv4:D4 h 4 (pV pv 0)=A4 (.a (vwC D.length n m f)):=C7 (hl.rd rv) rfl;have hU:=D3S (n:=n) (m:=m) (i:=(i:Int)) (h:=h) hD (hv.since hl);have ed:A3h D n (T.drop i) i s=A3h D n (T.drop (i+1)) (i+1) (A4F (D2i D n (i:Int)) T[i] s):=by rw [E7d O9];rfl
  have l7:=A5X hr hB.1 (k:=7) (by omega);have s7:=A0X hr hB.1 (k:=7) (by omega);have b7:=hB.at (k:=7) (by omega);have w7:IntKind.wrap .i64 (s.getD 7 0+1)=s.getD 7 0+1:=wrap_i64 (by omega) (by omega);have l6:=A5X hr hB.1 (k:=6) (by omega);have s6:=A0X hr hB.1 (k:=6) (by omega);have b6:=hB.at (k:=6) (by omega);have w6:IntKind.wrap .i64 (s.getD 6 0+1)=s.getD 6 0+1:=wrap_i64 (by omega) (by omega);rw [ed];generalize D2i D n (i:Int)=u at *;cases hb:T[i] with
  | true =>
   rw [hb] at a2;cases u with
   | true =>
    have e1:A4F A5 A5 s=s:=by simp [A4F]
    rw [e1];obtain ⟨h',f1,f2⟩:=ih (i+1) M B s h (by omega) (by omega) hB (by omega) hr hl;refine ⟨h',?_,f2.mono (by omega)⟩;rw [fL];generalize vwC D.length n m f=V at *;simp only [esc,Nat.reduceAdd,c0,a1,a2,lv4,hU,nE,w1];exact f1
   | false =>
    have e1:A4F A6 A5 s=bump s 7:=by simp [A4F]
    rw [e1];obtain ⟨h',f1,f2⟩:=ih (i+1) M (B+1) _ (h.set r (rT (encI (bump s 7)))) (by omega) (by omega) (hB.bump (by omega)) (by omega) (C6 (C8 hr)) (hl.set hgr _);refine ⟨h',?_,f2.mono (by omega)⟩;rw [fL];generalize vwC D.length n m f=V at *;simp only [esc,E77,Nat.reduceAdd,c0,a1,a2,lv4,hU,l7,w7,s7,nE,w1];exact f1
  | false =>
   rw [hb] at a2;cases u with
   | true =>
    have e1:A4F A5 A6 s=bump s 6:=by simp [A4F]
    rw [e1];obtain ⟨h',f1,f2⟩:=ih (i+1) M (B+1) _ (h.set r (rT (encI (bump s 6)))) (by omega) (by omega) (hB.bump (by omega)) (by omega) (C6 (C8 hr)) (hl.set hgr _);refine ⟨h',?_,f2.mono (by omega)⟩;rw [fL];generalize vwC D.length n m f=V at *;simp only [esc,E77,Nat.reduceAdd,c0,a1,a2,lv4,hU,l6,w6,s6,nE,w1];exact f1
   | false =>
    have e1:A4F A6 A6 s=s:=by simp [A4F]
    rw [e1];obtain ⟨h',f1,f2⟩:=ih (i+1) M B s h (by omega) (by omega) hB (by omega) hr hl;refine ⟨h',?_,f2.mono (by omega)⟩;rw [fL];generalize vwC D.length n m f=V at *;simp only [esc,E77,Nat.reduceAdd,c0,a1,a2,lv4,hU,nE,w1];exact f1
theorem D0t {v:Val} {h:B5} (hv:Has h v 256 D.length (D5 D)) (hD:okD D) (hn:A4f D=A5) (hl:D.length<=1000) :
  A65 [v] h=A4 (.t [.a (encI (C0Z D (A7p D))),.c o0],h)/\BndR (C0Z D (A7p D)) 1000000:=by
 have hm:=C7w hn;obtain ⟨n,en⟩:∃ n,n=A7p D:=⟨_,rfl⟩;obtain ⟨P,hP⟩:∃ P,P=R9 (vI D n (L6 D n)) D 0:=⟨_,rfl⟩;rw [<-en] at hm ⊢;obtain ⟨b16,b512,n8,n128,_,_⟩:=J9.1 hm;have okf:=A5g hD hm;obtain ⟨fR,fS,fil,fin,ftl⟩:=mY hD hm;have E6O:(L6 D n).lost=(aX D n).lost:=(lU (L:=(aX D n).row) (c:=aX D n)).2.2.2.2.1;have E5a:(L6 D n).row=(aX D n).row:=(lU (L:=(aX D n).row) (c:=aX D n)).1;have hPl:P.length<=D.length:=by
  have h1:=(B8V (W:=vI D n (L6 D n)) (D:=D) (i:=0) (B8l hD hm).1).2;rw [(B8l hD hm).2] at h1;rw [hP];exact h1
 obtain ⟨s0,hs0⟩:∃ s0:List Int,s0=[((P.length:Nat):Int),(L6 D n).lost,0,0,0,0,0,0]:=⟨_,rfl⟩;have B0:BndR s0 30000:=by
  rw [hs0];refine ⟨rfl,λa ha=>?_⟩;have:=fS.lost0;have:=fS.lost;simp only [List.mem_cons,List.not_mem_nil,or_false] at ha;rcases ha with rfl | rfl | rfl | rfl | rfl | rfl | rfl | rfl<;>omega
 have z8:[o0,o0,o0,o0,o0,o0,o0,o0]=encI (zI 8):=rfl;obtain ⟨G,hG⟩:∃ G,G=ro h++[rT (encI (zI 8))]:=⟨_,rfl⟩;have hvG:Has G v 256 D.length (D5 D):=by rw [hG];exact hv.ro.more _
 have E3O:=A0A hvG hD hn (by omega);rw [<-en,<-hP] at E3O;obtain ⟨G2,hG2⟩:∃ G2,G2=G++[rT (qJ P)]:=⟨_,rfl⟩;rw [<-hG2] at E3O;obtain ⟨f,t,hO,hV⟩:=C9c (h:=G2) (by rw [hG2];exact hvG.more _) hD hn (by omega);obtain ⟨H,hHe⟩:∃ H,H=G2++t:=⟨_,rfl⟩;rw [<-hHe] at hO hV;rw [<-en] at hO;generalize D4O D=m at *;have hS5:E6 (H++[rT [o0,o0,.i .u64 0,.nf]]) 4 (pV H.length 0) (.a (vwC D.length n m f))=A4 (H++[rT (vwC D.length n m f)]):=by rw [L7];rfl
 obtain ⟨K,hK⟩:∃ K,K=H++[rT (vwC D.length n m f)]:=⟨_,rfl⟩;rw [<-hK] at hS5;have k4:D4 K 4 (pV H.length 0)=A4 (.a (vwC D.length n m f)):=C7 (by rw [hK,E9];rfl) rfl;have rvK:rd K H.length=rT (vwC D.length n m f):=by rw [hK,E9];rfl
 have hVK:IsView K f D:=by rw [hK];exact hV.more _
 obtain ⟨cs,t2,hC,hI,_⟩:=C2E (m:=m) (h:=K) hD hVK hm;obtain ⟨L,hL⟩:∃ L,L=K++t2:=⟨_,rfl⟩;rw [<-hL] at hC hI;have xY:cs.length=6:=by obtain ⟨_,_,_,_,_,rfl,_⟩:=hI.form;rfl
 obtain ⟨Q,hQ⟩:∃ Q,Q=L++[rT cs]:=⟨_,rfl⟩;have hS6:E6 (L++[rT [.ns,.ns,.ns,.ns,.ns,o0]]) 6 (pV L.length 0) (.a cs)=A4 Q:=by
  rw [storeAll (n:=6) (cs:=[.ns,.ns,.ns,.ns,.ns,o0]) (by rw [E9];rfl) rfl xY,V6,hQ];rfl
 have rcQ:rd Q L.length=rT cs:=by rw [hQ,E9];rfl
 have rvQ:rd Q H.length=rT (vwC D.length n m f):=by rw [hQ,hL];exact C5 (C5 rvK)
 have hVQ:IsView Q f D:=by rw [hQ,hL];exact (hVK.more _).more _
 have hIQ:IsCl Q cs (L6 D n):=C76 hI (by rw [hQ];exact (Low.refl (E7b _)).new _);obtain ⟨xr,xi,xt,xb,xm,ecs,_,_,hxt,_⟩:=hIQ.form;have lc5:B8 Q (pV L.length 5)=A4 (iV (L6 D n).lost):=C4 rcQ (by rw [ecs];rfl) rfl;have ef:E4 (encI (zI 8)) [(0,1,iV (P.length:Nat)),(1,1,iV (L6 D n).lost)]=A4 (encI s0):=by rw [hs0];rfl
 have s8:E6 (Q++[rT (encI (zI 8))]) 8 (pV Q.length 0) (.a (encI s0))=A4 (Q++[rT (encI s0)]):=by
  rw [storeAll (by rw [E9];rfl) (by rfl) (by rw [B7,B0.1]),V6];rfl
 have p0Q:rd Q (ro h).length=rT (encI (zI 8)):=by
  rw [hQ,hL,hK,hHe,hG2,hG];refine C5 (C5 (C5 (C5 (C5 ?_))));rw [E9];rfl
 have low0:Low Q.length Q (Q++[rT (encI s0)]):=(Low.refl (E7b _)).new _;obtain ⟨h1,M1,f1,f2,f3,f4⟩:=D9Y (q:=100000) (p0:=(ro h).length) hD hVQ n128 rvQ rcQ hIQ (by rw [E5a];have:=fS.row;omega) fil fin (E7b _) n.toNat 1 100000 30000 s0 (Q++[rT (encI s0)]) (by omega) (by omega) (by omega) B0 (by omega) (by rw [E9];rfl) low0;obtain ⟨h2,u1,u2⟩:=D9Z (q:=100000) (p0:=(ro h).length) (r:=Q.length) (pv:=H.length) hD hVQ rvQ hxt (by rw [ftl];omega) (E7b _) (by have:=C8 p0Q;omega) p0Q (by rfl) (L6 D n).taken.length 0 100000 _ _ h1 (by omega) (by rw [ftl];omega) f4 (by rw [ftl];omega) f2 f3;rw [E7p] at u1 u2;have ec:A3h D n (L6 D n).taken 0 (A7F D n (L6 D n) n.toNat 1 s0)=C0Z D n:=by unfold C0Z;rw [hs0,hP]
 rw [ec] at u1 u2;refine ⟨?_,u2.mono (by rw [ftl];omega)⟩;have key:A6w 100000 [v] (ro h)=A4 (.t [.a (encI (C0Z D n)),.c o0],h2):=by
  have lt2:B8 h1 (pV L.length 2)=A4 (.c xt):=C4 (f3.rd rcQ) (by rw [ecs];rfl) rfl;have ltl:=(hxt.since f3).len;have lv1:B8 h1 (pV H.length 1)=A4 (iV n):=C4 (f3.rd rvQ) rfl rfl;have cn:¬ n+1<=n:=by omega
  have c00:((0:Nat):Int)=0:=rfl;rw [c00] at u1;rw [C3F,z8];generalize encI (zI 8)=Z at *;generalize vwC D.length n m f=V at *;generalize encI s0=S0 at *;simp only [esc,Nat.reduceAdd,<-hG,E3O,hO,hS5,k4,hC,hS6,lc5,ef,s8,eq_self];refine f1.trans ?_;rw [nF];simp only [esc,Nat.reduceAdd,lv1,cn,lt2,ltl];exact u1
 exact B7x key (by simp [Val.flat,Cell.flat])
end
noncomputable section
variable (n m m2:Nat) (a0 a1 a2:Val) (h:B5)
def A53:FD A8:=⟨px 0X14c2162ec2688664881c5bc06152122c01168806880040123211012,[.c .np],[.min (.t 3) (.v (.c (.i .i64 512))),.max (.v (.c (.i .i64 16))) (.t 4),.build ([.ns,o0,.b A6,.b A6,o0,o0]) [(0,1,(.t 7))]],[.tmp 2],[]⟩
def C5n:=A53.R
def C9h:=mR C5n A53 (tT []) n [a0] h
def C4U:=A53.K Tryz.func154
def B4U:=A53.Q
theorem C9G:SOk A8 154 B4U:=C4U.ok
theorem C9F:OfT C5n B4U:=C4U.of
def mM:FD A8:=⟨px 0X14c2161c861c064c639c051621201121121224068800240220131211012,[],[.eqN A6 A6 (.t 3)],[.tmp 2],[]⟩
def uH:=mM.R
def B2N:=mR uH mM (tT []) n [a0] h
def A4K:=mM.K Tryz.func204
def uN:=mM.S
theorem zM:SOk A8 204 uN:=A4K.sok
theorem A8Y:F6 uH uN:=A4K.flat
def oI:FD A8:=⟨px 0X114114120119411412241c81d1634a2a863a4487f6481cb6481f06484f64839f04834483601617c41e11c1d12169411412246818161c364c639c0191518103215411412243c510688061351032050314111022,[.c (.b A5)],[.eqN A6 A6 (.t 6)],[.tmp 4],[]⟩
def yO:=oI.R
def B4t:=mR yO oI (tT []) n [a0,a1] h
def A71:=oI.K Tryz.func238
def Z9:=oI.S
theorem A1f:SOk A8 238 Z9:=A71.sok
theorem A9X:F6 yO Z9:=A71.flat
def eQ:FD A8:=⟨px 0X1a21fa464c2e39c5607c61c464c639c41c1818241627c021d23122,[],[],[],[]⟩
def zK:=eQ.R
def A6l:=mR zK eQ (tT []) n [a0,a1] h
def B2J:=eQ.K Tryz.func239
def Q6:=eQ.Q
theorem A40:D9u A8 239 Q6:=D7I (D7s _) Tryz.func239 (by kernel_rfl)
theorem A6K:OfT zK Q6:=B2J.of
def B6j:DFn:=⟨[([1,3,5,6],(.ops [aB 3 0,aB 5 2,aO 6 (.alloc ([o0]))])),([1,3,5,6],(sO [1,3,5,6] [aL 7 3,aM 8 1,aO 9 (.call 238 [(.t 7),(.t 8)]),aN (.store1 (.t 6) (.t 9))] (sO [1,3,5,6,11] [aL 10 6,aO 11 (.bin .neq (.t 10) (.v (iV 0)))] (.cond (.t 11) (sO [6] [aL 12 6,aN (.store1 (.t 6) (.t 12))] .ret) .skip))))],[1,3,5,6],13,239,[(.t 6),(.t 3)],(.seq [1,3,5,6] (sO [1,3,5,6,24] [aL 14 3,aO 15 (.nilc (.t 14)),aF 16 15 2,aL 17 16,aM 18 17,aG 19 18 A5 (.load1 (.t 3)),aG 20 18 A5 (.nilc (.t 19)),aG 21 18 A5 (.fAddr (.t 20) 1),aG 22 18 A5 (.load1 (.t 21)),aG 23 18 A5 (.bin .eql (.t 22) (.v (iV 0))),aO 24 (.pick (.t 18) (.t 23) (.v (bV A6)))] (.cond (.t 24) (sO [6] [aL 25 3,aO 26 (.nilc (.t 25)),aF 27 26 3,aN (.store1 (.t 27) (.v (bV A5)))] (sO [6] [aN (.store1 (.t 6) (.v (iV 12)))] .ret)) .skip)) (.seq [1,3,5,6] (sO [1,3,5,6,31] [aL 28 3,aO 29 (.nilc (.t 28)),aF 30 29 2,aL 31 30] (.cond (.t 31) (.ops [aL 32 3,aO 33 (.nilc (.t 32)),aF 34 33 1,aL 35 34,aO 36 (.bin .sub (.t 35) (.v (iV 1))),aO 37 (.nilc (.t 32)),aF 38 37 1,aN (.store1 (.t 38) (.t 36))]) .skip)) (.seq [6] (.draw 0 [aL 39 3,aO 40 (.nilc (.t 39)),aF 41 40 0,aL 42 41,aM 43 1,aL' 44 256 5] [aO 45 (.iAddrL 256 (.t 42) (.t 43)),aN (.storeN 256 (.t 45) (.t 44))]) (sO [6] [aN (.store1 (.t 6) (.v (iV 0)))] .ret)))),[.cell1 6]⟩
def B6k:O3:=E0e 238 Z9 D4Q
def rB:Fun:=B6j.run B6k Q6 0
theorem A9W:SOk A8 205 rB:=D95 (D64 A1f D63) A40 Tryz.func205 (by kernel_rfl)
theorem A9V:rB [a0,a1,a2] h=bnd (cells? a0) λc1=>bnd (cells? a2) λc2=>bnd (B8 (((h++[rT (c1)])++[rT (c2)])++[rT ([o0])]) (pV h.length 0)) λv3=>bnd (Z9 [v3,a1] (((h++[rT (c1)])++[rT (c2)])++[rT ([o0])])) λp4=>bnd (I3 p4.2 (pV ((h++[rT (c1)])++[rT (c2)]).length 0) p4.1) λh5=>bnd (B8 h5 (pV ((h++[rT (c1)])++[rT (c2)]).length 0)) λv6=>bnd (O4 .neq v6 (iV 0)) λv7=>cnd v7 (bnd (B8 h5 (pV ((h++[rT (c1)])++[rT (c2)]).length 0)) λv8=>bnd (I3 h5 (pV ((h++[rT (c1)])++[rT (c2)]).length 0) v8) λh9=>mp (B8 h9 (pV ((h++[rT (c1)])++[rT (c2)]).length 0)) λv=>(v,h9)) (bnd (B5H 239 [(pV ((h++[rT (c1)])++[rT (c2)]).length 0),(pV h.length 0)]) λv10=>bnd (B8 h5 (pV h.length 0)) λv11=>bnd (A49 v11) λv12=>bnd (rU v12 2) λv13=>bnd (B8 h5 v13) λv14=>bnd (gd v14 A5 (bnd (B8 h5 (pV h.length 0)) λv15=>A4 (v15,h5)) (A4 (.no,h5))) λp16=>bnd (gd v14 A5 (bnd (A49 p16.1) λv17=>A4 (v17,p16.2)) (A4 (.no,p16.2))) λp18=>bnd (gd v14 A5 (bnd (rU p18.1 1) λv19=>A4 (v19,p18.2)) (A4 (.no,p18.2))) λp20=>bnd (gd v14 A5 (bnd (B8 p20.2 p20.1) λv21=>A4 (v21,p20.2)) (A4 (.no,p20.2))) λp22=>bnd (gd v14 A5 (bnd (O4 .eql p22.1 (iV 0)) λv23=>A4 (v23,p22.2)) (A4 (.no,p22.2))) λp24=>bnd (D4n v14 p24.1 (bV A6)) λv25=>cnd v25 (bnd (B8 p24.2 (pV h.length 0)) λv26=>bnd (A49 v26) λv27=>bnd (rU v27 3) λv28=>bnd (I3 p24.2 v28 (bV A5)) λh29=>bnd (I3 h29 (pV ((h++[rT (c1)])++[rT (c2)]).length 0) (iV 12)) λh30=>bnd (B7X Q6 v10 h30) λp31=>mp (B8 p31.2 (pV ((h++[rT (c1)])++[rT (c2)]).length 0)) λv=>(v,p31.2)) (bnd (B8 p24.2 (pV h.length 0)) λv32=>bnd (A49 v32) λv33=>bnd (rU v33 2) λv34=>bnd (B8 p24.2 v34) λv35=>cnd v35 (bnd (B8 p24.2 (pV h.length 0)) λv36=>bnd (A49 v36) λv37=>bnd (rU v37 1) λv38=>bnd (B8 p24.2 v38) λv39=>bnd (O4 .sub v39 (iV 1)) λv40=>bnd (A49 v36) λv41=>bnd (rU v41 1) λv42=>bnd (I3 p24.2 v42 v40) λh43=>bnd (B8 h43 (pV h.length 0)) λv44=>bnd (A49 v44) λv45=>bnd (rU v45 0) λv46=>bnd (B8 h43 v46) λv47=>bnd (D4 h43 256 (pV (h++[rT (c1)]).length 0)) λv48=>bnd (E1 256 v47 a1) λv49=>bnd (E6 (h43++[]) 256 v49 v48) λh50=>bnd (I3 h50 (pV ((h++[rT (c1)])++[rT (c2)]).length 0) (iV 0)) λh51=>bnd (B7X Q6 v10 h51) λp52=>mp (B8 p52.2 (pV ((h++[rT (c1)])++[rT (c2)]).length 0)) λv=>(v,p52.2)) (bnd (B8 p24.2 (pV h.length 0)) λv53=>bnd (A49 v53) λv54=>bnd (rU v54 0) λv55=>bnd (B8 p24.2 v55) λv56=>bnd (D4 p24.2 256 (pV (h++[rT (c1)]).length 0)) λv57=>bnd (E1 256 v56 a1) λv58=>bnd (E6 (p24.2++[]) 256 v58 v57) λh59=>bnd (I3 h59 (pV ((h++[rT (c1)])++[rT (c2)]).length 0) (iV 0)) λh60=>bnd (B7X Q6 v10 h60) λp61=>mp (B8 p61.2 (pV ((h++[rT (c1)])++[rT (c2)]).length 0)) λv=>(v,p61.2)))):=by kernel_rfl
def gJ:FD A8:=⟨px 0X1a21fa564c439c5607c61c564c639c61c1818,[],[],[],[]⟩
def A02:=gJ.R
def A8U:=mR A02 gJ (tT []) n [a0] h
def B4q:=gJ.K Tryz.func240
def W5:=gJ.Q
theorem A6J:D9u A8 240 W5:=D7I (D7s _) Tryz.func240 (by kernel_rfl)
theorem A8X:OfT A02 W5:=B4q.of
def B9d:DFn:=⟨[([1,2,4],(.ops [aB 2 0,aO 4 (.alloc (E68 256 (.i .u8 0))),aO 5 (.mv (.v (iV 0)))])),([1,2,4],(sO [1,2,4,5] [aL 6 2,aM 7 1,aO 8 (.call 238 [(.t 6),(.t 7)]),aM 5 8] (sO [1,2,4,5,10] [aM 9 5,aO 10 (.bin .neq (.t 9) (.v (iV 0)))] (.cond (.t 10) (sO [4,5] [aL' 11 256 4,aM 12 5,aN (.storeN 256 (.t 4) (.t 11)),aM 5 12] .ret) .skip))))],[1,2,4],13,240,[(.t 2)],(sO [4,5] [aL 14 2,aO 15 (.nilc (.t 14)),aF 16 15 0,aL 17 16,aM 18 1,aO 19 (.iAddrL 256 (.t 17) (.t 18)),aL' 20 256 19,aN (.storeN 256 (.t 4) (.t 20)),aO 5 (.mv (.v (iV 0)))] .ret),[.cellN 4 256,.tmp 5]⟩
def B9e:O3:=E0e 238 Z9 D4Q
def uM:Fun:=B9d.run B9e W5 0
theorem B2V:SOk A8 206 uM:=D95 (D64 A1f D63) A6J Tryz.func206 (by kernel_rfl)
theorem B2U:uM [a0,a1] h=bnd (cells? a0) λc1=>bnd (B8 ((h++[rT (c1)])++[rT (E68 256 (.i .u8 0))]) (pV h.length 0)) λv2=>bnd (Z9 [v2,a1] ((h++[rT (c1)])++[rT (E68 256 (.i .u8 0))])) λp3=>bnd (O4 .neq p3.1 (iV 0)) λv4=>cnd v4 (bnd (D4 p3.2 256 (pV (h++[rT (c1)]).length 0)) λv5=>bnd (E6 p3.2 256 (pV (h++[rT (c1)]).length 0) v5) λh6=>C9a [D4 h6 256 (pV (h++[rT (c1)]).length 0),A4 p3.1] h6) (bnd (B5H 240 [(pV h.length 0)]) λv7=>bnd (B8 p3.2 (pV h.length 0)) λv8=>bnd (A49 v8) λv9=>bnd (rU v9 0) λv10=>bnd (B8 p3.2 v10) λv11=>bnd (E1 256 v11 a1) λv12=>bnd (D4 p3.2 256 v12) λv13=>bnd (E6 p3.2 256 (pV (h++[rT (c1)]).length 0) v13) λh14=>bnd (B7X W5 v7 h14) λp15=>C9a [D4 p15.2 256 (pV (h++[rT (c1)]).length 0),A4 (iV 0)] p15.2):=by kernel_rfl
def jL:FD A8:=⟨px 0X1582162e4883cc61c064c639c0000048853fd72120148823b91212240688002402201348823b91012,[],[.eqN A6 A6 (.t 3)],[.tmp 2],[]⟩
def qS:=jL.R
def A9m:=mR qS jL (tT []) n [a0] h
def A2s:=jL.K Tryz.func84
def rA:=jL.S
theorem A9U:SOk A8 84 rA:=A2s.sok
theorem A8W:oP qS rA:=A2s.out
end
def dkC (q len:Nat) (w r:Int):List Cell:=[.sl q 0 len 256,o0,.b A6,.b A6,.i .i64 w,.i .i64 r]
structure IsDk (h:B5) (p q:Nat) (D:Dev) (w r:Int):Prop where
 ne:p≠q
 row:rd h p=rT (dkC q D.length w r)
 blk:rd h q=rT (D5 D)
def But (p q:Nat) (h h':B5):Prop:=h.length<=h'.length/\∀ id,id<h.length->id≠p->id≠q->rd h' id=rd h id
theorem But.refl (p q:Nat) (h:B5):But p q h h:=⟨E7b _,λ_ _ _ _=>rfl⟩
theorem But.trans {p q:Nat} {h h' h'':B5} (a:But p q h h') (b:But p q h' h''):But p q h h'' :=
 ⟨E7K a.1 b.1,λid hid h1 h2=>(b.2 id (by have:=a.1;omega) h1 h2).trans (a.2 id hid h1 h2)⟩
theorem But.more {p q:Nat} {h h':B5} (a:But p q h h') (t:B5):But p q h (h'++t) :=
 ⟨by have:=a.1;simp;omega,λid hid h1 h2=>by rw [D9 (by have:=a.1;omega)];exact a.2 id hid h1 h2⟩
theorem But.set {p q id:Nat} {h h':B5} {x:Option Row} (a:But p q h h') (hid:h.length<=id\/id=p\/id=q):But p q h (h'.set id x) :=
 ⟨by simpa using a.1,λj hj h1 h2=>by rw [B6 (by omega)];exact a.2 j hj h1 h2⟩
theorem IsDk.more {h:B5} {p q:Nat} {D:Dev} {w r:Int} (k:IsDk h p q D w r) (t:B5):IsDk (h++t) p q D w r:=⟨k.ne,C5 k.row,C5 k.blk⟩
theorem IsDk.setO {h:B5} {p q id:Nat} {D:Dev} {w r:Int} {x:Option Row} (k:IsDk h p q D w r) (h1:id≠p) (h2:id≠q):IsDk (h.set id x) p q D w r :=
 ⟨k.ne,by rw [B6 h1];exact k.row,by rw [B6 h2];exact k.blk⟩
theorem IsDk.ro {h:B5} {p q:Nat} {D:Dev} {w r:Int} (k:IsDk h p q D w r):rd (ro h) p=A4 ⟨dkC q D.length w r,A6⟩/\rd (ro h) q=A4 ⟨D5 D,A6⟩:=by
 have e1:(Row.mk (dkC q D.length w r) A5).head=A6:=rfl;refine ⟨B8Z k.row e1,B8Z k.blk ?_⟩;cases hD:D5 D with
 | nil=>rfl
 | cons c l =>
  have:=dX D;rw [hD] at this;cases c<;>first | rfl | (simp [noX,Cell.isX] at this)
theorem D4P {N:Nat} {h:B5} (h1:16<=N) (h2:N<=512):B4U [iV (N:Int)] h=A4 (pV (h.length+1) 0,h++[rT (D5 (E68 N (zeros 256))),rT (dkC h.length N 0 0)]):=by
 refine C9F (n:=0) ?_;have m1:B7S (iV (N:Int)) (iV 512)=A4 (iV (N:Int)):=by simp only [B7S];simp;omega
 have m2:C64 (iV 16) (iV (N:Int))=A4 (iV (N:Int)):=by simp only [C64];simp;omega
 have mk:=D9E (N:=N) (by omega);have ef:E4 [.ns,o0,.b A6,.b A6,o0,o0] [(0,1,sV h.length 0 N 256)]=A4 (dkC h.length N 0 0):=rfl;rw [C9h];simp only [esc,m1,m2,mk,ef,D5I]
section
variable {h:B5} {p q:Nat} {D:Dev} {w r:Int}
theorem B72 (k:IsDk h p q D w r):uN [pV p 0] h=A4 (iV (D.length:Nat),h):=by
 have l0:B8 (ro h) (pV p 0)=A4 (sV q 0 D.length 256):=C4 k.ro.1 rfl rfl;have key:uH 0 [pV p 0] (ro h)=A4 (iV (D.length:Nat),ro h):=by
  rw [B2N];simp only [esc,l0]
 exact A8Y key rfl
theorem C2L {no:Nat} (k:IsDk h p q D w r) (cH:no<D.length):Z9 [pV p 0,iV (no:Int)] h=A4 (iV 0,h):=by
 have l0:B8 (ro h) (pV p 0)=A4 (sV q 0 D.length 256):=C4 k.ro.1 rfl rfl;have l3:B8 (ro h) (pV p 3)=A4 (bV A6):=C4 k.ro.1 rfl rfl;have c0:¬ (no:Int)<0:=by omega
 have c1:¬ (no:Int)>=(D.length:Nat):=by omega
 have key:yO 0 [pV p 0,iV (no:Int)] (ro h)=A4 (iV 0,ro h):=by
  rw [B4t];simp only [esc,Nat.reduceAdd,l0,l3,c0,c1]
 exact A9X key rfl
theorem C4u {a b:Nat} (k:IsDk h p q D w r) (ha:rd h a=rT [o0]) (hb:rd h b=rT [.p p 0]) (hw:0<=w/\w<1000) :
  Q6 [pV a 0,pV b 0] h=A4 (.t [],h.set p (rT (dkC q D.length (w+1) r))):=by
 refine A6K (n:=0) ?_;have l1:B8 h (pV a 0)=A4 (iV 0):=C4 ha rfl rfl;have l2:B8 h (pV b 0)=A4 (pV p 0):=C4 hb rfl rfl;have l3:B8 h (pV p 4)=A4 (iV w):=C4 k.row rfl rfl;have s1:I3 h (pV p 4) (iV (w+1))=A4 (h.set p (rT (dkC q D.length (w+1) r))):=by rw [G9 k.row (by simp [dkC])];rfl
 have ww:IntKind.wrap .i64 (w+1)=w+1:=wrap_i64 (by omega) (by omega);rw [A6l];simp only [esc,Nat.reduceAdd,l1,l2,l3,ww,s1];rfl
theorem A4g {no:Nat} {b:List UInt8} (k:IsDk h p q D w r) (hD:okD D) (hb:b.length=256) (cH:no<D.length) (hw:0<=w/\w<1000) :
  ∃ h',rB [pV p 0,iV (no:Int),.a (B4 b)] h=A4 (iV 0,h')/\IsDk h' p q (D.set no b) (w+1) r/\But p q h h':=by
 have kp:=C8 k.row;have kq:=C8 k.blk;obtain ⟨G,hG⟩:∃ G,G=h++[rT [.p p 0],rT (B4 b),rT [o0]]:=⟨_,rfl⟩;have kG:IsDk G p q D w r:=by rw [hG];exact k.more _
 have lG:G.length=h.length+3:=by rw [hG];simp
 have r0:rd G h.length=rT [.p p 0]:=by rw [hG,E9];rfl
 have r1:rd G (h.length+1)=rT (B4 b):=by rw [hG,L5];rfl
 have r2:rd G (h.length+2)=rT [o0]:=by rw [hG,L5];rfl
 have hm:=C2L kG cH;have l0:B8 G (pV h.length 0)=A4 (pV p 0):=C4 r0 rfl rfl;have lb:D4 G 256 (pV (h.length+1) 0)=A4 (.a (B4 b)):=C7 r1 (by rw [A9,hb]);have l2:B8 G (pV (h.length+2) 0)=A4 (iV 0):=C4 r2 rfl rfl;have s2:I3 G (pV (h.length+2) 0) (iV 0)=A4 G:=by
  rw [G9 r2 (by simp),hG];simp
 have d0:B8 G (pV p 0)=A4 (sV q 0 D.length 256):=C4 kG.row rfl rfl;have d2:B8 G (pV p 2)=A4 (bV A6):=C4 kG.row rfl rfl;have ad:E1 256 (sV q 0 D.length 256) (iV (no:Int))=A4 (pV q (no*256)):=by rw [C9 cH];simp
 have sd:E6 G 256 (pV q (no*256)) (.a (B4 b))=A4 (G.set q (rT (D5 (D.set no b)))):=A50 kG.blk hD hb cH;have n2:h.length+2≠q:=by omega
 have n2p:h.length+2≠p:=by omega
 obtain ⟨H,hH⟩:∃ H,H=G.set q (rT (D5 (D.set no b))):=⟨_,rfl⟩;have kH:IsDk H p q (D.set no b) w r:=by
  rw [hH];refine ⟨k.ne,?_,?_⟩
  ·rw [B6 (Ne.symm k.ne),E7D];exact kG.row
  ·rw [C6 (by omega)]
 have q0:rd H h.length=rT [.p p 0]:=by rw [hH,B6 (by omega)];exact r0
 have q2:rd H (h.length+2)=rT [o0]:=by rw [hH,B6 (by omega)];exact r2
 have s3:I3 H (pV (h.length+2) 0) (iV 0)=A4 H:=by
  rw [G9 q2 (by simp)];have:H.set (h.length+2) (rT ([o0].set 0 o0))=H:=by
   rw [rd_some] at q2;refine List.ext_getElem? λi=>?_
   rw [List.getElem?_set];split
   ·rename_i e;subst e;have hl:=(List.getElem?_eq_some_iff.1 q2).1;rw [if_pos hl,q2];rfl
   ·rfl
  rw [this]
 have hW:=C4u kH q2 q0 hw;have hcd:B7X Q6 (.c (.f 239 [(h.length+2,0),(h.length,0)])) H=A4 (.t [],H.set p (rT (dkC q (D.set no b).length (w+1) r))):=hW;have l4:B8 (H.set p (rT (dkC q (D.set no b).length (w+1) r))) (pV (h.length+2) 0)=A4 (iV 0):=C4 (by rw [B6 (by omega)];exact q2) rfl rfl;refine ⟨H.set p (rT (dkC q (D.set no b).length (w+1) r)),?_,⟨k.ne,?_,?_⟩,?_⟩
 ·rw [A9V];have e1:cells? (pV p 0)=A4 [.p p 0]:=rfl;have e2:cells? (.a (B4 b))=A4 (B4 b):=rfl;have mf:B5H 239 [pV (h.length+2) 0,pV h.length 0]=A4 (.c (.f 239 [(h.length+2,0),(h.length,0)])):=rfl;simp only [e1,e2,P9,E7c,E7E,E7m,E7a,E7g,E7v,E7t,Nat.reduceAdd,<-hG];simp only [esc,Nat.reduceAdd,l0,hm,s2,l2,mf,d0,d2,lb,ad,sd,<-hH,s3,hcd,l4]
 ·rw [C6 (by rw [hH];simp;omega)]
 ·rw [B6 k.ne];exact kH.blk
 ·refine But.set ?_ (.inr (.inl rfl));rw [hH];refine But.set ?_ (.inr (.inr rfl));rw [hG];exact (But.refl p q h).more _
theorem D2X {no:Nat} (k:IsDk h p q D w r) (hD:okD D) (cH:no<D.length) (hr:0<=r/\r<1000) :
  ∃ h',uM [pV p 0,iV (no:Int)] h=A4 (.t [.a (B4 D[no]),.c o0],h')/\IsDk h' p q D w (r+1)/\But p q h h':=by
 have kp:=C8 k.row;have kq:=C8 k.blk;obtain ⟨G,hG⟩:∃ G,G=h++[rT [.p p 0],rT (B4 (zeros 256))]:=⟨_,rfl⟩;have kG:IsDk G p q D w r:=by rw [hG];exact k.more _
 have lG:G.length=h.length+2:=by rw [hG];simp
 have r0:rd G h.length=rT [.p p 0]:=by rw [hG,E9];rfl
 have r1:rd G (h.length+1)=rT (B4 (zeros 256)):=by rw [hG,L5];rfl
 have hm:=C2L kG cH;have l0:B8 G (pV h.length 0)=A4 (pV p 0):=C4 r0 rfl rfl;have d0:B8 G (pV p 0)=A4 (sV q 0 D.length 256):=C4 kG.row rfl rfl;have ad:E1 256 (sV q 0 D.length 256) (iV (no:Int))=A4 (pV q (no*256)):=by rw [C9 cH];simp
 have ld:D4 G 256 (pV q (no*256))=A4 (.a (B4 D[no])):=by
  rw [dI kG.blk (by rw [J0 hD];omega) rfl,cV hD cH]
 have sb:E6 G 256 (pV (h.length+1) 0) (.a (B4 D[no]))=A4 (G.set (h.length+1) (rT (B4 D[no]))):=storeAll r1 (by rw [A9,zeros_length]) (by rw [A9,hD.at cH]);obtain ⟨H,hH⟩:∃ H,H=G.set (h.length+1) (rT (B4 D[no])):=⟨_,rfl⟩;have kH:IsDk H p q D w r:=by rw [hH];exact kG.setO (by omega) (by omega)
 have q0:rd H h.length=rT [.p p 0]:=by rw [hH,B6 (by omega)];exact r0
 have q1:rd H (h.length+1)=rT (B4 D[no]):=by rw [hH,C6 (by omega)]
 have ww:IntKind.wrap .i64 (r+1)=r+1:=wrap_i64 (by omega) (by omega);have h1:W5 [pV h.length 0] H=A4 (.t [],H.set p (rT (dkC q D.length w (r+1)))):=by
  refine A8X (n:=0) ?_;have l1:B8 H (pV h.length 0)=A4 (pV p 0):=C4 q0 rfl rfl;have l3:B8 H (pV p 5)=A4 (iV r):=C4 kH.row rfl rfl;have s1:I3 H (pV p 5) (iV (r+1))=A4 (H.set p (rT (dkC q D.length w (r+1)))):=by rw [G9 kH.row (by simp [dkC])];rfl
  rw [A8U];simp only [esc,Nat.reduceAdd,l1,l3,ww,s1];rfl
 have hcd:B7X W5 (.c (.f 240 [(h.length,0)])) H=A4 (.t [],H.set p (rT (dkC q D.length w (r+1)))):=h1;have l4:D4 (H.set p (rT (dkC q D.length w (r+1)))) 256 (pV (h.length+1) 0)=A4 (.a (B4 D[no])):=C7 (by rw [B6 (by omega)];exact q1) (by rw [A9,hD.at cH]);refine ⟨H.set p (rT (dkC q D.length w (r+1))),?_,⟨k.ne,?_,?_⟩,?_⟩
 ·rw [B2U];have e1:cells? (pV p 0)=A4 [.p p 0]:=rfl;have mf:B5H 240 [pV h.length 0]=A4 (.c (.f 240 [(h.length,0)])):=rfl;have ez:E68 256 (Cell.i .u8 0)=B4 (zeros 256):=I7 256;simp only [e1,ez,P9,E7c,E7E,E7m,E7a,E7g,E7v,E7t,Nat.reduceAdd,<-hG];simp only [esc,Nat.reduceAdd,l0,hm,mf,d0,ad,ld,sb,<-hH,hcd,l4,D7O]
 ·rw [C6 (by rw [hH];simp;omega)]
 ·rw [B6 k.ne];exact kH.blk
 ·refine But.set ?_ (.inr (.inl rfl));rw [hH];refine But.set ?_ (.inl (by omega));rw [hG];exact (But.refl p q h).more _
theorem C99 (k:IsDk h p q D w r) (hD:okD D) (hl:D.length<=512):rA [pV p 0] h=A4 (sV h.length 0 D.length 256,h++[rT (D5 D)]):=by
 obtain ⟨G,hG⟩:∃ G,G=ro h++[rT [],rT []]:=⟨_,rfl⟩;have d0:B8 G (pV p 0)=A4 (sV q 0 D.length 256):=by rw [hG];exact C4 (C5 k.ro.1) rfl rfl
 have hQ:Has G (sV q 0 D.length 256) 256 D.length (D5 D):=by
  rw [hG];exact Has.row (C5 k.ro.2) (J0 hD) (dX D)
 have rI:rd G ((ro h).length+1)=rT []:=by rw [hG,L5];rfl
 have ho:Out (ro h).length G (sV ((ro h).length+1) 0 0 256) 256 0 []:=⟨rfl,(ro h).length+1,rfl,by omega,rI⟩;obtain ⟨id,v',h',e1,e2,e3,_⟩:=ho.app (m:=D.length) (by omega) hQ.add (by rw [J0 hD]) (by omega);have key:qS 0 [pV p 0] (ro h)=A4 (v',h'):=by
  rw [A9m];have ef:E4 [] []=A4 []:=rfl;simp only [E7c,E7E,E7m,E7a,E7g,E7v,E7t,Nat.reduceAdd,ef,P9,<-hG];simp only [esc,Nat.reduceAdd,d0,e2]
 rw [E7t,E7m] at e3;exact A8W key (by rw [F7] at e3;exact e3) gY
end
noncomputable section
variable (n m m2:Nat) (a0:Val) (h:B5)
def A16:FD A8:=⟨px 0X1482162ec26881688051521201321121224068800240220133211012,[.c .np],[.eqN A6 A6 (.t 3),.mkMap,.build ([.np,.nm,.ns,o0]) [(0,1,(.t 5)),(1,1,(.t 6))]],[.tmp 2],[]⟩
def C11:=A16.R
def C5l:=mR C11 A16 (tT []) n [a0] h
def C1q:=A16.K Tryz.func207
def A9O:=A16.Q
theorem C54:SOk A8 207 A9O:=C1q.ok
theorem C53:OfT C11 A9O:=C1q.of
end
noncomputable section
variable (n m m2:Nat) (a0 a1 x0 x3 x5 x7 x8:Val) (h:B5)
def X6:FD A8:=⟨px 0X13fc41611a351ac2c4883807d14412013e8415802412241637c587a127b1a50423cc1a162a2e351ac26171ac6161ac1c338021ac06c150191a50335023298715607c3c4913180139c414c02412241637c4c69126a1975306238819161a1e351ac48488383c00051975305206484881de12e6802a5b692d84f1611a341ac513511191033b3e84848858397182461e27c5607c021ac3c4b144e18753062187530511a1c182d9118753052157530430702461e17c6131ac1c3383c3d14487530527530437530406051e8715607c023b1ad37530425303301194114122461e37c161c01c4c6111ac02e140193a530435303301541141224631e2a81634c7f6e4c3600688028162d53042530337c07824881de1c52d912a6801e1e696c1b16101ac4e31c391865304210432ed23022,[.c (.b A5)],[.eqN A6 A6 (.t 16)],[.tmp 4],[cal B0C,cal zM,cal wL,cal A1l,cal A8g,cal A9W,cal B3B,cal A78]⟩
def A9F:=X6.R
def C4H:AtH:=X6.lj 0 n [m] [x0,x3,x5,x7]
def C4G:AtH:=X6.lj 1 n [m] [x0,x3,x5,x7,x8]
def A1u:=tT [⟨2,4,C4H⟩,⟨2,5,C4G⟩]
def B66:=mR A9F X6 A1u n [a0,a1] h
def A1V:=mL X6 A1u 0 n [m] [x0,x3,x5,x7] h
def B6g:=mJ X6 A1u 1 n [m] [x0,x3,x5,x7,x8] h
def A9h:=X6.K Tryz.func155
def A1r:=X6.Q
theorem B7E:SOk A8 155 A1r:=A9h.ok
theorem B7D:OfT A9F A1r:=A9h.of
def wE:FD A8:=⟨px 0X1102a82162ec268841068e383386131ac03f141193223016d03212322224673a2a861e3687f2612681af06836681f038684f601637c2c2e170193e603360231ac511a8231de2a62d912a6801e2c6919c2916111ac7a4882a3918650320118803215e033222241637c4e1e121f5404240236c06824881de1c42d912a6801e1c695c19116201ac01a11854032015032123222240688071218022013103212012,[.c .np,.c (.b A5)],[.eqN A6 A6 (.t 7),.mkMap,.build ([.np,o0,o0,.i .u64 0,o0,.nm]) [(0,1,(.t 32)),(1,3,(.t 33)),(5,1,(.t 34))]],[.tmp 2,.tmp 3],[cal B2V,cal B0A,cal zM,cal C54]⟩
def B3v:=wE.R
def B9I:=mR B3v wE (tT []) n [a0] h
def B3p:=wE.K Tryz.func156
def A37:=wE.Q
theorem C0E:SOk A8 156 A37:=B3p.ok
theorem C0D:OfT B3v A37:=B3p.of
end
noncomputable section
variable (n m m2:Nat) (a0:Val) (h:B5)
def zW:FD A8:=⟨px 0X11ac01a8212c0282c14322219c01985112a6801e2a6918c1f16121ac6a28175422013078215a033222241637c61a211ac43383a1a141d4224134c416101ac61c0474d44122303062ec3112,[.c .np],[],[.tmp 2,.tmp 3],[cal C9G,cal B7E,cal C0E]⟩
def B6R:=zW.R
def C3n:=mR B6R zW (tT []) n [a0] h
def B6t:=zW.K Tryz.func83
def A6L:=zW.Q
theorem A79:SOk A8 83 A6L:=B6t.ok
theorem C3P:OfT B6R A6L:=B6t.of
end
noncomputable section
variable (n m m2:Nat) (h:B5)
def A54:FD A8:=⟨px 0X12631de49111891022a3e820122a02d91012,[],[],[.cellN 0 3],[]⟩
def B4u:=A54.R
def C9i:=mR B4u A54 (tT []) n [] h
def C4V:=A54.K Tryz.func39
def B4V:=A54.S
theorem C9I:SOk A8 39 B4V:=C4V.sok
theorem C3Q:F6 B4u B4V:=C4V.flat
end
noncomputable section
variable (n m m2:Nat) (a0:Val) (h:B5)
def mN:FD A8:=⟨px 0X15c216111ac3e1a132124c0483112a6801e18693c516101ac4363973124883b862ec2112,[],[],[.tmp 2],[cal A79,cal A9U]⟩
def uI:=mN.R
def B2O:=mR uI mN (tT []) n [a0] h
def A4L:=mN.K Tryz.func38
def uO:=mN.S
theorem B2W:SOk A8 38 uO:=A4L.sok
theorem A9Y:oP uI uO:=A4L.out
end
def map40:List UInt8:=fK [0,1,2]
def tab40:List UInt8:=J1 (zeros 256) (32*0) (gZ 2 1 0 1 (zI 7))
def D40a:Dev:=(E68 16 (zeros 256)).set 2 tab40
def D40b:Dev:=D40a.set 1 map40
def D40:Dev:=D40b.set 0 (jH 16 8 0)
theorem A0z:map40.length=256:=by unfold map40 fK;rw [dF,zeros_length]
theorem A0D:tab40.length=256:=by decide +kernel
theorem okD40a:okD D40a:=(C1f 16).set A0D
theorem okD40b:okD D40b:=okD40a.set A0z
theorem okD40:okD D40:=okD40b.set U4
theorem E2r:D40a.length=16:=by unfold D40a;rw [E7D,E7B]
theorem E2s:D40b.length=16:=by unfold D40b;rw [E7D,E2r]
theorem A4w:D40.length=16:=by unfold D40;rw [E7D,E2s]
theorem D10 {h t:B5} {v:Val} (hn:t.all B8G=A5):quiet h (A4 (v,h++t))=A4 (v,h++t):=by
 have:=D11 (g:=h) (l:=[]) (l':=t) (v:=v) (List.nil_prefix) (by simpa using hn);simpa using this
theorem E0D (h:B5):B4V [] h=A4 (.a (D8 16 8 0),h):=by
 have key:∀ g,∃ g',B4u 0 [] g=A4 (.a (D8 16 8 0),g'):=λg=>by
  have ef:E4 [o0,o0,.i .u64 0] [(0,1,iV 16),(1,1,iV 8)]=A4 (D8 16 8 0):=rfl;have st:E6 (g++[rT [o0,o0,.i .u64 0]]) 3 (pV g.length 0) (.a (D8 16 8 0))=A4 (g++[rT (D8 16 8 0)]):=by rw [L7];rfl
  have ll:ldN (rT (D8 16 8 0)) 0 3=A4 (.a (D8 16 8 0)):=rfl;rw [C9i];generalize D8 16 8 0=L at *;exact ⟨_,by simp only [esc,ef,st,Q9,ll]<;>rfl⟩
 obtain ⟨g',e⟩:=key (ro h);exact C3Q e rfl
theorem C4F {p q:Nat} {h:B5} (k:IsDk h p q (E68 16 (zeros 256)) 0 0) :
  ∃ h',A1r [pV p 0,.a (D8 16 8 0)] h=A4 (iV 0,h')/\IsDk h' p q D40 3 0/\But p q h h':=by
 have kp:=C8 k.row;have kq:=C8 k.blk;have hm:S4 16 8=A5:=by decide
 have hp:=λh=>B89 (b:=16) (n:=8) (m:=0) (h:=h) (by omega) (by omega)
 simp only [hm,cond_true] at hp;have E45:∀ h,A2G [.a (D8 16 8 0)] h=A4 (iV 3,h):=λh=>A0w
 have vH:=λh=>C2Y (b:=16) (n:=8) (m:=0) (h:=h)
 have ed:(kY 16 8).toNat=3:=by decide
 rw [ed] at vH;have hT:∀ h,A0m [.a (B4 (zeros 256)),iV 0,.a (F8 2 1 0 1 (zI 7))] h=A4 (.t [.a (B4 tab40),.c o0],h):=λh=>B4p (j:=0) (k:=2) (l:=1) (s:=0) (p:=1) (d:=zI 7) (b:=zeros 256) (h:=h) zeros_length rfl (by omega) (by decide)
 obtain ⟨G,hG⟩:∃ G,G=h++[rT (D8 16 8 0),rT (B4 (jH 16 8 0))]:=⟨_,rfl⟩;have lG:G.length=h.length+2:=by rw [hG];simp
 have kG:IsDk G p q (E68 16 (zeros 256)) 0 0:=by rw [hG];exact k.more _
 have r0:rd G h.length=rT (D8 16 8 0):=by rw [hG,E9];rfl
 have r1:rd G (h.length+1)=rT (B4 (jH 16 8 0)):=by rw [hG,L5];rfl
 obtain ⟨h1,w1,k1,b1⟩:=A4g (no:=2) (b:=tab40) (kG.more [rT (B4 tab40)]) (C1f 16) A0D (by simp) (by omega);have x1:rd h1 h.length=rT (D8 16 8 0):=by rw [b1.2 _ (by simp;omega) (by omega) (by omega)];exact C5 r0
 have y1:rd h1 (h.length+1)=rT (B4 (jH 16 8 0)):=by rw [b1.2 _ (by simp;omega) (by omega) (by omega)];exact C5 r1
 have lh1:=b1.1;rw [E7a] at lh1;have kO:=k1.more [rT (encI (upto 3))];obtain ⟨h2,w2,k2,b2⟩:=A4g (no:=1) (b:=map40) kO okD40a A0z (by simp) (by omega);have y2:rd h2 (h.length+1)=rT (B4 (jH 16 8 0)):=by rw [b2.2 _ (by simp;omega) (by omega) (by omega)];exact C5 y1
 have lh2:=b2.1;rw [E7a] at lh2;obtain ⟨h3,w3,k3,b3⟩:=A4g (no:=0) (b:=jH 16 8 0) k2 okD40b U4 (by simp) (by omega);have hC:=B3K (v:=sV h1.length 0 3 1) (nv:=3) (l:=[0,1,2]) (h:=h1++[rT (encI (upto 3))]) (by decide) (by decide) (Has.tr (cs:=encI (upto 3)) (by simp) rfl rfl);have eC:fK [0,1,2]=map40:=rfl;rw [eC] at hC;refine ⟨h3,?_,k3,?_⟩
 ·refine B7D (n:=9) ?_;have hSz:=B72 kG;have lR:((E68 16 (zeros 256)).length:Int)=16:=rfl;rw [lR] at hSz;have eS:E6 (h++[rT (D8 16 8 0),rT (B4 (zeros 256))]) 256 (pV (h.length+1) 0) (.a (B4 (jH 16 8 0)))=A4 G:=by
   rw [storeAll (cs:=B4 (zeros 256)) (by rw [L5];rfl) (by rw [A9,zeros_length]) (by rw [A9,U4]),hG,pA];rfl
  have l3:D4 (h++[rT (D8 16 8 0)]) 3 (pV h.length 0)=A4 (.a (D8 16 8 0)):=by rw [Q9];rfl
  have g0:B8 G (pV h.length 0)=A4 (iV 16):=C4 r0 rfl rfl;have g3:D4 G 3 (pV h.length 0)=A4 (.a (D8 16 8 0)):=C7 r0 rfl;have ef:E4 [o0,o0,o0,o0,o0,o0,o0,o0,o0,o0,o0] [(0,1,iV 2),(1,1,iV 1),(3,1,iV 1)]=A4 (F8 2 1 0 1 (zI 7)):=rfl;have lz:D4 (G++[rT (B4 (zeros 256))]) 256 (pV G.length 0)=A4 (.a (B4 (zeros 256))):=C7 (by rw [E9];rfl) (by rw [A9,zeros_length]);have sz:E6 (G++[rT (B4 (zeros 256))]) 256 (pV G.length 0) (.a (B4 tab40))=A4 (G++[rT (B4 tab40)]):=by
   rw [storeAll (cs:=B4 (zeros 256)) (by rw [E9];rfl) (by rw [A9,zeros_length]) (by rw [A9,A0D]),V6];rfl
  have lt:D4 (G++[rT (B4 tab40)]) 256 (pV G.length 0)=A4 (.a (B4 tab40)):=C7 (by rw [E9];rfl) (by rw [A9,A0D]);have h13:D4 h1 3 (pV h.length 0)=A4 (.a (D8 16 8 0)):=C7 x1 rfl;have h26:D4 h2 256 (pV (h.length+1) 0)=A4 (.a (B4 (jH 16 8 0))):=C7 y2 (by rw [A9,U4]);have cl:cells? (.a (D8 16 8 0))=A4 (D8 16 8 0):=rfl;have c2:((2:Nat):Int)=2:=rfl;have c1:((1:Nat):Int)=1:=rfl;have c0:((0:Nat):Int)=0:=rfl;rw [c2] at w1;rw [c1] at w2;rw [c0] at w3;have wr2:IntKind.wrap .i64 (1+1)=2:=rfl;have wr3:IntKind.wrap .i64 (2+1)=3:=rfl;have n1:¬ (1:Int)=0:=by decide
  have l23:(2:Int)<3:=by decide
  have l33:¬ (3:Int)<3:=by decide
  have e4:G++[rT (B4 (zeros 256))]=G++[rT (B4 (zeros 256))]:=rfl;rw [B66,I7];generalize B4 tab40=T at *;generalize B4 map40=M at *;generalize B4 (jH 16 8 0)=S at *;generalize hZ:B4 (zeros 256)=Z at *;generalize encI (upto 3)=U at *;generalize F8 2 1 0 1 (zI 7)=I at *;generalize D8 16 8 0=L at *;simp only [esc,Nat.reduceAdd,cl,l3,hp,eS,hSz,g0,pW,wr2];rw [A1V,I7,hZ];simp only [esc,Nat.reduceAdd,g3,E45,l23,pW,wr2,lz,ef,hT,sz,lt,B6g,w1,wr3];rw [A1V,I7,hZ];have hq:=D10 (h:=h1) (t:=[rT U]) (v:=sV h1.length 0 3 1) rfl;simp only [esc,Nat.reduceAdd,h13,E45,l33,pW,vH,hq,hC,w2,h26,w3]
 ·refine But.trans (h':=h1) ?_ (But.trans (h':=h2) ?_ b3)
  ·refine But.trans (h':=G++[rT (B4 tab40)]) ?_ b1;rw [hG];exact ((But.refl p q h).more _).more _
  ·refine But.trans (h':=h1++[rT (encI (upto 3))]) ((But.refl p q h1).more _) b2
theorem E5t:okS (jH 16 8 0)=A5:=by decide +kernel
theorem E4k:C1b (jH 16 8 0)=D8 16 8 0:=by decide +kernel
theorem C81 {p q:Nat} {h:B5} (k:IsDk h p q D40 3 0) :
  ∃ v h',A37 [.c (.p p 0)] h=A4 (.t [.c v,.c o0],h')/\IsDk h' p q D40 3 1:=by
 obtain ⟨h1,e1,k1,b1⟩:=D2X (no:=0) k okD40 (by rw [A4w];omega) (by omega);have kp:=C8 k1.row;have kq:=C8 k1.blk;have e0:D40[0]'(by rw [A4w];omega)=jH 16 8 0:=by unfold D40;rw [List.getElem_set_self]
 rw [e0] at e1;have hG:=λh=>A7U (b:=jH 16 8 0) (h:=h) U4
 rw [E5t,cond_true,E4k] at hG;have c0:((0:Nat):Int)=0:=rfl;rw [c0] at e1;obtain ⟨T,hT⟩:∃ T:B5,T=[rT (B4 (jH 16 8 0)),rT (D8 16 8 0)]:=⟨_,rfl⟩;obtain ⟨H,hH⟩:∃ H,H=h1++T:=⟨_,rfl⟩;have kH:IsDk H p q D40 3 (0+1):=by rw [hH];exact k1.more _
 have lH:H.length=h1.length+2:=by rw [hH,hT];simp
 have hS:=B72 kH;have e16:(D40.length:Int)=16:=by rw [A4w];rfl
 rw [e16] at hS;have hN:∀ g,A9O [.c (.p p 0)] g=A4 (.c (.p (g.length+1) 0),g++[A4 (T1 []),rT [.p p 0,.m g.length,.ns,o0]]):=λg=>by
  refine C53 (n:=0) ?_;have ef:E4 [Cell.np,.nm,.ns,o0] [(0,1,.c (.p p 0)),(1,1,.c (.m g.length))]=A4 [.p p 0,.m g.length,.ns,o0]:=rfl;rw [C5l];simp only [esc,ef]
 have s1:E6 (h1++[rT (B4 (zeros 256))]) 256 (.c (.p h1.length 0)) (.a (B4 (jH 16 8 0)))=A4 (h1++[rT (B4 (jH 16 8 0))]):=by
  rw [storeAll (cs:=B4 (zeros 256)) (by rw [E9];rfl) (by rw [A9,zeros_length]) (by rw [A9,U4]),V6];rfl
 have l1:D4 (h1++[rT (B4 (jH 16 8 0))]) 256 (.c (.p h1.length 0))=A4 (.a (B4 (jH 16 8 0))):=C7 (by rw [E9];rfl) (by rw [A9,U4]);have s2:E6 (h1++[rT (B4 (jH 16 8 0)),rT [o0,o0,.i .u64 0]]) 3 (.c (.p (h1.length+1) 0)) (.a (D8 16 8 0))=A4 H:=by
  rw [storeAll (n:=3) (cs:=[o0,o0,.i .u64 0]) (by rw [L5];rfl) rfl rfl,pA,hH,hT];rfl
 have l2:B8 H (.c (.p (h1.length+1) 0))=A4 (.c (.i .i64 16)):=C4 (cs:=D8 16 8 0) (rw:=A5) (by rw [hH,hT,L5];rfl) rfl rfl;have l3:D4 H 3 (.c (.p (h1.length+1) 0))=A4 (.a (D8 16 8 0)):=C7 (by rw [hH,hT,L5];rfl) rfl;obtain ⟨H2,hH2⟩:∃ H2,H2=(H++[A4 (T1 []),A4 (T1 []),rT [.p p 0,.m (H.length+1),.ns,o0]])++[rT [.p (H.length+2) 0,.i .i64 16,.i .i64 8,.i .u64 0,o0,.m H.length]]:=⟨_,rfl⟩;refine ⟨.p (H.length+3) 0,H2,?_,by rw [hH2];exact (kH.more _).more _⟩
 ·refine C0D (n:=0) ?_;have hNH:=hN (H++[A7]);have qs:(H++[A7]).length+1=H.length+2:=by simp
  rw [qs] at hNH;have n1:¬ (0:Int)≠0:=by decide
  have ef:E4 [Cell.np,o0,o0,.i .u64 0,o0,.nm] [(0,1,.c (.p (H.length+2) 0)),(1,3,.a (D8 16 8 0)),(5,1,.c (.m H.length))]=A4 [.p (H.length+2) 0,.i .i64 16,.i .i64 8,.i .u64 0,o0,.m H.length]:=rfl;rw [B9I,I7];generalize B4 (jH 16 8 0)=S at *;generalize hZ:B4 (zeros 256)=Z at *;generalize D8 16 8 0=L at *;simp only [esc,Nat.reduceAdd,e1,s1,l1,hG,s2,l2,hS,eq_self];have hq:=D10 (h:=H++[A7]) (t:=[A4 (T1 []),rT [.p p 0,.m (H++[A7]).length,.ns,o0]]) (v:=.c (.p (H.length+2) 0)) (by simp [C8k,D8S]);simp only [E7a,E7g,E7v,E7t] at hq hNH;simp only [esc,Nat.reduceAdd] at hq hNH;simp only [esc,Nat.reduceAdd,hNH,hq,l3,ef,V6,pA,hH2]
theorem D6a {h:B5}:∃ p q v h',A6L [.a (D8 16 8 0)] h=A4 (.t [.c (.p p 0),.c v],h')/\IsDk h' p q D40 3 1/\h.length<=q/\h.length<=p:=by
 obtain ⟨G,hG⟩:∃ G,G=h++[rT (D8 16 8 0)]:=⟨_,rfl⟩;have lG:G.length=h.length+1:=by rw [hG];simp
 have hN:=D4P (N:=16) (h:=G) (by omega) (by omega);obtain ⟨H,hH⟩:∃ H,H=G++[rT (D5 (E68 16 (zeros 256))),rT (dkC G.length 16 0 0)]:=⟨_,rfl⟩;rw [<-hH] at hN;have kH:IsDk H (G.length+1) G.length (E68 16 (zeros 256)) 0 0:=by
  refine ⟨by omega,?_,?_⟩
  ·rw [hH,L5];rfl
  ·rw [hH,E9];rfl
 obtain ⟨h1,e1,k1,b1⟩:=C4F kH;obtain ⟨v,h2,e2,k2⟩:=C81 k1;refine ⟨G.length+1,G.length,v,h2,?_,k2,by omega,by omega⟩;refine C3P (n:=0) ?_;have l0:B8 G (pV h.length 0)=A4 (iV 16):=C4 (cs:=D8 16 8 0) (rw:=A5) (by rw [hG,E9];rfl) rfl rfl;have l3:D4 H 3 (pV h.length 0)=A4 (.a (D8 16 8 0)):=C7 (by rw [hH];refine C5 ?_;rw [hG,E9];rfl) rfl;have cl:cells? (.a (D8 16 8 0))=A4 (D8 16 8 0):=rfl;have c16:((16:Nat):Int)=16:=rfl;rw [c16] at hN;rw [C3n];generalize D8 16 8 0=L at *;simp only [esc,cl,<-hG,l0,hN,l3,e1,eq_self,e2]
theorem D25 (h:B5):uO [.a (D8 16 8 0)] h=A4 (sV h.length 0 16 256,h++[rT (D5 D40)]):=by
 have key:∀ g,∃ v g',uI 0 [.a (D8 16 8 0)] g=A4 (v,g')/\Out g.length g' v 256 16 (D5 D40):=λg=>by
  obtain ⟨G,hG⟩:∃ G,G=g++[rT (D8 16 8 0),rT []]:=⟨_,rfl⟩;have lG:G.length=g.length+2:=by rw [hG];simp
  obtain ⟨p,q,v,h',e1,k,_,_⟩:=D6a (h:=G);have hI:=C99 k okD40 (by rw [A4w];omega);have l3:D4 G 3 (pV g.length 0)=A4 (.a (D8 16 8 0)):=C7 (by rw [hG,E9];rfl) rfl;have cl:cells? (.a (D8 16 8 0))=A4 (D8 16 8 0):=rfl;have hl:G.length<=h'.length:=(A79 _ _ _ _ e1).2.2;refine ⟨sV h'.length 0 16 256,h'++[rT (D5 D40)],?_,by rw [J0 okD40,A4w],h'.length,rfl,by omega,T9⟩;have ll:D40.length=16:=A4w;rw [ll] at hI;rw [B2O];generalize D8 16 8 0=L at *;simp only [esc,cl,<-hG,l3,e1,hI]
 obtain ⟨v,g',e,ho⟩:=key (ro h);exact A9Y e (by rw [F7] at ho;exact ho) gY
theorem E3J:A4f D40=A5:=by decide +kernel
theorem E3K:A7p D40=8:=by decide +kernel
noncomputable section
variable (n m m2:Nat) (h:B5)
def zX:FD A8:=⟨px 0X149c01362a2a81d621ff7f6141ff1af38181ff3b60362a2a801ed68b1d1751023a1ed3eb38181ed3b60361e2a81621dd7f3c1dd360363a2a85621bf7f61bf1f061bf4f164891bf19b281bf360362a2a85621ad7f61ad1cb281ad360361e2a816219d7f2c19d360362a2a816218b7f618b1cb1818b3601627c1c3f14e0121f801ec2181de3a62d912a6801e3d691e83a16131ac43b118765432621cc01c84112a6801e38691bc2d16121ac42e175432152624881de51a48819801c3e842a143213218c01882112a6801e28697c1d16121ac41e173213201301101224189637c61c841a131c1221134c116111ac00181ad3112301102,[.c (.b A6)],[.eqA A6 ([.i .i64,.i .i64,.i .i64,.i .i64,.i .i64,.i .i64,.i .i64,.i .i64]) (.t 59) (.t 60)],[.tmp 0],[cal C9I,cal B2W,cal A1p,cal C4k,cal C9W]⟩
def A6m:=zX.R
def C3o:=mR A6m zX (tT []) n [] h
def B6u:=zX.K Tryz.func23
def A6M:=zX.S
theorem C3R:SOk A8 23 A6M:=B6u.sok
theorem B7g:F6 A6m A6M:=B6u.flat
end
def D42:Dev:=D40.set 1 (zeros 256)
theorem D6y:D42.length=16:=by unfold D42;rw [E7D,A4w]
theorem E0W:okD D42:=okD40.set zeros_length
theorem D92:A4f D42=A5:=by decide +kernel
theorem D94:A7p D42=8:=by decide +kernel
theorem E4x:R9 (vI D40 8 (L6 D40 8)) D40 0=[]:=by decide +kernel
theorem E4y:R9 (vI D42 8 (L6 D42 8)) D42 0=[(1,map40)]:=by decide +kernel
theorem E17:C0Z D42 8=[1,0,0,0,0,0,0,3]:=by decide +kernel
theorem B6h (h:B5):A6M [] h=A4 (bV A5,h):=by
 have key:∀ g,∃ g',A6m 0 [] g=A4 (bV A5,g'):=λg=>by
  have hF:=D25 g;obtain ⟨G,hG⟩:∃ G,G=g++[rT (D5 D40)]:=⟨_,rfl⟩;rw [<-hG] at hF;have hH:Has G (sV g.length 0 D40.length 256) 256 D40.length (D5 D40):=by rw [hG];exact Has.tr (by simp) (J0 okD40) (dX _)
  have hP:=A0A hH okD40 E3J (by rw [A4w];omega);rw [E3K,E4x] at hP;obtain ⟨H,hHe⟩:∃ H,H=G++[rT (qJ [])]:=⟨_,rfl⟩;rw [<-hHe] at hP;have rg:rd H g.length=rT (D5 D40):=by rw [hHe,hG];refine C5 ?_;rw [E9];rfl
  have ad1:E1 256 (sV g.length 0 16 256) (iV 1)=A4 (pV g.length 256):=rfl;have ef:E4 (B4 (zeros 256)) []=A4 (B4 (zeros 256)):=rfl;obtain ⟨K,hK⟩:∃ K,K=H.set g.length (rT (D5 D42)):=⟨_,rfl⟩;have st:E6 H 256 (pV g.length 256) (.a (B4 (zeros 256)))=A4 K:=by
   have:=A50 (i:=1) rg okD40 zeros_length (by rw [A4w];omega);rw [hK];exact this
  have rK:rd K g.length=rT (D5 D42):=by rw [hK];exact C6 (C8 rg)
  have hHK:Has K (sV g.length 0 D42.length 256) 256 D42.length (D5 D42):=Has.tr rK (J0 E0W) (dX _);have hP2:=A0A hHK E0W D92 (by rw [D6y];omega);rw [D94,E4y] at hP2;obtain ⟨L,hL⟩:∃ L,L=K++[rT (qJ [(1,map40)])]:=⟨_,rfl⟩;rw [<-hL] at hP2;have hHL:Has L (sV g.length 0 D42.length 256) 256 D42.length (D5 D42):=by rw [hL];exact hHK.more _
  obtain ⟨hC,_⟩:=D0t hHL E0W D92 (by rw [D6y];omega);rw [D94,E17] at hC;have z8:[o0,o0,o0,o0,o0,o0,o0,o0]=encI (zI 8):=rfl;obtain ⟨Q,hQ⟩:∃ Q,Q=L++[rT (encI [1,0,0,0,0,0,0,3])]:=⟨_,rfl⟩;have s8:E6 (L++[rT (encI (zI 8))]) 8 (pV L.length 0) (.a (encI [1,0,0,0,0,0,0,3]))=A4 Q:=by
   rw [storeAll (by rw [E9];rfl) (by rfl) (by rfl),V6,hQ];rfl
  have l8:D4 Q 8 (pV L.length 0)=A4 (.a (encI [1,0,0,0,0,0,0,3])):=C7 (by rw [hQ,E9];rfl) (by rfl);have hw:Has Q (sV K.length 0 [((1:Int),map40)].length 257) 257 [((1:Int),map40)].length (qJ [(1,map40)]):=by
   have hok:okW [(1,map40)]:=λx hx=>by simp at hx;subst hx;exact A0z
   rw [hQ,hL];exact (Has.tr (by rw [E9];rfl) (qE hok) (C8n _)).more _
  obtain ⟨_,_,e1,_,a1,_,b1⟩:=E0p hw (λx hx=>by simp at hx;subst hx;exact A0z) (i:=0) (by decide);cases e1;have ef2:E4 (encI (zI 8)) [(0,1,iV 1),(7,1,iV 3)]=A4 (encI [1,0,0,0,0,0,0,3]):=rfl;have eq:=D54 (l:=[1,0,0,0,0,0,0,3]) (m:=[1,0,0,0,0,0,0,3]) (n:=8) rfl rfl;have er:E68 8 (Sh.i .i64)=[Sh.i .i64,.i .i64,.i .i64,.i .i64,.i .i64,.i .i64,.i .i64,.i .i64]:=rfl;rw [er,decide_eq_true rfl] at eq;have hS:=D5f (x:=[1,0,0,0,0,0,0,3]) (h:=Q) rfl (by decide);have es:[1,0,0,0,0,0,0,3].tail.sum=(3:Int):=by decide
  rw [es] at hS;rw [A4w] at hP;rw [D6y] at hP2 hC;have c16:((16:Nat):Int)=16:=rfl;have c0:((0:Nat):Int)=0:=rfl;have c1:((1:Nat):Int)=1:=rfl;have l0:([]:List Wr).length=0:=rfl;have l1:[((1:Int),map40)].length=1:=rfl;rw [l0] at hP;rw [l1] at hP2 a1;rw [c0] at a1;have b1':B8 Q (pV K.length 0)=A4 (iV 1):=b1;have a1':E1 257 (sV K.length 0 1 257) (iV 0)=A4 (pV K.length 0):=a1;have ll:G.length=g.length+1:=by rw [hG];simp
  rw [C3o,I7,z8];generalize encI [1,0,0,0,0,0,0,3]=R at *;generalize encI (zI 8)=Z at *;generalize B4 (zeros 256)=W at *;exact ⟨Q,by simp only [esc,Nat.reduceAdd,E0D,hF,c16,hP,ef,ad1,st,hP2,hC,s8,c0,c1,a1',b1',l8,ef2,eq,hS,eq_self]⟩
 obtain ⟨g',e⟩:=key (ro h);exact B7g e rfl
noncomputable section
variable (n m m2:Nat) (a0 x3 x7 x8 x9:Val) (h:B5)
def bJ:FD A8:=⟨px 0X15bc21001af1ad22123e81915607c4c7b131801321121224677e2a8629e2bf64a2729e1af3629e1f62e129e19b629e1f61a129e19b4c29e33c29e34829e3029e68b1629e4f61a48929e19b4c29e31c29e36062e37c61c61a11984c03c061c064c61a4891984c01c7d12f0191ae1918735315191873430702461e17c61c81c04c6f147a19187352191873431918734060511911191873420301321121224673a2a861e31c87f61c81cb3c1c8361c81cb1c1c83601637c285e1196e1873421873332ec18162a2e361ac261a251ac2c338002c3380581501918743432bc7161a241ac2c33804d147543052012a821361a2a80018d1af60362a2a81627b7f67b1cb1c7b3606d627c2801b2122462bc3839123a5430525430431c801bc231de2a52d912a6801e2f691b82c16131ac02d118654305219c01983112e6802a2a6918c1e16121ac6111ac01f11843032016c21001ac2212243e9657c61c801a131c0220133211012,[.c (.b A6),.c (.b A5)],[.slA 256 1 (.t 75) A7 A7],[.tmp 2],[cal C3R,cal D2C,cal A1p,cal B99,cal C6u,cal B7p,cal A8c,cal bO]⟩
def uJ:=bJ.R
def A2X:AtH:=bJ.lj 0 n [m] [x3,x7,x8,x9]
def A45:=tT [⟨2,4,A2X⟩]
def B2P:=mR uJ bJ A45 n [a0] h
def xS:=mL bJ A45 0 n [m] [x3,x7,x8,x9] h
def A4M:=bJ.K Tryz.func5
def uP:=bJ.S
theorem B2X:SOk A8 5 uP:=A4M.sok
theorem A8Z:F6 uJ uP:=A4M.flat
end
section
variable {W:Dev} {Y:B5} {q:Nat} {x3 x7:Val}
theorem E4l {iy:Nat} {ys:List Cell} {L:List Wr} (h3:Has Y x3 257 L.length (qJ L)) (hL:okW L) (h7:Has Y x7 1 L.length (encI (L.map (·.1)))) (ry:rd Y iy=rT ys) (md:D3V (λ_=>True) Y ys W) (hl:L.length<=512)
  (hat:∀ (i:Nat) (w:Wr),L[i]?=A4 w->∃ j:Nat,w.1=(j:Int)/\W[j]?=A4 w.2) :
  ∀ e i M:Nat,i+e=L.length->e<M->∃ g',A2X q M x3 x7 (sV iy 0 W.length 1) (iV (i:Int)) Y=A4 (bV A5,g'):=by
 intro e
 induction e with
 | zero =>
  intro i M hi hM;obtain ⟨M,rfl⟩:∃ M',M=M'+1:=⟨M-1,by omega⟩;have ei:i=L.length:=by omega
  subst ei;have cL:¬ ((L.length:Nat):Int)<(L.length:Nat):=by omega
  have al:=h3.len;rw [xS];exact ⟨_,by simp only [esc,al,cL,B6h]<;>rfl⟩
 | succ e ih =>
  intro i M hi hM;obtain ⟨M,rfl⟩:∃ M',M=M'+1:=⟨M-1,by omega⟩;have O9:i<L.length:=by omega
  have c0:(i:Int)<(L.length:Nat):=by omega
  have w1:=D3 (show i+1<9223372036854775808 by omega);have al:=h3.len;obtain ⟨id,off,rfl,_,a1,_,b1⟩:=E0p h3 hL O9;obtain ⟨bF,off',e',s1,s2⟩:=E2i h3 hL O9;cases e';obtain ⟨j,ej,hj⟩:=hat i _ (E66 O9);obtain ⟨w,ew⟩:∃ w,w=L[i]:=⟨_,rfl⟩;rw [<-ew] at b1 s2 ej hj;obtain ⟨i7,o7,e7,_,hA7,_⟩:=h7.sl (by omega);cases e7;have a7:E1 1 (sV i7 o7 L.length 1) (iV (i:Int))=A4 (pV i7 (o7+i)):=by rw [C9 O9,Nat.mul_one]
  have b7:=hA7 i (.i .i64 w.1) (by rw [G8,List.getElem?_map,E66 O9,<-ew];rfl);have hjW:j<W.length:=(List.getElem?_eq_some_iff.1 hj).1;have a8:E1 1 (sV iy 0 W.length 1) (iV (j:Int))=A4 (pV iy j):=by rw [C9 hjW];simp
  have hyl:=md.1;have hy:ys[j]?=A4 (ys[j]'(by omega)):=E66 _;obtain ⟨_,bb,y1,y2,y3⟩:=md.2.2 j _ hy;rw [hj] at y1;cases y1;have b8:B8 Y (pV iy j)=A4 (.c (ys[j]'(by omega))):=C4 ry hy rfl;have hS:=dZ s2 y3 (by rw [y2];omega);rw [decide_eq_true rfl] at hS;rw [ej] at b1 b7;obtain ⟨g',f1⟩:=ih (i+1) M (by omega) (by omega);refine ⟨g',?_⟩;rw [xS];simp only [esc,E7w,eq_self,al,c0,a1,b1,a7,b7,s1,a8,b8,hS,w1];exact f1
end
theorem D3l {v:Val} {D:Dev} {h:B5} (hv:Has h v 256 D.length (D5 D)) (hD:okD D):uP [v] h=A4 (bV A5,h):=by
 have key:∀ g,Has g v 256 D.length (D5 D)->∃ g',uJ 600 [v] g=A4 (bV A5,g'):=by
  intro g hv;have hl:=hv.len;rw [B2P];by_cases c0:(60:Int)<(D.length:Nat)
  ·exact ⟨_,by simp only [esc,hl,c0,B6h]<;>rfl⟩
  ·have hT:=E5G hv hD (by omega);obtain ⟨G,hG⟩:∃ G,G=g++[rT (D5 D)]:=⟨_,rfl⟩;rw [<-hG] at hT;have hH:Has G (sV g.length 0 D.length 256) 256 D.length (D5 D):=by rw [hG];exact Has.tr (by simp) (J0 hD) (dX D)
   have hvG:Has G v 256 D.length (D5 D):=by rw [hG];exact hv.more _
   cases cd:A4f D with
   | false =>
    have hP:=D0u hH hD cd;have hLy:=A8Q (h:=G++[rT []]) (hvG.more _) hD;rw [cd,cond_false] at hLy;have E5S:((0:Nat):Int)=0:=rfl;have hLl:(D8 0 0 0).length=3:=rfl;have z3:[o0,o0,.i .u64 0].length=3:=rfl;generalize hL0:D8 0 0 0=L at *;exact ⟨_,by simp only [esc,esh,Nat.reduceAdd,Nat.reduceMul,Nat.reduceLT,eq_self,hl,c0,hT,hP,hLy,hLl,z3,E5S,B6h]<;>rfl⟩
   | true =>
    have hm:=C7w cd;have hP:=A0A hH hD cd (by omega);obtain ⟨n,en⟩:∃ n,n=A7p D:=⟨_,rfl⟩;have hLy:=λh hv=>A8Q (v:=v) (D:=D) (h:=h) hv hD
    rw [cd,cond_true] at hLy;rw [<-en] at hP hm hLy;generalize D4O D=m at *;obtain ⟨W,eW⟩:∃ W,W=vI D n (L6 D n):=⟨_,rfl⟩;obtain ⟨okI,lW⟩:=B8l hD hm;rw [<-eW] at hP okI lW;obtain ⟨L,eL⟩:∃ L,L=R9 W D 0:=⟨_,rfl⟩;obtain ⟨okL,lenL⟩:=B8V (D:=D) (i:=0) okI;have hat:∀ (i:Nat) (w:Wr),L[i]?=A4 w->∃ j:Nat,w.1=(j:Int)/\W[j]?=A4 w.2:=λi w hw=>by
     rw [eL] at hw;obtain ⟨j,j1,j2⟩:=C8E hw;exact ⟨j,by rw [j1];omega,j2⟩
    rw [<-eL] at hP okL lenL;obtain ⟨H,hH2⟩:∃ H,H=G++[rT (qJ L)]:=⟨_,rfl⟩;rw [<-hH2] at hP;have hvH:Has H v 256 D.length (D5 D):=by rw [hH2];exact hvG.more _
    have E52:=hLy H hvH;obtain ⟨B,hB⟩:∃ B,B=H++[rT (D8 D.length n m)]:=⟨_,rfl⟩;have hs3:E6 (H++[rT [o0,o0,.i .u64 0]]) 3 (pV H.length 0) (.a (D8 D.length n m))=A4 B:=by
     rw [storeAll (n:=3) (cs:=[o0,o0,.i .u64 0]) (by rw [E9];rfl) rfl rfl,V6,hB];rfl
    have y3:D4 B 3 (pV H.length 0)=A4 (.a (D8 D.length n m)):=C7 (by rw [hB,E9];rfl) rfl;have hvB:Has B v 256 D.length (D5 D):=by rw [hB];exact hvH.more _
    have hRP:=E1h (m:=m) hvB hD hm;rw [<-eW,<-eL,List.length_map] at hRP;obtain ⟨C,hC⟩:∃ C,C=B++[rT (encI (L.map (·.1)))]:=⟨_,rfl⟩;rw [<-hC] at hRP;have z3:D4 C 3 (pV H.length 0)=A4 (.a (D8 D.length n m)):=C7 (by rw [hC];refine C5 ?_;rw [hB,E9];rfl) rfl;have hvC:Has C v 256 D.length (D5 D):=by rw [hC];exact hvB.more _
    obtain ⟨cs',F,r1,r2,r3⟩:=E1e (n:=n) (m:=m) hvC hD hm;have q2:=U3 (v:=.a cs') r2;rw [<-r1] at q2;have q2':quiet C (A42 [v,.a (D8 D.length n m)] C)=A4 (.a cs',F):=by rw [q2,r1]
    obtain ⟨_,_,_,hfl,_⟩:=mY hD hm;obtain ⟨iy,ys,Y,s1,s2,s3,s4⟩:=D7U (n:=n) (m:=m) (hvC.grows r2) hD hm r3.low (λid hid=>hid.2) (A5g hD hm) hfl;rw [<-eW] at s4;have GY:Grows C Y:=r2.trans' s2;have h3:Has Y (sV G.length 0 L.length 257) 257 L.length (qJ L):=by
     refine Has.grows ?_ GY;rw [hC,hB,hH2];exact ((Has.tr (by rw [E9];rfl) (qE okL) (C8n _)).more _).more _
    have h7:Has Y (sV B.length 0 L.length 1) 1 L.length (encI (L.map (·.1))):=by
     refine Has.grows ?_ GY;rw [hC];exact Has.row (rw:=A5) (by rw [E9];rfl) (by simp [encI]) (aR _)
    obtain ⟨g',e1⟩:=E4l (q:=600) h3 okL h7 s3 s4 (by omega) hat L.length 0 600 (by omega) (by omega);have z0:((0:Nat):Int)=0:=rfl;rw [z0,lW] at e1;refine ⟨g',?_⟩;generalize hLL:D8 D.length n m=Ly at *;simp only [esc,Nat.reduceAdd,eq_self,hl,c0,hT,hP,E52,hs3,y3,hRP,z3,q2',s1];exact e1
 obtain ⟨g',e⟩:=key (ro h) hv.ro;exact A8Z e rfl
section
def A7T:List Char:=(([104,97,114,110,101,115,115,32,56,100,99,52,54,56,52,49,50,50,98,56,100,56,57,54,55,55,57,56,55,57,56,97,56,55,97,99,49,97,56,54,53,57,102,48,52,55,97,57,97,50,51,49,56,55,101,102,53,55,49,51,51,97,53,52,102,98,56,99,49,101,56,100,32,99,117,116,32,97,116,32,101,115,99,104,101,97,116,47,101,115,99,104,101,97,116,108,97,119,52,49,46,67,108,97,105,109,79,102,32,101,115,99,104,101,97,116,47,101,115,99,104,101,97,116,108,97,119,52,49,46,67,108,97,105,109,73,109,97,103,101,32,101,115,99,104,101,97,116,47,101,115,99,104,101,97,116,108,97,119,52,50,46,77,101,110,100,80,108,97,110,115,32,101,115,99,104,101,97,116,47,101,115,99,104,101,97,116,108,97,119,52,50,46,77,101,110,100,67,111,117,110,116,115,32,101,115,99,104,101,97,116,47,101,115,99,104,101,97,116,108,97,119,52,50,46,77,101,110,100,67,117,116,115,32,101,115,99,104,101,97,116,47,101,115,99,104,101,97,116,108,97,119,52,49,46,67,108,97,105,109,82,105,103,104,116,32,101,115,99,104,101,97,116,47,101,115,99,104,101,97,116,108,97,119,52,49,46,67,108,97,105,109,75,101,101,112,115,32,101,115,99,104,101,97,116,47,101,115,99,104,101,97,116,108,97,119,52,50,46,77,101,110,100,87,104,111,108,101]:List Nat).map Char.ofNat)
set_option maxRecDepth 100000
theorem E4w:ownKnob Tryz.prog.godebug=A7:=by kernel_rfl
theorem E2q:laidOutB A8=A5:=by kernel_rfl
theorem start_eq:Tryz.prog.initOrder=String.ofList A7T:=by kernel_rfl
theorem D65:Tryz.prog.initOrder.toList=A7T:=by rw [start_eq,String.toList_ofList]
def startRest:List (List Char):=(([[99,117,116],[97,116],[101,115,99,104,101,97,116,47,101,115,99,104,101,97,116,108,97,119,52,49,46,67,108,97,105,109,79,102],[101,115,99,104,101,97,116,47,101,115,99,104,101,97,116,108,97,119,52,49,46,67,108,97,105,109,73,109,97,103,101],[101,115,99,104,101,97,116,47,101,115,99,104,101,97,116,108,97,119,52,50,46,77,101,110,100,80,108,97,110,115],[101,115,99,104,101,97,116,47,101,115,99,104,101,97,116,108,97,119,52,50,46,77,101,110,100,67,111,117,110,116,115],[101,115,99,104,101,97,116,47,101,115,99,104,101,97,116,108,97,119,52,50,46,77,101,110,100,67,117,116,115],[101,115,99,104,101,97,116,47,101,115,99,104,101,97,116,108,97,119,52,49,46,67,108,97,105,109,82,105,103,104,116],[101,115,99,104,101,97,116,47,101,115,99,104,101,97,116,108,97,119,52,49,46,67,108,97,105,109,75,101,101,112,115],[101,115,99,104,101,97,116,47,101,115,99,104,101,97,116,108,97,119,52,50,46,77,101,110,100,87,104,111,108,101]]:List (List Nat)).map (λl=>l.map Char.ofNat))
theorem E1D:wordsSigns A7T=(([104,97,114,110,101,115,115]:List Nat).map Char.ofNat)::(([56,100,99,52,54,56,52,49,50,50,98,56,100,56,57,54,55,55,57,56,55,57,56,97,56,55,97,99,49,97,56,54,53,57,102,48,52,55,97,57,97,50,51,49,56,55,101,102,53,55,49,51,51,97,53,52,102,98,56,99,49,101,56,100]:List Nat).map Char.ofNat)::startRest:=by kernel_rfl
theorem E4M:isSumSigns ((([56,100,99,52,54,56,52,49,50,50,98,56,100,56,57,54,55,55,57,56,55,57,56,97,56,55,97,99,49,97,56,54,53,57,102,48,52,55,97,57,97,50,51,49,56,55,101,102,53,55,49,51,51,97,53,52,102,98,56,99,49,101,56,100]:List Nat).map Char.ofNat))=A5:=by decide +kernel
theorem D6q : ((([104, 97, 114, 110, 101, 115, 115] : List Nat).map Char.ofNat) == "harness".toList) = true := by decide +kernel
theorem D6b (h s : List Char) (r : List (List Char)) (h1 : (h == "harness".toList) = true) (h2 : isSumSigns s = true) : behindMainWord (h :: s :: r) = r := by
 unfold behindMainWord;simp only [h1,h2,Bool.true_or,E7j,if_true]
theorem D8f:behindMainWord (wordsSigns A7T)=startRest:=by rw [E1D];exact D6b _ _ _ D6q E4M
theorem start_words:behindMainWord (wordsSigns Tryz.prog.initOrder.toList)=startRest:=by rw [D65];exact D8f
def D9h:List (List Char):=startRest.drop 1
theorem D3M : startRest = "cut".toList :: D9h := by decide +kernel
theorem E0N {P : Program} {rest : List (List Char)} (h : behindMainWord (wordsSigns P.initOrder.toList) = "cut".toList :: rest) : P.make = some .cut := by
 have e1 : ("cut".toList == "gc".toList) = false := by decide +kernel
 have e2 : ("cut".toList == "spec".toList) = false := by decide +kernel
 have e3 : ("cut".toList == "cut".toList) = true := by decide +kernel
 unfold Program.make;rw [h];simp only [e1,e2,e3,Bool.or_self,Bool.true_or,Bool.false_eq_true,if_false,if_true]
theorem E2t:Tryz.prog.make=A4 .cut:=E0N (start_words.trans D3M)
theorem C83 {w:List Char} {ws:List (List Char)}:∀ os:List String,(os.all λo=>!(w==o.toList))=A5->stripLifts os (w::ws)=([],w::ws)
 | [],_=>rfl
 | o::os,h=>by
  simp only [E7P,E69,E7V] at h;unfold stripLifts;rw [h.1,if_neg (by simp)];exact C83 os h.2
theorem D2f (rest : List (List Char)) : stripLifts liftWords ("cut".toList :: rest) = ([], "cut".toList :: rest) := C83 _ (by decide +kernel)
theorem E0C:Tryz.prog.laysLater=A6:=by kernel_rfl
theorem D6T:Tryz.prog.bearsReflect=A6:=by kernel_rfl
theorem E2c:Tryz.prog.doorFits []=A5:=by kernel_rfl
theorem D8p {P : Program} {rest : List (List Char)} (h : behindMainWord (wordsSigns P.initOrder.toList) = "cut".toList :: rest) (h1 : P.laysLater = false) (h2 : P.bearsReflect = false) (h3 : P.doorFits [] = true) : P.mayEnter = true := by
 unfold Program.mayEnter;rw [h];simp only [D2f,h1,h2,h3];simp
theorem D5e:Tryz.prog.mayEnter=A5:=D8p (start_words.trans D3M) E0C D6T E2c
theorem D8I {P : Program} {rest : List (List Char)} (h : behindMainWord (wordsSigns P.initOrder.toList) = "cut".toList :: rest) : P.liftsFinal = false := by
 unfold Program.liftsFinal Program.headLifts;rw [h];simp only [D2f];simp
theorem E0J:Tryz.prog.liftsFinal=A6:=D8I (start_words.trans D3M)
end
end Go.Proofs.YtbnkgnfhgbhblaaGreat
