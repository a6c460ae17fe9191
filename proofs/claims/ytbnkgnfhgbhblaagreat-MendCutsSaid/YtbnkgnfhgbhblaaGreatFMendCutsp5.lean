/- What the proof of this claim leans on, part 5. -/
import Derived.Test.YtbnkgnfhgbhblaaGreatFMendCutsp4
set_option linter.all false
set_option maxRecDepth 100000
open Go Go.Esc
noncomputable section
open Bool renaming and_eq_true→D9v,false_and→D9L,not_eq_true'→E0e,not_false→E0E,true_and→D9R,false→A6,true→A5
open Int renaming eq_ofNat_of_zero_le→E0i,toNat_natCast→D9N
open IntKind renaming wrap→D9B
open List renaming all_cons→E0j,all_eq_true→E0k,append_assoc→D9C,append_nil→D9Q,cons_append→D99,drop_drop→E0t,drop_eq_getElem_cons→D9E,drop_left'→E0s,drop_of_length_le→D9K,drop_zero→D9O,ext_getElem?→E0q,filter_cons→E0H,flatten_cons→E0l,getD_eq_getElem?_getD→D9z,getElem?_append_left→D94,getElem?_append_right→D9P,getElem?_cons_succ→D9Z,getElem?_drop→E0u,getElem?_eq_getElem→D9u,getElem?_eq_none→D9W,getElem?_map→E0C,getElem?_set_ne→E0o,getElem?_take_of_lt→D97,getElem_mem→D9Y,length_append→D9A,length_cons→D9G,length_drop→E0f,length_nil→D95,length_replicate→D9X,length_set→E0c,length_take→D91,map_append→E0h,map_cons→E0d,mem_cons→E0B,mem_cons_of_mem→D9F,mem_cons_self→D9I,mem_of_getElem?→D9S,nil_append→D9U,prefix_refl→E0a,range→D90,replicate→D9w,set_append_right→D96,take_left'→E0x,take_of_length_le→D9M,take_zero→E0z
open Nat renaming add_zero→E0D,le_refl→D9x,le_trans→D93,sub_self→E0p,zero_add→D9T,zero_le→E0I
open Option renaming bind_some→D9H,map_some→E0b,none→A7,some→A4
open Option.some renaming injEq→D9y
open Go.Proofs.Tryz renaming prog→A8
namespace Go.Proofs.YtbnkgnfhgbhblaaGreat
section
variable {D:Dev} {n m:Int} {f:Cell} {g:A9} {r:Nat} {c:Cl} {h:A9}
def D2R {ino:Nat} {no p0 d:Int} {t:List Int} {q R B S Lo:Nat} {h0:A9} (hD:okD D) (hv:IsView g f D) (ht:t.length=32) (hq:300<=q) (h0g:g.length<=h0.length) (i1:ino<c.ino.length)
  (hR:R<=50000) (hB:B<=500000) (hS:S<=50000) (hLo:Lo<=500000) (sm:Small c R B S Lo) (P:WP D n m f g r c h) (F:Fr r h0 h) (hi:LocV h r h0.length (D4 2 1 0 p0 (no::zI 6))) (hx:LocV h r (h0.length+2) (encI (d::t))) :
  ∃ h',gU q (pV r 0) (iV (ino:Int)) (pV h0.length 0) (pV (h0.length+2) 0) h=A4 (.t [],h') /\
   WP D n m f g r (if no=0 then { c with ino:=c.ino.set ino (2::1::0::p0::no::zI 6) } else X4 D n { c with ino:=c.ino.set ino (2::1::0::p0::no::zI 6) } ino no d t) h'/\Fr r h0 h' /\
   Small (if no=0 then { c with ino:=c.ino.set ino (2::1::0::p0::no::zI 6) } else X4 D n { c with ino:=c.ino.set ino (2::1::0::p0::no::zI 6) } ino no d t) (R+224) (B+224) (S+33) (Lo+224):=by
 have hv2:=hv.get;obtain ⟨id,hC,c1,c2,c3,PC,FC⟩:=P.setIno hv2 (k:=ino) (l:=2::1::0::p0::no::zI 6) i1 rfl;have iC:=hi.fr FC;have xC:=hx.fr FC;have lI:D3 h 11 (pV h0.length 0)=A4 (.a (encI (2::1::0::p0::no::zI 6))):=C9 hi.2 rfl;have adI:E5 11 (sV id 0 c.ino.length 11) (iV (ino:Int))=A4 (pV id (ino*11)):=by rw [D8 i1];simp
 have lC4:B8 hC (pV h0.length 4)=A4 (iV no):=B9 iC.2 rfl rfl;have ad0:∀ j,I5 6 1 (pV j 4) (iV 0)=A4 (pV j 4):=λj=>K3 (j:=0) (by omega)
 have sm':Small { c with ino:=c.ino.set ino (2::1::0::p0::no::zI 6) } R B S Lo:=⟨sm.row,sm.lnk,sm.blocks,sm.made,sm.lost0,sm.lost⟩;rw [A8m];by_cases cz:no=0
 ·rw [if_pos cz];refine ⟨hC,?_,PC,F.trans FC,⟨D93 sm.row (by omega),sm'.lnk.mono (by omega),D93 sm.blocks (by omega),D93 sm.made (by omega),sm.lost0,by have:=sm.lost;show c.lost<=_;omega⟩⟩;rw [cz] at lC4;simp only [esc,Nat.reduceAdd,c1,lI,adI,c3,ad0,lC4];rfl
 ·rw [if_neg cz];obtain ⟨h',e1,e2,e3,e4,e5⟩:=D2S (ino:=(ino:Int)) (no:=no) (pi:=h0.length) (px:=h0.length+2) (q:=q) (h0:=h0) hD hv ht hq h0g (by omega) (by omega) hR hB hS hLo sm' PC (F.trans FC) iC (tl:=zI 6) rfl xC;refine ⟨h',?_,e2,e3,e4⟩;simp only [esc,Nat.reduceAdd,c1,lI,adI,c3,ad0,lC4,cz];exact e1
def D2Q {ino:Int} {R B S Lo:Nat} (hD:okD D) (hv:IsView g f D) (P:WP D n m f g r c h) (i0:0<=ino) (i1:ino.toNat<c.ino.length) (hR:R<=50000) (hB:B<=500000) (hS:S<=50000) (hLo:Lo<=500000) (sm:Small c R B S Lo) :
  ∃ h',kB [pV r 0,iV ino] h=A4 (.t [],h')/\WP D n m f g r (rF D n c ino) h'/\Fr r h h'/\Small (rF D n c ino) (R+224) (B+224) (S+33) (Lo+224):=by
 have hv2:=hv.get;obtain ⟨k,rfl⟩:=E0i i0;rw [D9N] at i1;obtain ⟨mp,hq9,q1,q2,_⟩:=P.setPar hv2 0 0;have q2':=q2 A6 k;obtain ⟨p0,hp0⟩:∃ p0,p0=(c.par k).getD 0:=⟨_,rfl⟩;rw [<-hp0] at q2';obtain ⟨d0,hd0⟩:∃ d0,d0=(drV D n k).getD 0 0:=⟨_,rfl⟩;obtain ⟨b,hb⟩:∃ b,b=blk D d0:=⟨_,rfl⟩;have hbl:b.length=256:=by rw [hb];exact J3 hD
 obtain ⟨I,hI⟩:∃ I,I=D4 (kdV D n k) (lnV D n k) (szV D n k) (paV D n k) (drV D n k):=⟨_,rfl⟩;have hIl:I.length=11:=by rw [hI];simp [D4,C1,eW]
 have I0:I[0]?=A4 (.i .i64 (kdV D n k)):=by rw [hI];rfl
 have I4:I[4]?=A4 (.i .i64 d0):=by
  rw [hI];simp only [D4,D9Z];rw [H0,hd0,D9z,D9u (by rw [eW];omega)];rfl
 have hVI:=λt=>Z0 (n:=n) (m:=m) (i:=(k:Int)) (h:=h++t) hD ((hv.since P.lo).more t)
 rw [A11,<-hI] at hVI;have lV:=λt=>(P.more hv2 t).view
 have hBk:=λt=>N1 (n:=n) (m:=m) (no:=d0) (h:=h++t) hD ((hv.since P.lo).more t)
 rw [<-hb] at hBk;have C8u:=λh=>B3H (b:=b) (h:=h) hbl
 obtain ⟨X,hX⟩:∃ X,X=(bif O0 b then getD b::O6 b 32 else 0::zI 32):=⟨_,rfl⟩;rw [<-hX] at C8u;obtain ⟨dd,tt,hXt,htt⟩:∃ dd tt,X=dd::tt/\tt.length=32:=by
  rw [hX];cases O0 b with
  | true=>exact ⟨_,_,rfl,uQ b⟩
  | false=>exact ⟨_,_,rfl,K4⟩
 have hXl:(encI X).length=33:=by rw [hXt];simp [C1,htt]
 obtain ⟨z,hz⟩:∃ z,z=D4 2 1 0 p0 (0::zI 6):=⟨_,rfl⟩;have uS:z.length=11:=by rw [hz];rfl
 have z11:[o0,o0,o0,o0,o0,o0,o0,o0,o0,o0,o0].length=11:=rfl;have ef:E7 [o0,o0,o0,o0,o0,o0,o0,o0,o0,o0,o0] [(0,1,iV 2),(1,1,iV 1),(3,1,iV p0)]=A4 z:=by rw [hz];rfl
 obtain ⟨T,hT⟩:∃ T,T=[rT z,rT I,rT (encI X)]:=⟨_,rfl⟩;have P1:=P.more hv2 T;have F1:Fr r h (h++T):=Fr.low ((Low.refl (D9x _)).new _) P.rlt;have L0:LocV (h++T) r (h.length+0) z:=LocV.new (k:=0) hv2 P (by rw [hT];rfl);have L1:LocV (h++T) r (h.length+1) I:=LocV.new (k:=1) hv2 P (by rw [hT];rfl);have L2:LocV (h++T) r (h.length+2) (encI X):=LocV.new (k:=2) hv2 P (by rw [hT];rfl);rw [E0D] at L0;have ad0:∀ j,I5 6 1 (pV j 4) (iV 0)=A4 (pV j 4):=λj=>K3 (j:=0) (by omega)
 have eO:K7 D n c k=(bif decide (kdV D n k=2)&&O0 b then (L5 D n c d0,K0 D n c d0) else (c,0)):=by unfold K7;rw [<-hd0,<-hb]
 have eI:∀ s:Cl × Int,K7 D n c k=s->nN D n c k={ s.1 with ino:=s.1.ino.set k (2::1::0::p0::s.2::zI 6) }:=by
  intro s hs;unfold nN;rw [hs,<-hp0,D9N]
 have eC:∀ s:Cl × Int,K7 D n c k=s->(s.2≠0->O0 b=A5)->rF D n c k=(if s.2=0 then { s.1 with ino:=s.1.ino.set k (2::1::0::p0::s.2::zI 6) } else X4 D n { s.1 with ino:=s.1.ino.set k (2::1::0::p0::s.2::zI 6) } k s.2 dd tt):=by
  intro s hs hg;unfold rF;rw [hs,eI s hs,<-hd0,<-hb];split
  ·rfl
  ·rename_i Z5;have h1:=hg Z5;rw [h1,cond_true,hXt] at hX;cases hX;rfl
 have pre:∀ {v:Val} {h':A9},(cnd (bV (decide (kdV D n k=2)&&O0 b)) (bnd (R5 [pV r 0,iV d0] (h++T)) λp33=>bnd (H1 p33.2 (pV h.length 4) p33.1) λh36=>gU 300 (pV r 0) (iV (k:Int)) (pV h.length 0) (pV (h.length+2) 0) h36)
   (gU 300 (pV r 0) (iV (k:Int)) (pV h.length 0) (pV (h.length+2) 0) (h++T)))=A4 (v,h')->kB [pV r 0,iV (k:Int)] h=A4 (v,h'):=by
  intro v h' hj;refine A9S (n:=300) ?_;rw [A9N];rw [hT] at hj;have l0:ld1 (rT I) 0=A4 (iV (kdV D n k)):=by rw [zF,I0];rfl
  have l4:ld1 (rT I) 4=A4 (iV d0):=by rw [zF,I4];rfl
  have D6Y:(o0::D9w 32 o0).length=33:=by simp
  have s33:stN (rT (o0::D9w 32 o0)) 0 33 (encI X)=rT (encI X):=cK D6Y hXl;generalize [o0,o0,o0,o0,o0,o0,o0,o0,o0,o0,o0]=zz at *;generalize D9w 32 o0=z32 at *;generalize B4 b=BB at *;generalize encI X=XX at *;generalize vwC D.length n m f=V at *;cases hgd:O0 b with
  | true =>
   rw [hgd] at hj;simp only [hgd,cond_true] at C8u;by_cases ck:kdV D n k=2
   ·simp only [esc,O9,G6,Z4,J2,O3,F8,L9,cK,Nat.reduceAdd,q1,q2',oV,ef,uS,z11,lV,hVI,hIl,ad0,l4,hBk,C8u,s33,l0,ck] at hj ⊢;exact hj
   ·simp only [esc,O9,G6,Z4,J2,O3,F8,L9,cK,Nat.reduceAdd,q1,q2',oV,ef,uS,z11,lV,hVI,hIl,ad0,l4,hBk,C8u,s33,l0,ck] at hj ⊢;exact hj
  | false =>
   rw [hgd,Bool.and_false] at hj;simp only [hgd,cond_false] at C8u;have n14:¬ (14:Int)=0:=by decide
   by_cases ck:kdV D n k=2
   ·simp only [esc,O9,G6,Z4,J2,O3,F8,L9,cK,Nat.reduceAdd,q1,q2',oV,ef,uS,z11,lV,hVI,hIl,ad0,l4,hBk,C8u,s33,l0,ck,n14] at hj ⊢;exact hj
   ·simp only [esc,O9,G6,Z4,J2,O3,F8,L9,cK,Nat.reduceAdd,q1,q2',oV,ef,uS,z11,lV,hVI,hIl,ad0,l4,hBk,C8u,s33,l0,ck] at hj ⊢;exact hj
 cases hok:(decide (kdV D n k=2)&&O0 b) with
 | true =>
  rw [hok] at pre eO;rw [cond_true] at eO;obtain ⟨h1,f1,f2,f3⟩:=B3R (no:=d0) P1;have A0:=L0.fr f3;have A2:=L2.fr f3;have s1:=I3 (x:=.i .i64 (K0 D n c d0)) (off:=4) A0.2 (by rw [uS];omega);have es:z.set 4 (.i .i64 (K0 D n c d0))=D4 2 1 0 p0 (K0 D n c d0::zI 6):=by rw [hz];rfl
  rw [es] at s1;have hsame:=tG D n c d0;rw [hXt] at A2;have sm':Small (L5 D n c d0) R B S Lo:=⟨by rw [hsame.row];exact sm.row,λi=>by rw [hsame.lnk];exact sm.lnk i,by rw [hsame.blocks];exact sm.blocks,by rw [hsame.made];exact sm.made,by rw [hsame.lost];exact sm.lost0,by rw [hsame.lost];exact sm.lost⟩;obtain ⟨h',e1,e2,e3,e4⟩:=D2R (ino:=k) (no:=K0 D n c d0) (q:=300) (h0:=h) hD hv htt (by omega) P.lo.2.1 (by rw [hsame.ino];exact i1) hR hB hS hLo sm' (f2.set A0.1 (by have:=P.lo.2.1;omega)) ((F1.trans f3).set A0.1 (D9x _)) A0.self (A2.set (by omega) A0.1.2.1);rw [eC _ eO (λ_=>by
   simp only [D9v] at hok;exact hok.2)]
  refine ⟨h',pre ?_,e2,e3,e4⟩;simp only [fD,f1,E4,s1];exact e1
 | false =>
  rw [hok] at pre eO;rw [cond_false] at eO;rw [hz] at L0;rw [hXt] at L2;obtain ⟨h',e1,e2,e3,e4⟩:=D2R (ino:=k) (no:=0) (q:=300) (h0:=h) hD hv htt (by omega) P.lo.2.1 i1 hR hB hS hLo sm P1 F1 L0 L2;rw [eC _ eO (λZ5=>absurd rfl Z5)];refine ⟨h',pre ?_,e2,e3,e4⟩;simp only [dT];exact e1
end
structure RowW (n:Int) (c:Cl):Prop where
 nd:c.row.Nodup
 par:∀ i,(c.par i).isSome=A5↔i∈c.row
 rg:∀ i∈c.row,1<=i/\i<=n
def RowW.same {n:Int} {c c':Cl} (h:RowW n c) (h1:c'.row=c.row) (h2:c'.par=c.par):RowW n c' :=
 ⟨by rw [h1];exact h.nd,λi=>by rw [h1,h2];exact h.par i,by rw [h1];exact h.rg⟩
def C3O {D:Dev} {n dir ino:Int} {c:Cl} (h:RowW n c):RowW n (aI D n c dir ino):=by
 unfold aI;cases ht:R9 D n c ino with
 | false=>exact h
 | true =>
  rw [cond_true];cases hs:(c.par ino).isSome with
  | true=>exact h.same rfl rfl
  | false =>
   rw [cond_false];have aK:ino ∉ c.row:=λhm=>by
    rw [(h.par ino).2 hm] at hs;cases hs
   have hk:kdV D n ino≠0:=by
    intro e;unfold R9 at ht;rw [e] at ht;simp at ht
   have hr:=(D3o hk).2;refine ⟨?_,λi=>?_,λi hi=>?_⟩
   ·show (c.row++[ino]).Nodup;rw [List.nodup_append];exact ⟨h.nd,by simp,λa ha b hb e=>by simp at hb;subst hb;subst e;exact aK ha⟩
   ·show (A3j c.par ino dir i).isSome=A5↔i∈c.row++[ino];unfold A3j;by_cases e:i=ino
    ·subst e;simp
    ·rw [if_neg e,h.par i];simp [e]
   ·have hi:i∈c.row++[ino]:=hi;rcases List.mem_append.1 hi with h1 | h1
    ·exact h.rg i h1
    ·simp at h1;subst h1;exact hr
def C3Q {D:Dev} {n ino:Int}:∀ {L:List Ent} {s:Cl × (List UInt8->Option Int)},RowW n s.1->RowW n (P8 D n ino s L).1
 | [],_,h=>h
 | x::L,s,h=>by
  have h1:RowW n (K2 D n ino s x).1:=by
   unfold K2;cases R9 D n s.1 x.2 with
   | false=>exact h
   | true=>exact C3O h
  exact C3Q (L:=L) (s:=K2 D n ino s x) h1
def nM {D:Dev} {X:List Int} {K:List UInt8->Option Int}:∀ {L:List Int} {c:Cl},(N6 D X K c L).row=c.row/\(N6 D X K c L).par=c.par
 | [],_=>⟨rfl,rfl⟩
 | no::L,c=>by
  have h1:=nM (D:=D) (X:=X) (K:=K) (L:=L) (c:=gC D X K c no);have h2:=vG (D:=D) (X:=X) (no:=no) (K:=K) (l:=H9 (blk D no)) (s:=(c,cF []));exact ⟨h1.1.trans h2.row,h1.2.trans h2.par⟩
def zR {D:Dev} {n ino:Int} {c:Cl}:SameC c (K7 D n c ino).1:=by
 unfold K7;cases (decide (kdV D n ino=2)&&O0 (blk D ((drV D n ino).getD 0 0))) with
 | true=>exact tG ..
 | false=>exact .rfl' _
def D2L {D:Dev} {n ino:Int} {c:Cl} (h:RowW n c):RowW n (rF D n c ino):=by
 have hs:=zR (D:=D) (n:=n) (ino:=ino) (c:=c);have hI:RowW n (nN D n c ino):=h.same hs.row hs.par;unfold rF;split
 ·exact hI
 ·unfold X4;have hb:=bW (D:=D) (n:=n) (L:=J0 (W5 (getD (blk D ((drV D n ino).getD 0 0))) (O6 (blk D ((drV D n ino).getD 0 0)) 32)) (C4 (L6 (getD (blk D ((drV D n ino).getD 0 0))) (O6 (blk D ((drV D n ino).getD 0 0)) 32)))) (s:=(nN D n c ino,W5 (getD (blk D ((drV D n ino).getD 0 0))) (O6 (blk D ((drV D n ino).getD 0 0)) 32)));have h1:RowW n (F9 D n (nN D n c ino) (getD (blk D ((drV D n ino).getD 0 0))) (O6 (blk D ((drV D n ino).getD 0 0)) 32)).1:=hI.same hb.row hb.par;have h2:RowW n (bodyT D n (nN D n c ino) ino (getD (blk D ((drV D n ino).getD 0 0))) (O6 (blk D ((drV D n ino).getD 0 0)) 32)).1:=C3Q (by exact h1);generalize bodyT D n (nN D n c ino) ino (getD (blk D ((drV D n ino).getD 0 0))) (O6 (blk D ((drV D n ino).getD 0 0)) 32)=s2 at *;refine h2.same (nM.1.trans rfl) (nM.2.trans rfl)
def A0K {D:Dev} {n ino:Int} {c:Cl}:(X7 D n c ino).row=c.row/\(X7 D n c ino).par=c.par/\(X7 D n c ino).lnk=c.lnk/\(X7 D n c ino).lost=c.lost/\(X7 D n c ino).ino.length=c.ino.length/\(X7 D n c ino).blocks.length<=c.blocks.length+1/\(X7 D n c ino).made.length<=c.made.length+1:=by
 have hf:=tI (D:=D) (n:=n) (ino:=ino) (c:=c);have e1:(O4 D n c ino).row=c.row:=hf.1.row;have e2:(O4 D n c ino).par=c.par:=hf.1.par;have e3:(O4 D n c ino).lnk=c.lnk:=hf.1.lnk;have e4:(O4 D n c ino).lost=c.lost:=hf.1.lost;have e5:(O4 D n c ino).ino.length=c.ino.length:=by unfold O4;simp [hf.1.ino]
 have e6:(O4 D n c ino).blocks=c.blocks:=hf.1.blocks;have e7:(O4 D n c ino).made=c.made:=hf.1.made;unfold X7;split
 ·exact ⟨e1,e2,e3,e4,e5,by rw [e6];omega,by rw [e7];omega⟩
 ·have hs:=nO (D:=D) (n:=n) (many:=cR (szV D n ino)) (e:=128) (k:=0) (s:=(O4 D n c ino,blk D ((I6 D n c ino).2.getD 6 0)));dsimp only at hs;generalize O5 D n (cR (szV D n ino)) 128 0 (O4 D n c ino,blk D ((I6 D n c ino).2.getD 6 0))=s at *;refine ⟨hs.row.trans e1,hs.par.trans e2,hs.lnk.trans e3,hs.lost.trans e4,?_,?_,?_⟩
  ·show s.1.ino.length=_;rw [hs.ino];exact e5
  ·show (s.1.blocks++[_]).length<=_;rw [D9A,hs.blocks,e6];simp
  ·show (s.1.made++[_]).length<=_;rw [D9A,hs.made,e7];simp
def W0 (D:Dev) (n:Int) (c:Cl) (ino:Int):Cl:=if ino≠1/\kdV D n ino=1 then X7 D n c ino else rF D n c ino
def ofR (D:Dev) (n:Int):Nat->Nat->Cl->Cl
 | 0,_,c=>c
 | e+1,i,c=>match c.row[i]? with
  | none=>c
  | some a=>ofR D n e (i+1) (W0 D n c a)
def C3R {D:Dev} {n ino:Int}:∀ {L:List Ent} {s:Cl × (List UInt8->Option Int)},s.1.row.length<=(P8 D n ino s L).1.row.length
 | [],_=>D9x _
 | x::L,s=>by
  have h1:s.1.row.length<=(K2 D n ino s x).1.row.length:=by
   unfold K2 aI;cases R9 D n s.1 x.2 with
   | false=>exact D9x _
   | true =>
    simp only [cond_true];cases (s.1.par x.2).isSome with
    | true=>exact D9x _
    | false=>simp [C07,A0W]
  exact D93 h1 (C3R (L:=L) (s:=K2 D n ino s x))
def B54 {c:Cl} {no:Int} {b:List UInt8}:(dU c no b).row=c.row:=rfl
def D2M {D:Dev} {n ino:Int} {c:Cl}:c.row.length<=(rF D n c ino).row.length:=by
 have hs:=zR (D:=D) (n:=n) (ino:=ino) (c:=c);have e1:(nN D n c ino).row=c.row:=hs.row;unfold rF;split
 ·rw [e1];exact D9x _
 ·unfold X4;rw [nM.1,B54,<-e1];unfold bodyT;refine D93 (Nat.le_of_eq ?_) C3R;unfold F9;exact congrArg List.length (bW (D:=D) (n:=n) (s:=(nN D n c ino,_)) (L:=_)).row.symm
def C62 {D:Dev} {n ino:Int} {c:Cl}:c.row.length<=(W0 D n c ino).row.length:=by
 unfold W0;split
 ·rw [A0K.1];exact D9x _
 ·exact D2M
section
variable {D:Dev} {n m:Int} {f:Cell} {g:A9} {r:Nat} {h:A9}
def B7c {D:Dev} {X:List Int} {K:List UInt8->Option Int}:∀ {L:List Int} {c:Cl},(N6 D X K c L).ino=c.ino
 | [],_=>rfl
 | no::L,c=>by
  have h1:=B7c (D:=D) (X:=X) (K:=K) (L:=L) (c:=gC D X K c no);have h2:=vG (D:=D) (X:=X) (no:=no) (K:=K) (l:=H9 (blk D no)) (s:=(c,cF []));exact h1.trans h2.ino
def mQ {D:Dev} {n ino:Int} {c:Cl} (h:RowW n c):RowW n (W0 D n c ino):=by
 unfold W0;split
 ·exact h.same A0K.1 A0K.2.1
 ·exact D2L h
def D5r {pv pr q:Nat} {zr:List Cell} {h0:A9} (hD:okD D) (hv:IsView g f D) (hn:n<=128) :
  ∀ (e i M:Nat) (c:Cl) (h:A9),i+e=129->e<M->i<=c.row.length->RowW n c->Small c 128 (224*i) (33*i) (224*i)->WP D n m f g r c h->Fr r h0 h->LocV h r pv (vwC D.length n m f)->LocV h r pr zr ->
  ∃ M' h',oK q M (pV pv 0) (pV pr 0) (pV r 0) (iV (i:Int)) h=oK q (M'+1) (pV pv 0) (pV pr 0) (pV r 0) (iV ((ofR D n e i c).row.length:Nat)) h' /\
   WP D n m f g r (ofR D n e i c) h'/\Fr r h0 h'/\LocV h' r pv (vwC D.length n m f)/\LocV h' r pr zr/\RowW n (ofR D n e i c)/\Small (ofR D n e i c) 128 (224*129) (33*129) (224*129):=by
 intro e
 induction e with
 | zero =>
  intro i M c h hi hM gX hR sm;have:=A5O hR.nd λa ha=>⟨(hR.rg a ha).1,by have:=(hR.rg a ha).2;omega⟩
  omega
 | succ e ih =>
  intro i M c h hi hM gX hR sm P F hpv hpr;obtain ⟨M,rfl⟩:∃ M',M=M'+1:=⟨M-1,by omega⟩;unfold ofR;cases hc:c.row[i]? with
  | none =>
   have hlen:=List.getElem?_eq_none_iff.1 hc;have ei:i=c.row.length:=by omega
   dsimp only;rw [<-ei];exact ⟨M,h,rfl,P,F,hpv,hpr,hR,⟨sm.row,sm.lnk.mono (by omega),D93 sm.blocks (by omega),D93 sm.made (by omega),sm.lost0,by have:=sm.lost;omega⟩⟩
  | some a =>
   dsimp only;have L8:i<c.row.length:=(List.getElem?_eq_some_iff.1 hc).1;have ha:a∈c.row:=D9S hc;obtain ⟨ra1,ra2⟩:=hR.rg a ha;obtain ⟨xr,xi,xt,xb,xm,ml,mp,es1,es2,g1,g2,g3,g4,g5,g6,g7,g8,g9,g10,g11⟩:=id P.row;have w1:=D9 (show i+1<9223372036854775808 by omega);have c0:((i:Int)<(c.row.length:Nat)):=by omega
   rcases g3 with ⟨e0,_,_⟩ | ⟨rid,rfl,r1,r2,r3⟩
   ·omega
   ·have l4:B8 h (pV r 4)=A4 (sV rid 0 c.row.length 1):=B9 g1 rfl rfl;have ad:E5 1 (sV rid 0 c.row.length 1) (iV (i:Int))=A4 (pV rid i):=by rw [D8 L8];simp
    have la:B8 h (pV rid i)=A4 (iV a):=B9 r1 (by rw [H0,hc];rfl) rfl;have lV:D3 h 4 (pV pv 0)=A4 (.a (vwC D.length n m f)):=C9 hpv.2 rfl;have hI:=Z0 (n:=n) (m:=m) (i:=a) hD (hv.since P.lo);rw [A11] at hI;have f0:∀ k l s p d,B3g (.a (D4 k l s p d)) 0=A4 (iV k):=λ_ _ _ _ _=>rfl
    have hin:a.toNat<c.ino.length:=by rw [P.ilen];omega
    have hR':=mQ (D:=D) (ino:=a) hR;have r128:=A5O hR'.nd λa ha=>⟨(hR'.rg a ha).1,by have:=(hR'.rg a ha).2;omega⟩
    have step:∃ h1,WP D n m f g r (W0 D n c a) h1/\Fr r h h1/\Small (W0 D n c a) 128 (224*(i+1)) (33*(i+1)) (224*(i+1)) /\
      oK q (M+1) (pV pv 0) (pV pr 0) (pV r 0) (iV (i:Int)) h=oK q M (pV pv 0) (pV pr 0) (pV r 0) (iV ((i+1:Nat):Int)) h1:=by
     rw [A8j];have hs:=A0K (D:=D) (n:=n) (ino:=a) (c:=c);have sb:=sm.blocks;have smd:=sm.made;have sl:=sm.lost;by_cases c1:a=1
     ·obtain ⟨h1,f1,f2,f3,f4⟩:=D2Q hD hv P (by omega) hin (by omega) (by omega) (by omega) (by omega) sm;have eo:W0 D n c a=rF D n c a:=by unfold W0;rw [if_neg (by simp [c1])]
      rw [eo] at r128 ⊢;refine ⟨h1,f2,f3,⟨r128,f4.lnk.mono (by omega),by have:=f4.blocks;omega,by have:=f4.made;omega,f4.lost0,by have:=f4.lost;omega⟩,?_⟩;rw [c1] at la f1;generalize vwC D.length n m f=V at *;simp only [esc,l4,c0,ad,la,eq_self,f1,A0I,w1]
     ·by_cases c2:kdV D n a=1
      ·obtain ⟨h1,f1,f2,f3⟩:=D47 hD hv P (by omega) (by omega) (by omega) hin;have eo:W0 D n c a=X7 D n c a:=by unfold W0;rw [if_pos ⟨c1,c2⟩]
       rw [eo] at r128 ⊢;refine ⟨h1,f2,f3,⟨r128,λj=>by rw [hs.2.2.1];have:=sm.lnk j;omega,by have:=hs.2.2.2.2.2.1;omega,by have:=hs.2.2.2.2.2.2;omega,by rw [hs.2.2.2.1];exact sm.lost0,by rw [hs.2.2.2.1];omega⟩,?_⟩;generalize vwC D.length n m f=V at *;simp only [esc,l4,c0,ad,la,c1,lV,hI,f0,c2,f1,A0I,w1]
      ·obtain ⟨h1,f1,f2,f3,f4⟩:=D2Q hD hv P (by omega) hin (by omega) (by omega) (by omega) (by omega) sm;have eo:W0 D n c a=rF D n c a:=by unfold W0;rw [if_neg (by simp [c2])]
       rw [eo] at r128 ⊢;refine ⟨h1,f2,f3,⟨r128,f4.lnk.mono (by omega),by have:=f4.blocks;omega,by have:=f4.made;omega,f4.lost0,by have:=f4.lost;omega⟩,?_⟩;generalize vwC D.length n m f=V at *;simp only [esc,l4,c0,ad,la,c1,lV,hI,f0,c2,f1,A0I,w1]
    obtain ⟨h1,s1,s2,s3,s4⟩:=step;have hlen:i+1<=(W0 D n c a).row.length:=by
     have:c.row.length<=(W0 D n c a).row.length:=C62;omega
    obtain ⟨M',h',e1,e2⟩:=ih (i+1) M (W0 D n c a) h1 (by omega) (by omega) hlen hR' s3 s1 (F.trans s2) (hpv.fr s2) (hpr.fr s2);exact ⟨M',h',s4.trans e1,e2⟩
end
def C7u:∀ {l:List (List Int)} {i k:Nat} {v:Int} (h:∀ x∈l,x.length=11) (hi:i<l.length) (hk:k<11),(jE l).set (i*11+k) (.i .i64 v)=jE (l.set i ((l.getD i []).set k v))
 | x::l,0,k,v,h,_,hk=>by
  have hx:=h x (D9I ..);rw [V9,Nat.zero_mul,D9T,List.set_append_left _ _ (by rw [C1];omega),qY];rfl
 | x::l,i+1,k,v,h,hi,hk=>by
  have hx:=h x (D9I ..);have ih:=C7u (l:=l) (i:=i) (k:=k) (v:=v) (λy hy=>h y (D9F _ hy)) (by simpa using hi) hk;rw [V9,D96 _ _ (by rw [C1,hx];omega),C1,hx,show (i+1)*11+k-11=i*11+k by omega,ih];rfl
def C6t:∀ {l:List (List Int)} {i k:Nat} (h:∀ x∈l,x.length=11) (hi:i<l.length) (hk:k<11),(jE l)[i*11+k]?=A4 (.i .i64 ((l.getD i []).getD k 0))
 | x::l,0,k,h,_,hk=>by
  have hx:=h x (D9I ..);rw [V9,Nat.zero_mul,D9T,D94 (by rw [C1];omega),H0,D9u (by omega)];simp [List.getD,show k<x.length by omega]
 | x::l,i+1,k,h,hi,hk=>by
  have hx:=h x (D9I ..);have ih:=C6t (l:=l) (i:=i) (k:=k) (λy hy=>h y (D9F _ hy)) (by simpa using hi) hk;rw [V9,D9P (by rw [C1,hx];omega),C1,hx,show (i+1)*11+k-11=i*11+k by omega,ih];rfl
def cZ (c:Cl) (a:Int):Cl:=if (c.ino.getD a.toNat []).getD 0 0=1 then { c with ino:=c.ino.set a.toNat ((c.ino.getD a.toNat []).set 1 ((c.lnk a).getD 0)) } else c
def aS (c:Cl) (L:List Int):Cl:=L.foldl cZ c
section
variable {D:Dev} {n m:Int} {f:Cell} {g:A9} {r:Nat} {c:Cl} {h:A9}
def WP.setLink (hv:∃ id cs,f=.f id cs) (P:WP D n m f g r c h) {k:Nat} (hk:k<c.ino.length) (v:Int) :
  ∃ id h',B8 h (pV r 5)=A4 (sV id 0 c.ino.length 11)/\rd h id=rT (jE c.ino)/\H1 h (pV id (k*11+1)) (iV v)=A4 h'/\WP D n m f g r { c with ino:=c.ino.set k ((c.ino.getD k []).set 1 v) } h'/\Fr r h h' /\
   ∀ rid nn,rd h r≠A7->(∃ cs,rd h r=rT cs/\cs[4]?=A4 (.sl rid 0 nn 1))->rd h' r=rd h r/\rd h' rid=rd h rid:=by
 obtain ⟨xr,xi,xt,xb,xm,ml,mp,es1,es2,g1,g2,g3,g4,g5,g6,g7,g8,g9,g10,g11⟩:=id P.row;rcases g4 with ⟨e,_,_⟩ | ⟨t,rfl,t1,t2,t3⟩
 ·omega
 ·have l1:B8 h (pV r 5)=A4 (sV t 0 c.ino.length 11):=B9 g1 rfl rfl;have st:=I3 (x:=.i .i64 v) (off:=k*11+1) t1 (by rw [t2];omega);rw [C7u P.il hk (by omega)] at st;obtain ⟨q1,q2,q3,q4,q5⟩:=P.mod (off:=5) (x:=.sl t 0 c.ino.length 11) hv g1 rfl rfl (rT (jE (c.ino.set k ((c.ino.getD k []).set 1 v))));have hkl:(c.ino.getD k []).length=11:=by
   rw [D9z,D9u hk];exact P.il _ (D9Y hk)
  have L8:∀ x∈c.ino.set k ((c.ino.getD k []).set 1 v),x.length=11:=λx hx=>by
   rcases List.mem_or_eq_of_mem_set hx with h1 | h1
   ·exact P.il x h1
   ·rw [h1,E0c];exact hkl
  refine ⟨t,_,l1,t1,st,⟨q2,P.ge,λid hn=>P.low id ((Nam.same q3).1 hn),L8,by simpa using P.ilen,P.tlen,xr,_,xt,xb,xm,ml,mp,es1,es2,by rw [q3];exact g1,g2,g3.kept λid e=>q4 4 _ _ (by decide) rfl e,.inr ⟨t,by simp,q5,by rw [kN L8],t3⟩,g5.kept λid e=>q4 6 _ _ (by decide) rfl e,g6.kept λid e=>q4 7 _ _ (by decide) rfl e,g7.kept λid e=>q4 8 _ _ (by decide) rfl e,?_,g9,?_,g11⟩,q1,λrid nn _ hc=>⟨q3,?_⟩⟩
  ·rw [q4 10 (.m ml) ml (by decide) rfl rfl];exact g8
  ·rw [q4 11 (.m mp) mp (by decide) rfl rfl];exact g10
  ·obtain ⟨cs,hc1,hc2⟩:=hc;rw [g1] at hc1;cases hc1;exact q4 4 _ rid (by decide) hc2 rfl
def D1e {pr q rid:Nat} {R:List Int} {h0:A9} (hv:IsView g f D) (hR:R.length<=1000) (hrg:∀ a∈R,1<=a/\a<=n) :
  ∀ (e i M:Nat) (c:Cl) (h:A9),i+e=R.length->e<M->WP D n m f g r c h->Fr r h0 h->(∃ z,z.length=6/\LocV h r pr z)->(∃ cs,rd h r=rT cs/\cs[4]?=A4 (.sl rid 0 R.length 1))->rd h rid=rT (encI R) ->
  ∃ M' h',A8k q M (pV pr 0) (pV r 0) (sV rid 0 R.length 1) (iV (R.length:Nat)) (iV (i:Int)) h=A8k q (M'+1) (pV pr 0) (pV r 0) (sV rid 0 R.length 1) (iV (R.length:Nat)) (iV (R.length:Nat)) h' /\
   WP D n m f g r (aS c (R.drop i)) h'/\Fr r h0 h'/\(∃ z,z.length=6/\LocV h' r pr z):=by
 intro e
 induction e with
 | zero =>
  intro i M c h hi hM P F hz hc hr;obtain ⟨M,rfl⟩:∃ M',M=M'+1:=⟨M-1,by omega⟩;have ei:i=R.length:=by omega
  subst ei;rw [List.drop_length];exact ⟨M,h,rfl,P,F,hz⟩
 | succ e ih =>
  intro i M c h hi hM P F hz hc hr;obtain ⟨M,rfl⟩:∃ M',M=M'+1:=⟨M-1,by omega⟩;have L8:i<R.length:=by omega
  have hv2:=hv.get;have c0:((i:Int)<(R.length:Nat)):=by omega
  have w1:=D9 (show i+1<9223372036854775808 by omega);have ad:E5 1 (sV rid 0 R.length 1) (iV (i:Int))=A4 (pV rid i):=by rw [D8 L8];simp
  have la:B8 h (pV rid i)=A4 (iV R[i]):=B9 hr (by rw [H0,D9u L8];rfl) rfl;obtain ⟨ra1,ra2⟩:=hrg _ (D9Y L8);rw [D9E L8];have er:∀ T,aS c (R[i]::T)=aS (cZ c R[i]) T:=λT=>rfl
  rw [er];obtain ⟨k,hk⟩:=E0i (show 0<=R[i] by omega);rw [hk] at la ra1 ra2 ⊢;have hin:k<c.ino.length:=by rw [P.ilen];omega
  obtain ⟨id,h1,a1,a2,a3,a4,a5,a6⟩:=P.setLink hv2 hin ((c.lnk k).getD 0);obtain ⟨ml,hx,b1,b2,_⟩:=P.setLnk hv2 0 0;have b2':=b2 A6 k;have adI:E5 11 (sV id 0 c.ino.length 11) (iV (k:Int))=A4 (pV id (k*11)):=by rw [D8 hin];simp
  have lk:B8 h (pV id (k*11))=A4 (iV ((c.ino.getD k []).getD 0 0)):=B9 a2 (by have:=C6t (l:=c.ino) (i:=k) (k:=0) P.il hin (by omega);simpa using this) rfl;rw [A8l];by_cases c1:(c.ino.getD k []).getD 0 0=1
  ·have ec:cZ c (k:Int)={ c with ino:=c.ino.set k ((c.ino.getD k []).set 1 ((c.lnk k).getD 0)) }:=by unfold cZ;rw [D9N,if_pos c1]
   rw [ec];have Z5:rd h r≠A7:=by obtain ⟨cs,h1,_⟩:=hc;rw [h1];simp
   obtain ⟨k1,k2⟩:=a6 rid R.length Z5 hc;obtain ⟨z,uS,hz⟩:=hz;obtain ⟨M',h',e1,e2⟩:=ih (i+1) M _ h1 (by omega) (by omega) a4 (F.trans a5) ⟨z,uS,hz.fr a5⟩ (by rw [k1];exact hc) (by rw [k2];exact hr);refine ⟨M',h',?_,e2⟩;simp only [esc,Nat.reduceAdd,c0,ad,la,a1,adI,lk,c1,b1,b2',oV,a3,A8h,w1];exact e1
  ·have ec:cZ c (k:Int)=c:=by unfold cZ;rw [D9N,if_neg c1]
   rw [ec];obtain ⟨M',h',e1,e2⟩:=ih (i+1) M c h (by omega) (by omega) P F hz hc hr;refine ⟨M',h',?_,e2⟩;simp only [esc,Nat.reduceAdd,c0,ad,la,a1,adI,lk,c1,A8h,w1];exact e1
def A3a (c:Cl):Nat->Cl
 | 0=>c
 | k+1=>{ A3a c k with taken:=(A3a c k).taken.set k A5 }
def D3O {pv pr q sid K:Nat} {cv cr:List Cell} {h0:A9} (hv:IsView g f D) (hK:K<=D.length) (hK2:K<=1000) :
  ∀ (e i M:Nat) (h:A9),i+e=K->e<M->WP D n m f g r (A3a c i) h->Fr r h0 h->LocV h r pv cv->LocV h r pr cr->LocV h r sid (encI (upto K)) ->
  ∃ h',B7a q M (pV pv 0) (pV pr 0) (pV r 0) (sV sid 0 K 1) (iV (K:Nat)) (iV (i:Int)) h=oK q q (pV pv 0) (pV pr 0) (pV r 0) (iV 0) h' /\
   WP D n m f g r (A3a c K) h'/\Fr r h0 h'/\LocV h' r pv cv/\LocV h' r pr cr:=by
 intro e
 induction e with
 | zero =>
  intro i M h hi hM P F hp hr hs;obtain ⟨M,rfl⟩:∃ M',M=M'+1:=⟨M-1,by omega⟩;have ei:i=K:=by omega
  subst ei;refine ⟨h,?_,P,F,hp,hr⟩;have c0:¬ ((i:Int)<(i:Nat)):=by omega
  rw [A8i];simp only [esc,c0]
 | succ e ih =>
  intro i M h hi hM P F hp hr hs;obtain ⟨M,rfl⟩:∃ M',M=M'+1:=⟨M-1,by omega⟩;have hiK:i<K:=by omega
  have c0:((i:Int)<(K:Nat)):=by omega
  have w1:=D9 (show i+1<9223372036854775808 by omega);have ad:E5 1 (sV sid 0 K 1) (iV (i:Int))=A4 (pV sid i):=by rw [D8 hiK];simp
  have la:B8 h (pV sid i)=A4 (iV (i:Int)):=B9 hs.2 (by rw [H0];simp [upto,hiK]) rfl;obtain ⟨xr,xi,xt,xb,xm,ml,mp,es1,es2,g1,_⟩:=id P.row;obtain ⟨t,rfl,t1,t2,t3⟩:=P.take (k:=i) (v:=A5) g1 (by omega);have lT:B8 h (pV r 6)=A4 (sV t 0 D.length 1):=B9 g1 rfl rfl;have hit:i<(A3a c i).taken.length:=by rw [P.tlen];omega
  have adT:E5 1 (sV t 0 D.length 1) (iV (i:Int))=A4 (pV t i):=by rw [D8 (show i<D.length by omega)];simp
  have s1:H1 h (pV t i) (bV A5)=A4 (h.set t (rT (bI ((A3a c i).taken.set i A5)))):=by
   rw [I3 t1 (by simp [bI,hit])];simp [bI,List.map_set]
  obtain ⟨h',e1,e2⟩:=ih (i+1) M _ (by omega) (by omega) t2 (F.trans t3) (hp.fr t3) (hr.fr t3) (hs.fr t3);refine ⟨h',?_,e2⟩;rw [A8i];simp only [esc,Nat.reduceAdd,c0,ad,la,lT,adT,s1,w1];exact e1
end
def B1J {h2:A9} {b:Nat}:∀ (l:List Cell) (seen:List Nat),(∀ x∈l,x.flat=A5\/∃ id off n sz cs,x=.sl id off n sz/\b<=id/\rd h2 id=rT cs/\K1 cs=A5) ->
  (∀ (i j a:Nat) (x y:Cell),l[i]?=A4 x->l[j]?=A4 y->nmC x=A4 a->nmC y=A4 a->i=j)->(∀ x∈l,∀ a,nmC x=A4 a->a ∉ seen) ->
  ∃ l2 fin,M6 h2 b seen l=A4 (l2,fin)/\seen <+: fin/\l2.length=l.length/\∀ (i:Nat) (x:Cell),l[i]?=A4 x->(x.flat=A5/\l2[i]?=A4 x)\/∃ id off n sz j,x=.sl id off n sz/\l2[i]?=A4 (.sl (b+j) off n sz)/\fin[j]?=A4 id
 | [],seen,_,_,_=>⟨[],seen,rfl,E0a _,rfl,λi x h=>by simp at h⟩
 | c::l,seen,hf,hd,hs=>by
  have hd':∀ (i j a:Nat) (x y:Cell),l[i]?=A4 x->l[j]?=A4 y->nmC x=A4 a->nmC y=A4 a->i=j:=λi j a x y h1 h2 h3 h4=>by
   have:=hd (i+1) (j+1) a x y (by simpa using h1) (by simpa using h2) h3 h4;omega
  rcases hf c (D9I ..) with hc | ⟨id,off,n,sz,cs,rfl,hb,hr,hfl⟩
  ·obtain ⟨l2,fin,e1,e2,e3,e4⟩:=B1J l seen (λx hx=>hf x (D9F _ hx)) hd' λx hx=>hs x (D9F _ hx)
   refine ⟨c::l2,fin,?_,e2,by simp [e3],λi x hi=>?_⟩
   ·unfold M6;rw [if_pos (Cell.low_of_flat hc),e1];rfl
   ·cases i with
    | zero=>simp at hi;subst hi;exact .inl ⟨hc,rfl⟩
    | succ i=>simpa using e4 i x (by simpa using hi)
  ·have hns:id ∉ seen:=hs _ (D9I ..) id rfl;obtain ⟨l2,fin,e1,e2,e3,e4⟩:=B1J l (seen++[id]) (λx hx=>hf x (D9F _ hx)) hd' λx hx a ha=>by
    rw [List.mem_append];rintro (h1 | h1)
    ·exact hs x (D9F _ hx) a ha h1
    ·simp at h1;subst h1;obtain ⟨j,hj⟩:=List.mem_iff_getElem?.1 hx;have:=hd 0 (j+1) a _ x rfl (by simpa using hj) rfl ha;omega
   have hlow:¬ (Cell.sl id off n sz).low b=A5:=by simp [Cell.low];omega
   refine ⟨.sl (b+seen.length) off n sz::l2,fin,?_,(List.prefix_append _ _).trans e2,by simp [e3],λi x hi=>?_⟩
   ·unfold M6;rw [if_neg hlow];dsimp only;rw [if_pos ⟨hb,hns,oQ hr hfl⟩,e1];rfl
   ·cases i with
    | zero =>
     simp at hi;subst hi;refine .inr ⟨id,off,n,sz,seen.length,rfl,rfl,?_⟩;obtain ⟨t,rfl⟩:=e2;simp
    | succ i=>simpa using e4 i x (by simpa using hi)
structure IsCl (h:A9) (cs:List Cell) (c:Cl):Prop where
 form:∃ xr xi xt xb xm,cs=[xr,xi,xt,xb,xm,.i .i64 c.lost]/\Has h (.c xr) 1 c.row.length (encI c.row)/\Has h (.c xi) 11 c.ino.length (jE c.ino)/\Has h (.c xt) 1 c.taken.length (bI c.taken)/\Has h (.c xb) 1 c.blocks.length (encI c.blocks)/\Has h (.c xm) 256 c.made.length (C8 c.made)
def G7 (D:Dev) (n:Int):Cl:=⟨[1],D9w (n+1).toNat (zI 11),D9w D.length A6,[],[],0,λ_=>A7,A3j (λ_=>A7) 1 1⟩
def H8 (D:Dev) (n:Int):Cl:=ofR D n 129 0 (A3a (G7 D n) (eV D.length n).toNat)
def F5 (D:Dev) (n:Int):Cl:=aS (H8 D n) (H8 D n).row
def HeldX.canon {g h:A9} {x:Cell} {l:List Cell} {n sz r:Nat} (hx:HeldX h x l n sz r) (hf:K1 l=A5) (hlow:∀ id,nmC x=A4 id->g.length<=id):x.flat=A5\/∃ id off n sz cs,x=.sl id off n sz/\g.length<=id/\rd h id=rT cs/\K1 cs=A5:=by
 rcases hx with ⟨_,_,rfl⟩ | ⟨id,rfl,h1,h2,h3⟩
 ·exact .inl rfl
 ·exact .inr ⟨id,0,n,sz,l,rfl,hlow id rfl,h1,hf⟩
def HeldX.moved {h h2:A9} {x y:Cell} {l:List Cell} {n sz r:Nat} {fin:List Nat} (hx:HeldX h2 x l n sz r) (hn:noX l=A5) (hy:(x.flat=A5/\y=x)\/∃ id off n sz j,x=.sl id off n sz/\y=.sl (h.length+j) off n sz/\fin[j]?=A4 id):Has (h++fin.map (rd h2)) (.c y) sz n l:=by
 rcases hx with ⟨h1,h3,h4⟩ | ⟨id,rfl,h1,h3,h4⟩
 ·subst h4;rcases hy with ⟨_,rfl⟩ | ⟨_,_,_,_,_,e,_⟩
  ·exact .inl ⟨rfl,h1,h3⟩
  ·cases e
 ·rcases hy with ⟨e,_⟩ | ⟨bQ,off,n',sz',j,e,rfl,hj⟩
  ·cases e
  ·cases e;refine Has.row (rw:=A5) ?_ h3 hn;unfold rd;rw [D9P (by omega),show h.length+j-h.length=j by omega,E0C,hj];exact h1
def C40 {D:Dev} {n:Int}:∀ {e i:Nat} {c:Cl},c.row.length<=(ofR D n e i c).row.length
 | 0,_,_=>D9x _
 | e+1,i,c=>by
  unfold ofR;cases c.row[i]? with
  | none=>exact D9x _
  | some a=>exact D93 C62 C40
def D4Z {b n:Int} (h:P5 b n=A5):eV b n<=b:=by
 obtain ⟨_,_,_,_,_,h6⟩:=H5.1 h;have:=H5.1 h;unfold eV rM A06;rw [h];simp only [cond_true];omega
def ownR_same {c:Cl}:∀ {k:Nat},SameC c (A3a c k)
 | 0=>.rfl' _
 | k+1=>by
  have h:=ownR_same (c:=c) (k:=k);exact ⟨h.row,h.ino,h.blocks,h.made,h.lost,h.lnk,h.par⟩
section
variable {D:Dev} {n m:Int} {f:Cell} {h:A9}
def C24 {g:A9} (hD:okD D) (hv:IsView g f D) (hm:P5 D.length n=A5) :
  ∃ six g',B04 1200 [.a (vwC D.length n m f)] g=A4 (.a six,g')/\WP D n m f g (g.length+4) (F5 D n) g'/\∃ V t,rd g' (g.length+4)=rT (V++six++t)/\V.length=4/\six.length=6/\RowW n (H8 D n)/\Small (H8 D n) 128 (224*129) (33*129) (224*129):=by
 have hv2:=hv.get;obtain ⟨b16,b512,n8,n128,_,_⟩:=H5.1 hm;obtain ⟨N,hN⟩:∃ N:Nat,n+1=(N:Int):=E0i (by omega);have hCk:=λh=>aH (b:=D.length) (n:=n) (m:=m) (h:=h)
 rw [hm,cond_true] at hCk;obtain ⟨W,hW⟩:∃ W,W=wkC D n m f (.sl (g.length+5) 0 1 1) (.sl (g.length+6) 0 N 11) (.sl (g.length+7) 0 D.length 1) .ns .ns 0 (g.length+2) (g.length+3):=⟨_,rfl⟩;obtain ⟨T,hT⟩:∃ T:A9,T=[rT (vwC D.length n m f),rT [.ns,.ns,.ns,.ns,.ns,o0],A4 (K8 []),A4 (K8 [(.i .i64 1,.c (.i .i64 1))]),rT W,rT [.i .i64 1],rT (jE (D9w N (zI 11))),rT (bI (D9w D.length A6))]:=⟨_,rfl⟩;have at_:∀ (k:Nat) (x:Option Row),T[k]?=A4 x->rd (g++T) (g.length+k)=x:=λk x hk=>by
  unfold rd;rw [D9P (by omega),show g.length+k-g.length=k by omega,hk];rfl
 have L8:∀ x∈D9w N (zI 11),x.length=11:=λx hx=>by rw [List.eq_of_mem_replicate hx];simp [zI]
 have P0:WP D n m f g (g.length+4) (G7 D n) (g++T):=by
  have r4:=at_ 4 (rT W) (by rw [hT];rfl);rw [hW] at r4;refine ⟨(Low.refl (D9x _)).new _,by omega,λid hn=>?_,?_,?_,?_,?_⟩
  ·obtain ⟨R,x,hR,hx,hnm⟩:=hn;rw [r4] at hR;cases hR;obtain ⟨fi,fc,rfl⟩:=hv2;simp only [wkC,E0B,List.not_mem_nil,or_false] at hx;rcases hx with rfl | rfl | rfl | rfl | rfl | rfl | rfl | rfl | rfl | rfl | rfl | rfl<;>cases hnm<;>omega
  ·intro x hx;exact L8 x (by unfold G7 at hx;dsimp only at hx;rw [hN] at hx;simpa using hx)
  ·simp [G7]
  ·simp [G7]
  ·refine ⟨_,_,_,_,_,_,_,[],[(.i .i64 1,.c (.i .i64 1))],r4,⟨λi j a x y hi hj hx hy=>?_,λx hx=>?_⟩,.inr ⟨_,rfl,at_ 5 _ (by rw [hT];rfl),rfl,by omega⟩,?_,?_,.inl ⟨rfl,rfl,rfl⟩,.inl ⟨rfl,rfl,rfl⟩,at_ 2 _ (by rw [hT];rfl),MapI.nil,at_ 3 _ (by rw [hT];rfl),MapI.nil.put 1 1⟩
   ·obtain ⟨fi,fc,rfl⟩:=hv2;have hi2:=(List.getElem?_eq_some_iff.1 hi).1;have hj2:=(List.getElem?_eq_some_iff.1 hj).1;simp only [wkC,D9G,D95] at hi2 hj2;have cases12:∀ k:Nat,k<12->k=0\/k=1\/k=2\/k=3\/k=4\/k=5\/k=6\/k=7\/k=8\/k=9\/k=10\/k=11:=λk hk=>by omega
    rcases cases12 i (by omega) with rfl | rfl | rfl | rfl | rfl | rfl | rfl | rfl | rfl | rfl | rfl | rfl<;>(cases hi;try cases hx) <;>
     (rcases cases12 j (by omega) with rfl | rfl | rfl | rfl | rfl | rfl | rfl | rfl | rfl | rfl | rfl | rfl<;>(cases hj;try simp [nmC] at hy)<;>first | rfl | omega)
   ·obtain ⟨fi,fc,rfl⟩:=hv2;simp only [wkC,E0B,List.not_mem_nil,or_false] at hx;rcases hx with rfl | rfl | rfl | rfl | rfl | rfl | rfl | rfl | rfl | rfl | rfl | rfl<;>simp [nmC]
   ·have e:(G7 D n).ino=D9w N (zI 11):=by unfold G7;rw [hN];simp
    rw [e,D9X];exact .inr ⟨_,rfl,at_ 6 _ (by rw [hT];rfl),by rw [kN L8,D9X],by omega⟩
   ·have e:(G7 D n).taken=D9w D.length A6:=rfl;rw [e,D9X];exact .inr ⟨_,rfl,at_ 7 _ (by rw [hT];rfl),by simp [bI],by omega⟩
 have r4:=at_ 4 (rT W) (by rw [hT];rfl);have noN:∀ k:Nat,k<2->¬ Nam (g++T) (g.length+4) (g.length+k):=by
  rintro k hk ⟨R,x,hR,hx,hnm⟩;rw [r4,hW] at hR;cases hR;obtain ⟨fi,fc,rfl⟩:=hv2;simp only [wkC,E0B,List.not_mem_nil,or_false] at hx;rcases hx with rfl | rfl | rfl | rfl | rfl | rfl | rfl | rfl | rfl | rfl | rfl | rfl<;>simp [nmC] at hnm<;>omega
 have hTl:T.length=8:=by rw [hT];rfl
 have hGl:(g++T).length=g.length+8:=by rw [D9A,hTl]
 have LV:LocV (g++T) (g.length+4) g.length (vwC D.length n m f):=⟨⟨by omega,by omega,by simpa using noN 0 (by omega)⟩,by simpa using at_ 0 _ (by rw [hT];rfl)⟩;have LR:LocV (g++T) (g.length+4) (g.length+1) [.ns,.ns,.ns,.ns,.ns,o0]:=⟨⟨by omega,by omega,noN 1 (by omega)⟩,at_ 1 _ (by rw [hT];rfl)⟩;obtain ⟨K,hK⟩:∃ K,K=(eV D.length n).toNat:=⟨_,rfl⟩;have hKr:=A5u (b:=(D.length:Int)) (n:=n);have hKD:K<=D.length/\K<=1000:=by
  rw [hK];have:eV (D.length:Int) n<=D.length:=D4Z hm;omega
 have D49:=B7k (b:=D.length) (n:=n) (m:=m) (h:=g++T);rw [<-hK] at D49;have eu:(upto K).length=K:=by simp [upto]
 have P1:=P0.more hv2 [rT (encI (upto K))];have F1:Fr (g.length+4) (g++T) (g++T++[rT (encI (upto K))]):=Fr.low ((Low.refl (D9x _)).new _) P0.rlt;have LO:LocV (g++T++[rT (encI (upto K))]) (g.length+4) ((g++T).length+0) (encI (upto K)):=LocV.new (k:=0) hv2 P0 rfl;rw [E0D] at LO;obtain ⟨h1,e1,P2,F2,LV2,LR2⟩:=D3O (c:=G7 D n) (q:=1200) (pv:=g.length) (pr:=g.length+1) (sid:=(g++T).length) (h0:=g++T) hv hKD.1 hKD.2 K 0 1200 _ (by omega) (by omega) P1 F1 (LV.fr F1) (LR.fr F1) LO;have hsO:=ownR_same (c:=G7 D n) (k:=K);have rI:RowW n (A3a (G7 D n) K):=by
  refine RowW.same (c:=G7 D n) ⟨by simp [G7],λi=>?_,λi hi=>?_⟩ hsO.row hsO.par
  ·by_cases c1:i=1
   ·subst c1;simp [G7,A3j]
   ·simp [G7,A3j,c1]
  ·simp [G7] at hi;omega
 have smI:Small (A3a (G7 D n) K) 128 (224*0) (33*0) (224*0):=⟨by rw [hsO.row];simp [G7],λi=>by rw [hsO.lnk];simp [G7],by rw [hsO.blocks];simp [G7],by rw [hsO.made];simp [G7],by rw [hsO.lost];simp [G7],by rw [hsO.lost];simp [G7]⟩;obtain ⟨M',h2,e2,P3,F3,LV3,LR3,rO,smO⟩:=D5r (q:=1200) (pv:=g.length) (pr:=g.length+1) (h0:=g++T) hD hv n128 129 0 1200 (A3a (G7 D n) K) h1 (by omega) (by omega) (by omega) rI smI P2 F2 LV2 LR2;have ecO:ofR D n 129 0 (A3a (G7 D n) K)=H8 D n:=by unfold H8;rw [<-hK]
 rw [ecO] at e2 P3 rO smO;obtain ⟨c,hc⟩:∃ c,c=H8 D n:=⟨_,rfl⟩;rw [<-hc] at e2 P3 rO smO;have nQ:1<=c.row.length:=by
  have:(A3a (G7 D n) K).row.length<=c.row.length:=by rw [hc,<-ecO];exact C40
  rw [hsO.row] at this;simpa [G7] using this
 obtain ⟨xr,xi,xt,xb,xm,ml,mp,es1,es2,g1,g2,g3,g4,g5,g6,g7,g8,g9,g10,g11⟩:=id P3.row;rcases g3 with ⟨e0,_,_⟩ | ⟨rid,rfl,r1,r2,r3⟩
 ·omega
 have l4:B8 h2 (.c (.p (g.length+4) 4))=A4 (.c (.sl rid 0 c.row.length 1)):=B9 g1 rfl rfl;have c0:¬ ((c.row.length:Nat):Int)<(c.row.length:Nat):=by omega
 have r128:=A5O rO.nd λa ha=>⟨(rO.rg a ha).1,by have:=(rO.rg a ha).2;omega⟩
 obtain ⟨M2,h3,e3,P4,F4,z,uS,LR4⟩:=D1e (q:=1200) (pr:=g.length+1) (rid:=rid) (R:=c.row) (h0:=g++T) hv (by omega) rO.rg c.row.length 0 1200 c h2 (by omega) (by omega) P3 F3 ⟨_,rfl,LR3⟩ ⟨_,g1,rfl⟩ r1;rw [D9O] at P4;have ecF:aS c c.row=F5 D n:=by unfold F5;rw [<-hc]
 rw [ecF] at P4;obtain ⟨yr,yi,yt,yb,ym,nl,np,fs1,fs2,k1,k2,_⟩:=id P4.row;have l6:D3 h3 6 (.c (.p (g.length+4) 4))=A4 (.a [yr,yi,yt,yb,ym,.i .i64 (F5 D n).lost]):=by rw [T2 k1 (by simp [wkC]) rfl];rfl
 have s6:=storeAll (n:=6) (xs:=[yr,yi,yt,yb,ym,.i .i64 (F5 D n).lost]) LR4.2 uS rfl;have LR5:=LR4.self (cs':=[yr,yi,yt,yb,ym,.i .i64 (F5 D n).lost]);have l6':=C9 (n:=6) LR5.2 rfl;refine ⟨[yr,yi,yt,yb,ym,.i .i64 (F5 D n).lost],h3.set (g.length+1) (rT [yr,yi,yt,yb,ym,.i .i64 (F5 D n).lost]),?_,P4.set LR4.1 (by omega),vwC D.length n m f,[.m nl,.m np],?_,rfl,rfl,by rw [<-hc];exact rO,by rw [<-hc];exact smO⟩
 rotate_left
 ·rw [B7 LR4.1.2.1,k1];rfl
 rw [C1J];rw [A8j 1200 M'] at e2;rw [A8l 1200 M2] at e3;have D6U:xK (g++[rT (vwC D.length n m f),rT [Cell.ns,.ns,.ns,.ns,.ns,o0],A4 (K8 []),A4 (K8 [])]) (A4 .i64) (.c (.m (g.length+3))) (.c (.i .i64 1)) (.c (.i .i64 1))=A4 (g++[rT (vwC D.length n m f),rT [Cell.ns,.ns,.ns,.ns,.ns,o0],A4 (K8 []),A4 (K8 [(.i .i64 1,.c (.i .i64 1))])]):=by
  rw [D7l (F:=λ_=>A7) (es:=[]) (by simp) MapI.nil];simp [A4c,A4b,mgo]
 have ef1:E7 [o0,o0,.i .u64 0,.nf,.ns,.ns,.ns,.ns,.ns,o0,.nm,.nm] [(0,4,.a (vwC D.length n m f)),(10,1,.c (.m (g.length+2))),(11,1,.c (.m (g.length+3)))]=A4 (vwC D.length n m f++[.ns,.ns,.ns,.ns,.ns,o0,.m (g.length+2),.m (g.length+3)]):=rfl;have ef2:E7 [o0] [(0,1,.c (.i .i64 1))]=A4 [.i .i64 1]:=rfl;have lv0:ld1 (rT (vwC D.length n m f)) 0=A4 (.c (.i .i64 (D.length:Int))):=rfl;have lv1:ld1 (rT (vwC D.length n m f)) 1=A4 (.c (.i .i64 n)):=rfl;have l4v:=B4D (b:=D.length) (n:=n) (m:=m) (f:=f);have l3v:=B4C (b:=D.length) (n:=n) (m:=m) (f:=f);have wn:D9B .i64 (n+1)=(N:Int):=by rw [wrap_i64 (by omega) (by omega),hN]
 have nt:∀ k:Nat,k<=1000->A96 (.c (.i .i64 (k:Int)))=A4 k:=λk hk=>by
  simp only [A96];rw [if_pos (by omega)];simp
 have am1:B8l (.c (.i .i64 (N:Int))) (.c (.i .i64 (N:Int)))=A4 N:=by simp only [B8l,nt N (by omega),D9H];rw [if_pos (D9x _)]
 have am2:B8l (.c (.i .i64 (D.length:Int))) (.c (.i .i64 (D.length:Int)))=A4 D.length:=by simp only [B8l,nt D.length (by omega),D9H];rw [if_pos (D9x _)]
 have ef3:E7 [Cell.ns,.ns,.ns,.ns,.ns,o0] [(0,1,.c (.sl (g.length+5) 0 1 1)),(1,1,.c (.sl (g.length+6) 0 N 11)),(2,1,.c (.sl (g.length+7) 0 D.length 1))]=A4 [.sl (g.length+5) 0 1 1,.sl (g.length+6) 0 N 11,.sl (g.length+7) 0 D.length 1,.ns,.ns,o0]:=rfl;have sw:stN (rT (vwC D.length n m f++[.ns,.ns,.ns,.ns,.ns,o0,.m (g.length+2),.m (g.length+3)])) 4 6 [.sl (g.length+5) 0 1 1,.sl (g.length+6) 0 N 11,.sl (g.length+7) 0 D.length 1,.ns,.ns,o0]=rT W:=by rw [hW];rfl
 have rz1:rows [o0,o0,o0,o0,o0,o0,o0,o0,o0,o0,o0] N=jE (D9w N (zI 11)):=by unfold rows jE;rw [List.map_replicate];rfl
 have rz2:rows [Cell.b A6] D.length=bI (D9w D.length A6):=by unfold rows bI;rw [List.map_replicate,List.flatten_replicate_singleton]
 rw [hT] at e1;rw [hT] at D49;simp only [esc,Nat.reduceAdd] at D49;have c00:((0:Nat):Int)=0:=rfl;rw [c00] at e1 e2 e3;generalize jE (D9w N (zI 11))=ZI at *;generalize bI (D9w D.length A6)=ZB at *;generalize vwC D.length n m f=V at *;simp only [esc,O9,G6,Z4,J2,O3,F8,Nat.reduceAdd,l3v,l4v,hCk,D6U,ef1,ef2,lv0,lv1,wn,am1,am2,ef3,sw,rz1,rz2,Nat.add_assoc];simp only [esc,D49];simp only [esc,Nat.reduceAdd] at e1;refine e1.trans ?_;refine e2.trans ?_;simp only [esc,l4,c0];refine e3.trans ?_;simp only [esc,Nat.reduceAdd,c0,l6,s6,l6']
end
def C6p (l:List (List Int)):K1 (jE l)=A5:=by
 induction l with
 | nil=>rfl
 | cons x l ih =>
  rw [V9,kJ,ih];simp [K1,encI,Cell.flat]
def C6n (l:List Bool):K1 (bI l)=A5:=by simp [K1,bI,Cell.flat]
def D1l (l:List Bool):noX (bI l)=A5:=by simp [noX,bI,Cell.isX]
def B69 {D:Dev} {n m:Int} {f:Cell} {h:A9} (hD:okD D) (hv:IsView h f D) (hm:P5 D.length n=A5) :
  ∃ cs t,A44 [.a (vwC D.length n m f)] h=A4 (.a cs,h++t)/\IsCl (h++t) cs (F5 D n)/\t.all B0P=A5:=by
 obtain ⟨six,g',e,P,V,t,hr,hV,h6,_,_⟩:=C24 (n:=n) (m:=m) hD hv.ro hm;obtain ⟨xr,xi,xt,xb,xm,ml,mp,es1,es2,g1,g2,g3,g4,g5,g6,g7,_⟩:=id P.row;obtain ⟨c,hc⟩:∃ c,c=F5 D n:=⟨_,rfl⟩;rw [<-hc] at g1 g2 g3 g4 g5 g6 g7 P ⊢;rw [g1] at hr;simp only [D9y,Row.mk.injEq,and_true] at hr;have e6:six=[xr,xi,xt,xb,xm,.i .i64 c.lost]:=by
  have h1:(wkC D n m f xr xi xt xb xm c.lost ml mp).drop 4=(six++t):=by rw [hr,D9C,E0s hV]
  have h2:((wkC D n m f xr xi xt xb xm c.lost ml mp).drop 4).take 6=six:=by rw [h1,E0x h6]
  rw [<-h2];rfl
 have low:∀ (i:Nat) (x:Cell) (id:Nat),(wkC D n m f xr xi xt xb xm c.lost ml mp)[i]?=A4 x->nmC x=A4 id->(ro h).length<=id:=λi x id hi hx=>P.low id (B11 g1 hi hx)
 obtain ⟨l2,fin,c1,_,c3,c4⟩:=B1J (h2:=g') (b:=(ro h).length) six [] (λx hx=>by
   rw [e6] at hx;simp only [E0B,List.not_mem_nil,or_false] at hx;rcases hx with rfl | rfl | rfl | rfl | rfl | rfl
   ·exact g3.canon (by simp [K1,encI,Cell.flat]) λid e=>low 4 _ _ rfl e
   ·exact g4.canon (C6p _) λid e=>low 5 _ _ rfl e
   ·exact g5.canon (C6n _) λid e=>low 6 _ _ rfl e
   ·exact g6.canon (by simp [K1,encI,Cell.flat]) λid e=>low 7 _ _ rfl e
   ·exact g7.canon bL λid e=>low 8 _ _ rfl e
   ·exact .inl rfl) (λi j a x y hi hj hx hy=>by
   have sh:∀ (i:Nat) (x:Cell),six[i]?=A4 x->(wkC D n m f xr xi xt xb xm c.lost ml mp)[4+i]?=A4 x:=λi x hi=>by
    rw [hr,D9C,D9P (by omega),hV,show 4+i-4=i by omega,D94 (List.getElem?_eq_some_iff.1 hi).1];exact hi
   have:=g2.1 (4+i) (4+j) a x y (sh i x hi) (sh j y hj) hx hy;omega) (λx hx a ha=>by simp)
 have hgood:=(A3M (μ:=λ_=>A7) (μ':=λ_=>A7) (λ_ _=>rfl) _ _ _ _ c1 Good.nil).1;have C2f:(fin.map (rd g')).all B0P=A5:=by
  rw [E0k];intro x hx;obtain ⟨j,hj,rfl⟩:=List.mem_map.1 hx;obtain ⟨_,r,h1,h2,_⟩:=hgood.ok j hj;rw [h1];exact Row.own_rw h2
 rw [G5] at c1 c4;have hS:=B78 e (v2:=.a l2) (ids:=fin) (by simp only [S8,c1,E0b]);refine ⟨l2,_,hS,?_⟩;rw [e6] at c3 c4;have q0:=c4 0 _ rfl;have q1:=c4 1 _ rfl;have q2:=c4 2 _ rfl;have q3:=c4 3 _ rfl;have q4:=c4 4 _ rfl;have q5:=c4 5 _ rfl;obtain ⟨y0,y1,y2,y3,y4,y5,rfl⟩:∃ y0 y1 y2 y3 y4 y5,l2=[y0,y1,y2,y3,y4,y5]:=by
  match l2,c3 with
  | [a,b,c,d,e,f],_=>exact ⟨a,b,c,d,e,f,rfl⟩
 simp only [List.getElem?_cons_zero,D9Z,D9y] at q0 q1 q2 q3 q4 q5;have e5:y5=.i .i64 c.lost:=by
  rcases q5 with ⟨_,h1⟩ | ⟨_,_,_,_,_,h1,_⟩
  ·exact h1
  ·cases h1
 subst e5;exact ⟨⟨_,_,_,_,_,rfl,g3.moved (A80 _) q0,g4.moved (D1m _) q1,g5.moved (D1l _) q2,g6.moved (A80 _) q3,g7.moved (T5 _) q4⟩,C2f⟩
def C3l {R:List Int} {a:Int} {y:Cell} {q:Nat} {h:A9} (hy:∀ i,i<R.length->∃ ad,E5 1 (.c y) (iV (i:Int))=A4 ad/\B8 h ad=A4 (iV (R.getD i 0))) (hR:R.length<=1000):∀ (e i M:Nat),i+e=R.length->e<M ->
  B0y q M (iV a) (.c y) (iV (R.length:Nat)) (iV (i:Int)) h=A4 (bV (decide (a∈R.drop i)),h)
 | e,i,0,_,hM=>by omega
 | 0,i,M+1,hi,_=>by
  have c0:¬ ((i:Int)<(R.length:Nat)):=by omega
  rw [A3S,D9K (by omega)];simp only [esc,c0];simp
 | e+1,i,M+1,hi,hM=>by
  have L8:i<R.length:=by omega
  have c0:((i:Int)<(R.length:Nat)):=by omega
  have w1:=D9 (show i+1<9223372036854775808 by omega);obtain ⟨ad,a1,a2⟩:=hy i L8;have eg:R.getD i 0=R[i]:=by simp [List.getD,L8]
  rw [eg] at a2;rw [A3S,D9E L8];by_cases c1:R[i]=a
  ·rw [c1] at a2 ⊢;simp only [esc,c0,a1,a2,eq_self];simp
  ·have ih:=C3l (q:=q) (a:=a) hy hR e (i+1) M (by omega) (by omega);simp only [esc,c0,a1,a2,c1,w1];rw [ih];have:(a∈R[i]::R.drop (i+1))↔a∈R.drop (i+1):=by
    rw [E0B];constructor
    ·rintro (h | h)
     ·exact absurd h.symm c1
     ·exact h
    ·exact .inr
   simp only [this]
def C15 {cs:List Cell} {c:Cl} {a:Int} {h:A9} (hc:IsCl h cs c) (hR:c.row.length<=1000):A43 [.a cs,iV a] h=A4 (bV (decide (a∈c.row)),h):=by
 obtain ⟨xr,xi,xt,xb,xm,rfl,h1,_⟩:=hc.form;have key:∃ g',A4J 1100 [.a [xr,xi,xt,xb,xm,.i .i64 c.lost],iV a] (ro h)=A4 (bV (decide (a∈c.row)),g'):=by
  have h2:=h1.ro.more [rT [xr,xi,xt,xb,xm,.i .i64 c.lost]];have hl:=h2.len;have k:=C3l (q:=1100) (a:=a) (R:=c.row) (y:=xr) (h:=ro h++[rT [xr,xi,xt,xb,xm,.i .i64 c.lost]]) (λi hi=>by
   obtain ⟨id,off,e,_,hA,_⟩:=h2.sl (by omega);cases e;refine ⟨pV id (off+i*1),D8 hi,?_⟩;rw [Nat.mul_one];exact hA i _ (by rw [H0,D9z,D9u hi];rfl)) hR c.row.length 0 1100 (by omega) (by omega)
  rw [D9O] at k;refine ⟨ro h++[rT [xr,xi,xt,xb,xm,.i .i64 c.lost]],?_⟩
  ·rw [B7N];have l0:B8 (ro h++[rT [xr,xi,xt,xb,xm,.i .i64 c.lost]]) (pV (ro h).length 0)=A4 (.c xr):=by rw [J2];exact zF
   simp only [esc,l0,hl];exact k
 obtain ⟨g',e⟩:=key;exact B2O e rfl
def gE (O:Dev) (no:Int) (b:List UInt8):Dev:=if 0<=no/\no<O.length then O.set no.toNat b else O
def Y6 {O:Dev} {no:Int} {b:List UInt8}:(gE O no b).length=O.length:=by unfold gE;split<;>simp
def okD.put {O:Dev} (h:okD O) {no:Int} {b:List UInt8} (hb:b.length=256):okD (gE O no b):=by
 unfold gE;split
 ·exact h.set hb
 ·exact h
structure OutD (g:A9) (p id:Nat) (O:Dev) (h:A9):Prop where
 lo:Low g.length g h
 gp:g.length<=p
 gid:g.length<=id
 ne:p≠id
 var:rd h p=rT [.sl id 0 O.length 256]
 blk:rd h id=rT (C8 O)
def OutD.more {g h:A9} {p id:Nat} {O:Dev} (k:OutD g p id O h) (t:A9):OutD g p id O (h++t) :=
 ⟨k.lo.new t,k.gp,k.gid,k.ne,B6 k.var,B6 k.blk⟩
def OutD.set {g h:A9} {p id:Nat} {O O':Dev} (k:OutD g p id O h) (hl:O'.length=O.length):OutD g p id O' (h.set id (rT (C8 O'))) :=
 ⟨k.lo.set k.gid _,k.gp,k.gid,k.ne,by rw [B7 (Ne.symm k.ne),hl];exact k.var,by rw [D1 (D7 k.blk)]⟩
def put_eq {g h:A9} {p id:Nat} {O:Dev} {no:Int} {b:List UInt8} (k:OutD g p id O h) (hO:okD O) (hb:b.length=256) :
  ∃ h',mZ [iV no,.a (B4 b),pV p 0] h=A4 (.t [],h')/\OutD g p id (gE O no b) h'/\h.length<=h'.length/\∀ j,j<h.length->j≠id->rd h' j=rd h j:=by
 obtain ⟨H,hH⟩:∃ H,H=h++[rT (B4 b)]:=⟨_,rfl⟩;have kH:OutD g p id O H:=by rw [hH];exact k.more _
 have lV:B8 H (pV p 0)=A4 (sV id 0 O.length 256):=B9 kH.var rfl rfl;have lB:D3 H 256 (pV h.length 0)=A4 (.a (B4 b)):=C9 (by rw [hH,I1];rfl) (by rw [B5,hb]);have cl:cells? (.a (B4 b))=A4 (B4 b):=rfl;have same:∀ j,j<h.length->rd H j=rd h j:=λj hj=>by rw [hH,E2 hj]
 have len:H.length=h.length+1:=by rw [hH];simp
 by_cases c0:0<=no
 ·by_cases c1:no<(O.length:Nat)
  ·obtain ⟨i,rfl⟩:=E0i c0;have hi:i<O.length:=by omega
   have ad:E5 256 (sV id 0 O.length 256) (iV (i:Int))=A4 (pV id (i*256)):=by rw [D8 hi];simp
   have sd:E9 H 256 (pV id (i*256)) (.a (B4 b))=A4 (H.set id (rT (C8 (O.set i b)))):=zX kH.blk hO hb hi;have ep:gE O (i:Int) b=O.set i b:=by unfold gE;rw [if_pos ⟨c0,c1⟩];simp
   rw [ep];refine ⟨_,nF (n:=0) (p:=(.t [],H.set id (rT (C8 (O.set i b))))) ?_,kH.set (by simp),by simp;omega,λj hj Z5=>by rw [B7 (Ne.symm Z5)];exact same j hj⟩;rw [nD];have c0':(i:Int)>=0:=c0;simp only [esc,cl,<-hH,c0',lV,c1,lB,ad,sd];rfl
  ·have ep:gE O no b=O:=by unfold gE;rw [if_neg (by omega)]
   rw [ep];refine ⟨_,nF (n:=0) (p:=(.t [],H)) ?_,kH,by omega,λj hj Z5=>same j hj⟩;rw [nD];have c0':no>=0:=c0;simp only [esc,cl,<-hH,c0',lV,c1];rfl
 ·have ep:gE O no b=O:=by unfold gE;rw [if_neg (by omega)]
  rw [ep];refine ⟨_,nF (n:=0) (p:=(.t [],H)) ?_,kH,by omega,λj hj Z5=>same j hj⟩;rw [nD];have c0':¬ no>=0:=c0;simp only [esc,cl,<-hH,c0'];rfl
def C8I (x:List Int):Prop:=x.length=11/\A0Y (x.getD 0 0) (x.getD 1 0) (x.getD 2 0) (x.getD 3 0) (x.drop 4)=A5
def A94 (x:List Int):List UInt8:=Z6 (x.getD 0 0) (x.getD 1 0) (x.getD 2 0) (x.getD 3 0) (x.drop 4)
def C29 {x:List Int} (h:x.length=11):encI x=D4 (x.getD 0 0) (x.getD 1 0) (x.getD 2 0) (x.getD 3 0) (x.drop 4):=by
 match x,h with
 | [a,b,c,d,e,f,g,i,j,k,l],_=>rfl
def A8K {x:List Int} (h:x.length=11):(A94 x).length=32:=by
 unfold A94 Z6;rw [D9A,D9A,jD,oN,E0f,h,zeros_length]
def B7x (O:Dev):List Int->List (List UInt8)->Dev
 | no::l,b::m=>B7x (gE O no b) l m
 | _,_=>O
def B2d (O:Dev) (no:Int):Nat->Dev
 | 0=>O
 | e+1=>B2d (gE O no (zeros 256)) (no+1) e
def B52 (n:Int) (O:Dev) (i:Nat) (x:List Int):Dev :=
 if P9 O.length n i=A5 then gE O (W1 O.length n i) (G0 (blk O (W1 O.length n i)) (32*(gF O.length n i).toNat) (A94 x)) else O
def B3Q (n:Int):Dev->Nat->List (List Int)->Dev
 | O,_,[]=>O
 | O,i,x::l=>B3Q n (B52 n O i x) (i+1) l
def B8z:Nat->List Bool->List Nat
 | _,[]=>[]
 | i,b::l=>if b=A5 then i::B8z (i+1) l else B8z (i+1) l
def kK (D:Dev) (n:Int) (c:Cl):Dev :=
 gE (B3Q n (B2d (B7x D c.blocks c.made) (rM D.length n) (A06 D.length n).toNat) 0 c.ino) 1 (jG (B8z 0 c.taken))
def B6g {O:Dev} {m:List (List UInt8)}:B7x O [] m=O:=by cases m<;>rfl
def A86:∀ {l:List Int} {m:List (List UInt8)} {O:Dev},okD O->(∀ b∈m,b.length=256)->okD (B7x O l m)/\(B7x O l m).length=O.length
 | [],_,O,h,_=>by rw [B6g];exact ⟨h,rfl⟩
 | _::_,[],O,h,_=>⟨h,rfl⟩
 | no::l,b::m,O,h,hm=>by
  obtain ⟨h1,h2⟩:=A86 (l:=l) (m:=m) (O:=gE O no b) (h.put (hm b (D9I ..))) λx hx=>hm x (D9F _ hx)
  exact ⟨h1,h2.trans Y6⟩
def A4p:∀ {e:Nat} {no:Int} {O:Dev},okD O->okD (B2d O no e)/\(B2d O no e).length=O.length
 | 0,_,O,h=>⟨h,rfl⟩
 | e+1,no,O,h=>by
  obtain ⟨h1,h2⟩:=A4p (e:=e) (no:=no+1) (h.put (no:=no) zeros_length);exact ⟨h1,h2.trans Y6⟩
def C4F {n:Int} {O:Dev} {i:Nat} {x:List Int} (h:okD O) (hx:x.length=11) (hn:n<=128):okD (B52 n O i x)/\(B52 n O i x).length=O.length:=by
 unfold B52;split
 ·refine ⟨h.put ?_,Y6⟩;rename_i hc;have hk:(gF O.length n i).toNat<8:=by unfold gF;rw [hc];simp only [cond_true];omega
  rw [K5 (by rw [J3 h,A8K hx];omega),J3 h]
 ·exact ⟨h,rfl⟩
def A8N {n:Int} (hn:n<=128):∀ {l:List (List Int)} {i:Nat} {O:Dev},okD O->(∀ x∈l,x.length=11)->okD (B3Q n O i l)/\(B3Q n O i l).length=O.length
 | [],_,O,h,_=>⟨h,rfl⟩
 | x::l,i,O,h,hx=>by
  have h1:=C4F (n:=n) (i:=i) h (hx x (D9I ..)) hn;have h2:=A8N (n:=n) hn (l:=l) (i:=i+1) h1.1 λy hy=>hx y (D9F _ hy)
  exact ⟨h2.1,h2.2.trans h1.2⟩
section
variable {D:Dev} {n m:Int} {f:Cell} {g:A9} {p id q pv pc:Nat} {xr xi xt xb xm:Cell} {lost:Int} {c:Cl}
def B5M {a b:Val} {h:A9}:qT oX (.c (.f 52 [(p,0)])) [a,b] h=mZ [a,b,pV p 0] h:=rfl
def D6Z (hpc:rd g pc=rT [xr,xi,xt,xb,xm,.i .i64 lost]) {bl:List Int} {md:List (List UInt8)} (hb:Has g (.c xb) 1 bl.length (encI bl)) (hm:Has g (.c xm) 256 md.length (C8 md)) (hl:bl.length=md.length) (hmd:∀ b∈md,b.length=256) (hB:bl.length<=1000000) :
  ∀ (e i M:Nat) (O:Dev) (h:A9),i+e=bl.length->e<M->okD O->OutD g p id O h ->
  ∃ h' M',cS q M (pV pv 0) (pV pc 0) (pV p 0) (.c (.f 52 [(p,0)])) (.c xb) (iV (bl.length:Nat)) (iV (i:Int)) h =
   cS q (M'+1) (pV pv 0) (pV pc 0) (pV p 0) (.c (.f 52 [(p,0)])) (.c xb) (iV (bl.length:Nat)) (iV (bl.length:Nat)) h'/\OutD g p id (B7x O (bl.drop i) (md.drop i)) h':=by
 intro e
 induction e with
 | zero =>
  intro i M O h hi hM hO k;obtain ⟨M,rfl⟩:∃ M',M=M'+1:=⟨M-1,by omega⟩;have ei:i=bl.length:=by omega
  subst ei;refine ⟨h,M,rfl,?_⟩;rw [List.drop_length,B6g];exact k
 | succ e ih =>
  intro i M O h hi hM hO k;obtain ⟨M,rfl⟩:∃ M',M=M'+1:=⟨M-1,by omega⟩;have L8:i<bl.length:=by omega
  have him:i<md.length:=by omega
  have c0:(i:Int)<(bl.length:Nat):=by omega
  have c1:(i:Int)<(md.length:Nat):=by omega
  have w1:=D9 (show i+1<9223372036854775808 by omega);have hb':=hb.since k.lo;have hm':=hm.since k.lo;obtain ⟨ib,ob,eb,_,hA,_⟩:=hb'.sl (by omega);cases eb;obtain ⟨im,om,em,_,_,hC⟩:=hm'.sl (by omega);cases em;have a1:E5 1 (sV ib ob bl.length 1) (iV (i:Int))=A4 (pV ib (ob+i)):=by rw [D8 L8];simp
  have a2:B8 h (pV ib (ob+i))=A4 (iV bl[i]):=hA i _ (by rw [H0,D9u L8];rfl);have a3:B8 h (pV pc 4)=A4 (sV im om md.length 256):=B9 (k.lo.rd hpc) rfl rfl;have a4:E5 256 (sV im om md.length 256) (iV (i:Int))=A4 (pV im (om+i*256)):=D8 him;have okm:okD md:=hmd;have a5:D3 h 256 (pV im (om+i*256))=A4 (.a (B4 md[i])):=by
   rw [hC (i*256) 256 (by rw [F0 okm];omega),kE okm him]
  obtain ⟨h1,b1,b2,_⟩:=put_eq (no:=bl[i]) (b:=md[i]) k hO (hmd _ (D9Y him));obtain ⟨h',M',e1,e2⟩:=ih (i+1) M _ h1 (by omega) (by omega) (hO.put (hmd _ (D9Y him))) b2;rw [D9E L8,D9E him];refine ⟨h',M',?_,e2⟩;rw [iU];simp only [esc,c0,a1,a2,a3,A1N,c1,a4,a5,B5M,b1,A0H,w1];exact e1
def D60 (t0 tn:Int) (h0:0<=t0/\t0<=100) (hn:0<=tn/\tn<=100) :
  ∀ (e:Nat) (i:Int) (M:Nat) (O:Dev) (h:A9),i+e=t0+tn->t0<=i->e<M->okD O->OutD g p id O h ->
  ∃ h' M',cU q M (pV pv 0) (pV pc 0) (pV p 0) (.c (.f 52 [(p,0)])) (iV t0) (iV tn) (iV i) h =
   cU q (M'+1) (pV pv 0) (pV pc 0) (pV p 0) (.c (.f 52 [(p,0)])) (iV t0) (iV tn) (iV (t0+tn)) h'/\OutD g p id (B2d O i e) h':=by
 intro e
 induction e with
 | zero =>
  intro i M O h hi hi0 hM hO k;obtain ⟨M,rfl⟩:∃ M',M=M'+1:=⟨M-1,by omega⟩;have ei:i=t0+tn:=by omega
  subst ei;exact ⟨h,M,rfl,k⟩
 | succ e ih =>
  intro i M O h hi hi0 hM hO k;obtain ⟨M,rfl⟩:∃ M',M=M'+1:=⟨M-1,by omega⟩;have w0:D9B .i64 (t0+tn)=t0+tn:=wrap_i64 (by omega) (by omega);have w1:D9B .i64 (i+1)=i+1:=wrap_i64 (by omega) (by omega);have c0:i<t0+tn:=by omega
  have ef:E7 (B4 (zeros 256)) []=A4 (B4 (zeros 256)):=rfl;obtain ⟨h1,b1,b2,_⟩:=put_eq (no:=i) (b:=zeros 256) k hO zeros_length;obtain ⟨h',M',e1,e2⟩:=ih (i+1) M _ h1 (by omega) (by omega) (by omega) (hO.put zeros_length) b2;refine ⟨h',M',?_,e2⟩;rw [iW,F7];generalize B4 (zeros 256)=Z at *;simp only [esc,w0,c0,ef,B5M,b1,w1];exact e1
end
def C3Y {b n i:Int} (h:P9 b n i=A5):2<=W1 b n i/\W1 b n i<b/\0<=gF b n i/\gF b n i<8:=by
 obtain ⟨h1,h2,h3⟩:=U7.1 h;obtain ⟨_,_,_,_,h4,h5⟩:=H5.1 h1;unfold W1 gF;rw [h];simp only [cond_true];omega
section
variable {D:Dev} {n m:Int} {f:Cell} {g:A9} {p id q pv pc:Nat} {xr xi xt xb xm:Cell} {lost:Int} {c:Cl}
def D61 (hpv:rd g pv=rT (vwC D.length n m f)) {R:List (List Int)} (hx:Has g (.c xi) 11 R.length (jE R)) (hR:∀ x∈R,C8I x) (hn:n<=128) (hB:R.length<=1000000) :
  ∀ (e i M:Nat) (O:Dev) (h:A9),i+e=R.length->e<M->okD O->O.length=D.length->OutD g p id O h ->
  ∃ h' M',cV q M (pV pv 0) (pV pc 0) (pV p 0) (.c (.f 52 [(p,0)])) (.c xi) (iV (R.length:Nat)) (iV (i:Int)) h =
   cV q (M'+1) (pV pv 0) (pV pc 0) (pV p 0) (.c (.f 52 [(p,0)])) (.c xi) (iV (R.length:Nat)) (iV (R.length:Nat)) h'/\OutD g p id (B3Q n O i (R.drop i)) h':=by
 intro e
 induction e with
 | zero =>
  intro i M O h hi hM hO hlen k;obtain ⟨M,rfl⟩:∃ M',M=M'+1:=⟨M-1,by omega⟩;have ei:i=R.length:=by omega
  subst ei;refine ⟨h,M,rfl,?_⟩;rw [List.drop_length];exact k
 | succ e ih =>
  intro i M O h hi hM hO hlen k;obtain ⟨M,rfl⟩:∃ M',M=M'+1:=⟨M-1,by omega⟩;have L8:i<R.length:=by omega
  have c0:(i:Int)<(R.length:Nat):=by omega
  have w1:=D9 (show i+1<9223372036854775808 by omega);obtain ⟨x,ex⟩:∃ x,x=R[i]:=⟨_,rfl⟩;obtain ⟨xl,xm⟩:=hR R[i] (D9Y L8);have h11:∀ x∈R,x.length=11:=λx hx=>(hR x hx).1
  have hx':=hx.since k.lo;obtain ⟨ii,oi,ei,_,_,hC⟩:=hx'.sl (by omega);cases ei;have a1:E5 11 (sV ii oi R.length 11) (iV (i:Int))=A4 (pV ii (oi+i*11)):=D8 L8;have a2:D3 h 11 (pV ii (oi+i*11))=A4 (.a (encI R[i])):=by
   rw [hC (i*11) 11 (by rw [kN h11];omega),C0F h11 L8]
  rw [<-ex] at a2 xl xm;obtain ⟨G,hG⟩:∃ G,G=h++[rT (encI x)]:=⟨_,rfl⟩;have st:E9 (h++[rT [o0,o0,o0,o0,o0,o0,o0,o0,o0,o0,o0]]) 11 (pV h.length 0) (.a (encI x))=A4 G:=by
   rw [storeAll (n:=11) (cs:=[o0,o0,o0,o0,o0,o0,o0,o0,o0,o0,o0]) (by rw [I1];rfl) rfl (by rw [C1,xl]),nC,hG];rfl
  have kG:OutD g p id O G:=by rw [hG];exact k.more _
  have lv3:D3 G 3 (pV pv 0)=A4 (.a (J8 D.length n m)):=by rw [T2 (kG.lo.rd hpv) (by simp [vwC]) rfl];rfl
  have hW:=A21 (b:=D.length) (n:=n) (m:=m) (i:=(i:Int)) (h:=G);have lx:D3 G 11 (pV h.length 0)=A4 (.a (encI x)):=C9 (by rw [hG,I1];rfl) (by rw [C1,xl]);rw [D9E L8,<-ex];have es:B3Q n O i (x::R.drop (i+1))=B3Q n (B52 n O i x) (i+1) (R.drop (i+1)):=rfl;rw [es];obtain ⟨okS,lenS⟩:=C4F (n:=n) (i:=i) (x:=x) hO xl hn;have lV:B8 G (pV p 0)=A4 (sV id 0 O.length 256):=B9 kG.var rfl rfl;cases hc:P9 (D.length:Int) n (i:Int) with
  | false =>
   rw [hc] at hW;have e1:B52 n O i x=O:=by unfold B52;rw [hlen,hc];simp
   rw [e1] at okS lenS ⊢;obtain ⟨h',M',b1,b2⟩:=ih (i+1) M O G (by omega) (by omega) hO hlen kG;refine ⟨h',M',?_,b2⟩;rw [Z9];generalize encI x=X at *;generalize J8 D.length n m=L at *;simp only [esc,c0,a1,a2,st,lv3,hW,iS,w1];exact b1
  | true =>
   rw [hc] at hW;obtain ⟨w2,wb,k0,k8⟩:=C3Y hc;obtain ⟨wB,hwB⟩:=E0i (show 0<=W1 D.length n i by omega);obtain ⟨wK,hwK⟩:=E0i k0;rw [hwB,hwK] at hW;have hwl:wB<O.length:=by omega
   have cW:(wB:Int)<(O.length:Nat):=by omega
   have hk8:wK<8:=by omega
   have ad:E5 256 (sV id 0 O.length 256) (iV (wB:Int))=A4 (pV id (wB*256)):=by rw [D8 hwl];simp
   have lb:D3 G 256 (pV id (wB*256))=A4 (.a (B4 O[wB])):=by
    rw [T2 kG.blk (by rw [F0 hO];omega) rfl,kE hO hwl]
   have hT:=B0X (j:=wK) (k:=x.getD 0 0) (l:=x.getD 1 0) (s:=x.getD 2 0) (p:=x.getD 3 0) (d:=x.drop 4) (b:=O[wB]) (h:=G) (hO.at hwl) (by rw [E0f,xl]) hk8 xm;rw [<-C29 xl] at hT;have ei:Z6 (x.getD 0 0) (x.getD 1 0) (x.getD 2 0) (x.getD 3 0) (x.drop 4)=A94 x:=rfl;rw [ei] at hT;have hbl:(G0 O[wB] (32*wK) (A94 x)).length=256:=by
    rw [K5 (by rw [hO.at hwl,A8K xl];omega),hO.at hwl]
   have sd:E9 G 256 (pV id (wB*256)) (.a (B4 (G0 O[wB] (32*wK) (A94 x))))=A4 (G.set id (rT (C8 (O.set wB (G0 O[wB] (32*wK) (A94 x)))))):=zX kG.blk hO hbl hwl;have e1:B52 n O i x=O.set wB (G0 O[wB] (32*wK) (A94 x)):=by
    unfold B52;rw [hlen,hc,if_pos rfl,hwB,hwK,A76 hwl];unfold gE;rw [if_pos ⟨by omega,cW⟩];simp
   have kS:=kG.set (O':=B52 n O i x) lenS;obtain ⟨h',M',b1,b2⟩:=ih (i+1) M _ _ (by omega) (by omega) okS (by rw [lenS,hlen]) kS;refine ⟨h',M',?_,b2⟩;rw [e1] at b1;rw [Z9];generalize encI x=X at *;generalize J8 D.length n m=L at *;simp only [esc,c0,a1,a2,st,lv3,hW,lV,cW,ad,lb,lx,hT,sd,iS,w1];exact b1
def D1K {l:List Bool} {i:Nat} (hi:i<l.length):B8z i (l.drop i)=if l[i]=A5 then i::B8z (i+1) (l.drop (i+1)) else B8z (i+1) (l.drop (i+1)):=by
 rw [D9E hi];rfl
def D62 {T:List Bool} {N:Nat} (hx:Has g (.c xt) 1 T.length (bI T)) (hT:T.length<=2048) {O:Dev} (hO:okD O) :
  ∀ (e i M:Nat) (S:List Nat) (sid:Nat) (h:A9),i+e=T.length->e<M->S.length<=i->(∀ x∈S,x<2048)->rd h sid=rT (encI (S.map λx:Nat=>(x:Int)))->g.length<=sid->sid≠p->sid≠id->OutD g p id O h ->
  ∃ h',oJ q M (pV p 0) (.c (.f 52 [(p,0)])) (sV sid 0 S.length 1) (.c xt) (iV (T.length:Nat)) (iV (i:Int)) h=A4 (sV id 0 O.length 256,h') /\
   OutD g p id (gE O 1 (jG (S++B8z i (T.drop i)))) h':=by
 intro e
 induction e with
 | zero =>
  intro i M S sid h hi hM hS hS2 hr hg n1 n2 k;obtain ⟨M,rfl⟩:∃ M',M=M'+1:=⟨M-1,by omega⟩;have ei:i=T.length:=by omega
  subst ei;have c0:¬ ((T.length:Nat):Int)<(T.length:Nat):=by omega
  have hC:=B0w (v:=sV sid 0 S.length 1) (nv:=S.length) (l:=S) (h:=h) hS2 (by omega) (Has.tr hr (by simp [encI]) (A80 _));have hml:(jG S).length=256:=by unfold jG;rw [eX,zeros_length]
  obtain ⟨h1,b1,b2,_⟩:=put_eq (no:=1) (b:=jG S) k hO hml;have lV:B8 h1 (pV p 0)=A4 (sV id 0 (gE O 1 (jG S)).length 256):=B9 b2.var rfl rfl;rw [Y6] at lV;refine ⟨h1,?_,?_⟩
  ·rw [aA];simp only [esc,c0,oM,hC,B5M,b1,lV]
  ·rw [List.drop_length];have:S++B8z T.length []=S:=by simp [B8z]
   rw [this];exact b2
 | succ e ih =>
  intro i M S sid h hi hM hS hS2 hr hg n1 n2 k;obtain ⟨M,rfl⟩:∃ M',M=M'+1:=⟨M-1,by omega⟩;have L8:i<T.length:=by omega
  have c0:(i:Int)<(T.length:Nat):=by omega
  have w1:=D9 (show i+1<9223372036854775808 by omega);have hx':=hx.since k.lo;obtain ⟨ii,oi,ei,_,hA,_⟩:=hx'.sl (by omega);cases ei;have a1:E5 1 (sV ii oi T.length 1) (iV (i:Int))=A4 (pV ii (oi+i)):=by rw [D8 L8];simp
  have a2:B8 h (pV ii (oi+i))=A4 (bV T[i]):=hA i _ (by simp [bI,L8]);rw [D1K L8];cases hb:T[i] with
  | false =>
   rw [hb] at a2;obtain ⟨h',b1,b2⟩:=ih (i+1) M S sid h (by omega) (by omega) (by omega) hS2 hr hg n1 n2 k;refine ⟨h',?_,by simpa using b2⟩;rw [aA];simp only [esc,c0,a1,a2,iT,w1];exact b1
  | true =>
   rw [hb] at a2;obtain ⟨h1,p1,p2,p3,p4⟩:=B6f (n:=S.length) (sz:=1) (ys:=[Cell.i .i64 (i:Int)]) hr (by simp [encI]) rfl (by omega) (by omega);have hpl:=D7 k.var;have D9p:=D7 k.blk;have kk:OutD g p id O h1:=⟨k.lo.trans (p4 g.length hg (by have:=k.lo.2.1;omega)),k.gp,k.gid,k.ne,p3 _ _ (Ne.symm n1) k.var,p3 _ _ (Ne.symm n2) k.blk⟩;have er:encI (S.map λx:Nat=>(x:Int))++[Cell.i .i64 (i:Int)]=encI ((S++[i]).map λx:Nat=>(x:Int)):=by simp [encI]
   rw [er] at p2;have ls:(S++[i]).length=S.length+1:=by simp
   obtain ⟨h',b1,b2⟩:=ih (i+1) M (S++[i]) (h.length+1) h1 (by omega) (by omega) (by rw [ls];omega) (λx hx=>by
    rcases List.mem_append.1 hx with hx | hx
    ·exact hS2 x hx
    ·simp at hx;omega) p2 (by have:=k.lo.2.1;omega) (by omega) (by omega) kk
   rw [ls] at b1;refine ⟨h',?_,by simpa using b2⟩;have ef:E7 [o0] [(0,1,iV (i:Int))]=A4 [.i .i64 (i:Int)]:=rfl;rw [aA];simp only [esc,c0,a1,a2,ef,p1,iT,w1];exact b1
structure ImgOk (D:Dev) (n:Int) (c:Cl):Prop where
 row:0<c.row.length
 tak:c.taken.length=D.length
 ino:∀ x∈c.ino,C8I x
 il:c.ino.length<=1000
 bm:c.blocks.length=c.made.length
 bl:c.blocks.length<=1000000
 md:∀ b∈c.made,b.length=256
def B93 {h:A9} {cs:List Cell} (hD:okD D) (hv:IsView h f D) (hm:P5 D.length n=A5) (hc:IsCl h cs c) (ok:ImgOk D n c) :
  W8 [.a (vwC D.length n m f),.a cs] h=A4 (sV h.length 0 D.length 256,h++[rT (C8 (kK D n c))]):=by
 obtain ⟨b16,b512,n8,n128,_,_⟩:=H5.1 hm;obtain ⟨xr,xi,xt,xb,xm,rfl,hr,hi,ht,hb,hmd⟩:=hc.form;obtain ⟨g,hg⟩:∃ g,g=ro h++[rT (vwC D.length n m f),rT [xr,xi,xt,xb,xm,.i .i64 c.lost],rT []]:=⟨_,rfl⟩;have lg:g.length=(ro h).length+3:=by rw [hg];simp
 have rv:rd g (ro h).length=rT (vwC D.length n m f):=by rw [hg,I1];rfl
 have rc:rd g ((ro h).length+1)=rT [xr,xi,xt,xb,xm,.i .i64 c.lost]:=by rw [hg,dW];rfl
 have hvg:IsView g f D:=by rw [hg];exact hv.ro.more _
 have hr':Has g (.c xr) 1 c.row.length (encI c.row):=by rw [hg];exact hr.ro.more _
 have hi':Has g (.c xi) 11 c.ino.length (jE c.ino):=by rw [hg];exact hi.ro.more _
 have ht':Has g (.c xt) 1 c.taken.length (bI c.taken):=by rw [hg];exact ht.ro.more _
 have hb':Has g (.c xb) 1 c.blocks.length (encI c.blocks):=by rw [hg];exact hb.ro.more _
 have hm':Has g (.c xm) 256 c.made.length (C8 c.made):=by rw [hg];exact hmd.ro.more _
 have hI:=C2w (m:=m) hD hvg hm;obtain ⟨H,hH⟩:∃ H,H=g++[rT (C8 D),rT [.sl g.length 0 D.length 256]]:=⟨_,rfl⟩;have k0:OutD g (g.length+1) g.length D H:=by
  refine ⟨by rw [hH];exact (Low.refl (D9x _)).new _,by omega,D9x _,by omega,?_,?_⟩
  ·rw [hH,dW];rfl
  ·rw [hH,I1];rfl
 obtain ⟨h1,M1,e1,k1⟩:=D6Z (q:=1000002) (pv:=(ro h).length) rc hb' hm' ok.bm ok.md ok.bl c.blocks.length 0 1000002 D H (by omega) (by have:=ok.bl;omega) hD k0;obtain ⟨ok1,len1⟩:=A86 (l:=c.blocks) (m:=c.made) hD ok.md;obtain ⟨t0,t2,tn0,tn16⟩:=D1S (b:=D.length) (n:=n);obtain ⟨tN,htN⟩:=E0i tn0;obtain ⟨h2,M2,e2,k2⟩:=D60 (q:=1000002) (pv:=(ro h).length) (pc:=(ro h).length+1) (rM D.length n) (A06 D.length n) ⟨by omega,by omega⟩ ⟨by omega,by omega⟩ tN (rM D.length n) 1000002 _ h1 (by omega) (by omega) (by omega) ok1 (by simpa using k1);obtain ⟨ok2,len2⟩:=A4p (e:=tN) (no:=rM D.length n) ok1;obtain ⟨h3,M3,e3,k3⟩:=D61 (q:=1000002) (pc:=(ro h).length+1) rv hi' ok.ino n128 (by have:=ok.il;omega) c.ino.length 0 1000002 _ h2 (by omega) (by have:=ok.il;omega) ok2 (by rw [len2,len1]) k2;obtain ⟨ok3,len3⟩:=A8N (n:=n) n128 (l:=c.ino) (i:=0) ok2 (λx hx=>(ok.ino x hx).1);have k3':=(k3.more [rT ([]:List Cell)]);obtain ⟨h4,e4,k4⟩:=D62 (q:=1000002) (N:=0) (p:=g.length+1) (id:=g.length) (g:=g) ht' (by rw [ok.tak];omega) ok3 c.taken.length 0 1000002 [] h3.length (h3++[rT ([]:List Cell)]) (by omega) (by rw [ok.tak];omega) (by simp) (by simp) (by rw [I1];rfl) (by have:=k3.lo.2.1;omega) (by have:=D7 k3.var;omega) (by have:=D7 k3.blk;omega) (by simpa using k3');have eimg:kK D n c=gE (B3Q n (B2d (B7x D c.blocks c.made) (rM D.length n) tN) 0 c.ino) 1 (jG ([]++B8z 0 (c.taken.drop 0))):=by
  unfold kK;rw [htN];simp
 have lenF:(kK D n c).length=D.length:=by rw [eimg,Y6,len3,len2,len1]
 have key:dZ 1000002 [.a (vwC D.length n m f),.a [xr,xi,xt,xb,xm,.i .i64 c.lost]] (ro h)=A4 (sV g.length 0 D.length 256,h4):=by
  have l0:B8 g (pV ((ro h).length+1) 0)=A4 (.c xr):=B9 rc rfl (by rfl);have l2:B8 g (pV ((ro h).length+1) 2)=A4 (.c xt):=B9 rc rfl (by rfl);have lv0:B8 g (pV (ro h).length 0)=A4 (iV (D.length:Nat)):=B9 rv rfl rfl;have lv4:D3 g 4 (pV (ro h).length 0)=A4 (.a (vwC D.length n m f)):=C9 rv rfl;have s1:H1 (g++[rT (C8 D),rT [Cell.ns]]) (pV (g.length+1) 0) (sV g.length 0 D.length 256)=A4 H:=by
   rw [I3 (cs:=[Cell.ns]) (by rw [dW];rfl) (by simp),A5R,hH];rfl
  have l3:B8 H (pV ((ro h).length+1) 3)=A4 (.c xb):=B9 (k0.lo.rd rc) rfl (by rfl);have mf:A70 52 [pV (g.length+1) 0]=A4 (.c (.f 52 [(g.length+1,0)])):=rfl;have n1:B8 h2 (pV ((ro h).length+1) 1)=A4 (.c xi):=B9 (k2.lo.rd rc) rfl (by rfl);have n2:B8 (h3++[rT ([]:List Cell)]) (pV ((ro h).length+1) 2)=A4 (.c xt):=B9 ((k3.lo.new _).rd rc) rfl (by rfl);have v3:D3 h1 3 (pV (ro h).length 0)=A4 (.a (J8 D.length n m)):=by rw [T2 (k1.lo.rd rv) (by simp [vwC]) rfl];rfl
  have hTb:=A20 (b:=D.length) (n:=n) (m:=m) (h:=h1);have c1:¬ ((c.row.length:Nat):Int)=0:=by have:=ok.row;omega
  have c2:((c.taken.length:Nat):Int)=(D.length:Nat):=by rw [ok.tak]
  have lr:=hr'.len;have lt:=ht'.len;have lb:=(hb'.since k0.lo).len;have lx:=(hi'.since k2.lo).len;have lt3:=(ht'.since (k3.lo.new [rT ([]:List Cell)])).len;have cl1:cells? (.a (vwC D.length n m f))=A4 (vwC D.length n m f):=rfl;rw [A1b];simp only [D9A,D9G,D95,D9T,D9C,D99,D9U,cl1,fC,E4,<-hg];generalize vwC D.length n m f=V at *;have c00:((0:Nat):Int)=0:=rfl;rw [c00] at e1 e3 e4;rw [lenF.symm] at e4;simp only [esc,l0,lr,c1,l2,lt,lv0,c2,lv4,hI,s1,mf,l3,lb];refine e1.trans ?_;have cB:¬ ((c.blocks.length:Nat):Int)<(c.blocks.length:Nat):=by omega
  rw [iU];simp only [esc,cB,v3,hTb];refine e2.trans ?_;have wT:D9B .i64 (rM D.length n+A06 D.length n)=rM D.length n+A06 D.length n:=wrap_i64 (by omega) (by omega);have cT:¬ rM D.length n+A06 D.length n<rM D.length n+A06 D.length n:=by omega
  rw [iW];simp only [esc,wT,cT,n1,lx];refine e3.trans ?_;have cI:¬ ((c.ino.length:Nat):Int)<(c.ino.length:Nat):=by omega
  rw [Z9];simp only [esc,cI,n2,lt3];have eL:([]:List Nat).length=0:=rfl;rw [eL] at e4;rw [e4,lenF,len3,len2,len1]
 have ho:Out h.length h4 (sV g.length 0 D.length 256) 256 D.length (C8 (kK D n c)):=by
  refine ⟨?_,g.length,rfl,by rw [lg,G5];omega,?_⟩
  ·rw [F0,lenF];rw [eimg];refine okD.put ok3 ?_;unfold jG;rw [eX,zeros_length]
  ·rw [eimg];exact k4.blk
 exact A0q key ho bL
end
structure MayC (c:Cl):Prop where
 ino:∀ x∈c.ino,C8I x
 par:∀ i,0<=(c.par i).getD 0/\(c.par i).getD 0<=65535
 bm:c.blocks.length=c.made.length
 md:∀ b∈c.made,b.length=256
def B1P {D:Dev} {n:Int} {c:Cl} {no:Int} (hm:P5 D.length n=A5):Q6 (K0 D n c no)=A5:=by
 rw [A16];obtain ⟨_,b512,_⟩:=H5.1 hm;unfold K0 gB;cases hd:N9 D.length n no with
 | false=>simp
 | true =>
  have:=C6F hd;cases c.taken.getD no.toNat A5 with
  | true=>simp
  | false=>simp;omega
def C9v {l:List Int} {i:Nat} {x:Int} (h:l.all Q6=A5) (hx:Q6 x=A5):(l.set i x).all Q6=A5:=by
 rw [E0k] at h ⊢;intro y hy;rcases List.mem_or_eq_of_mem_set hy with h1 | h1
 ·exact h y h1
 ·rw [h1];exact hx
def C0e {D:Dev} {n:Int} {d:List Int} (hm:P5 D.length n=A5):∀ {e k:Nat} {s:Cl × List Int},s.2.all Q6=A5->(kF D n d e k s).2.all Q6=A5
 | 0,_,s,h=>h
 | e+1,k,s,h=>by
  rw [kF];exact C0e hm (C9v h (B1P hm))
def C6i {D:Dev} {n ino:Int} {c:Cl} (hm:P5 D.length n=A5):(I6 D n c ino).2.all Q6=A5:=by
 have h1:=C0e (d:=drV D n ino) (e:=(min (cR (szV D n ino)) 6).toNat) (k:=0) (s:=(c,zI 7)) hm (by show (zI 7).all Q6=A5;decide);unfold I6 A23;split
 ·exact C9v h1 (B1P hm)
 ·exact h1
def D1R {D:Dev} {n i:Int}:0<=szV D n i/\szV D n i<=34304:=by
 unfold szV;cases hc:A93 D n i with
 | false=>simp
 | true =>
  simp only [cond_true];unfold A93 gA A0Y at hc;simp only [D9v] at hc;obtain ⟨_,h1,_⟩:=hc;split at h1
  ·unfold C3Z at h1;have:=of_decide_eq_true h1;omega
  ·unfold B4n at h1;simp only [D9v,decide_eq_true_eq] at h1;exact h1.2.2.2.1
def D1j {s:Int} {d:List Int} {l:Int} (hs:0<=s/\s<=34304) (hd:d.length=7) (ha:d.all Q6=A5) (hl:Q6 l=A5):C8I (1::l::s::0::d):=by
 refine ⟨by simp [hd],?_⟩;show A0Y 1 l s 0 d=A5;unfold A0Y B4n;have h0:Q6 0=A5:=by decide
 simp [hl,ha,h0,hs]
def D3y {p no:Int} (hp:Q6 p=A5) (hn:Q6 no=A5):C8I (2::1::0::p::no::zI 6):=by
 refine ⟨by simp [zI],?_⟩;show A0Y 2 1 0 p (no::zI 6)=A5;unfold A0Y B4n;have h1:Q6 1=A5:=by decide
 have hz:(zI 6).all Q6=A5:=by decide
 simp [E0j,hn,hz,hp,h1]
def D1k:C8I (zI 11):=⟨by simp [zI],by decide⟩
def C0R {α:Type} {l:List α} {i:Nat} {x y:α} (h:y∈l.set i x):y∈l\/y=x:=List.mem_or_eq_of_mem_set h
section
variable {D:Dev} {n:Int} {c:Cl} {ino:Int}
def D0T (hm:P5 D.length n=A5) (h:MayC c):MayC (O4 D n c ino):=by
 have hs:=(tI (D:=D) (n:=n) (ino:=ino) (c:=c));refine ⟨λx hx=>?_,λi=>?_,?_,λb hb=>?_⟩
 ·rcases C0R hx with h1 | h1
  ·rw [hs.1.ino] at h1;exact h.ino x h1
  ·rw [h1];exact D1j D1R hs.2 (C6i hm) (by decide)
 ·have:(O4 D n c ino).par=c.par:=hs.1.par;rw [this];exact h.par i
 ·have e1:(O4 D n c ino).blocks=c.blocks:=hs.1.blocks;have e2:(O4 D n c ino).made=c.made:=hs.1.made;rw [e1,e2];exact h.bm
 ·have e2:(O4 D n c ino).made=c.made:=hs.1.made;rw [e2] at hb;exact h.md b hb
def MayC.same {c':Cl} (h:MayC c) (s:SameC c c'):MayC c':=⟨by rw [s.ino];exact h.ino,by rw [s.par];exact h.par,by rw [s.blocks,s.made];exact h.bm,by rw [s.made];exact h.md⟩
def MayC.md' (h:MayC c) {no:Int} {b:List UInt8} (hb:b.length=256):MayC (dU c no b):=by
 refine ⟨h.ino,h.par,?_,λx hx=>?_⟩
 ·show (c.blocks++[no]).length=(c.made++[b]).length;simp [h.bm]
 ·rcases List.mem_append.1 (show x∈c.made++[b] from hx) with h1 | h1
  ·exact h.md x h1
  ·simp at h1;rw [h1];exact hb
def D0S (hD:okD D) (hm:P5 D.length n=A5) (h:MayC c):MayC (X7 D n c ino):=by
 have h1:=D0T (ino:=ino) hm h;unfold X7;split
 ·exact h1
 ·exact MayC.md' (h1.same (nO (D:=D) (n:=n) (many:=cR (szV D n ino)) (e:=128) (k:=0) (s:=(O4 D n c ino,blk D ((I6 D n c ino).2.getD 6 0))))) (B5W (by omega) (J3 hD))
def D2P (hm:P5 D.length n=A5) (h:MayC c):MayC (nN D n c ino):=by
 have hs:=zR (D:=D) (n:=n) (ino:=ino) (c:=c);have hn:Q6 (K7 D n c ino).2=A5:=by
  unfold K7;cases (decide (kdV D n ino=2)&&O0 (blk D ((drV D n ino).getD 0 0))) with
  | true=>exact B1P hm
  | false=>show Q6 0=A5;decide
 refine ⟨λx hx=>?_,λi=>?_,?_,λb hb=>?_⟩
 ·rcases C0R hx with h1 | h1
  ·rw [hs.ino] at h1;exact h.ino x h1
  ·rw [h1];exact D3y (A16.2 (h.par ino)) hn
 ·have:(nN D n c ino).par=c.par:=hs.par;rw [this];exact h.par i
 ·have e1:(nN D n c ino).blocks=c.blocks:=hs.blocks;have e2:(nN D n c ino).made=c.made:=hs.made;rw [e1,e2];exact h.bm
 ·have e2:(nN D n c ino).made=c.made:=hs.made;rw [e2] at hb;exact h.md b hb
def C3S (hi:0<=ino/\ino<=65535):∀ {L:List Ent} {s:Cl × (List UInt8->Option Int)},MayC s.1->MayC (P8 D n ino s L).1
 | [],_,h=>h
 | x::L,s,h=>by
  have h1:MayC (K2 D n ino s x).1:=by
   unfold K2 aI;cases R9 D n s.1 x.2 with
   | false=>exact h
   | true =>
    simp only [cond_true];cases (s.1.par x.2).isSome with
    | true=>exact ⟨h.ino,h.par,h.bm,h.md⟩
    | false =>
     refine ⟨h.ino,λi=>?_,h.bm,h.md⟩;show 0<=(A3j s.1.par x.2 ino i).getD 0/\(A3j s.1.par x.2 ino i).getD 0<=65535;unfold A3j;split
     ·exact hi
     ·exact h.par i
  exact C3S hi (L:=L) (s:=K2 D n ino s x) h1
def B7d {X:List Int} {K:List UInt8->Option Int}:∀ {L:List Int} {c:Cl},MayC c->MayC (N6 D X K c L)
 | [],_,h=>h
 | no::L,c,h=>by
  have hs:=vG (D:=D) (X:=X) (no:=no) (K:=K) (l:=H9 (blk D no)) (s:=(c,cF []));have hl:=B1O (D:=D) (X:=X) (no:=no) (K:=K) (l:=H9 (blk D no)) (s:=(c,cF [])) (A13 (l:=[])) λx hx=>(B4q x hx).1
  have h1:MayC (T4 D X no K (c,cF []) (H9 (blk D no))).1:=⟨by rw [hs.ino];exact h.ino,by rw [hs.par];exact h.par,by rw [hs.blocks,hs.made];exact h.bm,by rw [hs.made];exact h.md⟩;exact B7d (L:=L) (c:=gC D X K c no) (h1.md' hl)
def D2N (hi:0<=ino/\ino<=65535) (hm:P5 D.length n=A5) (h:MayC c):MayC (rF D n c ino):=by
 have h1:=D2P (ino:=ino) hm h;unfold rF;split
 ·exact h1
 ·unfold X4;have hb:=h1.same (bW (D:=D) (n:=n) (L:=J0 (W5 (getD (blk D ((drV D n ino).getD 0 0))) (O6 (blk D ((drV D n ino).getD 0 0)) 32)) (C4 (L6 (getD (blk D ((drV D n ino).getD 0 0))) (O6 (blk D ((drV D n ino).getD 0 0)) 32)))) (s:=(nN D n c ino,W5 (getD (blk D ((drV D n ino).getD 0 0))) (O6 (blk D ((drV D n ino).getD 0 0)) 32))));refine B7d (MayC.md' (C3S (s:=(_,_)) hi hb) ?_);have hl:=B5J (D:=D) (n:=n) (L:=J0 (W5 (getD (blk D ((drV D n ino).getD 0 0))) (O6 (blk D ((drV D n ino).getD 0 0)) 32)) (C4 (L6 (getD (blk D ((drV D n ino).getD 0 0))) (O6 (blk D ((drV D n ino).getD 0 0)) 32)))) (s:=(nN D n c ino,W5 (getD (blk D ((drV D n ino).getD 0 0))) (O6 (blk D ((drV D n ino).getD 0 0)) 32)));cases okX (L6 (getD (blk D ((drV D n ino).getD 0 0))) (O6 (blk D ((drV D n ino).getD 0 0)) 32)) (F9 D n (nN D n c ino) (getD (blk D ((drV D n ino).getD 0 0))) (O6 (blk D ((drV D n ino).getD 0 0)) 32)).2 with
  | true=>exact A1V (hl.trans A8t)
  | false=>exact zeros_length
def D3N (hi:0<=ino/\ino<=65535) (hD:okD D) (hm:P5 D.length n=A5) (h:MayC c):MayC (W0 D n c ino):=by
 unfold W0;split
 ·exact D0S hD hm h
 ·exact D2N hi hm h
def C96 (hD:okD D) (hm:P5 D.length n=A5):∀ {e i:Nat} {c:Cl},RowW n c->MayC c->MayC (ofR D n e i c)
 | 0,_,_,_,h=>h
 | e+1,i,c,hr,h=>by
  obtain ⟨_,_,_,n128,_⟩:=H5.1 hm;unfold ofR;cases hc:c.row[i]? with
  | none=>exact h
  | some a =>
   have ha:=hr.rg a (D9S hc);exact C96 hD hm (mQ hr) (D3N ⟨by omega,by omega⟩ hD hm h)
end
def D2j (D:Dev):IsView [rT (C8 D),rT [.sl 0 0 D.length 256]] (.f 41 [(1,0)]) D :=
 ⟨1,0,A5,A5,rfl,rfl,rfl⟩
section
variable {D:Dev} {n:Int}
def bJ (hD:okD D) (hm:P5 D.length n=A5):RowW n (H8 D n)/\Small (H8 D n) 128 (224*129) (33*129) (224*129)/\(∀ x∈(F5 D n).ino,x.length=11)/\(F5 D n).ino.length=(n+1).toNat/\(F5 D n).taken.length=D.length:=by
 obtain ⟨_,_,_,P,_,_,_,_,_,h1,h2⟩:=C24 (n:=n) (m:=0) hD (D2j D) hm;exact ⟨h1,h2,P.il,P.ilen,P.tlen⟩
def claimI_may:MayC (G7 D n):=by
 refine ⟨λx hx=>?_,λi=>?_,rfl,λb hb=>by cases hb⟩
 ·rw [List.eq_of_mem_replicate hx];exact D1k
 ·have e:((G7 D n).par i).getD 0=if i=1 then 1 else 0:=by
   show ((A3j (λ_=>A7) 1 1) i).getD 0=_;unfold A3j;split<;>rfl
  rw [e];split<;>omega
def C8d (hD:okD D) (hm:P5 D.length n=A5):MayC (H8 D n):=by
 obtain ⟨_,_,_,n128,_⟩:=H5.1 hm;unfold H8;have hs:=ownR_same (c:=G7 D n) (k:=(eV D.length n).toNat);refine C96 hD hm ?_ (claimI_may.same hs);refine RowW.same (c:=G7 D n) ⟨by simp [G7],λi=>?_,λi hi=>?_⟩ hs.row hs.par
 ·by_cases c1:i=1
  ·subst c1;simp [G7,A3j]
  ·simp [G7,A3j,c1]
 ·obtain ⟨_,_,n8,_⟩:=H5.1 hm;simp [G7] at hi;omega
def D1d {c:Cl} {a:Int} (hl:∀ i,Q6 ((c.lnk i).getD 0)=A5) (h:MayC c):MayC (cZ c a):=by
 unfold cZ;split
 ·rename_i h1;refine ⟨λx hx=>?_,h.par,h.bm,h.md⟩;rcases C0R hx with h2 | h2
  ·exact h.ino x h2
  ·have hin:c.ino.getD a.toNat []∈c.ino:=by
    by_cases hl:a.toNat<c.ino.length
    ·rw [D9z,D9u hl];exact D9Y hl
    ·rw [D9z (l:=c.ino),D9W (by omega)] at h1;simp at h1
   obtain ⟨h3,h4⟩:=h.ino _ hin;generalize c.ino.getD a.toNat []=y at *;rw [h2]
   match y,h3 with
   | [y0,y1,y2,y3,y4,y5,y6,y7,y8,y9,y10],_ =>
    have e:y0=1:=h1;subst e;have h5:B4n 1 y1 y2 y3 [y4,y5,y6,y7,y8,y9,y10]=A5:=h4;refine ⟨rfl,?_⟩;show B4n 1 ((c.lnk a).getD 0) y2 y3 [y4,y5,y6,y7,y8,y9,y10]=A5;unfold B4n at h5 ⊢;simp only [D9v] at h5 ⊢;exact ⟨h5.1,hl a,h5.2.2⟩
 ·exact h
def C0M {c:Cl} {a:Int}:(cZ c a).row=c.row/\(cZ c a).taken=c.taken/\(cZ c a).blocks=c.blocks/\(cZ c a).made=c.made/\(cZ c a).lost=c.lost/\(cZ c a).lnk=c.lnk/\(cZ c a).par=c.par:=by
 unfold cZ;split<;>exact ⟨rfl,rfl,rfl,rfl,rfl,rfl,rfl⟩
def oP:∀ {L:List Int} {c:Cl},(aS c L).row=c.row/\(aS c L).taken=c.taken/\(aS c L).blocks=c.blocks/\(aS c L).made=c.made/\(aS c L).lost=c.lost/\(aS c L).lnk=c.lnk/\(aS c L).par=c.par
 | [],c=>⟨rfl,rfl,rfl,rfl,rfl,rfl,rfl⟩
 | a::L,c=>by
  obtain ⟨a1,a2,a3,a4,a5,a6,a7⟩:=oP (L:=L) (c:=cZ c a);obtain ⟨b1,b2,b3,b4,b5,b6,b7⟩:=C0M (c:=c) (a:=a);exact ⟨a1.trans b1,a2.trans b2,a3.trans b3,a4.trans b4,a5.trans b5,a6.trans b6,a7.trans b7⟩
def C0N:∀ {L:List Int} {c:Cl},(∀ i,Q6 ((c.lnk i).getD 0)=A5)->MayC c->MayC (aS c L)
 | [],_,_,h=>h
 | a::L,c,hl,h=>C0N (L:=L) (c:=cZ c a) (by rw [(C0M (c:=c) (a:=a)).2.2.2.2.2.1];exact hl) (D1d hl h)
def C8c (hD:okD D) (hm:P5 D.length n=A5):MayC (F5 D n):=by
 obtain ⟨h1,h2,_⟩:=bJ hD hm;refine C0N (λi=>?_) (C8d hD hm);rw [A16];have:=h2.lnk i;omega
def C64 {c:Cl} {k:Nat}:(A3a c k).row=c.row:=ownR_same.row
def tF (hD:okD D) (hm:P5 D.length n=A5):ImgOk D n (F5 D n):=by
 obtain ⟨h1,h2,h3,h4,h5⟩:=bJ hD hm;obtain ⟨_,_,_,n128,_⟩:=H5.1 hm;have hc:=C8c hD hm;obtain ⟨s1,s2,s3,s4,s5,s6,s7⟩:=oP (L:=(H8 D n).row) (c:=H8 D n);have hr:1<=(H8 D n).row.length:=by
  have:(A3a (G7 D n) (eV D.length n).toNat).row.length<=(H8 D n).row.length:=C40;rw [C64] at this;simpa [G7] using this
 refine ⟨?_,h5,hc.ino,by rw [h4];omega,hc.bm,?_,hc.md⟩
 ·show 0<(aS _ _).row.length;rw [s1];omega
 ·show (aS _ _).blocks.length<=_;rw [s3];have:=h2.blocks;omega
def C14 {m:Int} {f:Cell} {h:A9} {cs:List Cell} (hD:okD D) (hv:IsView h f D) (hm:P5 D.length n=A5) (hc:IsCl h cs (F5 D n)) :
  W8 [.a (vwC D.length n m f),.a cs] h=A4 (sV h.length 0 D.length 256,h++[rT (C8 (kK D n (F5 D n)))]) :=
 B93 hD hv hm hc (tF hD hm)
end
def Cl.wl (c:Cl) (x:Int):Cl:={ c with lost:=x }
section
variable {D E:Dev} {n:Int} {c:Cl} {x:Int}
def D4U {no:Int}:gB D n (c.wl x) no=gB D n c no:=rfl
def A9s {no:Int}:K0 D n (c.wl x) no=K0 D n c no:=rfl
def A9r {no:Int}:L5 D n (c.wl x) no=(L5 D n c no).wl x:=by
 unfold L5;rw [D4U];cases gB D n c no<;>rfl
def C52 {no:Int} (h:E.length=D.length):gB E n c no=gB D n c no:=by unfold gB;rw [h]
def A3U {no:Int} (h:E.length=D.length):K0 E n c no=K0 D n c no:=by unfold K0;rw [C52 h]
def A3T {no:Int} (h:E.length=D.length):L5 E n c no=L5 D n c no:=by unfold L5;rw [C52 h]
def A0U:N9 D.length n 0=A6:=by
 cases h:N9 D.length n 0 with
 | false=>rfl
 | true =>
  obtain ⟨h1,h2,_⟩:=A8O.1 h;unfold eV rM A06 at h2;rw [h1] at h2;have:=H5.1 h1;simp only [cond_true] at h2;omega
def D0K:K0 D n c 0=0/\L5 D n c 0=c:=by
 unfold K0 L5 gB;rw [A0U];exact ⟨rfl,rfl⟩
def A9t {no:Int}:K0 D n c (K0 D n c no)=K0 D n c no/\L5 D n c (K0 D n c no)=L5 D n c no:=by
 cases h:gB D n c no with
 | true =>
  have e:K0 D n c no=no:=by unfold K0;rw [h];rfl
  rw [e];exact ⟨e,rfl⟩
 | false =>
  have e:K0 D n c no=0:=by unfold K0;rw [h];rfl
  have e2:L5 D n c no=c:=by unfold L5;rw [h];rfl
  rw [e,e2];exact D0K
def C4p {no:Int} (h:K0 D n c no≠0):K0 D n c no=no/\gB D n c no=A5:=by
 cases hb:gB D n c no with
 | true=>exact ⟨by unfold K0;rw [hb];rfl,rfl⟩
 | false=>exact absurd (by unfold K0;rw [hb];rfl) h
def C9G {d:List Int}:∀ {e k:Nat} {c:Cl} {l:List Int},kF D n d e k (c.wl x,l)=((kF D n d e k (c,l)).1.wl x,(kF D n d e k (c,l)).2)
 | 0,_,_,_=>rfl
 | e+1,k,c,l=>by
  show kF D n d e (k+1) (L5 D n (c.wl x) (d.getD k 0),l.set k (K0 D n (c.wl x) (d.getD k 0)))=_;rw [A9r,A9s,C9G];rfl
def C6b (h:E.length=D.length) {d:List Int}:∀ {e k:Nat} {s:Cl × List Int},kF E n d e k s=kF D n d e k s
 | 0,_,_=>rfl
 | e+1,k,s=>by
  show kF E n d e (k+1) (L5 E n s.1 (d.getD k 0),s.2.set k (K0 E n s.1 (d.getD k 0)))=_;rw [A3T h,A3U h,C6b h];rfl
def B1Q {d:List Int} {j:Nat}:∀ {e k:Nat} {s:Cl × List Int},j<k\/k+e<=j->(kF D n d e k s).2.getD j 0=s.2.getD j 0
 | 0,_,_,_=>rfl
 | e+1,k,s,h=>by
  show (kF D n d e (k+1) _).2.getD j 0=_;rw [B1Q (by omega)];show (s.2.set k _).getD j 0=_;rw [D9z,E0o (by omega),<-D9z]
def C0d {d d':List Int}:∀ {e k:Nat} {s:Cl × List Int},k+e<=s.2.length->(∀ j,k<=j->j<k+e->d'.getD j 0=(kF D n d e k s).2.getD j 0)->kF D n d' e k s=kF D n d e k s
 | 0,_,_,_,_=>rfl
 | e+1,k,s,hl,h=>by
  have h0:=h k (D9x _) (by omega);have e1:(kF D n d (e+1) k s).2.getD k 0=K0 D n s.1 (d.getD k 0):=by
   show (kF D n d e (k+1) (L5 D n s.1 (d.getD k 0),s.2.set k (K0 D n s.1 (d.getD k 0)))).2.getD k 0=_;rw [B1Q (by omega)];show (s.2.set k _).getD k 0=_;rw [D9z,List.getElem?_set,if_pos rfl,if_pos (by omega)];rfl
  rw [e1] at h0;have ih:=C0d (d:=d) (d':=d') (e:=e) (k:=k+1) (s:=(L5 D n s.1 (d.getD k 0),s.2.set k (K0 D n s.1 (d.getD k 0)))) (by show k+1+e<=(s.2.set k _).length;rw [E0c];omega) (λj h1 h2=>h j (by omega) (by omega));show kF D n d' e (k+1) (L5 D n s.1 (d'.getD k 0),s.2.set k (K0 D n s.1 (d'.getD k 0)))=kF D n d e (k+1) (L5 D n s.1 (d.getD k 0),s.2.set k (K0 D n s.1 (d.getD k 0)));rw [h0,A9t.1,A9t.2];exact ih
def A14 (D:Dev) (n sz:Int) (d:List Int) (c:Cl):Cl × List Int:=A23 D n d (cR sz) (kF D n d (min (cR sz) 6).toNat 0 (c,zI 7))
def B1S {ino:Int}:I6 D n c ino=A14 D n (szV D n ino) (drV D n ino) c:=rfl
def D3J {sz:Int} {d:List Int}:A14 D n sz d (c.wl x)=((A14 D n sz d c).1.wl x,(A14 D n sz d c).2):=by
 unfold A14 A23;rw [C9G];split
 ·rw [A9r,A9s]
 ·rfl
def D1o (h:E.length=D.length) {sz:Int} {d:List Int}:A14 E n sz d c=A14 D n sz d c:=by
 unfold A14 A23;rw [C6b h,A3T h,A3U h]
def C6Z {sz:Int} {d:List Int}:A14 D n sz (A14 D n sz d c).2 c=A14 D n sz d c:=by
 obtain ⟨m,hm⟩:∃ m,m=(min (cR sz) 6).toNat:=⟨_,rfl⟩;have m6:m<=6:=by omega
 obtain ⟨s,hs⟩:∃ s,s=kF D n d m 0 (c,zI 7):=⟨_,rfl⟩;have sl:s.2.length=7:=by rw [hs,A3X.2];simp [zI]
 have key:∀ d':List Int,(∀ j,j<6->d'.getD j 0=s.2.getD j 0)->kF D n d' m 0 (c,zI 7)=s:=by
  intro d' h;rw [hs];refine C0d (by simp [zI];omega) λj _ h2=>?_
  rw [h j (by omega),hs]
 have hN:A14 D n sz d c=A23 D n d (cR sz) s:=by unfold A14;rw [<-hm,<-hs]
 rw [hN];unfold A14;rw [<-hm];by_cases h6:6<cR sz
 ·have e1:A23 D n d (cR sz) s=(L5 D n s.1 (d.getD 6 0),s.2.set 6 (K0 D n s.1 (d.getD 6 0))):=by unfold A23;rw [if_pos h6]
  rw [e1,key _ (λj hj=>by rw [D9z,E0o (by omega),<-D9z])];unfold A23;rw [if_pos h6];have e2:(s.2.set 6 (K0 D n s.1 (d.getD 6 0))).getD 6 0=K0 D n s.1 (d.getD 6 0):=by
   rw [D9z,List.getElem?_set,if_pos rfl,if_pos (by omega)];rfl
  show (L5 D n s.1 ((s.2.set 6 (K0 D n s.1 (d.getD 6 0))).getD 6 0),s.2.set 6 (K0 D n s.1 ((s.2.set 6 (K0 D n s.1 (d.getD 6 0))).getD 6 0)))=_;rw [e2,A9t.1,A9t.2]
 ·have e1:A23 D n d (cR sz) s=s:=by unfold A23;rw [if_neg h6]
  rw [e1,key _ (λj hj=>rfl)];unfold A23;rw [if_neg h6]
def D24 {many:Int} {b:List UInt8} {k:Nat}:S6 D n many (c.wl x,b) k=((S6 D n many (c,b) k).1.wl x,(S6 D n many (c,b) k).2):=by
 unfold S6;split
 ·rfl
 ·rw [A9r,A9s];split<;>rfl
def C6k {many:Int}:∀ {e k:Nat} {c:Cl} {b:List UInt8},O5 D n many e k (c.wl x,b)=((O5 D n many e k (c,b)).1.wl x,(O5 D n many e k (c,b)).2)
 | 0,_,_,_=>rfl
 | e+1,k,c,b=>by
  show O5 D n many e (k+1) (S6 D n many (c.wl x,b) k)=_;rw [D24];exact C6k
def C3b (h:E.length=D.length) {many:Int}:∀ {e k:Nat} {s:Cl × List UInt8},O5 E n many e k s=O5 D n many e k s
 | 0,_,_=>rfl
 | e+1,k,s=>by
  show O5 E n many e (k+1) (S6 E n many s k)=O5 D n many e (k+1) (S6 D n many s k);have:S6 E n many s k=S6 D n many s k:=by unfold S6;rw [A3T h,A3U h]
  rw [this];exact C3b h
def C0t {many:Int} {s:Cl × List UInt8} {k i:Nat} (hb:s.2.length=256) (hk:k<128) (hi:i<128) :
  ptP (S6 D n many s k).2 i=if i=k then (if ptP s.2 k≠0/\(k:Int)+6<many/\K0 D n s.1 (ptP s.2 k)≠0 then ptP s.2 k else 0) else ptP s.2 i:=by
 obtain ⟨V,hV⟩:∃ V,V=if ptP s.2 k≠0/\(k:Int)+6<many/\K0 D n s.1 (ptP s.2 k)≠0 then ptP s.2 k else 0:=⟨_,rfl⟩
 rw [<-hV];unfold S6;by_cases h0:ptP s.2 k=0
 ·rw [if_pos h0];rw [if_neg (λh=>h.1 h0)] at hV;by_cases e:i=k
  ·subst e;rw [if_pos rfl,hV,h0]
  ·rw [if_neg e]
 ·rw [if_neg h0];have hz:ptP (G0 s.2 (2*k) (C6 2 0)) i=if i=k then 0 else ptP s.2 i:=D5x hb hk hi
  by_cases hm:(k:Int)+6<many
  ·rw [if_pos hm,decide_eq_true hm,D9R];by_cases hc:K0 D n s.1 (ptP s.2 k)=0
   ·show ptP (bif !decide (K0 D n s.1 (ptP s.2 k)=0) then s.2 else G0 s.2 (2*k) (C6 2 0)) i=_;rw [if_neg (λh=>h.2.2 hc)] at hV;rw [decide_eq_true hc,Bool.not_true,cond_false,hz,hV]
   ·show ptP (bif !decide (K0 D n s.1 (ptP s.2 k)=0) then s.2 else G0 s.2 (2*k) (C6 2 0)) i=_;rw [if_pos ⟨h0,hm,hc⟩] at hV;rw [decide_eq_false hc,E0E,cond_true,hV];by_cases e:i=k
    ·subst e;rw [if_pos rfl]
    ·rw [if_neg e]
  ·rw [if_neg (λh=>hm h.2.1)] at hV;rw [if_neg hm,decide_eq_false hm,D9L];show ptP (G0 s.2 (2*k) (C6 2 0)) i=_;rw [hz,hV]
def A8r {many:Int} {i:Nat} (hi:i<128):∀ {e k:Nat} {s:Cl × List UInt8},s.2.length=256->k+e<=128->i<k\/k+e<=i->ptP (O5 D n many e k s).2 i=ptP s.2 i
 | 0,_,_,_,_,_=>rfl
 | e+1,k,s,hb,hk,h=>by
  show ptP (O5 D n many e (k+1) (S6 D n many s k)).2 i=_;rw [A8r hi (A34 hb (by omega)) (by omega) (by omega),C0t hb (by omega) hi,if_neg (by omega)]
def B7h {many:Int}:∀ {e k:Nat} {c:Cl} {b b':List UInt8},b.length=256->b'.length=256->k+e<=128->(∀ j,k<=j->j<k+e->ptP b' j=ptP (O5 D n many e k (c,b)).2 j) ->
  O5 D n many e k (c,b')=((O5 D n many e k (c,b)).1,b')
 | 0,_,_,_,_,_,_,_,_=>rfl
 | e+1,k,c,b,b',hb,hb',hk,h=>by
  have hl:=A34 (D:=D) (n:=n) (many:=many) (s:=(c,b)) (k:=k) hb (by omega);have hp:ptP b' k=if ptP b k≠0/\(k:Int)+6<many/\K0 D n c (ptP b k)≠0 then ptP b k else 0:=by
   rw [h k (D9x _) (by omega)];show ptP (O5 D n many e (k+1) (S6 D n many (c,b) k)).2 k=_;rw [A8r (by omega) hl (by omega) (by omega),C0t (s:=(c,b)) hb (by omega) (by omega),if_pos rfl]
  have key:S6 D n many (c,b') k=((S6 D n many (c,b) k).1,b'):=by
   by_cases h0:ptP b k=0
   ·rw [if_neg (λq=>q.1 h0)] at hp;unfold S6;rw [if_pos hp,if_pos h0]
   ·by_cases hm:(k:Int)+6<many
    ·by_cases hc:K0 D n c (ptP b k)=0
     ·rw [if_neg (λq=>q.2.2 hc)] at hp;have ec:L5 D n c (ptP b k)=c:=by
       cases hB:gB D n c (ptP b k) with
       | true =>
        have e9:K0 D n c (ptP b k)=ptP b k:=by unfold K0;rw [hB];rfl
        exact absurd (e9.symm.trans hc) h0
       | false=>unfold L5;rw [hB];rfl
      unfold S6;rw [if_pos hp,if_neg h0];show (c,b')=(if (k:Int)+6<many then L5 D n c (ptP b k) else c,b');rw [if_pos hm,ec]
     ·rw [if_pos ⟨h0,hm,hc⟩] at hp;unfold S6;rw [if_neg (by rw [hp];exact h0),if_neg h0];show (if (k:Int)+6<many then L5 D n c (ptP b' k) else c,bif decide ((k:Int)+6<many) && !decide (K0 D n c (ptP b' k)=0) then b' else G0 b' (2*k) (C6 2 0))=(if (k:Int)+6<many then L5 D n c (ptP b k) else c,b');rw [hp,decide_eq_true hm,decide_eq_false hc];rfl
    ·rw [if_neg (λq=>hm q.2.1)] at hp;unfold S6;rw [if_pos hp,if_neg h0];show (c,b')=(if (k:Int)+6<many then L5 D n c (ptP b k) else c,b');rw [if_neg hm]
  show O5 D n many e (k+1) (S6 D n many (c,b') k)=((O5 D n many e (k+1) (S6 D n many (c,b) k)).1,b');rw [key];exact B7h (b:=(S6 D n many (c,b) k).2) hl hb' (by omega) λj h1 h2=>h j (by omega) (by omega)
def C6j {many:Int} {b:List UInt8} (hb:b.length=256) (C4w:D.length<=512):ptP (O5 D n many 128 0 (c,b)).2 0<512:=by
 have hl:=A34 (D:=D) (n:=n) (many:=many) (s:=(c,b)) (k:=0) hb (by omega);show ptP (O5 D n many 127 1 (S6 D n many (c,b) 0)).2 0<512;rw [A8r (by omega) hl (by omega) (by omega),C0t (s:=(c,b)) hb (by omega) (by omega),if_pos rfl];split
 ·rename_i h;obtain ⟨_,hB⟩:=C4p h.2.2;unfold gB at hB;rw [D9v] at hB;have:=(A8O.1 hB.1).2.2;show ptP b 0<512;have h2:ptP (c,b).2 0=ptP b 0:=rfl;rw [h2] at this;omega
 ·omega
end
def C5N {d:Int} {t:List Int} {i c:Nat} (h:A3G (C4 d) t i c=A5):S4 d t i<=c:=by
 false_or_by_contra
 have:=A74 (d:=d) (t:=t) (p:=i) (c:=c) (by omega);rw [h] at this;cases this
def D4t {d:Int} {t:List Int} {i c:Nat} (hi:i<C4 d) (hc:A3G (C4 d) t i c=A5\/bK d<=c) (h:∀ k,k<C4 d->toX t k=toX t i->k%2 ^ c=i%2 ^ c):B00 d t i=A5:=by
 have hb:S4 d t i<=c:=by
  rcases hc with hc | hc
  ·exact C5N hc
  ·exact D93 B3k hc
 rw [tU hi];exact λk hk hs=>C0S hb (h k hk hs)
structure Fair (d:Int) (t:List Int):Prop where
 len:t.length=32
 fine:∀ i,i<C4 d->toX t i≠0->B1T (toX t i)=A5
 whole:∀ i,i<C4 d->toX t i≠0->B00 d t i=A5
 beyond:∀ i,C4 d<=i->toX t i=0
def D46 {d:Int} {t:List Int} (ht:t.length=32) (hr:B6k d t=A5):Fair d t:=by
 obtain ⟨h0,h5,hf⟩:=C3C.1 hr;have hm:=Q5 d;unfold A6L at hf;rw [if_pos ⟨h0,h5⟩] at hf;have hf:gY d t (C4 d)=t:=by simpa using hf
 have hk:∀ i,i<C4 d->toX t i≠0->rA d t i=A5:=by
  intro i hi hz;have:=A07 (d:=d) (t:=t) (i:=i) hm;rw [hf,if_pos hi] at this;unfold rH at this;cases c:rA d t i with
  | true=>rfl
  | false=>rw [c] at this;exact absurd this hz
 have later:∀ i j,i<j->j<C4 d->toX t j=toX t i->toX t j≠0->B00 d t j=A5:=by
  intro i j hij hj hs hz;obtain ⟨_,_,h3⟩:=tO.1 (hk j hj hz);rcases h3 with h3 | h3
  ·exact absurd hs.symm (cC.1 h3 i hij)
  ·exact h3
 refine ⟨ht,λi hi hz=>(tO.1 (hk i hi hz)).2.1,λi hi hz=>?_,λi hi=>?_⟩
 ·obtain ⟨_,_,h3⟩:=tO.1 (hk i hi hz);rcases h3 with h3 | h3
  ·rw [tU hi];intro k hkm hs;rcases Nat.lt_trichotomy k i with h | h | h
   ·exact absurd hs (cC.1 h3 k h)
   ·rw [h]
   ·have hw:=(tU hkm).1 (later i k h hkm hs (by rw [hs];exact hz)) i hi hs.symm;have hb:=C5O hkm hi hw;rw [hb];exact hw.symm
  ·exact h3
 ·have:=A07 (d:=d) (t:=t) (i:=i) hm;rw [hf,if_neg (by omega)] at this;exact this
def D3Y {d:Int} {t:List Int} (h0:0<=d) (h5:d<=5) (hf:Fair d t):B6k d t=A5:=by
 refine B7A h0 h5 ?_;unfold A6L;rw [if_pos ⟨h0,h5⟩]
 congr 1
 refine C6l (Q5 d) (λi hi=>?_) hf.len hf.beyond;by_cases hz:toX t i=0
 ·unfold rH;rw [hz];cases rA d t i<;>rfl
 ·have:rA d t i=A5:=tO.2 ⟨hz,hf.fine i hi hz,.inr (hf.whole i hi hz)⟩;unfold rH;rw [this];rfl
def D5W {t:List Int} {k i:Nat} {v:Int}:toX (t.set k v) i=if k=i/\i<t.length then v else toX t i:=by
 unfold toX;rw [D9z,D9z,List.getElem?_set];by_cases c:k=i
 ·subst c;by_cases c2:k<t.length
  ·simp [c2]
  ·simp [c2]
 ·simp [c]
def C0j {a c:List UInt8} {w:Nat} {v:Int}:fieldN (M8 256 (a++C6 w v++c)) a.length w=v%256 ^ w:=by
 unfold fieldN M8;rw [D9C,D9C,List.drop_left,E0x N0];exact A9z w v
def C8P {t:List Int} {i:Nat} (hi:i<t.length):jH t=jH (t.take i)++C6 2 t[i]++jH (t.drop (i+1)):=by
 have D7K:∀ a b:List Int,jH (a++b)=jH a++jH b:=by intro a b;simp [jH]
 have e:t=t.take i++([t[i]]++t.drop (i+1)):=by rw [List.singleton_append,<-D9E hi,List.take_append_drop]
 have h1:jH t=jH (t.take i++([t[i]]++t.drop (i+1))):=congrArg jH e;rw [h1,D7K,D7K,<-D9C]
 congr 2
def C6r {d:Int} {t:List Int} (h0:0<=d) (h5:d<=5):getD (oU d t)=d:=by
 unfold getD oU A0T;have:=C0j (a:=magX) (c:=zeros 27++jH t) (w:=1) (v:=d);rw [show magX.length=4 from rfl] at this;rw [D9C (magX++C6 1 d),this];omega
def D20 {n:Int}:B1T n=A5↔0<=n/\n<=65535:=by unfold B1T;simp
def C6s {d:Int} {t:List Int} (ht:t.length=32) (hf:t.all B1T=A5):O6 (oU d t) 32=t:=by
 apply E0q;intro i;by_cases hi:i<32
 ·unfold O6;rw [D94 (by simpa using hi),E0C,List.getElem?_range hi,D9u (by omega)];have:=C0j (a:=A0T d++jH (t.take i)) (c:=jH (t.drop (i+1))) (w:=2) (v:=t[i]);rw [D9C (A0T d),D9C (A0T d),<-C8P (by omega)] at this;have hl:(A0T d++jH (t.take i)).length=32+2*i:=by rw [D9A,vQ,vY,D91];omega
  rw [hl] at this;have h1:=D20.1 (List.all_eq_true.1 hf t[i] (D9Y (by omega)));rw [show t[i]%256 ^ 2=t[i] by omega] at this;show A4 (D6D (oU d t) i)=A4 t[i];rw [<-this];rfl
 ·rw [D9W (by rw [A1T (D9x _)];omega),D9W (by omega)]
def C6h {d:Int} {t:List Int} (hf:Fair d t):t.all B1T=A5:=by
 rw [E0k];intro x hx;obtain ⟨i,hi⟩:=List.mem_iff_getElem?.1 hx;have hl:=(List.getElem?_eq_some_iff.1 hi).1;rw [B8P hl] at hi;have hi:=Option.some.inj hi;by_cases hz:toX t i=0
 ·rw [<-hi,hz];decide
 ·by_cases hm:i<C4 d
  ·rw [<-hi];exact hf.fine i hm hz
  ·exact absurd (hf.beyond i (by omega)) hz
def D3b {d:Int} {t:List Int} (h0:0<=d) (h5:d<=5) (hf:Fair d t):okX d t=A5/\O0 (oU d t)=A5:=by
 have ha:=C6h hf;have ho:okX d t=A5:=by unfold okX;rw [decide_eq_true h0,decide_eq_true h5,ha];rfl
 refine ⟨ho,?_⟩;unfold O0;rw [C6r h0 h5,C6s hf.len ha,ho,decide_eq_true rfl,D9R,D9R];unfold B4o;rw [E0k];intro i hi;have:=List.mem_range'_1.1 hi;rw [hf.beyond i this.1];rfl
def C7R {no:Int} {j:Nat}:∀ {e i:Nat} {t:List Int},i+e<=t.length->toX (sL no e i t) j=if i<=j/\j<i+e/\toX t j=no then 0 else toX t j
 | 0,i,t,_=>by rw [if_neg (by omega)];rfl
 | e+1,i,t,h=>by
  show toX (sL no e (i+1) (if t.getD i 0=no then t.set i 0 else t)) j=_;have hl:(if t.getD i 0=no then t.set i 0 else t).length=t.length:=by split<;>simp
  rw [C7R (by rw [hl];omega)];have e1:toX (if t.getD i 0=no then t.set i 0 else t) j=if j=i/\toX t i=no then 0 else toX t j:=by
   by_cases c:t.getD i 0=no
   ·rw [if_pos c,D5W];have c':toX t i=no:=c;by_cases e2:i=j
    ·subst e2;rw [if_pos ⟨rfl,by omega⟩,if_pos ⟨rfl,c'⟩]
    ·rw [if_neg (λh=>e2 h.1),if_neg (λh=>e2 h.1.symm)]
   ·rw [if_neg c,if_neg (λh=>c h.2)]
  by_cases e2:j=i
  ·subst e2;rw [if_neg (by omega),e1];by_cases c:toX t j=no
   ·rw [if_pos ⟨rfl,c⟩,if_pos ⟨by omega,by omega,c⟩]
   ·rw [if_neg (λh=>c h.2),if_neg (λh=>c h.2.2)]
  ·have e3:toX (if t.getD i 0=no then t.set i 0 else t) j=toX t j:=by rw [e1,if_neg (λh=>e2 h.1)]
   rw [e3];by_cases c:i+1<=j/\j<i+1+e/\toX t j=no
   ·rw [if_pos c,if_pos ⟨by omega,by omega,c.2.2⟩]
   ·rw [if_neg c,if_neg (λh=>c ⟨by omega,by omega,h.2.2⟩)]
structure LessQ (q:Int->Bool) (u T:List Int):Prop where
 len:T.length=32
 get:∀ i,toX T i=if q (toX u i)=A5 then toX u i else 0
def D5V {t:List Int} {i:Nat} (h:t.length<=i):toX t i=0:=by
 unfold toX;rw [D9z,D9W h];rfl
section
variable {d:Int} {q:Int->Bool} {u T:List Int}
def D0R (hf:Fair d u) (h:LessQ q u T):Fair d T:=by
 have nz:∀ i,toX T i≠0->q (toX u i)=A5/\toX T i=toX u i:=λi hz=>by
  have:=h.get i;cases hq:q (toX u i) with
  | true=>rw [hq,if_pos rfl] at this;exact ⟨rfl,this⟩
  | false=>rw [hq,if_neg (by decide)] at this;exact absurd this hz
 refine ⟨h.len,λi hi hz=>?_,λi hi hz=>?_,λi hi=>?_⟩
 ·obtain ⟨_,e⟩:=nz i hz;rw [e] at hz ⊢;exact hf.fine i hi hz
 ·obtain ⟨hq,e⟩:=nz i hz;have hz':toX u i≠0:=by rw [<-e];exact hz
  have hw:=(tU hi).1 (hf.whole i hi hz');refine D4t (c:=S4 d u i) hi ?_ λk hk hs=>?_
  ·by_cases hb:S4 d u i<bK d
   ·refine .inl (A0B.2 ⟨hz,λk hk hm=>?_⟩);have:=(A0B.1 (A9n hb)).2 k hk hm;rw [h.get k,h.get i,this]
   ·exact .inr (by omega)
  ·obtain ⟨_,e2⟩:=nz k (by rw [hs];exact hz);exact hw k hk (by rw [<-e2,hs,e])
 ·have:=h.get i;rw [hf.beyond i hi] at this;rw [this];split<;>rfl
def C2X (h:LessQ q u T) {n:Nat}:J0 T n=(J0 u n).filter q:=by
 have nz:∀ i,qP T i=(qP u i&&q (toX u i)):=by
  intro i;unfold qP;have hi:=h.get i;cases hq:q (toX u i) with
  | false =>
   rw [hq,if_neg (by decide)] at hi;rw [hi,Bool.and_false];rfl
  | true =>
   rw [hq,if_pos rfl] at hi;rw [hi,Bool.and_true];by_cases hz:toX u i=0
   ·rw [hz];rfl
   ·congr 1
    rw [Bool.eq_iff_iff,cC,cC];constructor
    ·intro hk k hki e;refine hk k hki ?_;rw [h.get k,e,hq,if_pos rfl,hi]
    ·intro hk k hki e;have hg:=h.get k;rw [hi] at e;cases hqk:q (toX u k) with
     | true=>rw [hqk,if_pos rfl] at hg;exact hk k hki (by rw [<-hg,e])
     | false=>rw [hqk,if_neg (by decide)] at hg;rw [hg] at e;exact hz e.symm
 unfold J0;rw [List.filter_map,List.filter_filter];have e1:(D90 n).filter (qP T)=(D90 n).filter λa=>(q∘toX u) a&&qP u a:=by
  refine List.filter_congr λx _=>?_
  rw [nz x,Bool.and_comm];rfl
 rw [e1];refine List.map_congr_left λx hx=>?_
 have hx:=(List.mem_filter.1 hx).2;rw [D9v] at hx;have hq:q (toX u x)=A5:=hx.1;rw [h.get x,hq,if_pos rfl]
end
def B9R {t:List Int} {n:Nat} {x:Int} (h:x∈J0 t n):x≠0:=by
 unfold J0 at h;obtain ⟨i,hi,rfl⟩:=List.mem_map.1 h;have:=(List.mem_filter.1 hi).2;unfold qP at this;rw [D9v] at this;simpa using this.1
def C9C {t:List Int} {n:Nat}:(J0 t n).Nodup:=by
 unfold J0;rw [List.Nodup,List.pairwise_map,List.pairwise_filter];refine List.Pairwise.imp ?_ (List.pairwise_lt_range (n:=n));intro a b hab ha hb e;unfold qP at hb;rw [D9v] at hb;exact cC.1 hb.2 a hab e
def C0l {l k:List Int} (h:List.Sublist k l) (hn:l.Nodup):l.filter (λx=>decide (x∈k))=k:=by
 induction h with
 | slnil=>rfl
 | @cons k l a h ih =>
  have ha:=List.nodup_cons.1 hn;have:a ∉ k:=λhk=>ha.1 (h.subset hk)
  rw [E0H,decide_eq_false this,if_neg (by decide)];exact ih ha.2
 | @cons_cons k l a h ih =>
  have ha:=List.nodup_cons.1 hn;rw [E0H,decide_eq_true (D9I ..),if_pos rfl]
  congr 1
  have e:l.filter (λx=>decide (x∈a::k))=l.filter λx=>decide (x∈k):=by
   refine List.filter_congr λx hx=>?_
   have:x≠a:=λe=>ha.1 (by rw [<-e];exact hx)
   simp [this]
  rw [e,ih ha.2]
section
variable {D E:Dev} {n:Int}
def Q4 (D:Dev) (n:Int) (c:Cl):List Int->List Int
 | []=>[]
 | no::L=>if gB D n c no=A5 then no::Q4 D n (L5 D n c no) L else Q4 D n c L
def B95 (D:Dev) (n:Int) (c:Cl) (L:List Int):Cl:=L.foldl (L5 D n) c
def A5s {c:Cl} {no:Int} (h:gB D n c no=A6):L5 D n c no=c:=by unfold L5;rw [h];rfl
def C9E {c:Cl} {no:Int} (h:gB D n c no=A6):K0 D n c no=0:=by unfold K0;rw [h];rfl
def A8n {c:Cl} {no:Int} (h:gB D n c no=A5):K0 D n c no=no:=by unfold K0;rw [h];rfl
def keptL_sub:∀ {L:List Int} {c:Cl},List.Sublist (Q4 D n c L) L
 | [],_=>.slnil
 | no::L,c=>by
  unfold Q4;split
  ·exact keptL_sub.cons_cons _
  ·exact keptL_sub.cons _
def A8P:∀ {L:List Int} {c:Cl},Q4 D n c (Q4 D n c L)=Q4 D n c L
 | [],_=>rfl
 | no::L,c=>by
  cases h:gB D n c no with
  | true =>
   have e:Q4 D n c (no::L)=no::Q4 D n (L5 D n c no) L:=by show (if _ then _ else _)=_;rw [if_pos h]
   rw [e];show (if gB D n c no=A5 then _ else _)=_;rw [if_pos h,A8P]
  | false =>
   have e:Q4 D n c (no::L)=Q4 D n c L:=by show (if _ then _ else _)=_;rw [if_neg (by rw [h];decide)]
   rw [e,A8P]
def B5Q:∀ {L:List Int} {c:Cl},B95 D n c (Q4 D n c L)=B95 D n c L
 | [],_=>rfl
 | no::L,c=>by
  cases h:gB D n c no with
  | true =>
   have e:Q4 D n c (no::L)=no::Q4 D n (L5 D n c no) L:=by show (if _ then _ else _)=_;rw [if_pos h]
   rw [e];exact B5Q (L:=L) (c:=L5 D n c no)
  | false =>
   have e:Q4 D n c (no::L)=Q4 D n c L:=by show (if _ then _ else _)=_;rw [if_neg (by rw [h];decide)]
   rw [e,B5Q];show _=B95 D n (L5 D n c no) L;rw [A5s h]
def A9p:∀ {L:List Int} {c:Cl} {t:List Int},t.length=32->L.Nodup->(∀ x∈L,x≠0) ->
  (R3 D n (c,t) L).1=B95 D n c L/\LessQ (λx=>!(decide (x∈L) && !decide (x∈Q4 D n c L))) t (R3 D n (c,t) L).2
 | [],c,t,ht,_,_=>⟨rfl,ht,λi=>by simp [R3]⟩
 | no::L,c,t,ht,hn,hz=>by
  obtain ⟨h1,h2⟩:=List.nodup_cons.1 hn;have aK:=hz no (D9I ..);have hL:∀ x∈L,x≠0:=λx hx=>hz x (D9F _ hx)
  have hk:∀ {c},no ∉ Q4 D n c L:=λh=>h1 (keptL_sub.subset h)
  cases h:gB D n c no with
  | true =>
   have e:R3 D n (c,t) (no::L)=R3 D n (L5 D n c no,t) L:=by
    show R3 D n (L5 D n c no,if K0 D n c no=0 then sL no 32 0 t else t) L=_;rw [A8n h,if_neg aK]
   have e2:Q4 D n c (no::L)=no::Q4 D n (L5 D n c no) L:=by show (if _ then _ else _)=_;rw [if_pos h]
   obtain ⟨a1,a2⟩:=A9p (L:=L) (c:=L5 D n c no) ht h2 hL;rw [e,e2];refine ⟨a1,a2.len,λi=>?_⟩;rw [a2.get i];have:(!(decide (toX t i∈L) && !decide (toX t i∈Q4 D n (L5 D n c no) L)))=(!(decide (toX t i∈no::L) && !decide (toX t i∈no::Q4 D n (L5 D n c no) L))):=by
    by_cases e3:toX t i=no
    ·rw [e3,decide_eq_false h1,decide_eq_true (D9I ..),decide_eq_true (D9I ..)];rfl
    ·simp [e3]
   rw [this]
  | false =>
   have e:R3 D n (c,t) (no::L)=R3 D n (c,sL no 32 0 t) L:=by
    show R3 D n (L5 D n c no,if K0 D n c no=0 then sL no 32 0 t else t) L=_;rw [C9E h,if_pos rfl,A5s h]
   have e2:Q4 D n c (no::L)=Q4 D n c L:=by show (if _ then _ else _)=_;rw [if_neg (by rw [h];decide)]
   have uS:(sL no 32 0 t).length=32:=by rw [zK,ht]
   have hza:∀ i,toX (sL no 32 0 t) i=if toX t i=no then 0 else toX t i:=λi=>by
    rw [C7R (by omega)];by_cases c1:toX t i=no
    ·by_cases c2:i<32
     ·rw [if_pos ⟨by omega,by omega,c1⟩,if_pos c1]
     ·exact absurd (D5V (t:=t) (i:=i) (by omega)) (by rw [c1];exact aK)
    ·rw [if_neg (λh=>c1 h.2.2),if_neg c1]
   obtain ⟨a1,a2⟩:=A9p (L:=L) (c:=c) uS h2 hL;rw [e,e2];refine ⟨?_,a2.len,λi=>?_⟩
   ·rw [a1];show _=B95 D n (L5 D n c no) L;rw [A5s h]
   ·rw [a2.get i,hza i];by_cases c1:toX t i=no
    ·have:(!(decide (toX t i∈no::L) && !decide (toX t i∈Q4 D n c L)))=A6:=by
      rw [c1,decide_eq_true (D9I ..),decide_eq_false hk];rfl
     rw [this];have e0:(if toX t i=no then (0:Int) else toX t i)=0:=if_pos c1;rw [e0];split<;>rfl
    ·rw [if_neg c1];have:(!(decide (toX t i∈L) && !decide (toX t i∈Q4 D n c L)))=(!(decide (toX t i∈no::L) && !decide (toX t i∈Q4 D n c L))):=by simp [c1]
     rw [this]
def B62:∀ {L:List Int} {c:Cl} {t:List Int},(∀ x∈L,x≠0)->Q4 D n c L=L->R3 D n (c,t) L=(B95 D n c L,t)
 | [],_,_,_,_=>rfl
 | no::L,c,t,hz,h=>by
  have aK:=hz no (D9I ..);cases hb:gB D n c no with
  | true =>
   have e2:Q4 D n c (no::L)=no::Q4 D n (L5 D n c no) L:=by show (if _ then _ else _)=_;rw [if_pos hb]
   rw [e2] at h;have h:=(List.cons.inj h).2;have e:R3 D n (c,t) (no::L)=R3 D n (L5 D n c no,t) L:=by
    show R3 D n (L5 D n c no,if K0 D n c no=0 then sL no 32 0 t else t) L=_;rw [A8n hb,if_neg aK]
   rw [e,B62 (λx hx=>hz x (D9F _ hx)) h];rfl
  | false =>
   have e2:Q4 D n c (no::L)=Q4 D n c L:=by show (if _ then _ else _)=_;rw [if_neg (by rw [hb];decide)]
   rw [e2] at h;have:=keptL_sub (D:=D) (n:=n) (L:=L) (c:=c);rw [h] at this;have:=this.length_le;simp at this;omega
end
def C0c {D:Dev} (h:A5w D=A5):P5 D.length (yX D)=A5:=by
 unfold A5w at h;rw [D9v] at h;have h1:=h.1;unfold okS at h1;rw [D9v,of_decide_eq_true h.2] at h1;exact h1.1
section
variable (n m m2:Nat) (a0 a1 a2 x0 x2 x4 x5 x6 x7 x8 x9 x10 x13 x14 x15 x20 x21 x22 x42 x65 x66 x67:Val) (h:A9)
def dO:FD A8:=⟨px 0X11158f206f5803750000000051b24ff2e054a04f4921804ef6001a489390489012814893e048814102283b6e488186e16e1718240381048818044881d5c1714e4883b1c5019189433af18f488638f701c181b04881861a4881d4163e4818215011a07024513401215f42006050110290622301133c4183a4291c60195d5b591283002348964811d196001e20128f14892482e1375000011b22410322a1e023f01822131df11cf2462e41b11828061c2c1bf190010371a0181b19182114892482042,[],[.eqA A5 (D9w 256 (.i .u8)) (.t 27) (.t 31)],[.tmp 2,.tmp 3],[lM oG A9i,E1 A44 B01,E1 W8 pF]⟩
def A1A:=dO.R
def B3Z:AtH:=dO.lj 0 n [m] [x0,x6,x20,x21,x22]
def C4Q:AtH:=dO.lj 1 n [m] [x0,x6,x20,x21,x22]
def A7X:=tT [⟨2,5,B3Z⟩,⟨2,5,C4Q⟩]
def A7k:=mR A1A dO A7X n [a0] h
def wW:=mL dO A7X 0 n [m] [x0,x6,x20,x21,x22] h
def A6r:=mJ dO A7X 1 n [m] [x0,x6,x20,x21,x22] h
def A1t:=dO.K Tryz.func24
def oD:=dO.S
def A3A:D7D A1A oD:=A1t.out2
def G9:FD A8:=⟨px 0X7ef5a0558022180422a5051a3d50020450503d71181824301a191021cb1a01cb1e07f171cb6a1ac1cb70110320406f172d19a5d01a1dd3525cf180412294215031a070244133d01211af420260515a011ad4259f2764ff076239118b39065a01035f1b1801034f1b1862197c7e11101b30422a4051a3d50020440503d71181824301c19063691a0691e35c691f0691e35a691f01190220404851a7d423111a0422a3051a3d50020430503d7118182406320411c50411a192b53b42001a63a642e21b1901c2,[],[],[],[E1 aX mX]⟩
def xJ:=G9.R
def vV:AtH:=G9.lj 0 n [] [x0,x4,x5]
def vW:AtH:=G9.lj 1 n [] [x0,x4,x5]
def vX:AtH:=G9.lj 2 n [m] [x0,x6,x7,x42]
def A8X:AtH:=G9.lj 3 n [m] [x0,x6,x7,x42]
def W2:=tT [⟨1,3,vV⟩,⟨1,3,vW⟩,⟨2,4,vX⟩,⟨2,4,A8X⟩]
def pM:=mR xJ G9 W2 n [a0,a1,a2] h
def dD:=mJ G9 W2 0 n [] [x0,x4,x5] h
def A4a:=mJ G9 W2 1 n [] [x0,x4,x5] h
def V5:=mL G9 W2 2 n [m] [x0,x6,x7,x42] h
def dF:=mJ G9 W2 3 n [m] [x0,x6,x7,x42] h
def xE:=G9.K Tryz.func61
def lJ:=G9.Q
def pY:OfT xJ lJ:=xE.of
def Q8:FD A8:=⟨px 0X113022f1862e8181c91c371111113721c8f18b057a022180022a62dc550020462ce1bc2b518241bbf1ac030181904262df2f2ba2df76f42df3c0103f2a81ad0182d9633072022a72ac5500204729e1a82b5182419ff1980301a1902ad4d04262ad2f2882ad76f42ad3c011f81990182a9425518ff118df1c00461a11d4153b3918245031a37024613401212994202635110290421e81882b428f28d28b18282221113359f1a050027c5803180022a21dc550020421ce7c2b518247bf78003803b3b1bc1b791c41e9556201c1bc353101b18041b1d1ac10411ac519c1b691c60192468f5d00424319a119c65e1c41bb42255cf21b63b1b1b0423318a16f45a1c57842155111a070240181920410507c56a4b0519f4203006055112d42034af21863a191b01161023a3b0456850296c3e072b1523df2663e181b01235c43c1c429423bf13af2462e61b11828063a2c39f2f001137380181d191192012ef300581864a103a3b4711101722410323c2b025901823132af129f401182806292c28f1e0010371f071b19182113a21b250182,[],[.eqA A5 ([.i .i64,.i .i64,.i .i64,.i .i64,.i .i64,.i .i64,.i .i64,.i .i64,.i .i64,.i .i64,.i .i64]) (.t 57) (.t 58)],[.cellN 2 8,.tmp 3],[E1 oD A1t,lM oG A9i,E1 A44 B01,E1 K9 Q1,E1 A43 B2l,lM lJ xE,E1 sZ A3o]⟩
def A4V:=Q8.R
def A26:AtH:=Q8.lj 0 n [m] [x2,x6,x8,x9,x10]
def C2k:AtH:=Q8.lj 1 n [m] [x2,x6,x8,x9,x10]
def B0M:AtH:=Q8.lj 2 n [m] [x2,x6,x9,x65,x66,x67]
def C2l:AtH:=Q8.lj 3 n [m] [x2,x6,x9,x65,x66,x67]
def qJ:=tT [⟨2,5,A26⟩,⟨2,5,C2k⟩,⟨2,6,B0M⟩,⟨2,6,C2l⟩]
def B70:=mR A4V Q8 qJ n [a0] h
def kT:=mL Q8 qJ 0 n [m] [x2,x6,x8,x9,x10] h
def tQ:=mJ Q8 qJ 1 n [m] [x2,x6,x8,x9,x10] h
def dC:=mL Q8 qJ 2 n [m] [x2,x6,x9,x65,x66,x67] h
def kR:=mJ Q8 qJ 3 n [m] [x2,x6,x9,x65,x66,x67] h
def B2r:=Q8.K Tryz.func26
def A5e:=Q8.S
def B2Y:G3 A4V A5e:=B2r.flat
def A4t:FD A8:=⟨px 0X139f2006020475c506020464e5060204548506020443a506020432c506020421e50411a62b2d02011201600622403803a3b4181831b42031103a2342,[],[.eqA A6 ([.i .i64,.i .i64,.i .i64,.i .i64,.i .i64,.i .i64,.i .i64,.i .i64]) (.t 3) (.t 4)],[.tmp 2],[]⟩
def B1a:=A4t.R
def C1O:=mR B1a A4t (tT []) n [a0] h
def B8S:=A4t.K Tryz.func28
def B1u:=A4t.S
def B8e:G3 B1a B1u:=B8S.flat
def bE:FD A8:=⟨px 0X15af607f5a022a000000047259f1f056c02218002488661a4881d04881817a50406e578171824301c19061791a0794b687970791e058791f013018191045f1a05f1e03e5f1f0104124e1382c01f18d2522bf19f489629f18028191b04891861a4891d4161e2818215011a070245134012149420060511029381d033f3d3b528200231cf700448839710004881a5d41f05248864815301c2,[],[],[.tmp 6],[]⟩
def A4U:=bE.R
def B0L:AtH:=bE.lj 0 n [m] [x2,x7,x13,x14,x15]
def C2j:AtH:=bE.lj 1 n [m] [x2,x7,x13,x14,x15]
def A5j:=tT [⟨2,5,B0L⟩,⟨2,5,C2j⟩]
def B7Z:=mR A4U bE A5j n [a0,a1,a2] h
def dB:=mL bE A5j 0 n [m] [x2,x7,x13,x14,x15] h
def kQ:=mJ bE A5j 1 n [m] [x2,x7,x13,x14,x15] h
def B2q:=bE.K Tryz.func29
def yR:=bE.S
def B5l:A4D A4U yR:=B2q.out
end
abbrev Wr:=Int × List UInt8
def wrC (w:Wr):List Cell:=.i .i64 w.1::B4 w.2
def fG (l:List Wr):List Cell:=(l.map wrC).flatten
def okW (l:List Wr):Prop:=∀ w∈l,w.2.length=256
def nS {w:Wr} (h:w.2.length=256):(wrC w).length=257:=by simp [wrC,B5,h]
def A4o {w:Wr} {l:List Wr}:fG (w::l)=wrC w++fG l:=rfl
def C7Q {l m:List Wr}:fG (l++m)=fG l++fG m:=by simp [fG]
def jM:∀ {l:List Wr},okW l->(fG l).length=l.length*257
 | [],_=>rfl
 | w::l,h=>by
  rw [A4o,D9A,nS (h w (D9I ..)),jM λx hx=>h x (D9F _ hx),D9G];omega
def B35:∀ (l:List Wr),noX (fG l)=A5
 | []=>rfl
 | w::l=>by
  have h1:=B35 l;have h2:=R7 w.2;unfold noX at *;rw [A4o,List.all_append,h1,wrC,E0j,h2];rfl
def C0q:∀ {l:List Wr},K1 (fG l)=A5
 | []=>rfl
 | w::l=>by
  rw [A4o,kJ,C0q (l:=l),wrC,B1U,C0p];rfl
def D0s:∀ {l:List Wr} {i:Nat} (h:okW l) (hi:i<l.length),((fG l).drop (i*257)).take 257=wrC l[i]
 | w::l,0,h,_=>by
  have:=nS (h w (D9I ..));simp only [A4o,Nat.zero_mul,D9O,List.getElem_cons_zero];rw [List.take_append_of_le_length (by omega),D9M (by omega)]
 | w::l,i+1,h,hi=>by
  have h1:=nS (h w (D9I ..));have:=D0s (l:=l) (i:=i) (λx hx=>h x (D9F _ hx)) (by simpa using hi);rw [A4o,show (i+1)*257=257+i*257 by omega,<-E0t,E0s h1];simpa using this
def N3:Dev->Dev->Nat->List Wr
 | w::W,d::D,i=>if w=d then N3 W D (i+1) else ((i:Int),w)::N3 W D (i+1)
 | _,_,_=>[]
def B4i:∀ {W D:Dev} {i:Nat},okD W->okW (N3 W D i)/\(N3 W D i).length<=W.length
 | [],_,_,_=>⟨λx hx=>by simp [N3] at hx,by simp [N3]⟩
 | _::_,[],_,_=>⟨λx hx=>by simp [N3] at hx,by simp [N3]⟩
 | w::W,d::D,i,h=>by
  obtain ⟨h1,h2⟩:=B4i (W:=W) (D:=D) (i:=i+1) h.cons.2;unfold N3;split
  ·exact ⟨h1,by simp;omega⟩
  ·exact ⟨λx hx=>by
    rcases List.mem_cons.1 hx with rfl | hx
    ·exact h.cons.1
    ·exact h1 x hx,by simpa using h2⟩
def D2f {a:Int} {b:List UInt8} (hb:b.length=256):E7 ([o0]++B4 (zeros 256)) [(0,1,iV a),(1,256,.a (B4 b))]=A4 (wrC (a,b)):=by
 have hl:(B4 b).length=256:=by rw [B5,hb]
 have hz:(B4 (zeros 256)).length=256:=by rw [B5,zeros_length]
 show _=A4 (.i .i64 a::B4 b);generalize B4 (zeros 256)=z at *;generalize B4 b=y at *;simp only [E7,fC,C5U];rw [if_pos ⟨rfl,by simp⟩];have e1:lay ([o0]++z) 0 [.i .i64 a]=.i .i64 a::z:=by simp [lay]
 rw [e1,if_pos ⟨hl,by simp;omega⟩];have e2:lay (Cell.i .i64 a::z) 1 y=.i .i64 a::y:=by
  simp [lay,hl];omega
 rw [e2]
def D0y {w:Wr} (hb:w.2.length=256):E7 ([o0]++B4 (zeros 256)) [(0,257,.a (wrC w))]=A4 (wrC w):=by
 have hl:=nS hb;have hz:([o0]++B4 (zeros 256)).length=257:=by simp [B5,zeros_length]
 generalize [o0]++B4 (zeros 256)=z at *;generalize wrC w=y at *;simp only [E7,fC];rw [if_pos ⟨hl,by omega⟩,lay_all (by omega)]
section
variable {D W:Dev} {n m:Int} {g:A9} {q:Nat} {x0 x20:Val}
def D0t (v:Val) (id:Nat):Prop:=∀ off n sz,v≠sV id off n sz
def B3y {h h':A9} {v:Val} {sz n id:Nat} {cs:List Cell} (hv:Has h v sz n cs) (ho:D0t v id) (hk:∀ i r,i≠id->rd h i=A4 r->rd h' i=A4 r):Has h' v sz n cs:=by
 rcases hv with hv | ⟨j,off,r,rfl,hr,h2⟩
 ·exact .inl hv
 ·exact .inr ⟨j,off,r,rfl,hk j r (λe=>ho off n sz (by rw [e])) hr,h2⟩
def B3z {h:A9} {v:Val} {sz n id:Nat} {cs:List Cell} (hv:Has h v sz n cs) (hid:h.length<=id):D0t v id:=by
 intro off k s e;rcases hv with ⟨e1,_⟩ | ⟨j,off,r,e1,hr,h2⟩
 ·rw [e1] at e;cases e
 ·rw [e1] at e;cases e;have:=D7 hr;omega
def D1x {b:Nat} {hb:A9} (hD:okD D) (hW:okD W) (hWD:W.length=D.length) (h5:D.length<=1000000) :
  ∀ (e i M:Nat) (l:List Wr) (id:Nat) (h:A9),i+e=W.length->e<M->Low b hb h->b<=id->okW l->l.length<=i->Has h x0 256 D.length (C8 D)->Has h x20 256 W.length (C8 W)->D0t x0 id->D0t x20 id->rd h id=rT (fG l) ->
  ∃ bQ h',B3Z q M x0 (sV id 0 l.length 257) x20 (iV (W.length:Nat)) (iV (i:Int)) h=A4 (.t [.c (.sl bQ 0 (l++N3 (W.drop i) (D.drop i) i).length 257),.c o0],h') /\
   Low b hb h'/\b<=bQ/\rd h' bQ=rT (fG (l++N3 (W.drop i) (D.drop i) i)):=by
 intro e
 induction e with
 | zero =>
  intro i M l id h hi hM hlow hid hl hli h0 h20 n0 n20 hr;obtain ⟨M,rfl⟩:∃ M',M=M'+1:=⟨M-1,by omega⟩;have c0:¬ (i:Int)<(W.length:Nat):=by omega
  have e1:N3 (W.drop i) (D.drop i) i=[]:=by rw [D9K (by omega)];rfl
  rw [e1,D9Q];refine ⟨id,h,?_,hlow,hid,hr⟩;rw [wW];simp only [esc,c0]
 | succ e ih =>
  intro i M l id h hi hM hlow hid hl hli h0 h20 n0 n20 hr;obtain ⟨M,rfl⟩:∃ M',M=M'+1:=⟨M-1,by omega⟩;have hiW:i<W.length:=by omega
  have hiD:i<D.length:=by omega
  have c0:(i:Int)<(W.length:Nat):=by omega
  have w1:=D9 (show i+1<9223372036854775808 by omega);obtain ⟨_,_,e1,_,a1,b1⟩:=C4x h20 hW hiW;obtain ⟨G,hG⟩:∃ G,G=h++[rT (B4 W[i])]:=⟨_,rfl⟩;have hlG:Low b hb G:=by rw [hG];exact hlow.new _
  have h0G:Has G x0 256 D.length (C8 D):=by rw [hG];exact h0.more _
  have h20G:Has G x20 256 W.length (C8 W):=by rw [hG];exact h20.more _
  obtain ⟨_,_,e2,_,a2,b2⟩:=C4x h0G hD hiD;have st:E9 (h++[rT (B4 (zeros 256))]) 256 (pV h.length 0) (.a (B4 W[i]))=A4 G:=by
   rw [storeAll (cs:=B4 (zeros 256)) (by rw [I1];rfl) (by rw [B5,zeros_length]) (by rw [B5,hW.at hiW]),nC,hG];rfl
  have lG:D3 G 256 (pV h.length 0)=A4 (.a (B4 W[i])):=C9 (by rw [hG,I1];rfl) (by rw [B5,hW.at hiW]);have q1:=C5y (l:=W[i]) (m:=D[i]) (n:=256) (hW.at hiW) (hD.at hiD);have hrG:rd G id=rT (fG l):=by rw [hG];exact B6 hr
  have hbG:b<=G.length:=by have:=hlG.1;have:=hlG.2.1;omega
  have ed:N3 (W.drop i) (D.drop i) i=if W[i]=D[i] then N3 (W.drop (i+1)) (D.drop (i+1)) (i+1) else ((i:Int),W[i])::N3 (W.drop (i+1)) (D.drop (i+1)) (i+1):=by
   rw [D9E hiW,D9E hiD];rfl
  by_cases cw:W[i]=D[i]
  ·rw [ed,if_pos cw];rw [decide_eq_true cw] at q1;obtain ⟨bQ,h',f1,f2,f3,f4⟩:=ih (i+1) M l id G (by omega) (by omega) hlG hid hl (by omega) h0G h20G n0 n20 hrG;generalize l++N3 (W.drop (i+1)) (D.drop (i+1)) (i+1)=P at f1 f4 ⊢;refine ⟨bQ,h',?_,f2,f3,f4⟩;rw [wW,F7];generalize B4 W[i]=x at *;generalize B4 D[i]=y at *;generalize B4 (zeros 256)=z at *;simp only [esc,Bool.not_true,c0,a1,b1,st,lG,a2,b2,q1,A6r,w1];exact f1
  ·rw [ed,if_neg cw];rw [decide_eq_false cw] at q1;have hwl:((i:Int),W[i]).2.length=256:=hW.at hiW;obtain ⟨h1,p1,p2,p3,p4⟩:=B6f (n:=l.length) (sz:=257) (ys:=wrC ((i:Int),W[i])) hrG (jM hl) (nS hwl) (by omega) (by omega);have hok:okW (l++[((i:Int),W[i])]):=λx hx=>by
    rcases List.mem_append.1 hx with hx | hx
    ·exact hl x hx
    ·simp at hx;subst hx;exact hwl
   have ls:(l++[((i:Int),W[i])]).length=l.length+1:=by simp
   obtain ⟨bQ,h',f1,f2,f3,f4⟩:=ih (i+1) M (l++[((i:Int),W[i])]) (G.length+1) h1 (by omega) (by omega) (hlG.trans (p4 b hid hbG)) (by omega) hok (by rw [ls];omega) (B3y h0G n0 p3) (B3y h20G n20 p3) (B3z h0G (by omega)) (B3z h20G (by omega)) (by rw [p2,C7Q];simp [fG]);rw [ls] at f1;rw [D9C] at f1 f4;have eP:[((i:Int),W[i])]++N3 (W.drop (i+1)) (D.drop (i+1)) (i+1)=((i:Int),W[i])::N3 (W.drop (i+1)) (D.drop (i+1)) (i+1):=rfl;rw [eP] at f1 f4;generalize l++((i:Int),W[i])::N3 (W.drop (i+1)) (D.drop (i+1)) (i+1)=P at f1 f4 ⊢;refine ⟨bQ,h',?_,f2,f3,f4⟩;have ef:=D2f (a:=(i:Int)) (hW.at hiW);have ef2:=D0y hwl;rw [wW,F7];generalize wrC ((i:Int),W[i])=u at *;generalize B4 W[i]=x at *;generalize B4 D[i]=y at *;generalize B4 (zeros 256)=z at *;simp only [D99,D9U] at ef ef2;simp only [esc,E0E,c0,a1,b1,st,lG,a2,b2,q1,ef,ef2,p1,A6r,w1];exact f1
def B3G {D:Dev} {n:Int} (hD:okD D) (hm:P5 D.length n=A5):okD (kK D n (F5 D n))/\(kK D n (F5 D n)).length=D.length:=by
 have okf:=tF hD hm;obtain ⟨_,_,_,n128,_⟩:=H5.1 hm;have h1:=A86 (l:=(F5 D n).blocks) (m:=(F5 D n).made) hD okf.md;have h2:=A4p (e:=(A06 D.length n).toNat) (no:=rM D.length n) h1.1;have h3:=A8N (n:=n) n128 (l:=(F5 D n).ino) (i:=0) h2.1 λx hx=>(okf.ino x hx).1
 unfold kK;refine ⟨h3.1.put ?_,by rw [Y6,h3.2,h2.2,h1.2]⟩;unfold jG;rw [eX,zeros_length]
def rB {v:Val} {h:A9} (hv:Has h v 256 D.length (C8 D)) (hD:okD D) (hn:A5w D=A5) (hl:D.length<=1000000) :
  oD [v] h=A4 (.t [.c (.sl h.length 0 (N3 (kK D (yX D) (F5 D (yX D))) D 0).length 257),.c o0],h++[rT (fG (N3 (kK D (yX D) (F5 D (yX D))) D 0))]):=by
 have hm:=C0c hn;obtain ⟨W,hWd⟩:∃ W,W=kK D (yX D) (F5 D (yX D)):=⟨_,rfl⟩;have key:∃ id g',A1A (D.length+2) [v] (ro h)=A4 (.t [.c (.sl id 0 (N3 W D 0).length 257),.c o0],g')/\Out (ro h).length g' (sV id 0 (N3 W D 0).length 257) 257 (N3 W D 0).length (fG (N3 W D 0)):=by
  obtain ⟨f,t,hO,hV⟩:=A5Y (h:=ro h++[rT []]) (hv.ro.more _) hD hn (by omega);obtain ⟨H,hHe⟩:∃ H,H=ro h++[rT []]++t:=⟨_,rfl⟩;rw [<-hHe] at hO hV;obtain ⟨n,en⟩:∃ n,n=yX D:=⟨_,rfl⟩;rw [<-en] at hO hm hWd;generalize C57 D=m at *;have hvH:Has H v 256 D.length (C8 D):=by rw [hHe];exact (hv.ro.more _).more _
  have hS5:E9 (H++[rT [o0,o0,.i .u64 0,.nf]]) 4 (pV H.length 0) (.a (vwC D.length n m f))=A4 (H++[rT (vwC D.length n m f)]):=by rw [F8];rfl
  obtain ⟨K,hK⟩:∃ K,K=H++[rT (vwC D.length n m f),rT []]:=⟨_,rfl⟩;have k4:D3 K 4 (pV H.length 0)=A4 (.a (vwC D.length n m f)):=C9 (by rw [hK,I1];rfl) rfl;have hVK:IsView K f D:=by rw [hK];exact hV.more _
  obtain ⟨cs,t2,hC,hI,C2f⟩:=B69 (h:=K) hD hVK hm;have hq1:=Y7 (h:=K) (h':=K++t2) (v:=.a cs) ⟨List.prefix_append _ _,λid x hid hx=>by
   rw [rd_some,D9P hid] at hx;exact List.all_eq_true.1 C2f _ (D9S hx)⟩
  have hIm:=C14 (m:=m) hD (hVK.more t2) hm hI;rw [<-hWd] at hIm;have D3k:okD W/\W.length=D.length:=by rw [hWd];exact B3G hD hm
  obtain ⟨N,hN⟩:∃ N,N=K++t2++[rT (C8 W)]:=⟨_,rfl⟩;have hq2:=Y7 (h:=K++t2) (h':=N) (v:=sV (K++t2).length 0 D.length 256) (by rw [hN];exact (Grows.rfl').new _);rw [<-hN] at hIm;have h20:Has N (sV (K++t2).length 0 W.length 256) 256 W.length (C8 W):=by
   rw [hN];exact Has.tr (by rw [I1];rfl) (F0 D3k.1) (T5 _)
  have h0N:Has N v 256 D.length (C8 D):=by rw [hN,hK];exact ((hvH.more _).more _).more _
  have lK:(ro h).length<=H.length:=by rw [hHe];simp only [D9A];omega
  have rN:rd N (H.length+1)=rT (fG []):=by rw [hN,hK];refine B6 (B6 ?_);rw [dW];rfl
  have lN:N.length=H.length+2+t2.length+1:=by rw [hN,hK];simp only [D9A,D9G,D95]
  obtain ⟨bQ,h',f1,f2,f3,f4⟩:=D1x (q:=D.length+2) (b:=(ro h).length) (hb:=N) hD D3k.1 D3k.2 hl W.length 0 (D.length+2) [] (H.length+1) N (by omega) (by omega) (Low.refl (by omega)) (by omega) (λx hx=>by cases hx) (by simp) h0N h20 (B3z hvH (by omega)) (by
   intro off k s e;simp only [Val.c.injEq,Cell.sl.injEq] at e;have e2:=e.1;rw [hK] at e2;simp only [D9A,D9G,D95] at e2;omega) rN
  rw [D9U,D9O,D9O] at f1 f4;refine ⟨bQ,h',?_,?_,bQ,rfl,f3,f4⟩
  ·rw [A7k];have c00:((0:Nat):Int)=0:=rfl;have l00:([]:List Wr).length=0:=rfl;rw [c00,l00] at f1;have eK:H++[rT (vwC D.length n m f)]++[rT []]=K:=by rw [hK];simp
   rw [D3k.2] at f1;generalize hV':vwC D.length n m f=V at *;simp only [E4,hO,A5k,List.getElem?_cons_zero,D9Z,E0b,rC,rD,hS5,B3e,D9A,D9G,D95,D9T];simp only [esc,eq_self] at *;simp only [<-hK,k4,hC,hq1,hIm,hq2,E4,A1N];exact f1
  ·exact jM (B4i D3k.1).1
 obtain ⟨id,g',e,ho⟩:=key;rw [<-hWd];exact A3A e (by rw [G5] at ho;exact ho) C0q rfl
end
def C2n {D:Dev} {v:Val} {h:A9} (hv:Has h v 256 D.length (C8 D)) (hD:okD D) (hn:A5w D=A6) :
  oD [v] h=A4 (.t [.c (.sl h.length 0 0 257),.c (.i .i64 13)],h++[rT []]):=by
 obtain ⟨t,hO⟩:=C7M (h:=ro h++[rT []]) (hv.ro.more _) hD hn;obtain ⟨H,hHe⟩:∃ H,H=ro h++[rT []]++t:=⟨_,rfl⟩;rw [<-hHe] at hO;have lK:(ro h).length<=H.length:=by rw [hHe];simp only [D9A];omega
 have hS5:E9 (H++[rT [o0,o0,.i .u64 0,.nf]]) 4 (pV H.length 0) (.a (vwC 0 0 0 .nf))=A4 (H++[rT (vwC 0 0 0 .nf)]):=by rw [F8];rfl
 have n13:¬ (13:Int)=0:=by decide
 have key:A1A 0 [v] (ro h)=A4 (.t [.c (.sl (H.length+1) 0 0 257),.c (.i .i64 13)],H++[rT (vwC 0 0 0 .nf),rT []]):=by
  rw [A7k];generalize vwC 0 0 0 .nf=V at *;simp only [esc,hO,hS5,n13]
 exact A3A (cs:=[]) key ⟨rfl,H.length+1,rfl,by rw [G5] at lK;omega,by rw [dW];rfl⟩ rfl rfl
def cQ (n:Int):Dev->Nat->List Wr->Dev
 | D,_,[]=>D
 | D,i,w::l=>cQ n (if (i:Int)<n then gE D w.1 w.2 else D) (i+1) l
def B5F {n:Int}:∀ {l:List Wr} {D:Dev} {i:Nat},okD D->okW l->okD (cQ n D i l)/\(cQ n D i l).length=D.length
 | [],D,_,h,_=>⟨h,rfl⟩
 | w::l,D,i,h,hw=>by
  have h1:okD (if (i:Int)<n then gE D w.1 w.2 else D)/\(if (i:Int)<n then gE D w.1 w.2 else D).length=D.length:=by
   split
   ·exact ⟨h.put (hw w (D9I ..)),Y6⟩
   ·exact ⟨h,rfl⟩
  obtain ⟨h2,h3⟩:=B5F (l:=l) (i:=i+1) h1.1 λx hx=>hw x (D9F _ hx)
  exact ⟨h2,h3.trans h1.2⟩
def C4y {h:A9} {v:Val} {l:List Wr} (hv:Has h v 257 l.length (fG l)) (hl:okW l) {i:Nat} (hi:i<l.length) :
  ∃ id off,v=sV id off l.length 257/\id<h.length/\E5 257 v (iV (i:Int))=A4 (pV id (off+i*257))/\D3 h 257 (pV id (off+i*257))=A4 (.a (wrC l[i])) /\
   B8 h (pV id (off+i*257))=A4 (iV (l[i]).1):=by
 obtain ⟨id,off,rfl,hid,h1,h2⟩:=hv.sl (by omega);have hat:=D0s hl hi;refine ⟨id,off,rfl,hid,D8 hi,?_,h1 _ _ ?_⟩
 ·rw [h2 (i*257) 257 (by rw [jM hl];omega),hat]
 ·have:(((fG l).drop (i*257)).take 257)[0]?=A4 (.i .i64 (l[i]).1):=by rw [hat];rfl
  rw [D97 (by omega),E0u] at this;simpa using this
section
variable {D:Dev} {n:Int} {q:Nat} {x13:Val}
def C70 {b:Nat} {hb:A9} {l:List Wr} (hl:okW l) (hll:l.length<=1000000) :
  ∀ (e i M:Nat) (O:Dev) (id:Nat) (h:A9),i+e=l.length->e<M->Low b hb h->b<=id->okD O->Has h x13 257 l.length (fG l)->D0t x13 id->rd h id=rT (C8 O) ->
  ∃ h',B0L q M (iV n) (sV id 0 O.length 256) x13 (iV (l.length:Nat)) (iV (i:Int)) h=A4 (sV id 0 O.length 256,h') /\
   Low b hb h'/\rd h' id=rT (C8 (cQ n O i (l.drop i))):=by
 intro e
 induction e with
 | zero =>
  intro i M O id h hi hM hlow hid hO h13 n13 hr;obtain ⟨M,rfl⟩:∃ M',M=M'+1:=⟨M-1,by omega⟩;have c0:¬ (i:Int)<(l.length:Nat):=by omega
  have e1:cQ n O i (l.drop i)=O:=by rw [D9K (by omega)];rfl
  rw [e1];refine ⟨h,?_,hlow,hr⟩;rw [dB];simp only [esc,c0]
 | succ e ih =>
  intro i M O id h hi hM hlow hid hO h13 n13 hr;obtain ⟨M,rfl⟩:∃ M',M=M'+1:=⟨M-1,by omega⟩;have L8:i<l.length:=by omega
  have c0:(i:Int)<(l.length:Nat):=by omega
  have w1:=D9 (show i+1<9223372036854775808 by omega);obtain ⟨_,_,e1,_,a1,b1,_⟩:=C4y h13 hl L8;have hwl:=hl _ (D9Y L8);obtain ⟨w,ew⟩:∃ w,w=l[i]:=⟨_,rfl⟩;rw [<-ew] at b1 hwl;obtain ⟨G,hG⟩:∃ G,G=h++[rT (wrC w)]:=⟨_,rfl⟩;have hlG:Low b hb G:=by rw [hG];exact hlow.new _
  have hrG:rd G id=rT (C8 O):=by rw [hG];exact B6 hr
  have h13G:Has G x13 257 l.length (fG l):=by rw [hG];exact h13.more _
  have hz:([o0]++B4 (zeros 256)).length=257:=by simp [B5,zeros_length]
  have st:E9 (h++[rT ([o0]++B4 (zeros 256))]) 257 (pV h.length 0) (.a (wrC w))=A4 G:=by
   rw [storeAll (by rw [I1];rfl) hz (nS hwl),nC,hG];rfl
  have rG:rd G h.length=rT (wrC w):=by rw [hG,I1];rfl
  have l0:B8 G (pV h.length 0)=A4 (iV w.1):=B9 rG rfl rfl;have l1:D3 G 256 (pV h.length 1)=A4 (.a (B4 w.2)):=by
   rw [T2 rG (by have:=nS hwl;show 1+256<=(wrC w).length;omega) rfl];show A4 (Val.a ((B4 w.2).take 256))=_;rw [D9M (by rw [B5,hwl];exact D9x _)]
  have eA:cQ n O i (l.drop i)=cQ n (if (i:Int)<n then gE O w.1 w.2 else O) (i+1) (l.drop (i+1)):=by
   rw [D9E L8,<-ew];rfl
  rw [eA];by_cases ci:(i:Int)<n
  ·rw [if_pos ci];by_cases c1:0<=w.1
   ·have c1':w.1>=0:=c1;by_cases c2:w.1<(O.length:Nat)
    ·obtain ⟨k,hk⟩:=E0i c1;have hkl:k<O.length:=by omega
     have ad:E5 256 (sV id 0 O.length 256) (iV w.1)=A4 (pV id (k*256)):=by rw [hk,D8 hkl];simp
     have sd:E9 G 256 (pV id (k*256)) (.a (B4 w.2))=A4 (G.set id (rT (C8 (O.set k w.2)))):=zX hrG hO hwl hkl;have ep:gE O w.1 w.2=O.set k w.2:=by unfold gE;rw [if_pos ⟨c1,c2⟩,hk];simp
     rw [ep];obtain ⟨h',f1,f2,f3⟩:=ih (i+1) M (O.set k w.2) id (G.set id (rT (C8 (O.set k w.2)))) (by omega) (by omega) (hlG.set hid _) hid (hO.set hwl) (B3y h13G n13 λj r hj hr=>by rw [B7 (Ne.symm hj)];exact hr) n13 (D1 (D7 hrG));rw [E0c] at f1;refine ⟨h',?_,f2,f3⟩;rw [dB,F7];generalize wrC w=u at *;generalize B4 w.2=y at *;generalize B4 (zeros 256)=z at *;simp only [D99,D9U] at st;simp only [esc,c0,a1,b1,st,ci,l0,c1',c2,l1,ad,sd,kQ,w1];exact f1
    ·have ep:gE O w.1 w.2=O:=by unfold gE;rw [if_neg (by omega)]
     rw [ep];obtain ⟨h',f1,f2,f3⟩:=ih (i+1) M O id G (by omega) (by omega) hlG hid hO h13G n13 hrG;refine ⟨h',?_,f2,f3⟩;rw [dB,F7];generalize wrC w=u at *;generalize B4 w.2=y at *;generalize B4 (zeros 256)=z at *;simp only [D99,D9U] at st;simp only [esc,c0,a1,b1,st,ci,l0,c1',c2,kQ,w1];exact f1
   ·have c1':¬ w.1>=0:=c1;have ep:gE O w.1 w.2=O:=by unfold gE;rw [if_neg (by omega)]
    rw [ep];obtain ⟨h',f1,f2,f3⟩:=ih (i+1) M O id G (by omega) (by omega) hlG hid hO h13G n13 hrG;refine ⟨h',?_,f2,f3⟩;rw [dB,F7];generalize wrC w=u at *;generalize B4 w.2=y at *;generalize B4 (zeros 256)=z at *;simp only [D99,D9U] at st;simp only [esc,c0,a1,b1,st,ci,l0,c1',kQ,w1];exact f1
  ·rw [if_neg ci];obtain ⟨h',f1,f2,f3⟩:=ih (i+1) M O id G (by omega) (by omega) hlG hid hO h13G n13 hrG;refine ⟨h',?_,f2,f3⟩;rw [dB,F7];generalize wrC w=u at *;generalize B4 (zeros 256)=z at *;simp only [D99,D9U] at st;simp only [esc,c0,a1,b1,st,ci,kQ,w1];exact f1
def A25 {v:Val} {h:A9} {l:List Wr} (hv:Has h v 256 D.length (C8 D)) (hD:okD D) (h13:Has h x13 257 l.length (fG l)) (hl:okW l) (hll:l.length<=1000000) (hdl:D.length<=1000000) :
  yR [v,x13,iV n] h=A4 (sV h.length 0 D.length 256,h++[rT (C8 (cQ n D 0 l))]):=by
 obtain ⟨okA,lenA⟩:=B5F (n:=n) (i:=0) hD hl;obtain ⟨G,hG⟩:∃ G,G=ro h++[rT [],rT []]:=⟨_,rfl⟩;have lG:G.length=(ro h).length+2:=by rw [hG];simp
 have hvG:Has G v 256 D.length (C8 D):=by rw [hG];exact hv.ro.more _
 have h13G:Has G x13 257 l.length (fG l):=by rw [hG];exact h13.ro.more _
 have rI:rd G ((ro h).length+1)=rT []:=by rw [hG,dW];rfl
 have ho:Out (ro h).length G (sV ((ro h).length+1) 0 0 256) 256 0 []:=⟨rfl,(ro h).length+1,rfl,by omega,rI⟩;obtain ⟨id,v',h1,e1,e2,e3,e4,e5⟩:=ho.app (m:=D.length) (by omega) hvG.add (by rw [F0 hD]) (by omega);rw [D9T,D9U] at e3;obtain ⟨_,id1,rfl,i1,i2⟩:=e3;have eid:id=(ro h).length+1:=by cases e1;rfl
 have h13h:Has h1 x13 257 l.length (fG l):=B3y h13G (B3z h13.ro (by omega)) λj r hj hr=>e5 j r hr hj
 have id1n:id1≠(ro h).length+1\/True:=.inr trivial;have D6Q:D0t x13 id1:=B3z h13.ro (by omega);obtain ⟨h',f1,f2,f3⟩:=C70 (n:=n) (q:=l.length+1) (b:=(ro h).length) (hb:=h1) hl hll l.length 0 (l.length+1) D id1 h1 (by omega) (by omega) (Low.refl (by have:=e4.2.1;omega)) i1 hD h13h D6Q i2;rw [D9O] at f3;have key:A4U (l.length+1) [v,x13,iV n] (ro h)=A4 (sV id1 0 D.length 256,h'):=by
  have ef:E7 [] []=A4 []:=rfl;have ll:=h13G.len;have c00:((0:Nat):Int)=0:=rfl;rw [c00] at f1;rw [B7Z];simp only [esc,ef,<-hG,e2,ll];exact f1
 exact B5l key ⟨by rw [F0 okA,lenA],id1,rfl,by rw [G5] at i1;exact i1,f3⟩ bL
def C6R {x:List Int} {h:A9} (hx:x.length=8) (hr:∀ a∈x,0<=a/\a<1000000000):B1u [.a (encI x)] h=A4 (iV (x.tail.sum),h):=by
 match x,hx with
 | [a,b,c,d,e,f,g,i],_ =>
  have ha:=hr a (by simp);have hb:=hr b (by simp);have hc:=hr c (by simp);have hd:=hr d (by simp);have he:=hr e (by simp);have hf:=hr f (by simp);have hg:=hr g (by simp);have hi:=hr i (by simp);have key:∀ k,∃ g',B1a 0 [.a (encI [a,b,c,d,e,f,g,i])] k=A4 (iV ([b,c,d,e,f,g,i].sum),g'):=λk=>by
   obtain ⟨K,hK⟩:∃ K,K=k++[rT (encI [a,b,c,d,e,f,g,i])]:=⟨_,rfl⟩;have rK:rd K k.length=rT (encI [a,b,c,d,e,f,g,i]):=by rw [hK,I1];rfl
   have l8:D3 K 8 (pV k.length 0)=A4 (.a (encI [a,b,c,d,e,f,g,i])):=C9 rK rfl;have l1:B8 K (pV k.length 1)=A4 (iV b):=B9 rK rfl rfl;have l2:B8 K (pV k.length 2)=A4 (iV c):=B9 rK rfl rfl;have l3:B8 K (pV k.length 3)=A4 (iV d):=B9 rK rfl rfl;have l4:B8 K (pV k.length 4)=A4 (iV e):=B9 rK rfl rfl;have l5:B8 K (pV k.length 5)=A4 (iV f):=B9 rK rfl rfl;have l6:B8 K (pV k.length 6)=A4 (iV g):=B9 rK rfl rfl;have l7:B8 K (pV k.length 7)=A4 (iV i):=B9 rK rfl rfl;have ef:E7 [o0,o0,o0,o0,o0,o0,o0,o0] []=A4 (encI [0,0,0,0,0,0,0,0]):=rfl;have eq:=C7V (l:=[a,b,c,d,e,f,g,i]) (m:=[0,0,0,0,0,0,0,0]) (n:=8) rfl rfl;have er:D9w 8 (Sh.i .i64)=[Sh.i .i64,.i .i64,.i .i64,.i .i64,.i .i64,.i .i64,.i .i64,.i .i64]:=rfl;rw [er] at eq;have cl:cells? (.a (encI [a,b,c,d,e,f,g,i]))=A4 (encI [a,b,c,d,e,f,g,i]):=rfl;have w1:D9B .i64 (b+c)=b+c:=wrap_i64 (by omega) (by omega);have w2:D9B .i64 (b+c+d)=b+c+d:=wrap_i64 (by omega) (by omega);have w3:D9B .i64 (b+c+d+e)=b+c+d+e:=wrap_i64 (by omega) (by omega);have w4:D9B .i64 (b+c+d+e+f)=b+c+d+e+f:=wrap_i64 (by omega) (by omega);have w5:D9B .i64 (b+c+d+e+f+g)=b+c+d+e+f+g:=wrap_i64 (by omega) (by omega);have w6:D9B .i64 (b+c+d+e+f+g+i)=b+c+d+e+f+g+i:=wrap_i64 (by omega) (by omega);rw [C1O];by_cases c0:[a,b,c,d,e,f,g,i]=[0,0,0,0,0,0,0,0]
   ·rw [decide_eq_true c0] at eq;simp only [List.cons.injEq,and_true] at c0;obtain ⟨rfl,rfl,rfl,rfl,rfl,rfl,rfl,rfl⟩:=c0;generalize encI [0,0,0,0,0,0,0,0]=X at *;exact ⟨_,by simp only [esc,cl,<-hK,l8,ef,eq]<;>rfl⟩
   ·rw [decide_eq_false c0] at eq;have es:[b,c,d,e,f,g,i].sum=b+c+d+e+f+g+i:=by simp;omega
    rw [es];generalize encI [0,0,0,0,0,0,0,0]=X at *;generalize encI [a,b,c,d,e,f,g,i]=Y at *;exact ⟨_,by simp only [esc,cl,<-hK,l8,ef,eq,l1,l2,l3,l4,l5,l6,l7,w1,w2,w3,w4,w5,w6]<;>rfl⟩
  obtain ⟨g',e'⟩:=key (ro h);exact B8e e' rfl
end
def bump (s:List Int) (k:Nat):List Int:=s.set k (s.getD k 0+1)
def BndR (s:List Int) (B:Int):Prop:=s.length=8/\∀ a∈s,0<=a/\a<=B
def BndR.mono {s:List Int} {B B':Int} (h:BndR s B) (hb:B<=B'):BndR s B':=⟨h.1,λa ha=>⟨(h.2 a ha).1,Int.le_trans (h.2 a ha).2 hb⟩⟩
def BndR.at {s:List Int} {B:Int} (h:BndR s B) {k:Nat} (hk:k<8):0<=s.getD k 0/\s.getD k 0<=B:=by
 have hl:=h.1;rw [D9z,D9u (by omega)];exact h.2 _ (D9Y _)
def BndR.bump {s:List Int} {B:Int} (h:BndR s B) {k:Nat} (hk:k<8):BndR (bump s k) (B+1):=by
 refine ⟨by simp [Go.Proofs.YtbnkgnfhgbhblaaGreat.bump,h.1],λa ha=>?_⟩;have hb:=h.at hk;rcases List.mem_or_eq_of_mem_set ha with h1 | h1
 ·have:=h.2 a h1;omega
 ·omega
def C54:List Int->List Int->List Int->List Int
 | x::a,y::b,s=>C54 a b (if x≠0/\y=0 then bump s 5 else s)
 | _,_,s=>s
def C2s (was now s:List Int):List Int :=
 C54 (was.drop 4) (now.drop 4) (if now.getD 0 0=2/\was.getD 3 0≠now.getD 3 0 then bump (if was.getD 1 0≠now.getD 1 0 then bump s 3 else s) 4 else if was.getD 1 0≠now.getD 1 0 then bump s 3 else s)
def C3e (kd:Int) (s:List Int):List Int:=if kd≠0 then bump s 2 else s
def A6P (D:Dev) (n i:Int):List Int:=kdV D n i::lnV D n i::szV D n i::paV D n i::drV D n i
def B51 (D:Dev) (n:Int) (c:Cl) (s:List Int) (i:Int):List Int:=if i∈c.row then C2s (A6P D n i) (c.ino.getD i.toNat []) s else C3e (kdV D n i) s
def A5D (D:Dev) (n:Int) (c:Cl):Nat->Int->List Int->List Int
 | 0,_,s=>s
 | e+1,i,s=>A5D D n c e (i+1) (B51 D n c s i)
def A3h (used taken:Bool) (s:List Int):List Int:=if taken=A5/\used=A6 then bump s 7 else if taken=A6/\used=A5 then bump s 6 else s
def A2a (D:Dev) (n:Int):List Bool->Nat->List Int->List Int
 | [],_,s=>s
 | t::l,i,s=>A2a D n l (i+1) (A3h (C3X D n (i:Int)) t s)
def B5R (D:Dev) (n:Int):List Int :=
 A2a D n (F5 D n).taken 0 (A5D D n (F5 D n) n.toNat 1 [((N3 (kK D n (F5 D n)) D 0).length:Nat),(F5 D n).lost,0,0,0,0,0,0])
def D3Z (D:Dev) (n i:Int):encI (A6P D n i)=C0D D n i:=by rw [A11];rfl
def A88 {D:Dev} {n i:Int}:(A6P D n i).length=11:=by simp [A6P,eW]
def C3D {D:Dev} {n i:Int}:A6P D n i=zI 11↔kdV D n i=0:=by
 constructor
 ·intro h;have:(A6P D n i).getD 0 0=(zI 11).getD 0 0:=by rw [h]
  simpa [A6P,zI] using this
 ·intro h;have hk:=C4I (D:=D) (n:=n) (i:=i);unfold A6P lnV szV paV drV;rw [h];cases hc:A93 D n i with
  | false=>rfl
  | true =>
   rw [hc,cond_true,h] at hk;have hc2:=hc;unfold A93 gA A0Y at hc2;rw [<-hk] at hc2;simp only [D9v,if_true] at hc2;obtain ⟨_,h1,_⟩:=hc2;unfold C3Z at h1;obtain ⟨e1,e2,e3,e4⟩:=of_decide_eq_true h1;simp only [cond_true,e1,e2,e3,e4];rfl
def OnlyR (r:Nat) (h h':A9):Prop:=h.length<=h'.length/\∀ j,j<h.length->j≠r->rd h' j=rd h j
def OnlyR.refl (r:Nat) (h:A9):OnlyR r h h:=⟨D9x _,λ_ _ _=>rfl⟩
def OnlyR.trans {r:Nat} {h h' h'':A9} (a:OnlyR r h h') (b:OnlyR r h' h''):OnlyR r h h'' :=
 ⟨D93 a.1 b.1,λj hj hr=>(b.2 j (by have:=a.1;omega) hr).trans (a.2 j hj hr)⟩
def OnlyR.more {r:Nat} {h h':A9} (a:OnlyR r h h') (t:A9):OnlyR r h (h'++t) :=
 ⟨by have:=a.1;simp;omega,λj hj hr=>by rw [E2 (by have:=a.1;omega)];exact a.2 j hj hr⟩
def OnlyR.set {r j:Nat} {h h':A9} {x:Option Row} (a:OnlyR r h h') (hj:j=r\/h.length<=j):OnlyR r h (h'.set j x) :=
 ⟨by simpa using a.1,λk hk hr=>by rw [B7 (by omega)];exact a.2 k hk hr⟩
section
variable {h:A9} {r:Nat} {s:List Int} {B:Int}
def A4j (hr:rd h r=rT (encI s)) (hs:s.length=8) {k:Nat} (hk:k<8):B8 h (pV r k)=A4 (iV (s.getD k 0)) :=
 B9 hr (by rw [H0,D9z,D9u (by omega)];rfl) rfl
def zW (hr:rd h r=rT (encI s)) (hs:s.length=8) {k:Nat} (hk:k<8):H1 h (pV r k) (iV (s.getD k 0+1))=A4 (h.set r (rT (encI (bump s k)))):=by
 rw [I3 hr (by rw [C1];omega),qY];rfl
def D2B {q ra rb:Nat} {a b:List Int} (ha:a.length=7) (hb:b.length=7):∀ (e i M:Nat) (B:Int) (s:List Int) (h:A9),i+e=7->e<M->BndR s B->B+e<=1000000->rd h r=rT (encI s)->rd h ra=rT (encI a)->rd h rb=rT (encI b)->ra≠r->rb≠r ->
  ∃ h',vX q M (pV r 0) (pV ra 0) (pV rb 0) (iV (i:Int)) h=A4 (.t [],h')/\rd h' r=rT (encI (C54 (a.drop i) (b.drop i) s))/\OnlyR r h h'/\BndR (C54 (a.drop i) (b.drop i) s) (B+e):=by
 intro e
 induction e with
 | zero =>
  intro i M B s h hi hM hB hB2 hr h1 h2 n1 n2;obtain ⟨M,rfl⟩:∃ M',M=M'+1:=⟨M-1,by omega⟩;have c0:¬ (i:Int)<7:=by omega
  have e1:C54 (a.drop i) (b.drop i) s=s:=by rw [D9K (by omega)];rfl
  rw [e1];refine ⟨h,?_,hr,OnlyR.refl r h,hB.mono (by omega)⟩;rw [V5];simp only [esc,c0];rfl
 | succ e ih =>
  intro i M B s h hi hM hB hB2 hr h1 h2 n1 n2;obtain ⟨M,rfl⟩:∃ M',M=M'+1:=⟨M-1,by omega⟩;have hia:i<a.length:=by omega
  have hib:i<b.length:=by omega
  have c0:(i:Int)<7:=by omega
  have w1:=D9 (show i+1<9223372036854775808 by omega);have a1:∀ x,I5 7 1 (pV x 0) (iV (i:Int))=A4 (pV x i):=λx=>by rw [K3 (by omega)];simp
  have la:B8 h (pV ra i)=A4 (iV a[i]):=B9 h1 (by rw [H0,D9u hia];rfl) rfl;have lb:B8 h (pV rb i)=A4 (iV b[i]):=B9 h2 (by rw [H0,D9u hib];rfl) rfl;have ed:C54 (a.drop i) (b.drop i) s=C54 (a.drop (i+1)) (b.drop (i+1)) (if a[i]≠0/\b[i]=0 then bump s 5 else s):=by
   rw [D9E hia,D9E hib];rfl
  have l5:=A4j hr hB.1 (k:=5) (by omega);have s5:=zW hr hB.1 (k:=5) (by omega);have h5:=hB.at (k:=5) (by omega);have w5:D9B .i64 (s.getD 5 0+1)=s.getD 5 0+1:=wrap_i64 (by omega) (by omega);rw [ed];by_cases ca:a[i]=0
  ·rw [if_neg (λh=>h.1 ca)];obtain ⟨h',f1,f2,f3,f4⟩:=ih (i+1) M B s h (by omega) (by omega) hB (by omega) hr h1 h2 n1 n2;refine ⟨h',?_,f2,f3,f4.mono (by omega)⟩;rw [V5];simp only [esc,c0,a1,la,ca,dF,w1];exact f1
  ·by_cases cb:b[i]=0
   ·rw [if_pos ⟨ca,cb⟩];obtain ⟨h',f1,f2,f3,f4⟩:=ih (i+1) M (B+1) (bump s 5) _ (by omega) (by omega) (hB.bump (by omega)) (by omega) (D1 (D7 hr)) (by rw [B7 (Ne.symm n1)];exact h1) (by rw [B7 (Ne.symm n2)];exact h2) n1 n2;refine ⟨h',?_,f2,(((OnlyR.refl r h).set (.inl rfl)).trans f3),f4.mono (by omega)⟩;rw [V5];simp only [esc,c0,a1,la,ca,lb,cb,l5,w5,s5,dF,w1];exact f1
   ·rw [if_neg (λh=>cb h.2)];obtain ⟨h',f1,f2,f3,f4⟩:=ih (i+1) M B s h (by omega) (by omega) hB (by omega) hr h1 h2 n1 n2;refine ⟨h',?_,f2,f3,f4.mono (by omega)⟩;rw [V5];simp only [esc,c0,a1,la,ca,lb,cb,dF,w1];exact f1
end
def vT (p:Slt->Bool) (cur:List UInt8) (l:List Slt):List UInt8:=l.foldl (λcur x=>bif p x then G0 cur (G8 x.1) (T0 x.2.1 x.2.2) else cur) cur
def clB (b:List UInt8) (p:Slt->Bool):List UInt8:=vT p hdB (H9 b)
def vS (b:List UInt8) (p:Slt->Bool) (k:Nat):Option Ent:=match M4 b k with
 | some x=>bif p (k,x) then A4 x else A7
 | none=>A7
def D8f (o:Option Ent) (cur:List UInt8) (k:Nat):List UInt8:=match o with
 | some x=>G0 cur (G8 k) (T0 x.1 x.2)
 | none=>cur
def B1Z {b:List UInt8} {p:Slt->Bool} {k:Nat} (hx:M4 b k=A7):vS b p k=A7:=by unfold vS;rw [hx]
def A5F {b:List UInt8} {p:Slt->Bool} {k:Nat} {x:Ent} (hx:M4 b k=A4 x):vS b p k=bif p (k,x) then A4 x else A7:=by unfold vS;rw [hx]
def C3K {b:List UInt8} {p:Slt->Bool} {j:Nat} (hj:j<7):∀ (e k:Nat) (cur:List UInt8),k+e<=7->cur.length=256 ->
  dJ (vT p cur (N8 b e k)) j=if k<=j/\j<k+e then D6j (vS b p j) (dJ cur j) else dJ cur j
 | 0,k,cur,h,hc=>by rw [if_neg (by omega)];rfl
 | e+1,k,cur,h,hc=>by
  obtain ⟨cur',h'⟩:∃ cur',cur'=D8f (vS b p k) cur k:=⟨_,rfl⟩;have hs:vT p cur (N8 b (e+1) k)=vT p cur' (N8 b e (k+1)):=by
   rw [h'];cases hx:M4 b k with
   | none =>
    have:vS b p k=A7:=by unfold vS;rw [hx]
    rw [Y0 hx,this];rfl
   | some x =>
    rw [Y4 hx];show vT p (bif p (k,x) then G0 cur (G8 k) (T0 x.1 x.2) else cur) _=_;have:vS b p k=bif p (k,x) then A4 x else A7:=by unfold vS;rw [hx]
    rw [this];cases p (k,x)<;>rfl
  have hl:cur'.length=256:=by
   rw [h'];cases vS b p k with
   | none=>exact hc
   | some x=>exact B3m (by omega) hc
  have hc':dJ cur' j=if j=k then D6j (vS b p j) (dJ cur j) else dJ cur j:=by
   rw [h'];by_cases c:j=k
   ·subst c;rw [if_pos rfl];cases vS b p j with
    | none=>rfl
    | some x=>show dJ (G0 cur (G8 j) (T0 x.1 x.2)) j=_;rw [C3J hc U2 hj hj,if_pos rfl];rfl
   ·rw [if_neg c];cases vS b p k with
    | none=>rfl
    | some x=>show dJ (G0 cur (G8 k) (T0 x.1 x.2)) j=_;rw [C3J hc U2 (by omega) hj,if_neg c]
  rw [hs,C3K hj e (k+1) _ (by omega) hl,hc'];by_cases c:j=k
  ·subst c;rw [if_neg (by omega),if_pos rfl,if_pos ⟨by omega,by omega⟩]
  ·rw [if_neg c];by_cases c2:k+1<=j/\j<k+1+e
   ·rw [if_pos c2,if_pos ⟨by omega,by omega⟩]
   ·rw [if_neg c2,if_neg (by omega)]
section
variable {b:List UInt8} {p:Slt->Bool}
def D0c {j:Nat} (hj:j<7):M4 (clB b p) j=vS b p j:=by
 rw [C81];unfold clB H9;rw [C3K hj 7 0 hdB (by omega) A0P,if_pos ⟨by omega,by omega⟩,D1O j hj];cases hx:M4 b j with
 | none=>rw [B1Z hx];exact B7z
 | some x =>
  rw [A5F hx];cases p (j,x) with
  | true=>exact D1B (B6i hx)
  | false=>exact B7z
def B3V {b':List UInt8}:∀ (e k:Nat),(∀ j,k<=j->j<k+e->M4 b' j=vS b p j)->N8 b' e k=(N8 b e k).filter p
 | 0,_,_=>rfl
 | e+1,k,h=>by
  have ih:=B3V e (k+1) λj h1 h2=>h j (by omega) (by omega)
  have h0:=h k (D9x _) (by omega);cases hx:M4 b k with
  | none=>rw [B1Z hx] at h0;rw [Y0 hx,Y0 h0,ih]
  | some x =>
   rw [A5F hx] at h0;rw [Y4 hx,E0H];cases hp:p (k,x) with
   | true=>rw [hp] at h0;rw [Y4 h0,ih,if_pos rfl]
   | false=>rw [hp] at h0;rw [Y0 h0,ih,if_neg (by decide)]
def D5n:H9 (clB b p)=(H9 b).filter p:=B3V 7 0 λj _ h=>D0c (by omega)
def C9L (hp:∀ y,p y=A5->X8 b y.2.1=A4 y) (nm:List UInt8):X8 (clB b p) nm=match X8 b nm with
  | some x=>bif p x then A4 x else A7
  | none=>A7:=by
 have hr:∀ j,j<7->M4 (clB b p) j=vS b p j:=λj hj=>D0c hj
 have back:∀ j y,j<7->M4 (clB b p) j=A4 y->M4 b j=A4 y/\p (j,y)=A5:=by
  intro j y hj hy;rw [hr j hj] at hy;cases hx:M4 b j with
  | none=>rw [B1Z hx] at hy;cases hy
  | some z =>
   rw [A5F hx] at hy;cases hq:p (j,z) with
   | true =>
    rw [hq] at hy;have:z=y:=Option.some.inj hy;subst this;exact ⟨rfl,hq⟩
   | false=>rw [hq] at hy;cases hy
 cases hf:X8 b nm with
 | none =>
  refine A0L 7 0 λj y _ h2 hy=>?_
  obtain ⟨h3,_⟩:=back j y (by omega) hy;exact A8s 7 0 hf j y (E0I _) (by omega) h3
 | some x =>
  obtain ⟨h1,h2,_,h4,h5⟩:=zA 7 0 hf;show _=bif p x then A4 x else A7
  cases hq:p x with
  | true =>
   refine B7i (i:=x.1) (x:=x.2) ?_ h2 7 0 (E0I _) (by omega) λj y _ hj2 hy=>?_
   ·rw [hr _ (by omega),A5F h1];have:(x.1,x.2)=x:=rfl;rw [this,hq];rfl
   ·obtain ⟨h6,_⟩:=back j y (by omega) hy;exact h5 j y (E0I _) hj2 h6
  | false =>
   refine A0L 7 0 λj y _ hj2 hy e=>?_
   obtain ⟨h6,h7⟩:=back j y (by omega) hy;have:=hp (j,y) h7;rw [show ((j,y):Slt).2.1=nm from e,hf] at this;cases this;rw [h7] at hq;cases hq
def A8R {p':Slt->Bool}:∀ {l:List Slt} {cur:List UInt8},(∀ y∈l,p y=A5->p' y=A5)->vT p' cur (l.filter p)=vT p cur l
 | [],_,_=>rfl
 | y::l,cur,h=>by
  have hl:=λz hz=>h z (D9F _ hz)
  rw [E0H];cases hq:p y with
  | true =>
   rw [if_pos rfl];show vT p' (bif p' y then G0 cur (G8 y.1) (T0 y.2.1 y.2.2) else cur) (l.filter p)=vT p (bif p y then G0 cur (G8 y.1) (T0 y.2.1 y.2.2) else cur) l;rw [h y (D9I ..) hq,hq];exact A8R hl
  | false =>
   rw [if_neg (by decide)];show _=vT p (bif p y then G0 cur (G8 y.1) (T0 y.2.1 y.2.2) else cur) l;rw [hq];exact A8R hl
def D2A {p':Slt->Bool} (h:∀ y∈H9 b,p y=A5->p' y=A5):clB (clB b p) p'=clB b p:=by
 have e:clB (clB b p) p'=vT p' hdB (H9 (clB b p)):=rfl;rw [e,D5n];exact A8R h
def D0I {p':Slt->Bool} (h:∀ y∈H9 b,p' y=p y):clB b p'=clB b p:=by
 unfold clB vT;generalize hdB=cur;generalize H9 b=l at h
 induction l generalizing cur with
 | nil=>rfl
 | cons y l ih =>
  rw [List.foldl_cons,List.foldl_cons,h y (D9I ..)];exact ih _ (λz hz=>h z (D9F _ hz))
def C0u (h:O0 b=A5):ptP b 0=25705:=by
 unfold O0 at h;rw [D9v,D9v] at h;have e:=of_decide_eq_true h.2.1;rw [<-e];unfold ptP fieldN oU M8 A0T magX;simp only [Nat.mul_zero,D9O,D99,List.take_succ_cons,E0z];rfl
def D1a {l:List Slt}:∀ {cur:List UInt8},(∀ x∈l,x.1<7)->cur.length=256->ptP (vT p cur l) 0=ptP cur 0:=by
 induction l with
 | nil=>intro cur _ _;rfl
 | cons x l ih =>
  intro cur hl hc;have hx:=hl x (D9I ..);show ptP (vT p (bif p x then G0 cur (G8 x.1) (T0 x.2.1 x.2.2) else cur) l) 0=_;cases p x with
  | false=>exact ih (λy hy=>hl y (D9F _ hy)) hc
  | true =>
   have:=ih (cur:=G0 cur (G8 x.1) (T0 x.2.1 x.2.2)) (λy hy=>hl y (D9F _ hy)) (B3m hx hc);refine this.trans ?_;unfold ptP fieldN;have hl:=C3m (l:=cur) (xs:=T0 x.2.1 x.2.2) (a:=G8 x.1) (c:=2*0) (n:=2) (by rw [U2,hc];unfold G8;omega) (.inl (by unfold G8;omega));rw [hl]
def D4T:O0 (clB b p)=A6:=by
 cases h:O0 (clB b p) with
 | false=>rfl
 | true =>
  have h1:=C0u h;unfold clB at h1;rw [D1a (λx hx=>(B4q x hx).1) A0P] at h1;have:ptP hdB 0=27490:=by decide +kernel
  rw [this] at h1;cases h1
def D0U {D:Dev} {n many:Int} {c:Cl} (hb:b.length=256) (C4w:D.length<=512):O0 (O5 D n many 128 0 (c,b)).2=A6:=by
 cases h:O0 (O5 D n many 128 0 (c,b)).2 with
 | false=>rfl
 | true =>
  have h1:=C0u h;have:=C6j (D:=D) (n:=n) (many:=many) (c:=c) hb C4w;omega
end
def B3Y {b:List UInt8} {x:Slt}:∀ (e k:Nat),k<=x.1->x.1<k+e->M4 b x.1=A4 x.2->x∈N8 b e k
 | 0,k,h1,h2,_=>by omega
 | e+1,k,h1,h2,hx=>by
  by_cases c:x.1=k
  ·rw [<-c,Y4 hx];exact D9I ..
  ·have ih:=B3Y e (k+1) (by omega) (by omega) hx;cases hk:M4 b k with
   | none=>rw [Y0 hk];exact ih
   | some z=>rw [Y4 hk];exact D9F _ ih
section
variable {D E:Dev} {X L:List Int} {K:List UInt8->Option Int} {n:Int} {nm:List UInt8}
def A22 {no:Int} (h:P7 X nm=no) (hz:no≠0):hmS D X nm=X8 (blk D no) nm:=by
 unfold hmS;rw [h,if_neg hz]
def C6x {y:Slt} (h:hmS D X nm=A4 y):P7 X nm≠0/\y∈H9 (blk D (P7 X nm))/\y.2.1=nm/\1<=y.2.2:=by
 by_cases hz:P7 X nm=0
 ·unfold hmS at h;rw [if_pos hz] at h;cases h
 ·rw [A22 rfl hz] at h;obtain ⟨h1,h2,_,h4,_⟩:=zA 7 0 h;refine ⟨hz,B3Y 7 0 (E0I _) (by omega) h1,h2,?_⟩;have:=B6i h1;unfold A95 at this;simp only [D9v,decide_eq_true_eq] at this;exact this.2.1
def C4k {no:Int} {x:Slt}:atH D X (no,x)=A5↔P7 X x.2.1=no/\hmS D X x.2.1=A4 x:=by
 unfold atH;rw [D9v,decide_eq_true_eq,decide_eq_true_eq]
def zS {no:Int} {x:Slt}:X9 D X no K x=A5↔(P7 X x.2.1=no/\hmS D X x.2.1=A4 x)/\(K x.2.1).getD 0=x.2.2:=by
 unfold X9;rw [D9v,C4k,decide_eq_true_eq]
def A0Z (hz:∀ no∈L,no≠0):nm∈M7 D X (A2V D L)↔P7 X nm∈L/\(hmS D X nm).isSome=A5:=by
 unfold M7 A2V;constructor
 ·intro h;obtain ⟨⟨no,x⟩,he,rfl⟩:=List.mem_map.1 h;obtain ⟨h1,h2⟩:=List.mem_filter.1 he;obtain ⟨no',hL,h3⟩:=List.mem_flatMap.1 h1;obtain ⟨x',_,h4⟩:=List.mem_map.1 h3;cases h4;obtain ⟨h5,h6⟩:=C4k.1 h2;exact ⟨by show P7 X x.2.1∈L;rw [h5];exact hL,by show (hmS D X x.2.1).isSome=A5;rw [h6];rfl⟩
 ·rintro ⟨h1,h2⟩;obtain ⟨y,hy⟩:=Option.isSome_iff_exists.1 h2;obtain ⟨_,h3,h4,_⟩:=C6x hy;refine List.mem_map.2 ⟨(P7 X nm,y),List.mem_filter.2 ⟨List.mem_flatMap.2 ⟨_,h1,List.mem_map.2 ⟨y,h3,rfl⟩⟩,C4k.2 ?_⟩,h4⟩;rw [h4];exact ⟨rfl,hy⟩
structure Bk (D E:Dev) (X:List Int) (K:List UInt8->Option Int) (L:List Int):Prop where
 nz:∀ no∈L,no≠0
 blk:∀ no∈L,blk E no=blk D no\/blk E no=clB (blk D no) (X9 D X no K)
 kn:∀ s v,K s=A4 v->v=B3B D X s
def B1Y {no:Int} (hz:no≠0):∀ y,X9 D X no K y=A5->X8 (blk D no) y.2.1=A4 y:=by
 intro y hy;obtain ⟨⟨h1,h2⟩,_⟩:=zS.1 hy;rw [<-A22 h1 hz];exact h2
def Bk.home (h:Bk D E X K L) (hL:P7 X nm∈L):hmS E X nm=hmS D X nm\/hmS E X nm=A7/\K nm=A7:=by
 have hz:=h.nz _ hL;rw [A22 rfl hz,A22 rfl hz];rcases h.blk _ hL with e | e
 ·rw [e];exact .inl rfl
 ·rw [e,C9L (B1Y hz) nm];cases hf:X8 (Go.Proofs.YtbnkgnfhgbhblaaGreat.blk D (P7 X nm)) nm with
  | none=>exact .inl rfl
  | some y =>
   have hy:hmS D X nm=A4 y:=by rw [A22 rfl hz];exact hf
   obtain ⟨_,_,h4,h5⟩:=C6x hy;show (bif X9 D X (P7 X nm) K y then A4 y else A7)=A4 y\/(bif X9 D X (P7 X nm) K y then A4 y else A7)=A7/\_;cases hk:X9 D X (P7 X nm) K y with
   | true=>exact .inl rfl
   | false =>
    refine .inr ⟨rfl,?_⟩;cases hK:K nm with
    | none=>rfl
    | some v =>
     have hv:=h.kn nm v hK;have e2:B3B D X nm=y.2.2:=by unfold B3B;rw [hy];rfl
     have:X9 D X (P7 X nm) K y=A5:=zS.2 ⟨⟨by rw [h4],by rw [h4];exact hy⟩,by rw [h4,hK,hv,e2];rfl⟩;rw [this] at hk;cases hk
def Bk.list (h:Bk D E X K L):W7 E X L=(W7 D X L).filter λe=>(hmS E X e.1).isSome:=by
 have e1:bO (M7 E X (A2V E L))=(bO (M7 D X (A2V D L))).filter λs=>(hmS E X s).isSome:=by
  refine D7y (B4s _) ((B4s _).filter _) λs=>?_
  rw [List.mem_filter,kZ,kZ,A0Z h.nz,A0Z h.nz];constructor
  ·rintro ⟨h1,h2⟩;rcases h.home h1 with e | ⟨e,_⟩
   ·exact ⟨⟨h1,by rw [<-e];exact h2⟩,h2⟩
   ·rw [e] at h2;cases h2
  ·rintro ⟨⟨h1,_⟩,h2⟩;exact ⟨h1,h2⟩
 unfold W7;rw [e1,List.filter_map];show ((bO (M7 D X (A2V D L))).filter λs=>(hmS E X s).isSome).map _=((bO (M7 D X (A2V D L))).filter λs=>(hmS E X s).isSome).map _;refine List.map_congr_left λs hs=>?_
 obtain ⟨h1,h2⟩:=List.mem_filter.1 hs;have h3:=((A0Z h.nz).1 ((kZ _ _).1 h1)).1;rcases h.home h3 with e | ⟨e,_⟩
 ·show (s,B3B E X s)=(s,B3B D X s);unfold B3B;rw [e]
 ·have h2:(hmS E X s).isSome=A5:=h2;rw [e] at h2;cases h2
def D3E:cF []=hdB:=by
 have e:C4X []=0:=by decide +kernel
 unfold cF;rw [if_pos e];rfl
def B5P {no:Int}:∀ {l:List Slt} {s:Cl × List UInt8},∃ y,T4 D X no K s l=(s.1.wl y,vT (X9 D X no K) s.2 l)
 | [],s=>⟨s.1.lost,rfl⟩
 | x::l,s=>by
  cases hk:X9 D X no K x with
  | true =>
   have e:cX D X no K s x=(s.1,G0 s.2 (G8 x.1) (T0 x.2.1 x.2.2)):=by unfold cX;rw [hk];rfl
   obtain ⟨y,hy⟩:=B5P (no:=no) (l:=l) (s:=(s.1,G0 s.2 (G8 x.1) (T0 x.2.1 x.2.2)));refine ⟨y,?_⟩;show T4 D X no K (cX D X no K s x) l=(_,vT _ (bif X9 D X no K x then _ else _) l);rw [e,hk];exact hy
  | false =>
   have e:cX D X no K s x=(s.1.wl (s.1.lost+1),s.2):=by unfold cX;rw [hk];rfl
   obtain ⟨y,hy⟩:=B5P (no:=no) (l:=l) (s:=(s.1.wl (s.1.lost+1),s.2));refine ⟨y,?_⟩;show T4 D X no K (cX D X no K s x) l=(_,vT _ (bif X9 D X no K x then _ else _) l);rw [e,hk];exact hy
def B30 {no:Int} {c:Cl}:∃ y,gC D X K c no=(dU c no (clB (blk D no) (X9 D X no K))).wl y:=by
 obtain ⟨y,hy⟩:=B5P (D:=D) (X:=X) (K:=K) (no:=no) (l:=H9 (blk D no)) (s:=(c,cF []));refine ⟨y,?_⟩;unfold gC;rw [hy,D3E];rfl
def Bk.clear (h:Bk D E X K L) {no:Int} (hL:no∈L):clB (Go.Proofs.YtbnkgnfhgbhblaaGreat.blk E no) (X9 E X no K)=clB (Go.Proofs.YtbnkgnfhgbhblaaGreat.blk D no) (X9 D X no K):=by
 have hz:=h.nz _ hL;rcases h.blk _ hL with e | e
 ·rw [e];refine D0I λy _=>?_
  rw [Bool.eq_iff_iff,zS,zS];constructor
  ·rintro ⟨⟨h1,h2⟩,h3⟩;rw [A22 h1 hz,e] at h2;exact ⟨⟨h1,by rw [A22 h1 hz];exact h2⟩,h3⟩
  ·rintro ⟨⟨h1,h2⟩,h3⟩;rw [A22 h1 hz] at h2;exact ⟨⟨h1,by rw [A22 h1 hz,e];exact h2⟩,h3⟩
 ·rw [e];refine D2A λy _ hk=>?_
  obtain ⟨⟨h1,h2⟩,h3⟩:=zS.1 hk;refine zS.2 ⟨⟨h1,?_⟩,h3⟩;rw [A22 h1 hz,e,C9L (B1Y hz),B1Y hz y hk];show (bif X9 D X no K y then A4 y else A7)=A4 y;rw [hk];rfl
def Bk.clears:∀ {L:List Int} (_:Bk D E X K L) {c:Cl} {x:Int},∃ x',N6 E X K (c.wl x) L=(N6 D X K c L).wl x'
 | [],_,c,x=>⟨x,rfl⟩
 | no::L,h,c,x=>by
  have h':Bk D E X K L:=⟨λa ha=>h.nz a (D9F _ ha),λa ha=>h.blk a (D9F _ ha),h.kn⟩;obtain ⟨y,hy⟩:=B30 (D:=D) (X:=X) (K:=K) (no:=no) (c:=c);obtain ⟨y2,hy2⟩:=B30 (D:=E) (X:=X) (K:=K) (no:=no) (c:=c.wl x);rw [h.clear (D9I ..)] at hy2;have e2:gC E X K (c.wl x) no=(gC D X K c no).wl y2:=by rw [hy2,hy];rfl
  show ∃ x',N6 E X K (gC E X K (c.wl x) no) L=(N6 D X K (gC D X K c no) L).wl x';rw [e2];exact Bk.clears h'
def D4o {c:Cl} {x dir ino:Int}:aI D n (c.wl x) dir ino=(aI D n c dir ino).wl x:=by
 have e:R9 D n (c.wl x) ino=R9 D n c ino:=rfl;unfold aI;rw [e];cases R9 D n c ino with
 | false=>rfl
 | true =>
  show (bif (c.par ino).isSome then _ else _)=(bif (c.par ino).isSome then _ else _:Cl).wl x;cases (c.par ino).isSome<;>rfl
def B7E {a:Int} {s0:List UInt8}:∀ {L:List Ent} {s:Cl × (List UInt8->Option Int)},(∀ e∈L,e.1≠s0)->(P8 D n a s L).2 s0=s.2 s0
 | [],_,_=>rfl
 | e::L,s,h=>by
  have h1:=B7E (a:=a) (s0:=s0) (L:=L) (s:=K2 D n a s e) λx hx=>h x (D9F _ hx)
  refine h1.trans ?_;unfold K2;cases R9 D n s.1 e.2 with
  | false=>rfl
  | true =>
   show (C2v s.2 e.1 e.2) s0=_;unfold C2v;rw [if_neg (λh2=>h e (D9I ..) h2.symm)]
def B0Y {a i:Int}:∀ {L:List Ent} {s:Cl × (List UInt8->Option Int)},i∈s.1.row->i∈(P8 D n a s L).1.row
 | [],_,h=>h
 | e::L,s,h=>by
  refine B0Y (L:=L) (s:=K2 D n a s e) ?_;unfold K2;cases R9 D n s.1 e.2 with
  | false=>exact h
  | true =>
   show i∈(aI D n s.1 a e.2).row;unfold aI;cases R9 D n s.1 e.2 with
   | false=>exact h
   | true =>
    show i∈(bif (s.1.par e.2).isSome then _ else _:Cl).row;cases (s.1.par e.2).isSome with
    | true=>exact h
    | false=>exact List.mem_append_left _ h
def D1U {c:Cl} {a i:Int} (w:RowW n c) (h:R9 D n c i=A5):i∈(aI D n c a i).row:=by
 unfold aI;rw [h];show i∈(bif (c.par i).isSome then A0W c i else C07 (A0W c i) a i).row;cases hp:(c.par i).isSome with
 | true=>exact (w.par i).1 hp
 | false=>exact List.mem_append_right _ (List.mem_singleton.2 rfl)
def C1z {Rf:List Int} {a x:Int} {p:Ent->Bool} (hk:∀ i,i≠1->kdV E n i=kdV D n i\/(i ∉ Rf/\kdV E n i=0)) :
  ∀ {L:List Ent} {s:Cl × (List UInt8->Option Int)},RowW n s.1->(∀ i∈(P8 D n a s L).1.row,i∈Rf)->L.Pairwise (λe f=>e.1≠f.1)->(∀ e∈L,p e=A6->(P8 D n a s L).2 e.1=A7) ->
  P8 E n a (s.1.wl x,s.2) (L.filter p)=((P8 D n a s L).1.wl x,(P8 D n a s L).2)
 | [],_,_,_,_,_=>rfl
 | e::L,s,w,hR,hd,hp=>by
  obtain ⟨d1,d2⟩:=List.pairwise_cons.1 hd;have hp':∀ f∈L,p f=A6->(P8 D n a (K2 D n a s e) L).2 f.1=A7:=λf hf=>hp f (D9F _ hf)
  rw [E0H];cases hB:R9 D n s.1 e.2 with
  | true =>
   have et:K2 D n a s e=(aI D n s.1 a e.2,C2v s.2 e.1 e.2):=by unfold K2;rw [hB];rfl
   have hKe:(P8 D n a s (e::L)).2 e.1=A4 e.2:=by
    show (P8 D n a (K2 D n a s e) L).2 e.1=_;rw [et,B7E (λf hf h=>d1 f hf h.symm)];show (if e.1=e.1 then A4 e.2 else s.2 e.1)=A4 e.2;rw [if_pos rfl]
   have vO:p e=A5:=by
    cases h:p e with
    | true=>rfl
    | false=>rw [hp e (D9I ..) h] at hKe;cases hKe
   rw [vO,if_pos rfl];have hin:e.2∈Rf:=hR _ (by
    show e.2∈(P8 D n a (K2 D n a s e) L).1.row;rw [et];exact B0Y (D1U w hB))
   have ne1:e.2≠1:=λh=>by
    unfold R9 at hB;rw [decide_eq_true h] at hB;simp at hB
   have hkd:kdV E n e.2=kdV D n e.2:=(hk _ ne1).resolve_right λh=>h.1 hin
   have hBE:R9 E n (s.1.wl x) e.2=A5:=by
    unfold R9 at hB ⊢;rw [hkd];exact hB
   have eE:aI E n (s.1.wl x) a e.2=(aI D n s.1 a e.2).wl x:=by
    rw [<-D4o];unfold aI;have:R9 D n (s.1.wl x) e.2=A5:=hB;rw [hBE,this]
   have etE:K2 E n a (s.1.wl x,s.2) e=((aI D n s.1 a e.2).wl x,C2v s.2 e.1 e.2):=by
    unfold K2;show (bif R9 E n (s.1.wl x) e.2 then (aI E n (s.1.wl x) a e.2,C2v s.2 e.1 e.2) else _)=_;rw [hBE,eE];rfl
   show P8 E n a (K2 E n a (s.1.wl x,s.2) e) (L.filter p)=((P8 D n a (K2 D n a s e) L).1.wl x,(P8 D n a (K2 D n a s e) L).2);rw [etE];have:=C1z (x:=x) hk (L:=L) (s:=K2 D n a s e) (by rw [et];exact C3O w) hR d2 hp';rw [et] at this ⊢;exact this
  | false =>
   have et:K2 D n a s e=s:=by unfold K2;rw [hB];rfl
   have ih:=C1z (x:=x) hk (L:=L) (s:=K2 D n a s e) (by rw [et];exact w) hR d2 hp';rw [et] at ih;have ef:P8 D n a s (e::L)=P8 D n a s L:=by show P8 D n a (K2 D n a s e) L=_;rw [et]
   rw [ef];cases vO:p e with
   | false=>rw [if_neg (by decide)];exact ih
   | true =>
    rw [if_pos rfl];have hBE:R9 E n (s.1.wl x) e.2=A6:=by
     by_cases h1:e.2=1
     ·unfold R9;rw [decide_eq_true h1];rfl
     ·rcases hk _ h1 with h | ⟨_,h⟩
      ·unfold R9 at hB ⊢;rw [h];exact hB
      ·unfold R9;rw [decide_eq_true h];simp
    have etE:K2 E n a (s.1.wl x,s.2) e=(s.1.wl x,s.2):=by
     unfold K2;show (bif R9 E n (s.1.wl x) e.2 then _ else _)=_;rw [hBE];rfl
    show P8 E n a (K2 E n a (s.1.wl x,s.2) e) (L.filter p)=_;rw [etE];exact ih
end
def C0n (d:Int) (t:List Int):0<=L6 d t/\L6 d t<=5/\Fair (L6 d t) (W5 d t):=by
 obtain ⟨e,u,h1,h2,h3,h4,h5,_⟩:=D00 d t;rw [A5z] at h1;obtain ⟨rfl,rfl⟩:=List.cons.inj h1;exact ⟨h4,h5,D46 h2 (B7A h4 h5 h3)⟩
def D22 {d:Int} {t:List Int} (h0:0<=d) (h5:d<=5) (hf:Fair d t):L6 d t=d/\W5 d t=t:=by
 have:=(C3C.1 (D3Y h0 h5 hf)).2.2;rw [A5z] at this;exact List.cons.inj this
def nR (c:Cl):List (Int × List UInt8):=c.blocks.zip c.made
def A4i {c:Cl} {no:Int} {b:List UInt8} (h:c.blocks.length=c.made.length):nR (dU c no b)=nR c++[(no,b)]:=by
 show (c.blocks++[no]).zip (c.made++[b])=_;rw [List.zip_append h];rfl
section
variable {D E:Dev} {n:Int} {c:Cl}
def C5R {x:Int}:∀ {L:List Int} {c:Cl} {t:List Int},R3 D n (c.wl x,t) L=((R3 D n (c,t) L).1.wl x,(R3 D n (c,t) L).2)
 | [],_,_=>rfl
 | no::L,c,t=>by
  show R3 D n (L5 D n (c.wl x) no,if K0 D n (c.wl x) no=0 then _ else _) L=_;rw [A9r,A9s];exact C5R
def C2Y (h:E.length=D.length):∀ {L:List Int} {s:Cl × List Int},R3 E n s L=R3 D n s L
 | [],_=>rfl
 | no::L,s=>by
  show R3 E n (L5 E n s.1 no,if K0 E n s.1 no=0 then _ else _) L=_;rw [A3T h,A3U h];exact C2Y h
def C5Q (h:E.length=D.length) {x d:Int} {t:List Int}:F9 E n (c.wl x) d t=((F9 D n c d t).1.wl x,(F9 D n c d t).2):=by
 unfold F9;rw [C2Y h,C5R]
def B61 {d:Int} {t:List Int}:Fair (L6 d t) (F9 D n c d t).2/\F9 D n c (L6 d t) (F9 D n c d t).2=F9 D n c d t/\L6 (L6 d t) (F9 D n c d t).2=L6 d t:=by
 obtain ⟨h0,h5,hf⟩:=C0n d t;obtain ⟨L,hL⟩:∃ L,L=J0 (W5 d t) (C4 (L6 d t)):=⟨_,rfl⟩;have nd:L.Nodup:=by rw [hL];exact C9C
 have nz:∀ x∈L,x≠0:=by rw [hL];exact λx=>B9R
 have eB:F9 D n c d t=R3 D n (c,W5 d t) L:=by rw [hL];rfl
 obtain ⟨a1,a2⟩:=A9p (D:=D) (n:=n) (c:=c) hf.len nd nz;have fT:=D0R hf a2;obtain ⟨s1,s2⟩:=D22 h0 h5 fT;have ek:J0 (R3 D n (c,W5 d t) L).2 (C4 (L6 d t))=Q4 D n c L:=by
  rw [C2X a2,<-hL];have:L.filter (λx=>!(decide (x∈L) && !decide (x∈Q4 D n c L)))=L.filter λx=>decide (x∈Q4 D n c L):=List.filter_congr λx hx=>by simp [hx]
  rw [this];exact C0l keptL_sub nd
 rw [eB];refine ⟨fT,?_,s1⟩;unfold F9;rw [s1,s2,ek,B62 (λx hx=>nz x (keptL_sub.subset hx)) A8P,B5Q,<-a1]
def C26 {a:Int} (h:(K7 D n c a).2=0):K7 D n c a=(c,0):=by
 unfold K7 at h ⊢;cases hb:(decide (kdV D n a=2)&&O0 (blk D ((drV D n a).getD 0 0))) with
 | false=>rfl
 | true =>
  rw [hb] at h;have h:K0 D n c ((drV D n a).getD 0 0)=0:=h;show (L5 D n c _,K0 D n c _)=_;rw [h];cases hc:gB D n c ((drV D n a).getD 0 0) with
  | false=>rw [A5s hc]
  | true =>
   rw [A8n hc] at h;rw [h] at hc;unfold gB at hc;rw [A0U] at hc;cases hc
def A9v {a:Int} (h:(K7 D n c a).2≠0):kdV D n a=2/\O0 (blk D ((drV D n a).getD 0 0))=A5/\(K7 D n c a).2=(drV D n a).getD 0 0/\gB D n c ((drV D n a).getD 0 0)=A5/\K7 D n c a=(L5 D n c ((drV D n a).getD 0 0),(drV D n a).getD 0 0):=by
 unfold K7 at h ⊢;cases hb:(decide (kdV D n a=2)&&O0 (blk D ((drV D n a).getD 0 0))) with
 | false=>rw [hb] at h;exact absurd rfl h
 | true =>
  rw [hb] at h;have h:K0 D n c ((drV D n a).getD 0 0)≠0:=h;obtain ⟨h1,h2⟩:=C4p h;rw [D9v] at hb;refine ⟨of_decide_eq_true hb.1,hb.2,h1,h2,?_⟩;show (L5 D n c _,K0 D n c _)=_;rw [h1]
def C6a {a x:Int} (hl:E.length=D.length) (hE:(kdV E n a=kdV D n a/\drV E n a=drV D n a)\/(kdV E n a=2/\drV E n a=(K7 D n c a).2::zI 6))
  (hG:∀ no,N9 D.length n no=A5->O0 (blk E no)=A5->O0 (blk D no)=A5) (hP:(K7 D n c a).2≠0->O0 (blk E (K7 D n c a).2)=A5) :
  K7 E n (c.wl x) a=((K7 D n c a).1.wl x,(K7 D n c a).2):=by
 by_cases h0:(K7 D n c a).2=0
 ·rw [C26 h0];unfold K7;show _=(c.wl x,0);cases hb:(decide (kdV E n a=2)&&O0 (blk E ((drV E n a).getD 0 0))) with
  | false=>rfl
  | true =>
   show (L5 E n (c.wl x) _,K0 E n (c.wl x) _)=_;rw [A3T hl,A3U hl,A9r,A9s];cases hc:gB D n c ((drV E n a).getD 0 0) with
   | false=>rw [A5s hc,C9E hc]
   | true =>
    exfalso;have hd:N9 D.length n ((drV E n a).getD 0 0)=A5:=by
     unfold gB at hc;rw [D9v] at hc;exact hc.1
    rw [D9v] at hb;have hg:=hG _ hd hb.2;have hk:=of_decide_eq_true hb.1;rcases hE with ⟨e1,e2⟩ | ⟨_,e2⟩
    ·rw [e1] at hk;rw [e2] at hg hc hd;have:(K7 D n c a).2=(drV D n a).getD 0 0:=by
      unfold K7;rw [decide_eq_true hk,hg];show K0 D n c _=_;exact A8n hc
     rw [h0] at this;rw [<-this,A0U] at hd;cases hd
    ·rw [e2,h0] at hd;rw [show ((0:Int)::zI 6).getD 0 0=0 from rfl,A0U] at hd;cases hd
 ·obtain ⟨h1,h2,h3,h4,h5⟩:=A9v h0;have hg:=hP h0;have e1:kdV E n a=2/\(drV E n a).getD 0 0=(drV D n a).getD 0 0:=by
   rcases hE with ⟨e1,e2⟩ | ⟨e1,e2⟩
   ·rw [e1,e2];exact ⟨h1,rfl⟩
   ·rw [e2,<-h3];exact ⟨e1,rfl⟩
  rw [h3] at hg;rw [h5];unfold K7;rw [e1.1,e1.2,hg];show (L5 E n (c.wl x) _,K0 E n (c.wl x) _)=_;rw [A3T hl,A3U hl,A9r,A9s,A8n h4]
def C59 {a x:Int} (h:K7 E n (c.wl x) a=((K7 D n c a).1.wl x,(K7 D n c a).2)):nN E n (c.wl x) a=(nN D n c a).wl x:=by
 unfold nN;rw [h];rfl
def C3U {a v:Int} {s0:List UInt8}:∀ {L:List Ent} {s:Cl × (List UInt8->Option Int)},(P8 D n a s L).2 s0=A4 v->s.2 s0=A4 v\/(s0,v)∈L
 | [],_,h=>.inl h
 | e::L,s,h=>by
  rcases C3U (L:=L) (s:=K2 D n a s e) h with h1 | h1
  ·unfold K2 at h1;cases hB:R9 D n s.1 e.2 with
   | false=>rw [hB] at h1;exact .inl h1
   | true =>
    rw [hB] at h1;have h1:(if s0=e.1 then A4 e.2 else s.2 s0)=A4 v:=h1;by_cases he:s0=e.1
    ·rw [if_pos he] at h1;refine .inr ?_;cases h1;rw [he];exact D9I ..
    ·rw [if_neg he] at h1;exact .inl h1
  ·exact .inr (D9F _ h1)
def D1g {X L:List Int} {e:Ent} (h:e∈W7 D X L):e.2=B3B D X e.1:=by
 unfold W7 at h;obtain ⟨s,_,rfl⟩:=List.mem_map.1 h;rfl
def C6L {X L:List Int}:(W7 D X L).Pairwise λe f=>e.1≠f.1:=by
 unfold W7;rw [List.pairwise_map];refine List.Pairwise.imp ?_ (B4s (M7 D X (A2V D L)));intro a b h e;have e:a=b:=e;subst e;rw [A3J] at h;cases h
def C1x {a:Int}:∀ {L:List Ent} {s:Cl × (List UInt8->Option Int)},(P8 D n a s L).1.blocks=s.1.blocks/\(P8 D n a s L).1.made=s.1.made
 | [],_=>⟨rfl,rfl⟩
 | e::L,s=>by
  obtain ⟨h1,h2⟩:=C1x (a:=a) (L:=L) (s:=K2 D n a s e);have h3:(K2 D n a s e).1.blocks=s.1.blocks/\(K2 D n a s e).1.made=s.1.made:=by
   unfold K2 aI;cases R9 D n s.1 e.2 with
   | false=>exact ⟨rfl,rfl⟩
   | true =>
    show (bif (s.1.par e.2).isSome then A0W s.1 e.2 else C07 (A0W s.1 e.2) a e.2).blocks=_/\(bif (s.1.par e.2).isSome then A0W s.1 e.2 else C07 (A0W s.1 e.2) a e.2).made=_;cases (s.1.par e.2).isSome<;>exact ⟨rfl,rfl⟩
  exact ⟨h1.trans h3.1,h2.trans h3.2⟩
def C3P {a:Int}:∀ {L:List Ent} {s:Cl × (List UInt8->Option Int)},(P8 D n a s L).1.ino=s.1.ino
 | [],_=>rfl
 | e::L,s=>by
  have h1:=C3P (a:=a) (L:=L) (s:=K2 D n a s e);have h3:(K2 D n a s e).1.ino=s.1.ino:=by
   unfold K2 aI;cases R9 D n s.1 e.2 with
   | false=>rfl
   | true =>
    show (bif (s.1.par e.2).isSome then A0W s.1 e.2 else C07 (A0W s.1 e.2) a e.2).ino=_;cases (s.1.par e.2).isSome<;>rfl
  exact h1.trans h3
def B94 {X:List Int} {K:List UInt8->Option Int}:∀ {L:List Int} {c:Cl},c.blocks.length=c.made.length ->
  nR (N6 D X K c L)=nR c++L.map (λno=>(no,clB (blk D no) (X9 D X no K)))/\(N6 D X K c L).blocks.length=(N6 D X K c L).made.length
 | [],c,h=>⟨by simp [N6],h⟩
 | no::L,c,h=>by
  obtain ⟨y,hy⟩:=B30 (D:=D) (X:=X) (K:=K) (no:=no) (c:=c);have hm:(gC D X K c no).blocks.length=(gC D X K c no).made.length:=by
   rw [hy];show (c.blocks++[no]).length=(c.made++[_]).length;simp [h]
  obtain ⟨h1,h2⟩:=B94 (X:=X) (K:=K) (L:=L) hm;refine ⟨?_,h2⟩;have e:N6 D X K c (no::L)=N6 D X K (gC D X K c no) L:=rfl;have e2:nR (gC D X K c no)=nR c++[(no,clB (blk D no) (X9 D X no K))]:=by rw [hy];exact A4i h
  rw [e,h1,e2,E0d,D9C];rfl
end
section
variable {D E:Dev} {n:Int} {c:Cl}
def B5I {a no d:Int} {t:List Int} (h:c.blocks.length=c.made.length) :
  nR (X4 D n c a no d t)=nR c++(no,bif okX (L6 d t) (F9 D n c d t).2 then oU (L6 d t) (F9 D n c d t).2 else zeros 256)::(J0 (F9 D n c d t).2 (C4 (L6 d t))).map (λno=>(no,clB (blk D no) (X9 D (L6 d t::(F9 D n c d t).2) no (bodyT D n c a d t).2))) /\
   (X4 D n c a no d t).blocks.length=(X4 D n c a no d t).made.length:=by
 have hs:=bW (D:=D) (n:=n) (L:=J0 (W5 d t) (C4 (L6 d t))) (s:=(c,W5 d t));have eb:R3 D n (c,W5 d t) (J0 (W5 d t) (C4 (L6 d t)))=F9 D n c d t:=rfl;rw [eb] at hs;have ht:=C1x (D:=D) (n:=n) (a:=a) (L:=W7 D (L6 d t::(F9 D n c d t).2) (J0 (F9 D n c d t).2 (C4 (L6 d t)))) (s:=((F9 D n c d t).1,λ_=>A7));have et:P8 D n a ((F9 D n c d t).1,λ_=>A7) (W7 D (L6 d t::(F9 D n c d t).2) (J0 (F9 D n c d t).2 (C4 (L6 d t))))=bodyT D n c a d t:=rfl;rw [et] at ht;have hbm:(bodyT D n c a d t).1.blocks.length=(bodyT D n c a d t).1.made.length:=by
  rw [ht.1,ht.2];show (F9 D n c d t).1.blocks.length=(F9 D n c d t).1.made.length;rw [hs.blocks,hs.made];exact h
 have hp:nR (bodyT D n c a d t).1=nR c:=by
  unfold nR;rw [ht.1,ht.2];show (F9 D n c d t).1.blocks.zip (F9 D n c d t).1.made=_;rw [hs.blocks,hs.made]
 unfold X4;obtain ⟨h1,h2⟩:=B94 (D:=D) (X:=L6 d t::(F9 D n c d t).2) (K:=(bodyT D n c a d t).2) (L:=J0 (F9 D n c d t).2 (C4 (L6 d t)))
  (c:=dU (bodyT D n c a d t).1 no (bif okX (L6 d t) (F9 D n c d t).2 then oU (L6 d t) (F9 D n c d t).2 else zeros 256)) (by
   show ((bodyT D n c a d t).1.blocks++[no]).length=((bodyT D n c a d t).1.made++[_]).length;simp [hbm])
 refine ⟨?_,h2⟩;rw [h1,A4i hbm,hp,D9C];rfl
def D2u {a no x d:Int} {t:List Int} {Rf:List Int} {dE:Int} {tE:List Int} (hl:E.length=D.length) (w:RowW n c) (hbm:c.blocks.length=c.made.length)
  (hd:(dE=d/\tE=t)\/(dE=L6 d t/\tE=(F9 D n c d t).2))
  (hk:∀ i,i≠1->kdV E n i=kdV D n i\/(i ∉ Rf/\kdV E n i=0)) (hR:∀ i∈(X4 D n c a no d t).row,i∈Rf)
  (hB:∀ q∈nR (X4 D n c a no d t),blk E q.1=blk D q.1\/blk E q.1=q.2) :
  ∃ x',X4 E n (c.wl x) a no dE tE=(X4 D n c a no d t).wl x':=by
 have hb:F9 E n (c.wl x) dE tE=((F9 D n c d t).1.wl x,(F9 D n c d t).2)/\L6 dE tE=L6 d t:=by
  obtain ⟨h1,h2,h3⟩:=B61 (D:=D) (n:=n) (c:=c) (d:=d) (t:=t);rcases hd with ⟨rfl,rfl⟩ | ⟨rfl,rfl⟩
  ·exact ⟨C5Q hl,rfl⟩
  ·rw [C5Q hl,h2,h3];exact ⟨rfl,rfl⟩
 obtain ⟨hb1,hb2⟩:=hb;rw [(B5I hbm).1] at hB;obtain ⟨s1,hs1⟩:∃ s1,s1=F9 D n c d t:=⟨_,rfl⟩;obtain ⟨d',hd'⟩:∃ d',d'=L6 d t:=⟨_,rfl⟩;obtain ⟨X,hX⟩:∃ X,X=d'::s1.2:=⟨_,rfl⟩;obtain ⟨L,hL⟩:∃ L,L=J0 s1.2 (C4 d'):=⟨_,rfl⟩;have hsb:=bW (D:=D) (n:=n) (L:=J0 (W5 d t) (C4 (L6 d t))) (s:=(c,W5 d t));have eb:R3 D n (c,W5 d t) (J0 (W5 d t) (C4 (L6 d t)))=s1:=by rw [hs1];rfl
 rw [eb] at hsb;have w1:RowW n s1.1:=w.same hsb.row hsb.par;have eT:bodyT D n c a d t=P8 D n a (s1.1,λ_=>A7) (W7 D X L):=by
  unfold bodyT;rw [<-hs1,<-hd',<-hL,<-hX]
 have eTE:bodyT E n (c.wl x) a dE tE=P8 E n a (s1.1.wl x,λ_=>A7) (W7 E X L):=by
  unfold bodyT;rw [hb1,hb2,<-hs1,<-hd'];show P8 E n a (s1.1.wl x,λ_=>A7) (W7 E (d'::s1.2) (J0 s1.2 (C4 d')))=_;rw [<-hL,<-hX]
 have eC:X4 D n c a no d t=N6 D X (bodyT D n c a d t).2 (dU (bodyT D n c a d t).1 no (bif okX d' s1.2 then oU d' s1.2 else zeros 256)) L:=by
  unfold X4;rw [<-hs1,<-hd',<-hL,<-hX]
 have eCE:X4 E n (c.wl x) a no dE tE=N6 E X (bodyT E n (c.wl x) a dE tE).2 (dU (bodyT E n (c.wl x) a dE tE).1 no (bif okX d' s1.2 then oU d' s1.2 else zeros 256)) L:=by
  unfold X4;rw [hb1,hb2,<-hs1,<-hd'];show N6 E (d'::s1.2) _ (dU _ no (bif okX d' s1.2 then oU d' s1.2 else zeros 256)) (J0 s1.2 (C4 d'))=_;rw [<-hL,<-hX]
 rw [eC] at hR;rw [<-hs1,<-hd',<-hL,<-hX] at hB;obtain ⟨T,hT⟩:∃ T,T=bodyT D n c a d t:=⟨_,rfl⟩;rw [<-hT] at hB eC eT hR;have bk:Bk D E X T.2 L:=by
  refine ⟨?_,λk hk=>?_,λs v hv=>?_⟩
  ·rw [hL];exact λk=>B9R
  ·exact hB (k,clB (blk D k) (X9 D X k T.2)) (List.mem_append_right _ (D9F _ (List.mem_map.2 ⟨k,hk,rfl⟩)))
  ·rw [eT] at hv;rcases C3U hv with h1 | h1
   ·cases h1
   ·exact D1g h1
 have D7H:bodyT E n (c.wl x) a dE tE=(T.1.wl x,T.2):=by
  rw [eTE,bk.list,eT];refine C1z (s:=(s1.1,λ_=>A7)) hk w1 (λi hi=>hR i ?_) C6L λe he hp=>?_
  ·rw [nM.1];show i∈T.1.row;rw [eT];exact hi
  ·rw [<-eT];have he2:P7 X e.1∈L:=by
    unfold W7 at he;obtain ⟨s,hs,rfl⟩:=List.mem_map.1 he;exact ((A0Z bk.nz).1 ((kZ _ _).1 hs)).1
   rcases bk.home he2 with h1 | h1
   ·exfalso;unfold W7 at he;obtain ⟨s,hs,rfl⟩:=List.mem_map.1 he;have h3:(hmS D X s).isSome=A5:=((A0Z bk.nz).1 ((kZ _ _).1 hs)).2;have h1:hmS E X s=hmS D X s:=h1;have hp:(hmS E X s).isSome=A6:=hp;rw [h1,h3] at hp;cases hp
   ·exact h1.2
 rw [eCE,D7H,eC];exact Bk.clears bk (c:=dU T.1 no (bif okX d' s1.2 then oU d' s1.2 else zeros 256)) (x:=x)
end
section
variable {D E:Dev} {n:Int} {c:Cl}
def A3W {a:Int} (h:(K7 D n c a).2=0):rF D n c a=nN D n c a:=by unfold rF;rw [if_pos h]
def A3V {a:Int} (h:(K7 D n c a).2≠0):rF D n c a=X4 D n (nN D n c a) a (K7 D n c a).2 (getD (blk D (K7 D n c a).2)) (O6 (blk D (K7 D n c a).2) 32):=by
 obtain ⟨_,_,h3,_⟩:=A9v h;unfold rF;rw [if_neg h,h3]
def D41 {a x:Int} {Rf:List Int} (hl:E.length=D.length) (w:RowW n c) (hbm:c.blocks.length=c.made.length)
  (hE:(kdV E n a=kdV D n a/\drV E n a=drV D n a)\/(kdV E n a=2/\drV E n a=(K7 D n c a).2::zI 6))
  (hG:∀ no,N9 D.length n no=A5->O0 (blk E no)=A5->O0 (blk D no)=A5)
  (hk:∀ i,i≠1->kdV E n i=kdV D n i\/(i ∉ Rf/\kdV E n i=0)) (hR:∀ i∈(rF D n c a).row,i∈Rf)
  (hB:∀ q∈nR (rF D n c a),blk E q.1=blk D q.1\/blk E q.1=q.2):∃ x',rF E n (c.wl x) a=(rF D n c a).wl x':=by
 have hs:=zR (D:=D) (n:=n) (ino:=a) (c:=c);have hib:(nN D n c a).blocks.length=(nN D n c a).made.length:=by
  show (K7 D n c a).1.blocks.length=(K7 D n c a).1.made.length;rw [hs.blocks,hs.made];exact hbm
 have wI:RowW n (nN D n c a):=w.same hs.row hs.par;by_cases h0:(K7 D n c a).2=0
 ·have hp:=C6a (c:=c) (x:=x) hl hE hG (λh=>absurd h0 h);refine ⟨x,?_⟩;rw [A3W h0,A3W (by rw [hp];exact h0),C59 hp]
 ·obtain ⟨_,h2,h3,_⟩:=A9v h0;rw [<-h3] at h2;rw [A3V h0] at hB hR ⊢;obtain ⟨f0,f5,_⟩:=C0n (getD (blk D (K7 D n c a).2)) (O6 (blk D (K7 D n c a).2) 32);obtain ⟨fT,_,_⟩:=B61 (D:=D) (n:=n) (c:=nN D n c a) (d:=getD (blk D (K7 D n c a).2)) (t:=O6 (blk D (K7 D n c a).2) 32);obtain ⟨g1,g2⟩:=D3b f0 f5 fT;have aK:=hB (_,_) (by rw [(B5I hib).1];exact List.mem_append_right _ (D9I ..));rw [g1] at aK;have aK:blk E (K7 D n c a).2=blk D (K7 D n c a).2\/blk E (K7 D n c a).2=oU (L6 (getD (blk D (K7 D n c a).2)) (O6 (blk D (K7 D n c a).2) 32)) (F9 D n (nN D n c a) (getD (blk D (K7 D n c a).2)) (O6 (blk D (K7 D n c a).2) 32)).2:=aK;have hp:=C6a (c:=c) (x:=x) hl hE hG (λ_=>by
   rcases aK with h | h
   ·rw [h];exact h2
   ·rw [h];exact g2)
  have hpE:(K7 E n (c.wl x) a).2=(K7 D n c a).2:=by rw [hp]
  rw [A3V (by rw [hpE];exact h0),hpE,C59 hp];refine D2u hl wI hib ?_ hk hR hB;rcases aK with h | h
  ·rw [h];exact .inl ⟨rfl,rfl⟩
  ·rw [h];exact .inr ⟨C6r f0 f5,C6s fT.len (C6h fT)⟩
def D2Z {a x:Int} (hD:okD D) (hOE:okD E) (hl:E.length=D.length) (hbm:c.blocks.length=c.made.length)
  (hS:szV E n a=szV D n a) (hE:drV E n a=drV D n a\/drV E n a=(I6 D n c a).2)
  (hB:∀ q∈nR (X7 D n c a),blk E q.1=blk D q.1\/blk E q.1=q.2):X7 E n (c.wl x) a=(X7 D n c a).wl x:=by
 have e1:I6 E n (c.wl x) a=((I6 D n c a).1.wl x,(I6 D n c a).2):=by
  rw [B1S,B1S,hS,D1o hl,D3J];rcases hE with h | h
  ·rw [h]
  ·rw [h,B1S,C6Z]
 have e2:O4 E n (c.wl x) a=(O4 D n c a).wl x:=by
  unfold O4;rw [e1,hS];rfl
 have hs:=tI (D:=D) (n:=n) (ino:=a) (c:=c);by_cases h0:(I6 D n c a).2.getD 6 0=0
 ·unfold X7;rw [if_pos h0,e1,if_pos h0,e2]
 ·obtain ⟨s,hs'⟩:∃ s,s=O5 D n (cR (szV D n a)) 128 0 (O4 D n c a,blk D ((I6 D n c a).2.getD 6 0)):=⟨_,rfl⟩;have eC:X7 D n c a=dU s.1 ((I6 D n c a).2.getD 6 0) s.2:=by
   unfold X7;rw [if_neg h0,<-hs']
  have eE:X7 E n (c.wl x) a=dU (O5 E n (cR (szV D n a)) 128 0 ((O4 D n c a).wl x,blk E ((I6 D n c a).2.getD 6 0))).1 ((I6 D n c a).2.getD 6 0) (O5 E n (cR (szV D n a)) 128 0 ((O4 D n c a).wl x,blk E ((I6 D n c a).2.getD 6 0))).2:=by
   unfold X7;rw [e1,if_neg h0,e2,hS]
  have hf:=nO (D:=D) (n:=n) (many:=cR (szV D n a)) (e:=128) (k:=0) (s:=(O4 D n c a,blk D ((I6 D n c a).2.getD 6 0)));rw [<-hs'] at hf;have hfb:s.1.blocks.length=s.1.made.length:=by
   rw [hf.blocks,hf.made];show (I6 D n c a).1.blocks.length=(I6 D n c a).1.made.length;rw [hs.1.blocks,hs.1.made];exact hbm
  have key:s.2.length=256->O5 D n (cR (szV D n a)) 128 0 (O4 D n c a,s.2)=(s.1,s.2):=by
   intro hb;have:=B7h (D:=D) (n:=n) (many:=cR (szV D n a)) (e:=128) (k:=0) (c:=O4 D n c a) (b:=blk D ((I6 D n c a).2.getD 6 0)) (b':=s.2) (J3 hD) hb (by omega) λj _ _=>by rw [<-hs']
   rw [this,<-hs']
  have aK:=hB ((I6 D n c a).2.getD 6 0,s.2) (by rw [eC,A4i hfb];exact List.mem_append_right _ (List.mem_singleton.2 rfl));have aK:blk E ((I6 D n c a).2.getD 6 0)=blk D ((I6 D n c a).2.getD 6 0)\/blk E ((I6 D n c a).2.getD 6 0)=s.2:=aK;rw [eE,eC,C3b hl,C6k];rcases aK with h | h
  ·rw [h,<-hs'];rfl
  ·rw [h,key (by rw [<-h];exact J3 hOE)];rfl
def C3T {a:Int}:∀ {L:List Ent} {s:Cl × (List UInt8->Option Int)},s.1.row <+: (P8 D n a s L).1.row
 | [],s=>E0a _
 | e::L,s=>by
  have h3:s.1.row <+: (K2 D n a s e).1.row:=by
   unfold K2 aI;cases R9 D n s.1 e.2 with
   | false=>exact E0a _
   | true =>
    show s.1.row <+: (bif (s.1.par e.2).isSome then A0W s.1 e.2 else C07 (A0W s.1 e.2) a e.2).row;cases (s.1.par e.2).isSome with
    | true=>exact E0a _
    | false=>exact List.prefix_append _ _
  exact h3.trans (C3T (L:=L) (s:=K2 D n a s e))
structure Gro (c c':Cl) (a:Int):Prop where
 row:c.row <+: c'.row
 bm:c'.blocks.length=c'.made.length
 put:∀ q∈nR c,q∈nR c'
 il:c'.ino.length=c.ino.length
 ino:∀ j:Nat,j≠a.toNat->c'.ino.getD j []=c.ino.getD j []
def getD_set_ne {l:List (List Int)} {i j:Nat} {x:List Int} (h:j≠i):(l.set i x).getD j []=l.getD j []:=by
 rw [D9z,E0o (by omega),<-D9z]
def A8y {l:List (List Int)} {i:Nat} {x:List Int} (h:i<l.length):(l.set i x).getD i []=x:=by
 rw [D9z,List.getElem?_set,if_pos rfl,if_pos h];rfl
def D1i {c:Cl} {no:Int} {b:List UInt8}:(dU c no b).ino=c.ino:=rfl
def B5H {a no d:Int} {t:List Int}:(X4 D n c a no d t).ino=c.ino:=by
 have hs:=bW (D:=D) (n:=n) (L:=J0 (W5 d t) (C4 (L6 d t))) (s:=(c,W5 d t));have eb:R3 D n (c,W5 d t) (J0 (W5 d t) (C4 (L6 d t)))=F9 D n c d t:=rfl;rw [eb] at hs;unfold X4;rw [B7c,D1i];have:=C3P (D:=D) (n:=n) (a:=a) (L:=W7 D (L6 d t::(F9 D n c d t).2) (J0 (F9 D n c d t).2 (C4 (L6 d t)))) (s:=((F9 D n c d t).1,λ_=>A7));have et:P8 D n a ((F9 D n c d t).1,λ_=>A7) (W7 D (L6 d t::(F9 D n c d t).2) (J0 (F9 D n c d t).2 (C4 (L6 d t))))=bodyT D n c a d t:=rfl;rw [et] at this;rw [this];exact hs.ino
def D0D {a no d:Int} {t:List Int}:c.row <+: (X4 D n c a no d t).row:=by
 have hs:=bW (D:=D) (n:=n) (L:=J0 (W5 d t) (C4 (L6 d t))) (s:=(c,W5 d t));have eb:R3 D n (c,W5 d t) (J0 (W5 d t) (C4 (L6 d t)))=F9 D n c d t:=rfl;rw [eb] at hs;unfold X4;rw [nM.1,B54];have:=C3T (D:=D) (n:=n) (a:=a) (L:=W7 D (L6 d t::(F9 D n c d t).2) (J0 (F9 D n c d t).2 (C4 (L6 d t)))) (s:=((F9 D n c d t).1,λ_=>A7));have et:P8 D n a ((F9 D n c d t).1,λ_=>A7) (W7 D (L6 d t::(F9 D n c d t).2) (J0 (F9 D n c d t).2 (C4 (L6 d t))))=bodyT D n c a d t:=rfl;rw [et] at this;have e:(F9 D n c d t).1.row=c.row:=hs.row;rw [<-e];exact this
def D2O {a:Int} (hbm:c.blocks.length=c.made.length):Gro c (nN D n c a) a/\(a.toNat<c.ino.length->(nN D n c a).ino.getD a.toNat []=2::1::0::(c.par a).getD 0::(K7 D n c a).2::zI 6):=by
 have hs:=zR (D:=D) (n:=n) (ino:=a) (c:=c);refine ⟨⟨?_,?_,?_,?_,λj hj=>?_⟩,λh=>?_⟩
 ·show c.row <+: (K7 D n c a).1.row;rw [hs.row];exact E0a _
 ·show (K7 D n c a).1.blocks.length=(K7 D n c a).1.made.length;rw [hs.blocks,hs.made];exact hbm
 ·show ∀ q∈nR c,q∈(K7 D n c a).1.blocks.zip (K7 D n c a).1.made;rw [hs.blocks,hs.made];exact λq h=>h
 ·show ((K7 D n c a).1.ino.set _ _).length=_;rw [E0c,hs.ino]
 ·show ((K7 D n c a).1.ino.set _ _).getD j []=_;rw [getD_set_ne hj,hs.ino]
 ·show ((K7 D n c a).1.ino.set _ _).getD a.toNat []=_;rw [A8y (by rw [hs.ino];exact h)]
def B3s {a:Int} (hbm:c.blocks.length=c.made.length):Gro c (rF D n c a) a/\(a.toNat<c.ino.length->(rF D n c a).ino.getD a.toNat []=2::1::0::(c.par a).getD 0::(K7 D n c a).2::zI 6):=by
 obtain ⟨g,hy⟩:=D2O (D:=D) (n:=n) (a:=a) hbm;by_cases h0:(K7 D n c a).2=0
 ·rw [A3W h0];exact ⟨g,hy⟩
 ·rw [A3V h0];obtain ⟨p1,p2⟩:=B5I (D:=D) (n:=n) (a:=a) (no:=(K7 D n c a).2) (d:=getD (blk D (K7 D n c a).2)) (t:=O6 (blk D (K7 D n c a).2) 32) g.bm;refine ⟨⟨g.row.trans D0D,p2,λq hq=>?_,by rw [B5H];exact g.il,λj hj=>by rw [B5H];exact g.ino j hj⟩,λh=>by rw [B5H];exact hy h⟩;rw [p1];exact List.mem_append_left _ (g.put q hq)
def B5V {a:Int} (hbm:c.blocks.length=c.made.length):Gro c (X7 D n c a) a/\(a.toNat<c.ino.length->(X7 D n c a).ino.getD a.toNat []=1::1::szV D n a::0::(I6 D n c a).2):=by
 have hs:=tI (D:=D) (n:=n) (ino:=a) (c:=c);have g:Gro c (O4 D n c a) a/\(a.toNat<c.ino.length->(O4 D n c a).ino.getD a.toNat []=1::1::szV D n a::0::(I6 D n c a).2):=by
  refine ⟨⟨?_,?_,?_,?_,λj hj=>?_⟩,λh=>?_⟩
  ·show c.row <+: (I6 D n c a).1.row;rw [hs.1.row];exact E0a _
  ·show (I6 D n c a).1.blocks.length=(I6 D n c a).1.made.length;rw [hs.1.blocks,hs.1.made];exact hbm
  ·show ∀ q∈nR c,q∈(I6 D n c a).1.blocks.zip (I6 D n c a).1.made;rw [hs.1.blocks,hs.1.made];exact λq h=>h
  ·show ((I6 D n c a).1.ino.set _ _).length=_;rw [E0c,hs.1.ino]
  ·show ((I6 D n c a).1.ino.set _ _).getD j []=_;rw [getD_set_ne hj,hs.1.ino]
  ·show ((I6 D n c a).1.ino.set _ _).getD a.toNat []=_;rw [A8y (by rw [hs.1.ino];exact h)]
 by_cases h0:(I6 D n c a).2.getD 6 0=0
 ·unfold X7;rw [if_pos h0];exact g
 ·have hf:=nO (D:=D) (n:=n) (many:=cR (szV D n a)) (e:=128) (k:=0) (s:=(O4 D n c a,blk D ((I6 D n c a).2.getD 6 0)));unfold X7;rw [if_neg h0];obtain ⟨g,hy⟩:=g;have hfb:(O5 D n (cR (szV D n a)) 128 0 (O4 D n c a,blk D ((I6 D n c a).2.getD 6 0))).1.blocks.length=(O5 D n (cR (szV D n a)) 128 0 (O4 D n c a,blk D ((I6 D n c a).2.getD 6 0))).1.made.length:=by
   rw [hf.blocks,hf.made];exact g.bm
  dsimp only at hf;generalize O5 D n (cR (szV D n a)) 128 0 (O4 D n c a,blk D ((I6 D n c a).2.getD 6 0))=s at hf hfb ⊢;refine ⟨⟨?_,?_,λq hq=>?_,?_,λj hj=>?_⟩,λh=>?_⟩
  ·show c.row <+: s.1.row;rw [hf.row];exact g.row
  ·show (s.1.blocks++[_]).length=(s.1.made++[_]).length;rw [D9A,D9A,hfb];rfl
  ·rw [A4i hfb];refine List.mem_append_left _ ?_;show q∈s.1.blocks.zip s.1.made;rw [hf.blocks,hf.made];exact g.put q hq
  ·show s.1.ino.length=_;rw [hf.ino];exact g.il
  ·show s.1.ino.getD j []=_;rw [hf.ino];exact g.ino j hj
  ·show s.1.ino.getD a.toNat []=_;rw [hf.ino];exact hy h
def A82 {a:Int} (hbm:c.blocks.length=c.made.length):Gro c (W0 D n c a) a:=by
 unfold W0;split
 ·exact (B5V hbm).1
 ·exact (B3s hbm).1
end
def D8p (D E:Dev) (n a:Int) (y:List Int):Prop:=(kdV E n a=kdV D n a/\szV E n a=szV D n a/\drV E n a=drV D n a)\/(kdV E n a=y.getD 0 0/\szV E n a=y.getD 2 0/\drV E n a=y.drop 4)
structure Half (D E:Dev) (n:Int) (F:Cl):Prop where
 okD:okD D
 okE:Go.Proofs.YtbnkgnfhgbhblaaGreat.okD E
 len:E.length=D.length
 ino:∀ a∈F.row,D8p D E n a (F.ino.getD a.toNat [])
 good:∀ no,N9 D.length n no=A5->O0 (blk E no)=A5->O0 (blk D no)=A5
 kd:∀ i,i≠1->kdV E n i=kdV D n i\/(i ∉ F.row/\kdV E n i=0)
 put:∀ q∈nR F,blk E q.1=blk D q.1\/blk E q.1=q.2
section
variable {D E:Dev} {n:Int} {F:Cl}
def D5s {c:Cl} {a x:Int} (H:Half D E n F) (w:RowW n c) (hbm:c.blocks.length=c.made.length) (ha:a∈F.row) (hal:a.toNat<c.ino.length)
  (hy:F.ino.getD a.toNat []=(W0 D n c a).ino.getD a.toNat []) (hR:∀ i∈(W0 D n c a).row,i∈F.row) (hB:∀ q∈nR (W0 D n c a),q∈nR F) :
  ∃ x',W0 E n (c.wl x) a=(W0 D n c a).wl x':=by
 have hI:=H.ino a ha;rw [hy] at hI;by_cases hc:a≠1/\kdV D n a=1
 ·have e:W0 D n c a=X7 D n c a:=by unfold W0;rw [if_pos hc]
  rw [e] at hI hB ⊢;have hyy:=(B5V (D:=D) (n:=n) (a:=a) hbm).2 hal;rw [hyy] at hI;have hcE:kdV E n a=1:=by
   rcases hI with ⟨h,_⟩ | ⟨h,_⟩
   ·rw [h];exact hc.2
   ·rw [h];rfl
  refine ⟨x,?_⟩;unfold W0;rw [if_pos ⟨hc.1,hcE⟩];refine D2Z H.okD H.okE H.len hbm ?_ ?_ λq hq=>H.put q (hB q hq)
  ·rcases hI with ⟨_,h,_⟩ | ⟨_,h,_⟩
   ·exact h
   ·rw [h];rfl
  ·rcases hI with ⟨_,_,h⟩ | ⟨_,_,h⟩
   ·exact .inl h
   ·exact .inr (by rw [h];rfl)
 ·have e:W0 D n c a=rF D n c a:=by unfold W0;rw [if_neg hc]
  rw [e] at hI hB hR ⊢;have hyy:=(B3s (D:=D) (n:=n) (a:=a) hbm).2 hal;rw [hyy] at hI;have hcE:¬ (a≠1/\kdV E n a=1):=by
   rintro ⟨h1,h2⟩;rcases hI with ⟨h,_⟩ | ⟨h,_⟩
   ·rw [h] at h2;exact hc ⟨h1,h2⟩
   ·rw [h] at h2;exact absurd (show (2:Int)=1 from h2) (by decide)
  have eE:W0 E n (c.wl x) a=rF E n (c.wl x) a:=by unfold W0;rw [if_neg hcE]
  rw [eE];refine D41 H.len w hbm ?_ H.good H.kd hR λq hq=>H.put q (hB q hq)
  rcases hI with ⟨h1,_,h3⟩ | ⟨h1,_,h3⟩
  ·exact .inl ⟨h1,h3⟩
  ·exact .inr ⟨h1,h3⟩
def B8M:∀ {e i:Nat} {c:Cl},c.blocks.length=c.made.length->c.row <+: (ofR D n e i c).row/\(ofR D n e i c).blocks.length=(ofR D n e i c).made.length/\(∀ q∈nR c,q∈nR (ofR D n e i c))/\(ofR D n e i c).ino.length=c.ino.length
 | 0,_,c,h=>⟨E0a _,h,λ_ h=>h,rfl⟩
 | e+1,i,c,h=>by
  unfold ofR;cases hc:c.row[i]? with
  | none=>exact ⟨E0a _,h,λ_ h=>h,rfl⟩
  | some a =>
   have g:=A82 (D:=D) (n:=n) (a:=a) h;obtain ⟨h1,h2,h3,h4⟩:=B8M (e:=e) (i:=i+1) g.bm;exact ⟨g.row.trans h1,h2,λq hq=>h3 q (g.put q hq),h4.trans g.il⟩
def A9G {l m:List Int} {i:Nat} {a:Int} (h:l <+: m) (hi:l[i]?=A4 a):m[i]?=A4 a:=by
 obtain ⟨t,rfl⟩:=h;rw [D94 (List.getElem?_eq_some_iff.1 hi).1];exact hi
def B8N {a:Int} (ha:1<=a):∀ {e i:Nat} {c:Cl},RowW n c->c.blocks.length=c.made.length->(∀ j,i<=j->(ofR D n e i c).row[j]?≠A4 a)->(ofR D n e i c).ino.getD a.toNat []=c.ino.getD a.toNat []
 | 0,_,_,_,_,_=>rfl
 | e+1,i,c,w,h,hn=>by
  unfold ofR at hn ⊢;cases hc:c.row[i]? with
  | none=>rfl
  | some b =>
   rw [hc] at hn;have g:=A82 (D:=D) (n:=n) (a:=b) h;have hg:=(B8M (D:=D) (n:=n) (e:=e) (i:=i+1) g.bm).1;have hb:=A9G (g.row.trans hg) hc;have Z5:b≠a:=λe=>hn i (D9x _) (by rw [<-e];exact hb)
   have hb1:=(w.rg b (D9S hc)).1;have ih:=B8N ha (e:=e) (i:=i+1) (mQ w) g.bm λj hj=>hn j (by omega)
   exact ih.trans (g.ino _ (by omega))
def B4c:∀ {e i:Nat} {c:Cl},RowW n c->RowW n (ofR D n e i c)
 | 0,_,_,h=>h
 | e+1,i,c,h=>by
  unfold ofR;cases hc:c.row[i]? with
  | none=>exact h
  | some a=>exact B4c (mQ h)
def D3K:∀ {e i:Nat} {c:Cl} {x:Int},RowW n c->c.blocks.length=c.made.length->c.ino.length=(n+1).toNat->Half D E n (ofR D n e i c)->∃ x',ofR E n e i (c.wl x)=(ofR D n e i c).wl x'
 | 0,_,c,x,_,_,_,_=>⟨x,rfl⟩
 | e+1,i,c,x,w,h,L8,H=>by
  unfold ofR at H ⊢;show ∃ x',(match c.row[i]? with
   | none=>c.wl x
   | some a=>ofR E n e (i+1) (W0 E n (c.wl x) a))=_
  cases hc:c.row[i]? with
  | none=>exact ⟨x,rfl⟩
  | some a =>
   rw [hc] at H;have H:Half D E n (ofR D n e (i+1) (W0 D n c a)):=H;have g:=A82 (D:=D) (n:=n) (a:=a) h;obtain ⟨h1,h2,h3,h4⟩:=B8M (D:=D) (n:=n) (e:=e) (i:=i+1) g.bm;have hrg:=w.rg a (D9S hc);have hat:=A9G (g.row.trans h1) hc;have wF:=B4c (D:=D) (n:=n) (e:=e) (i:=i+1) (mQ (D:=D) (ino:=a) w);have D8J:=B8N (D:=D) (n:=n) hrg.1 (e:=e) (i:=i+1) (mQ (D:=D) (ino:=a) w) g.bm λj hj he=>by
    have:=(List.getElem?_inj (List.getElem?_eq_some_iff.1 hat).1 wF.nd).1 (hat.trans he.symm);omega
   obtain ⟨x1,e1⟩:=D5s (x:=x) H w h (D9S hat) (by omega) D8J (λi hi=>h1.subset hi) h3;show ∃ x',ofR E n e (i+1) (W0 E n (c.wl x) a)=(ofR D n e (i+1) (W0 D n c a)).wl x';rw [e1];exact D3K (mQ w) g.bm (g.il.trans L8) H
end
def oS:List Int->List (List UInt8)->Int->List UInt8->List UInt8
 | no::l,b::m,x,a=>oS l m x (if no=x then b else a)
 | _,_,_,a=>a
def C9l (ino:List (List Int)) (b:Nat):Nat->Nat->List UInt8->List UInt8
 | 0,_,a=>a
 | e+1,k,a=>C9l ino b e (k+1) (G0 a (32*k) (A94 (ino.getD (b+k) [])))
def C2r (D:Dev) (n:Int) (c:Cl) (i:Nat):List UInt8 :=
 if B0t D.length n i=3 then C9l c.ino (8*(i-2)+1) 8 0 (zeros 256) else oS c.blocks c.made i (D.getD i [])
def B4j {O:Dev} {no:Int} {b:List UInt8} {i:Nat} (hi:i<O.length):(gE O no b)[i]?=if no=i then A4 b else O[i]? := by
 unfold gE;by_cases h:0<=no/\no<O.length
 ·rw [if_pos h,List.getElem?_set];by_cases e:no=i
  ·rw [if_pos (by omega),if_pos (by omega),if_pos e]
  ·rw [if_neg (by omega),if_neg e]
 ·rw [if_neg h,if_neg (by omega)]
def C3y {i:Nat}:∀ {l:List Int} {m:List (List UInt8)} {O:Dev},i<O.length->(B7x O l m)[i]?=(O[i]?).map (oS l m i)
 | [],_,O,hi=>by rw [B6g,D9u hi];rfl
 | _::_,[],O,hi=>by rw [D9u hi];exact D9u hi
 | no::l,b::m,O,hi=>by
  have ih:=C3y (i:=i) (l:=l) (m:=m) (O:=gE O no b) (by rw [Y6];exact hi);rw [B4j hi] at ih;refine ih.trans ?_;rw [D9u hi];split<;>rename_i e
  ·show A4 _=A4 (oS l m i (if no=i then b else O[i]));rw [if_pos e]
  ·show A4 _=A4 (oS l m i (if no=i then b else O[i]));rw [if_neg e]
def C1I {i:Nat}:∀ {e:Nat} {no:Int} {O:Dev},i<O.length->(B2d O no e)[i]?=if no<=i/\i<no+e then A4 (zeros 256) else O[i]?
 | 0,no,O,hi=>by rw [if_neg (by omega)];rfl
 | e+1,no,O,hi=>by
  have ih:=C1I (i:=i) (e:=e) (no:=no+1) (O:=gE O no (zeros 256)) (by rw [Y6];exact hi);rw [B4j hi] at ih;refine ih.trans ?_;by_cases h1:no=i
  ·rw [if_neg (by omega),if_pos h1,if_pos (by omega)]
  ·rw [if_neg h1];by_cases h2:no+1<=i/\i<no+1+e
   ·rw [if_pos h2,if_pos (by omega)]
   ·rw [if_neg h2,if_neg (by omega)]
def stI (b n:Int) (j:Nat) (i:Nat) (x:List Int) (a:List UInt8):List UInt8 :=
 if P9 b n i=A5/\W1 b n i=j then G0 a (32*(gF b n i).toNat) (A94 x) else a
def foldI (b n:Int) (j:Nat):Nat->List (List Int)->List UInt8->List UInt8
 | _,[],a=>a
 | i,x::l,a=>foldI b n j (i+1) l (stI b n j i x a)
def C3j {n:Int} {j:Nat} (hn:n<=128):∀ {l:List (List Int)} {i:Nat} {O:Dev},okD O->(∀ x∈l,x.length=11)->j<O.length->(B3Q n O i l)[j]?=(O[j]?).map (foldI O.length n j i l)
 | [],_,O,h,_,hj=>by rw [D9u hj];exact D9u hj
 | x::l,i,O,h,hx,hj=>by
  obtain ⟨h1,h2⟩:=C4F (n:=n) (i:=i) h (hx x (D9I ..)) hn;have ih:=C3j (n:=n) (j:=j) hn (l:=l) (i:=i+1) (O:=B52 n O i x) h1 (λy hy=>hx y (D9F _ hy)) (by rw [h2];exact hj);rw [h2] at ih;refine ih.trans ?_;have e:(B52 n O i x)[j]?=A4 (stI O.length n j i x O[j]):=by
   unfold B52 stI;cases hc:P9 O.length n i with
   | false=>rw [if_neg (by decide),if_neg (λe=>by cases e.1)];exact D9u hj
   | true =>
    rw [if_pos rfl,B4j hj];by_cases e:W1 O.length n i=j
    ·rw [if_pos e,if_pos ⟨rfl,e⟩,e,A76 hj]
    ·rw [if_neg e,if_neg (λq=>e q.2)];exact D9u hj
  rw [e,D9u hj];rfl
section
variable {b n:Int} {j:Nat}
def A5A:∀ {l m:List (List Int)} {i:Nat} {a:List UInt8},foldI b n j i (l++m) a=foldI b n j (i+l.length) m (foldI b n j i l a)
 | [],m,i,a=>rfl
 | x::l,m,i,a=>by
  show foldI b n j (i+1) (l++m) _=foldI b n j (i+(l.length+1)) m (foldI b n j (i+1) l _);rw [A5A,show i+1+l.length=i+(l.length+1) by omega]
def A5B:∀ {l:List (List Int)} {i:Nat} {a:List UInt8},(∀ k:Nat,i<=k->k<i+l.length->¬ (P9 b n k=A5/\W1 b n k=j))->foldI b n j i l a=a
 | [],i,a,_=>rfl
 | x::l,i,a,h=>by
  have e:stI b n j i x a=a:=by unfold stI;rw [if_neg (h i (D9x _) (by simp))]
  show foldI b n j (i+1) l (stI b n j i x a)=a;rw [e];exact A5B λk h1 h2=>h k (by omega) (by simp at h2 ⊢;omega)
def C3c (hm:P5 b n=A5) (hj:2<=j) (hn:8*(j-2)+8<=n.toNat) {ino:List (List Int)} :
  ∀ {e k:Nat} {a:List UInt8},k+e=8->8*(j-2)+9<=ino.length->foldI b n j (8*(j-2)+1+k) ((ino.drop (8*(j-2)+1+k)).take e) a=C9l ino (8*(j-2)+1) e k a
 | 0,k,a,_,_=>by rw [E0z];rfl
 | e+1,k,a,hk,hl=>by
  have T1:8*(j-2)+1+k<ino.length:=by omega
  rw [D9E T1,List.take_succ_cons];obtain ⟨_,_,n8,_⟩:=H5.1 hm;have hi:P9 b n ((8*(j-2)+1+k:Nat):Int)=A5:=U7.2 ⟨hm,by omega,by omega⟩;have hw:W1 b n ((8*(j-2)+1+k:Nat):Int)=j:=by unfold W1;rw [hi];simp only [cond_true];omega
  have hk2:(gF b n ((8*(j-2)+1+k:Nat):Int)).toNat=k:=by unfold gF;rw [hi];simp only [cond_true];omega
  have es:stI b n j (8*(j-2)+1+k) ino[8*(j-2)+1+k] a=G0 a (32*k) (A94 (ino.getD (8*(j-2)+1+k) [])):=by
   unfold stI;rw [if_pos ⟨hi,hw⟩,hk2,D9z,D9u T1];rfl
  show foldI b n j (8*(j-2)+1+k+1) _ (stI b n j _ _ a)=C9l ino (8*(j-2)+1) e (k+1) _;rw [es];exact C3c hm hj hn (k:=k+1) (by omega) hl
end
def D7t {l:List (List Int)} {q:Nat}:l=l.take q++((l.drop q).take 8++l.drop (q+8)):=by
 have e:l.drop (q+8)=(l.drop q).drop 8:=by rw [E0t]
 rw [e,List.take_append_drop,List.take_append_drop]
def B3F {D:Dev} {n:Int} {c:Cl} {i:Nat} (hD:okD D) (hm:P5 D.length n=A5) (ok:ImgOk D n c) (L8:c.ino.length=(n+1).toNat) (hi:i<D.length) :
  (kK D n c)[i]?=A4 (if i=1 then jG (B8z 0 c.taken) else C2r D n c i):=by
 obtain ⟨b16,b512,n8,n128,nm8,nb⟩:=H5.1 hm;have hx:∀ x∈c.ino,x.length=11:=λx hx=>(ok.ino x hx).1
 obtain ⟨ok1,l1⟩:=A86 (l:=c.blocks) (m:=c.made) hD ok.md;obtain ⟨ok2,l2⟩:=A4p (e:=(A06 D.length n).toNat) (no:=rM D.length n) ok1;obtain ⟨ok3,l3⟩:=A8N (n:=n) n128 (l:=c.ino) (i:=0) ok2 hx;have eF:rM D.length n=2:=by unfold rM;rw [hm];rfl
 have eN:A06 D.length n=n/8:=by unfold A06;rw [hm];rfl
 unfold kK;rw [B4j (by rw [l3,l2,l1];exact hi)];by_cases h1:i=1
 ·rw [if_pos (by omega),if_pos h1]
 ·rw [if_neg (by omega),if_neg h1,C3j n128 ok2 hx (by rw [l2,l1];exact hi),l2,l1,C1I (by rw [l1];exact hi),C3y hi,D9u hi,eF,eN];unfold C2r;have eD:D.getD i []=D[i]:=by rw [D9z,D9u hi];rfl
  by_cases ha:B0t D.length n i=3
  ·have h3:2<=i/\((i:Int)-2)*8<n:=by
    unfold B0t at ha;split at ha
    ·split at ha
     ·omega
     ·split at ha<;>omega
    ·omega
   rw [if_pos ha,if_pos (by omega)];have hs:c.ino=c.ino.take (8*(i-2)+1)++((c.ino.drop (8*(i-2)+1)).take 8++c.ino.drop (8*(i-2)+1+8)):=D7t;show A4 (foldI D.length n i 0 c.ino (zeros 256))=_;rw [hs,A5A,A5A];have t1:(c.ino.take (8*(i-2)+1)).length=8*(i-2)+1:=by rw [D91];omega
   have t2:((c.ino.drop (8*(i-2)+1)).take 8).length=8:=by rw [D91,E0f];omega
   rw [A5B (l:=c.ino.take (8*(i-2)+1)),t1,D9T,t2]
   ·have:=C3c (b:=D.length) (n:=n) (j:=i) hm h3.1 (by omega) (ino:=c.ino) (e:=8) (k:=0) (a:=zeros 256) rfl (by omega);rw [E0D] at this;rw [this,A5B,<-hs];intro k k1 k2 q;have q2:=q.2;unfold W1 at q2;rw [q.1] at q2;simp only [cond_true] at q2;omega
   ·intro k k1 k2 q;have q2:=q.2;unfold W1 at q2;rw [q.1] at q2;simp only [cond_true] at q2;rw [t1] at k2;have:=(U7.1 q.1).2.1;omega
  ·rw [if_neg ha,if_neg (λq=>ha ?_)]
   ·show A4 (foldI D.length n i 0 c.ino _)=_;rw [A5B,eD];intro k k1 k2 q;refine ha ?_;have q2:=q.2;unfold W1 at q2;rw [q.1] at q2;simp only [cond_true] at q2;obtain ⟨_,q3,q4⟩:=U7.1 q.1;unfold B0t;rw [if_pos ⟨hm,by omega,by omega⟩,if_neg (by omega),if_pos (by omega)]
   ·unfold B0t;rw [if_pos ⟨hm,by omega,by omega⟩,if_neg (by omega),if_pos (by omega)]
def jF {w:Nat} {v:Int} (h0:0<=v) (h1:v<256 ^ w):((le (C6 w v):Nat):Int)=v:=by
 rw [A9z,Int.emod_eq_of_lt h0 h1]
def A8q {a w:Nat} {x:List UInt8} {y z:List UInt8} (hx:x.length=a) (hy:y.length=w):fieldN (x++(y++z)) a w=((le y:Nat):Int):=by
 unfold fieldN;rw [E0s hx,E0x hy]
def C8D {d:List Int} {i:Nat} (hi:i<d.length):mP d=mP (d.take i)++(C6 2 d[i]++mP (d.drop (i+1))):=by
 have h:d=d.take i++(d[i]::d.drop (i+1)):=by rw [<-D9E hi,List.take_append_drop]
 have e:mP (d.take i++(d[i]::d.drop (i+1)))=mP (d.take i)++(C6 2 d[i]++mP (d.drop (i+1))):=by
  simp only [mP,E0h,List.flatten_append,E0d,E0l]
 rw [<-e,<-h]
def C0O {k l s p:Int} {d:List Int} (hm:A0Y k l s p d=A5):(0<=k/\k<=2)/\(0<=l/\l<=65535)/\(0<=s/\s<=34304)/\(0<=p/\p<=65535)/\∀ x∈d,0<=x/\x<=65535:=by
 unfold A0Y at hm;split at hm
 ·have:=of_decide_eq_true hm;obtain ⟨rfl,rfl,rfl,rfl⟩:=this;refine ⟨by omega,by omega,by omega,by omega,λx hx=>?_⟩;have:=(List.mem_replicate.1 hx).2;omega
 ·unfold B4n at hm;simp only [D9v,decide_eq_true_eq,A16,E0k] at hm;obtain ⟨h1,h2,h3,h4,h5⟩:=hm;exact ⟨h1,h2,h4,h3,h5⟩
def C9O {k l s p:Int} {d:List Int} (hd:d.length=7) (hm:A0Y k l s p d=A5) :
  A6M (Z6 k l s p d)=k/\A8z (Z6 k l s p d)=l/\A8B (Z6 k l s p d)=s/\A8A (Z6 k l s p d)=p/\W6 (Z6 k l s p d)=d:=by
 obtain ⟨h1,h2,h3,h4,h5⟩:=C0O hm;have eK:Z6 k l s p d=[]++(C6 1 k++(zeros 1++C6 2 l++C6 4 s++C6 2 p++mP d++zeros 8)):=by simp [Z6,A1d]
 have eL:Z6 k l s p d=(C6 1 k++zeros 1)++(C6 2 l++(C6 4 s++C6 2 p++mP d++zeros 8)):=by simp [Z6,A1d]
 have eS:Z6 k l s p d=(C6 1 k++zeros 1++C6 2 l)++(C6 4 s++(C6 2 p++mP d++zeros 8)):=by simp [Z6,A1d]
 have eP:Z6 k l s p d=(C6 1 k++zeros 1++C6 2 l++C6 4 s)++(C6 2 p++(mP d++zeros 8)):=by simp [Z6,A1d]
 refine ⟨?_,?_,?_,?_,?_⟩
 ·unfold A6M;rw [eK,A8q (by simp) (by simp),jF h1.1 (by omega)]
 ·unfold A8z;rw [eL,A8q (by simp) (by simp),jF h2.1 (by omega)]
 ·unfold A8B;rw [eS,A8q (by simp) (by simp),jF h3.1 (by omega)]
 ·unfold A8A;rw [eP,A8q (by simp) (by simp),jF h4.1 (by omega)]
 ·refine E0q λi=>?_
  by_cases hi:i<7
  ·rw [B5Y hi,D9u (by omega)];have lQ:=h5 d[i] (D9Y (by omega));have e:Z6 k l s p d=(A1d k l s p++mP (d.take i))++(C6 2 d[i]++(mP (d.drop (i+1))++zeros 8)):=by
    unfold Z6;rw [C8D (d:=d) (i:=i) (by omega)];simp
   rw [e,A8q (by rw [D9A,jD,oN,D91];omega) (by simp),jF lQ.1 (by omega)]
  ·rw [D9W (by rw [I9];omega),D9W (by omega)]
def D0J {k l s p:Int} {d:List Int} (hd:d.length=7) (hm:A0Y k l s p d=A5):gA (Z6 k l s p d)=A5/\lO (Z6 k l s p d)=D4 k l s p d:=by
 obtain ⟨h1,h2,h3,h4,h5⟩:=C9O hd hm;have hc:gA (Z6 k l s p d)=A5:=by
  unfold gA;rw [h1,h2,h3,h4,h5,hm];simp
 refine ⟨hc,?_⟩;unfold lO;rw [hc,h1,h2,h3,h4,h5];rfl
def D3X {b xs:List UInt8} {j i:Nat} (hb:b.length=256) (hx:xs.length=32) (hj:j<8) (hi:i<8):jJ (G0 b (32*j) xs) i=if i=j then xs else jJ b i:=by
 have hl:(G0 b (32*j) xs).length=256:=by rw [K5 (by omega),hb]
 apply E0q;intro n;by_cases hn:n<32
 ·have e1:∀ c:List UInt8,(jJ c i)[n]?=c[32*i+n]? := λc=>by simp [jJ,hn]
  rw [e1,C0K (by omega),hx];by_cases c:i=j
  ·subst c;rw [if_pos (by omega),if_pos rfl]
   congr 1;omega
  ·rw [if_neg (by omega),if_neg c,e1]
 ·have h1:=vZ (b:=G0 b (32*j) xs) hl hi;have h2:=vZ hb hi;rw [D9W (by omega),D9W];split<;>omega
def A9E {x:Int}:∀ {l:List Int} {m:List (List UInt8)} {a:List UInt8},x ∉ l->oS l m x a=a
 | [],m,a,_=>by cases m<;>rfl
 | _::_,[],a,_=>rfl
 | no::l,b::m,a,h=>by
  show oS l m x (if no=x then b else a)=a;rw [if_neg (λe=>h (by rw [<-e];exact D9I ..))];exact A9E λh2=>h (D9F _ h2)
def C67 {x:Int} {b:List UInt8}:∀ {l:List Int} {m:List (List UInt8)} {a:List UInt8},l.Nodup->(x,b)∈l.zip m->oS l m x a=b
 | [],_,_,_,h=>by cases h
 | _::_,[],_,_,h=>by cases h
 | no::l,b'::m,a,hn,h=>by
  obtain ⟨h1,h2⟩:=List.nodup_cons.1 hn;show oS l m x (if no=x then b' else a)=b;rcases List.mem_cons.1 (show (x,b)∈(no,b')::l.zip m from h) with e | h3
  ·cases e;rw [if_pos rfl];exact A9E h1
  ·exact C67 h2 h3
def C68 {x:Int}:∀ {l:List Int} {m:List (List UInt8)},(∀ a,oS l m x a=a)\/∃ b,∀ a,oS l m x a=b
 | [],m=>.inl λa=>by cases m<;>rfl
 | _::_,[]=>.inl λa=>rfl
 | no::l,b::m=>by
  rcases C68 (x:=x) (l:=l) (m:=m) with h | ⟨b',h⟩
  ·by_cases e:no=x
   ·refine .inr ⟨b,λa=>?_⟩;show oS l m x (if no=x then b else a)=b;rw [if_pos e,h]
   ·refine .inl λa=>?_
    show oS l m x (if no=x then b else a)=a;rw [if_neg e,h]
  ·exact .inr ⟨b',λa=>h _⟩
def C8U {x:Int} {l:List Int} {m:List (List UInt8)} {a:List UInt8}:oS l m x (oS l m x a)=oS l m x a:=by
 rcases C68 (x:=x) (l:=l) (m:=m) with h | ⟨b',h⟩
 ·rw [h,h]
 ·rw [h,h]
def C7F {ino:List (List Int)} {b i:Nat} (hi:i<8):∀ {e k:Nat} {a:List UInt8},a.length=256->k+e<=8->(∀ j,j<8->(ino.getD (b+j) []).length=11) ->
  jJ (C9l ino b e k a) i=if k<=i/\i<k+e then A94 (ino.getD (b+i) []) else jJ a i
 | 0,k,a,_,_,_=>by rw [if_neg (by omega)];rfl
 | e+1,k,a,ha,hk,h=>by
  have hx:=A8K (h k (by omega));show jJ (C9l ino b e (k+1) (G0 a (32*k) (A94 (ino.getD (b+k) [])))) i=_;rw [C7F hi (by rw [K5 (by rw [ha,hx];omega),ha]) (by omega) h,D3X ha hx (by omega) hi];by_cases e1:i=k
  ·subst e1;rw [if_neg (by omega),if_pos rfl,if_pos (by omega)]
  ·rw [if_neg e1];by_cases c:k+1<=i/\i<k+1+e
   ·rw [if_pos c,if_pos (by omega)]
   ·rw [if_neg c,if_neg (by omega)]
section
variable {D:Dev} {n:Int} {c:Cl}
def A9x (hD:okD D) (hm:P5 D.length n=A5) (ok:ImgOk D n c):(kK D n c).length=D.length:=by
 obtain ⟨_,_,_,n128,_⟩:=H5.1 hm;have hx:∀ x∈c.ino,x.length=11:=λx hx=>(ok.ino x hx).1
 obtain ⟨ok1,l1⟩:=A86 (l:=c.blocks) (m:=c.made) hD ok.md;obtain ⟨ok2,l2⟩:=A4p (e:=(A06 D.length n).toNat) (no:=rM D.length n) ok1;obtain ⟨ok3,l3⟩:=A8N (n:=n) n128 (l:=c.ino) (i:=0) ok2 hx;unfold kK;rw [Y6,l3,l2,l1]
def C4B (hD:okD D) (hm:P5 D.length n=A5) (ok:ImgOk D n c) (L8:c.ino.length=(n+1).toNat) {i:Nat} (hi:i<D.length) :
  blk (kK D n c) i=if i=1 then jG (B8z 0 c.taken) else C2r D n c i:=by
 have h:=B3F hD hm ok L8 hi;have hl:=A9x hD hm ok;rw [A76 (by rw [hl];exact hi)];rw [D9u (by rw [hl];exact hi)] at h;exact Option.some.inj h
def C9S (hD:okD D) (hm:P5 D.length n=A5) (ok:ImgOk D n c) (L8:c.ino.length=(n+1).toNat) {no:Int} (hd:N9 D.length n no=A5) :
  blk (kK D n c) no=oS c.blocks c.made no (blk D no):=by
 obtain ⟨_,h2,h3⟩:=A8O.1 hd;obtain ⟨b16,b512,n8,n128,nm8,nb⟩:=H5.1 hm;have hF:eV D.length n=2+n/8:=by unfold eV rM A06;rw [hm];rfl
 obtain ⟨k,rfl⟩:=E0i (show 0<=no by omega);rw [C4B hD hm ok L8 (by omega),if_neg (by omega)];unfold C2r;rw [if_neg ?_]
 ·congr 1
  rw [A76 (by omega),D9z,D9u (by omega)];rfl
 ·unfold B0t;rw [if_pos ⟨hm,by omega,by omega⟩,if_neg (by omega),if_neg (by omega)];decide
def C9T (hD:okD D) (hm:P5 D.length n=A5) (ok:ImgOk D n c) (L8:c.ino.length=(n+1).toNat) {i:Int} (hi:P9 D.length n i=A5) :
  wA (kK D n c) n i=A94 (c.ino.getD i.toNat []):=by
 obtain ⟨w2,wb,k0,k8⟩:=C3Y hi;obtain ⟨_,i1,i2⟩:=U7.1 hi;obtain ⟨b16,b512,n8,n128,nm8,nb⟩:=H5.1 hm;unfold wA;rw [A9x hD hm ok];have hB:W1 D.length n i=2+(i-1)/8:=by unfold W1;rw [hi];rfl
 have hK:gF D.length n i=(i-1)%8:=by unfold gF;rw [hi];rfl
 obtain ⟨k,hk⟩:=E0i (show 0<=W1 D.length n i by omega);rw [hk,C4B hD hm ok L8 (by omega),if_neg (by omega)];unfold C2r;rw [if_pos (by unfold B0t;rw [if_pos ⟨hm,by omega,by omega⟩,if_neg (by omega),if_pos (by omega)])];rw [C7F (by omega) zeros_length (by omega) ?_,if_pos (by omega)]
 ·congr 2;omega
 ·intro j hj;rw [D9z,D9u (by omega)];exact (ok.ino _ (D9Y _)).1
end
def D4s {D E:Dev} {n i:Int} (hl:E.length=D.length) (h:wA E n i=wA D n i):kdV E n i=kdV D n i/\szV E n i=szV D n i/\drV E n i=drV D n i:=by
 unfold kdV szV drV A93;rw [hl,h];exact ⟨rfl,rfl,rfl⟩
def C7L {E:Dev} {n i:Int} {y:List Int} (hi:P9 E.length n i=A5) (hy:C8I y) (h:wA E n i=A94 y):kdV E n i=y.getD 0 0/\szV E n i=y.getD 2 0/\drV E n i=y.drop 4:=by
 obtain ⟨hl,hm⟩:=hy;have hd:(y.drop 4).length=7:=by rw [E0f,hl]
 obtain ⟨g1,g2,g3,g4,g5⟩:=C9O hd hm;obtain ⟨hc,_⟩:=D0J hd hm;unfold kdV szV drV A93;rw [hi,h];unfold A94;rw [hc,g1,g3,g5];exact ⟨rfl,rfl,rfl⟩
structure Pend (D:Dev) (n:Int) (c:Cl) (Q:List Int):Prop where
 nd:(c.blocks++Q).Nodup
 dat:∀ no∈c.blocks++Q,N9 D.length n no=A5/\c.taken.getD no.toNat A5=A5
 bm:c.blocks.length=c.made.length
 good:∀ q∈nR c,O0 q.2=A5->O0 (blk D q.1)=A5
section
variable {D:Dev} {n:Int} {c:Cl} {Q:List Int}
def D1T {l:List Bool} {i j:Nat} (h:l.getD j A5=A5):(l.set i A5).getD j A5=A5:=by
 rw [D9z] at h ⊢;rw [List.getElem?_set];by_cases e:i=j
 ·rw [if_pos e];split<;>rfl
 ·rw [if_neg e];exact h
def C9m {l:List Bool} {i:Nat}:(l.set i A5).getD i A5=A5:=by
 rw [D9z,List.getElem?_set,if_pos rfl];split<;>rfl
def C53 {no:Int} (h:gB D n c no=A5):L5 D n c no={ c with taken:=c.taken.set no.toNat A5 }:=by unfold L5;rw [h];rfl
def C8g {no:Int} (h:gB D n c no=A5):N9 D.length n no=A5/\c.taken.getD no.toNat A5=A6:=by
 unfold gB at h;rw [D9v,E0e] at h;exact h
def Pend.same {c':Cl} (h:Pend D n c Q) (s:SameC c c') (ht:∀ j,c.taken.getD j A5=A5->c'.taken.getD j A5=A5):Pend D n c' Q:=by
 refine ⟨by rw [s.blocks];exact h.nd,λno aK=>?_,by rw [s.blocks,s.made];exact h.bm,?_⟩
 ·rw [s.blocks] at aK;exact ⟨(h.dat no aK).1,ht _ (h.dat no aK).2⟩
 ·unfold nR;rw [s.blocks,s.made];exact h.good
def A9q {no:Int} (j:Nat) (h:c.taken.getD j A5=A5):(L5 D n c no).taken.getD j A5=A5:=by
 cases hb:gB D n c no with
 | false=>rw [A5s hb];exact h
 | true=>rw [C53 hb];exact D1T h
def Pend.claimed {no:Int} (h:Pend D n c Q) (hb:gB D n c no=A5):Pend D n (L5 D n c no) (Q++[no]):=by
 obtain ⟨h1,h2⟩:=C8g hb;have hs:=tG D n c no;refine ⟨?_,λk hk=>?_,by rw [hs.blocks,hs.made];exact h.bm,?_⟩
 ·rw [hs.blocks,<-D9C,List.nodup_append];refine ⟨h.nd,by simp,λa ha b hb' e=>?_⟩;rw [List.mem_singleton.1 hb'] at e;have:=(h.dat a ha).2;rw [e,h2] at this;cases this
 ·rw [hs.blocks,<-D9C] at hk;rcases List.mem_append.1 hk with hk | hk
  ·exact ⟨(h.dat k hk).1,A9q _ (h.dat k hk).2⟩
  ·rw [List.mem_singleton.1 hk,C53 hb];exact ⟨h1,C9m⟩
 ·unfold nR;rw [hs.blocks,hs.made];exact h.good
def Pend.made {no:Int} {b:List UInt8} (h:Pend D n c (no::Q)) (hg:O0 b=A5->O0 (blk D no)=A5):Pend D n (dU c no b) Q:=by
 have e:c.blocks++no::Q=(c.blocks++[no])++Q:=by simp
 refine ⟨?_,λk hk=>?_,?_,λq hq=>?_⟩
 ·show ((c.blocks++[no])++Q).Nodup;rw [<-e];exact h.nd
 ·exact h.dat k (by rw [e];exact hk)
 ·show (c.blocks++[no]).length=(c.made++[b]).length;simp [h.bm]
 ·rw [A4i h.bm] at hq;rcases List.mem_append.1 hq with hq | hq
  ·exact h.good q hq
  ·rw [List.mem_singleton.1 hq];exact hg
def Pend.claims:∀ {L:List Int} {c:Cl} {Q:List Int},Pend D n c Q->Pend D n (B95 D n c L) (Q++Q4 D n c L)
 | [],c,Q,h=>by
  show Pend D n c (Q++[]);rw [D9Q];exact h
 | no::L,c,Q,h=>by
  cases hb:gB D n c no with
  | true =>
   have e2:Q4 D n c (no::L)=no::Q4 D n (L5 D n c no) L:=by show (if _ then _ else _)=_;rw [if_pos hb]
   rw [e2];have:=(h.claimed hb).claims (L:=L);rw [D9C] at this;exact this
  | false =>
   have e2:Q4 D n c (no::L)=Q4 D n c L:=by show (if _ then _ else _)=_;rw [if_neg (by rw [hb];decide)]
   rw [e2];have e3:B95 D n c (no::L)=B95 D n c L:=by show B95 D n (L5 D n c no) L=_;rw [A5s hb]
   rw [e3];exact h.claims
def A9w {d:List Int}:∀ {e k:Nat} {s:Cl × List Int} (j:Nat),s.1.taken.getD j A5=A5->(kF D n d e k s).1.taken.getD j A5=A5
 | 0,_,_,_,h=>h
 | e+1,k,s,j,h=>by
  rw [kF];exact A9w j (A9q j h)
def C8r {many:Int} {s:Cl × List UInt8} {k:Nat} (j:Nat) (h:s.1.taken.getD j A5=A5):(S6 D n many s k).1.taken.getD j A5=A5:=by
 unfold S6;split
 ·exact h
 ·dsimp only;split
  ·exact A9q j h
  ·exact h
def C0k {many:Int}:∀ {e k:Nat} {s:Cl × List UInt8} (j:Nat),s.1.taken.getD j A5=A5->(O5 D n many e k s).1.taken.getD j A5=A5
 | 0,_,_,_,h=>h
 | e+1,k,s,j,h=>by
  rw [O5];exact C0k j (C8r j h)
def C8m {a:Int} (h:Pend D n c []) (h0:(I6 D n c a).2.getD 6 0≠0):Pend D n (I6 D n c a).1 [(I6 D n c a).2.getD 6 0]:=by
 have hs:=A3X (D:=D) (n:=n) (d:=drV D n a) (e:=(min (cR (szV D n a)) 6).toNat) (k:=0) (s:=(c,zI 7));have h6:=B1Q (D:=D) (n:=n) (d:=drV D n a) (j:=6) (e:=(min (cR (szV D n a)) 6).toNat) (k:=0) (s:=(c,zI 7)) (by omega);have hp:Pend D n (kF D n (drV D n a) (min (cR (szV D n a)) 6).toNat 0 (c,zI 7)).1 []:=h.same hs.1 λj hj=>A9w j hj
 unfold I6 at h0 ⊢;generalize kF D n (drV D n a) (min (cR (szV D n a)) 6).toNat 0 (c,zI 7)=s at *;unfold A23 at h0 ⊢;by_cases hm:6<cR (szV D n a)
 ·rw [if_pos hm] at h0 ⊢;have hl:s.2.length=7:=by rw [hs.2];rfl
  have e:(s.2.set 6 (K0 D n s.1 ((drV D n a).getD 6 0))).getD 6 0=K0 D n s.1 ((drV D n a).getD 6 0):=by
   rw [D9z,List.getElem?_set,if_pos rfl,if_pos (by omega)];rfl
  have h0:(s.2.set 6 (K0 D n s.1 ((drV D n a).getD 6 0))).getD 6 0≠0:=h0;show Pend D n (L5 D n s.1 ((drV D n a).getD 6 0)) [(s.2.set 6 (K0 D n s.1 ((drV D n a).getD 6 0))).getD 6 0];rw [e] at h0 ⊢;obtain ⟨h1,h2⟩:=C4p h0;rw [h1];exact hp.claimed h2
 ·rw [if_neg hm] at h0;exact absurd (h6.trans rfl) h0
def C8l {a:Int} (j:Nat) (h:c.taken.getD j A5=A5):(I6 D n c a).1.taken.getD j A5=A5:=by
 unfold I6 A23;split
 ·exact A9q j (A9w j h)
 ·exact A9w j h
def C8k {a:Int} (hD:okD D) (C4w:D.length<=512) (h:Pend D n c []):Pend D n (X7 D n c a) []:=by
 have hs:=tI (D:=D) (n:=n) (ino:=a) (c:=c);by_cases h0:(I6 D n c a).2.getD 6 0=0
 ·have e:X7 D n c a=O4 D n c a:=by unfold X7;rw [if_pos h0]
  rw [e];have:=h.same hs.1 C8l;exact ⟨this.nd,this.dat,this.bm,this.good⟩
 ·have hp:=C8m h h0;have hI:Pend D n (O4 D n c a) [(I6 D n c a).2.getD 6 0]:=⟨hp.nd,hp.dat,hp.bm,hp.good⟩;have hf:=nO (D:=D) (n:=n) (many:=cR (szV D n a)) (e:=128) (k:=0) (s:=(O4 D n c a,blk D ((I6 D n c a).2.getD 6 0)));have D72:=C0k (D:=D) (n:=n) (many:=cR (szV D n a)) (e:=128) (k:=0) (s:=(O4 D n c a,blk D ((I6 D n c a).2.getD 6 0)));have D8B:=D0U (D:=D) (n:=n) (many:=cR (szV D n a)) (c:=O4 D n c a) (b:=blk D ((I6 D n c a).2.getD 6 0)) (J3 hD) C4w;unfold X7;rw [if_neg h0];generalize O5 D n (cR (szV D n a)) 128 0 (O4 D n c a,blk D ((I6 D n c a).2.getD 6 0))=s at *;exact (hI.same hf D72).made λh=>by rw [D8B] at h;cases h
def C75 {d:Int} {t:List Int}:∃ L,(F9 D n c d t).1=B95 D n c L/\J0 (F9 D n c d t).2 (C4 (L6 d t))=Q4 D n c L:=by
 obtain ⟨h0,h5,hf⟩:=C0n d t;obtain ⟨L,hL⟩:∃ L,L=J0 (W5 d t) (C4 (L6 d t)):=⟨_,rfl⟩;have nd:L.Nodup:=by rw [hL];exact C9C
 have nz:∀ x∈L,x≠0:=by rw [hL];exact λx=>B9R
 have eB:F9 D n c d t=R3 D n (c,W5 d t) L:=by rw [hL];rfl
 obtain ⟨a1,a2⟩:=A9p (D:=D) (n:=n) (c:=c) hf.len nd nz;refine ⟨L,by rw [eB];exact a1,?_⟩;rw [eB,C2X a2,<-hL];have:L.filter (λx=>!(decide (x∈L) && !decide (x∈Q4 D n c L)))=L.filter λx=>decide (x∈Q4 D n c L):=List.filter_congr λx hx=>by simp [hx]
 rw [this];exact C0l keptL_sub nd
def B7e {X:List Int} {K:List UInt8->Option Int}:∀ {L:List Int} {c:Cl},Pend D n c L->Pend D n (N6 D X K c L) []
 | [],c,h=>h
 | no::L,c,h=>by
  obtain ⟨y,hy⟩:=B30 (D:=D) (X:=X) (K:=K) (no:=no) (c:=c);have h1:=h.made (b:=clB (blk D no) (X9 D X no K)) λh=>by rw [D4T] at h;cases h
  have h2:Pend D n (gC D X K c no) L:=by rw [hy];exact ⟨h1.nd,h1.dat,h1.bm,h1.good⟩
  exact B7e (L:=L) (c:=gC D X K c no) h2
def B7F {a:Int}:∀ {L:List Ent} {s:Cl × (List UInt8->Option Int)},(P8 D n a s L).1.taken=s.1.taken
 | [],_=>rfl
 | e::L,s=>by
  have h1:=B7F (a:=a) (L:=L) (s:=K2 D n a s e);have h3:(K2 D n a s e).1.taken=s.1.taken:=by
   unfold K2 aI;cases R9 D n s.1 e.2 with
   | false=>rfl
   | true =>
    show (bif (s.1.par e.2).isSome then A0W s.1 e.2 else C07 (A0W s.1 e.2) a e.2).taken=_;cases (s.1.par e.2).isSome<;>rfl
  exact h1.trans h3
def C76 {a no d:Int} {t:List Int} (h:Pend D n c [no]) (hg:O0 (blk D no)=A5):Pend D n (X4 D n c a no d t) []:=by
 obtain ⟨L,h1,h2⟩:=C75 (D:=D) (n:=n) (c:=c) (d:=d) (t:=t);have hc:=h.claims (L:=L);rw [<-h1,<-h2] at hc;have eT:bodyT D n c a d t=P8 D n a ((F9 D n c d t).1,λ_=>A7) (W7 D (L6 d t::(F9 D n c d t).2) (J0 (F9 D n c d t).2 (C4 (L6 d t)))):=rfl;have t1:=C1x (D:=D) (n:=n) (a:=a) (L:=W7 D (L6 d t::(F9 D n c d t).2) (J0 (F9 D n c d t).2 (C4 (L6 d t)))) (s:=((F9 D n c d t).1,λ_=>A7));have t2:=B7F (D:=D) (n:=n) (a:=a) (L:=W7 D (L6 d t::(F9 D n c d t).2) (J0 (F9 D n c d t).2 (C4 (L6 d t)))) (s:=((F9 D n c d t).1,λ_=>A7));rw [<-eT] at t1 t2;unfold X4;generalize bodyT D n c a d t=T at *;have hT:Pend D n T.1 ([no]++J0 (F9 D n c d t).2 (C4 (L6 d t))):=by
  refine ⟨?_,?_,?_,?_⟩
  ·rw [t1.1];exact hc.nd
  ·rw [t1.1,t2];exact hc.dat
  ·rw [t1.1,t1.2];exact hc.bm
  ·unfold nR;rw [t1.1,t1.2];exact hc.good
 exact B7e (Pend.made hT λ_=>hg)
def D0M {a:Int} (h:Pend D n c []):Pend D n (rF D n c a) []:=by
 by_cases h0:(K7 D n c a).2=0
 ·rw [A3W h0];have hs:=C26 h0;have e1:(K7 D n c a).1=c:=by rw [hs]
  refine ⟨?_,?_,?_,?_⟩
  ·show ((K7 D n c a).1.blocks++[]).Nodup;rw [e1];exact h.nd
  ·show ∀ no∈(K7 D n c a).1.blocks++[],N9 D.length n no=A5/\(K7 D n c a).1.taken.getD no.toNat A5=A5;rw [e1];exact h.dat
  ·show (K7 D n c a).1.blocks.length=(K7 D n c a).1.made.length;rw [e1];exact h.bm
  ·show ∀ q∈(K7 D n c a).1.blocks.zip (K7 D n c a).1.made,_;rw [e1];exact h.good
 ·rw [A3V h0];obtain ⟨_,h2,h3,h4,h5⟩:=A9v h0;rw [<-h3] at h2 h4;have hp:=h.claimed h4;have e1:(K7 D n c a).1=L5 D n c (K7 D n c a).2:=by rw [h3,h5]
  rw [<-e1] at hp;refine C76 ?_ h2;exact ⟨hp.nd,hp.dat,hp.bm,hp.good⟩
def D1r {a:Int} (hD:okD D) (C4w:D.length<=512) (h:Pend D n c []):Pend D n (W0 D n c a) []:=by
 unfold W0;split
 ·exact C8k hD C4w h
 ·exact D0M h
def C04 (hD:okD D) (C4w:D.length<=512):∀ {e i:Nat} {c:Cl},Pend D n c []->Pend D n (ofR D n e i c) []
 | 0,_,_,h=>h
 | e+1,i,c,h=>by
  unfold ofR;cases hc:c.row[i]? with
  | none=>exact h
  | some a=>exact C04 hD C4w (D1r hD C4w h)
end
section
variable {D E:Dev} {n:Int} {c:Cl}
structure RowK (D:Dev) (n:Int) (c:Cl):Prop where
 kd:∀ i∈c.row,i≠1->kdV D n i≠0
def RowK.same {c':Cl} (h:RowK D n c) (e:c'.row=c.row):RowK D n c':=⟨by rw [e];exact h.kd⟩
def C1y {a:Int}:∀ {L:List Ent} {s:Cl × (List UInt8->Option Int)},RowK D n s.1->RowK D n (P8 D n a s L).1
 | [],_,h=>h
 | e::L,s,h=>by
  refine C1y (L:=L) (s:=K2 D n a s e) ?_;unfold K2 aI;cases hB:R9 D n s.1 e.2 with
  | false=>exact h
  | true =>
   show RowK D n (bif (s.1.par e.2).isSome then A0W s.1 e.2 else C07 (A0W s.1 e.2) a e.2);cases (s.1.par e.2).isSome with
   | true=>exact ⟨h.kd⟩
   | false =>
    refine ⟨λi hi Z5=>?_⟩;rcases List.mem_append.1 (show i∈s.1.row++[e.2] from hi) with h1 | h1
    ·exact h.kd i h1 Z5
    ·rw [List.mem_singleton.1 h1];intro h0;unfold R9 at hB;rw [decide_eq_true h0] at hB;simp at hB
def C77 {a no d:Int} {t:List Int} (h:RowK D n c):RowK D n (X4 D n c a no d t):=by
 have hs:=bW (D:=D) (n:=n) (L:=J0 (W5 d t) (C4 (L6 d t))) (s:=(c,W5 d t));have eb:R3 D n (c,W5 d t) (J0 (W5 d t) (C4 (L6 d t)))=F9 D n c d t:=rfl;rw [eb] at hs;have ht:=C1y (D:=D) (n:=n) (a:=a) (L:=W7 D (L6 d t::(F9 D n c d t).2) (J0 (F9 D n c d t).2 (C4 (L6 d t)))) (s:=((F9 D n c d t).1,λ_=>A7)) (h.same hs.row);have et:P8 D n a ((F9 D n c d t).1,λ_=>A7) (W7 D (L6 d t::(F9 D n c d t).2) (J0 (F9 D n c d t).2 (C4 (L6 d t))))=bodyT D n c a d t:=rfl;rw [et] at ht;unfold X4;refine ht.same ?_;rw [nM.1,B54]
def D1s {a:Int} (h:RowK D n c):RowK D n (W0 D n c a):=by
 unfold W0;split
 ·exact h.same A0K.1
 ·have hs:=zR (D:=D) (n:=n) (ino:=a) (c:=c);by_cases h0:(K7 D n c a).2=0
  ·rw [A3W h0];exact h.same hs.row
  ·rw [A3V h0];exact C77 (h.same hs.row)
def D5i {i:Int}:kdV D n i=0\/kdV D n i=1\/kdV D n i=2:=by
 rw [C4I];cases hc:A93 D n i with
 | false=>exact .inl rfl
 | true =>
  rw [cond_true];unfold A93 gA at hc;simp only [D9v] at hc;have:=(C0O hc.2.1).1;omega
def D1q {a:Int} (h:RowK D n c) (hbm:c.blocks.length=c.made.length) (ha:a∈c.row) (hal:a.toNat<c.ino.length) (h1:a≠1):((W0 D n c a).ino.getD a.toNat []).getD 0 0=kdV D n a:=by
 have h0:=h.kd a ha h1;by_cases hc:a≠1/\kdV D n a=1
 ·have e:W0 D n c a=X7 D n c a:=by unfold W0;rw [if_pos hc]
  rw [e,(B5V hbm).2 hal,hc.2];rfl
 ·have e:W0 D n c a=rF D n c a:=by unfold W0;rw [if_neg hc]
  have h2:kdV D n a=2:=by
   rcases D5i (D:=D) (n:=n) (i:=a) with h | h | h
   ·exact absurd h h0
   ·exact absurd ⟨h1,h⟩ hc
   ·exact h
  rw [e,(B3s hbm).2 hal,h2];rfl
def C60 (n128:n<=128):∀ {e i:Nat} {c:Cl},i+e=129->RowW n c->RowK D n c->c.blocks.length=c.made.length->c.ino.length=(n+1).toNat ->
  (∀ j,j<i->∀ a,c.row[j]?=A4 a->a≠1->(c.ino.getD a.toNat []).getD 0 0=kdV D n a)->∀ a∈(ofR D n e i c).row,a≠1->((ofR D n e i c).ino.getD a.toNat []).getD 0 0=kdV D n a
 | 0,i,c,hi,w,k,hbm,L8,h=>by
  intro a ha h1;obtain ⟨j,hj⟩:=List.mem_iff_getElem?.1 (show a∈c.row from ha);have hl:=A5O w.nd λb hb=>⟨(w.rg b hb).1,by have:=(w.rg b hb).2;omega⟩
  have hjl:=(List.getElem?_eq_some_iff.1 hj).1;exact h j (by omega) a hj h1
 | e+1,i,c,hi,w,k,hbm,L8,h=>by
  unfold ofR;cases hc:c.row[i]? with
  | none =>
   intro a ha h1;obtain ⟨j,hj⟩:=List.mem_iff_getElem?.1 (show a∈c.row from ha);have hjl:=(List.getElem?_eq_some_iff.1 hj).1;have:=List.getElem?_eq_none_iff.1 hc;exact h j (by omega) a hj h1
  | some b =>
   have g:=A82 (D:=D) (n:=n) (a:=b) hbm;have D7L:=D9S hc;have hrg:=w.rg b D7L;refine C60 n128 (by omega) (mQ w) (D1s k) g.bm (g.il.trans L8) λj hj a ha h1=>?_
   have D9o:i<c.row.length:=(List.getElem?_eq_some_iff.1 hc).1;have hjc:c.row[j]?=A4 a:=by
    have hjl:j<c.row.length:=by omega
    have:=A9G g.row (D9u hjl);rw [this] at ha;rw [D9u hjl];exact ha
   by_cases e1:j=i
   ·rw [e1,hc] at hjc;have e2:=Option.some.inj hjc;subst e2;exact D1q k hbm D7L (by omega) h1
   ·have Z5:a≠b:=λe2=>by
     have:=(List.getElem?_inj (by omega) w.nd).1 (hjc.trans ((congrArg A4 e2).trans hc.symm));omega
    have hra:=w.rg a (D9S hjc);rw [g.ino _ (by omega)];exact h j (by omega) a hjc h1
end
def C8t {c:Cl} {a:Int} {j:Nat}:((cZ c a).ino.getD j []).getD 0 0=(c.ino.getD j []).getD 0 0/\((cZ c a).ino.getD j []).getD 2 0=(c.ino.getD j []).getD 2 0/\((cZ c a).ino.getD j []).drop 4=(c.ino.getD j []).drop 4:=by
 unfold cZ;split
 ·by_cases e:j=a.toNat
  ·subst e;by_cases hl:a.toNat<c.ino.length
   ·show ((c.ino.set a.toNat _).getD a.toNat []).getD 0 0=_/\((c.ino.set a.toNat _).getD a.toNat []).getD 2 0=_/\((c.ino.set a.toNat _).getD a.toNat []).drop 4=_;rw [A8y hl];refine ⟨?_,?_,?_⟩
    ·rw [D9z,E0o (by omega),<-D9z]
    ·rw [D9z,E0o (by omega),<-D9z]
    ·rw [List.drop_set,if_pos (by omega)]
   ·have:c.ino.set a.toNat ((c.ino.getD a.toNat []).set 1 ((c.lnk a).getD 0))=c.ino:=List.set_eq_of_length_le (by omega);show ((c.ino.set a.toNat _).getD a.toNat []).getD 0 0=_/\((c.ino.set a.toNat _).getD a.toNat []).getD 2 0=_/\((c.ino.set a.toNat _).getD a.toNat []).drop 4=_;rw [this];exact ⟨rfl,rfl,rfl⟩
  ·show ((c.ino.set a.toNat _).getD j []).getD 0 0=_/\((c.ino.set a.toNat _).getD j []).getD 2 0=_/\((c.ino.set a.toNat _).getD j []).drop 4=_;rw [getD_set_ne e];exact ⟨rfl,rfl,rfl⟩
 ·exact ⟨rfl,rfl,rfl⟩
def A8w {j:Nat}:∀ {L:List Int} {c:Cl},((aS c L).ino.getD j []).getD 0 0=(c.ino.getD j []).getD 0 0/\((aS c L).ino.getD j []).getD 2 0=(c.ino.getD j []).getD 2 0/\((aS c L).ino.getD j []).drop 4=(c.ino.getD j []).drop 4
 | [],_=>⟨rfl,rfl,rfl⟩
 | a::L,c=>by
  obtain ⟨h1,h2,h3⟩:=A8w (j:=j) (L:=L) (c:=cZ c a);obtain ⟨k1,k2,k3⟩:=C8t (c:=c) (a:=a) (j:=j);exact ⟨h1.trans k1,h2.trans k2,h3.trans k3⟩
def C3p {x:Int}:∀ {L:List Int} {c:Cl},aS (c.wl x) L=(aS c L).wl x
 | [],_=>rfl
 | a::L,c=>by
  have e:cZ (c.wl x) a=(cZ c a).wl x:=by
   show (if (c.ino.getD a.toNat []).getD 0 0=1 then _ else _)=(if (c.ino.getD a.toNat []).getD 0 0=1 then _ else _:Cl).wl x;split<;>rfl
  show aS (cZ (c.wl x) a) L=(aS (cZ c a) L).wl x;rw [e];exact C3p
section
variable {D E:Dev} {n:Int}
structure Beg (D:Dev) (n:Int) (c:Cl):Prop where
 w:RowW n c
 k:RowK D n c
 bm:c.blocks.length=c.made.length
 il:c.ino.length=(n+1).toNat
 pend:Pend D n c []
 zero:∀ i:Int,1<=i->i<=n->c.ino.getD i.toNat []=zI 11
def B3j (hm:P5 D.length n=A5):Beg D n (A3a (G7 D n) (eV D.length n).toNat):=by
 obtain ⟨_,_,n8,_⟩:=H5.1 hm;have hs:=ownR_same (c:=G7 D n) (k:=(eV D.length n).toNat);refine ⟨?_,?_,?_,?_,⟨?_,?_,?_,?_⟩,?_⟩
 ·refine RowW.same (c:=G7 D n) ⟨by simp [G7],λi=>?_,λi hi=>?_⟩ hs.row hs.par
  ·by_cases c1:i=1
   ·subst c1;simp [G7,A3j]
   ·simp [G7,A3j,c1]
  ·simp [G7] at hi;omega
 ·refine RowK.same (c:=G7 D n) ⟨λi hi h1=>?_⟩ hs.row;exact absurd (List.mem_singleton.1 hi) h1
 ·rw [hs.blocks,hs.made];rfl
 ·rw [hs.ino];simp [G7]
 ·rw [hs.blocks];exact List.nodup_nil
 ·rw [hs.blocks];intro no aK;cases aK
 ·rw [hs.blocks,hs.made];rfl
 ·unfold nR;rw [hs.blocks];intro q hq;cases hq
 ·intro i h1 h2;rw [hs.ino];show (D9w (n+1).toNat (zI 11)).getD i.toNat []=zI 11;rw [D9z,List.getElem?_replicate,if_pos (by omega)];rfl
structure Mixed (D E:Dev) (n:Int):Prop where
 okD:okD D
 okE:Go.Proofs.YtbnkgnfhgbhblaaGreat.okD E
 len:E.length=D.length
 may:P5 D.length n=A5
 blk:∀ no:Int,blk E no=blk D no\/blk E no=blk (kK D n (F5 D n)) no
def Pend.pick {c:Cl} {q:Int × List UInt8} {a:List UInt8} (P:Pend D n c []) (hq:q∈nR c):oS c.blocks c.made q.1 a=q.2:=by
 have nd:c.blocks.Nodup:=by have:=P.nd;rw [D9Q] at this;exact this
 exact C67 nd hq
def Pend.picked {c:Cl} {no:Int} (P:Pend D n c []) (hg:O0 (oS c.blocks c.made no (Go.Proofs.YtbnkgnfhgbhblaaGreat.blk D no))=A5):O0 (Go.Proofs.YtbnkgnfhgbhblaaGreat.blk D no)=A5:=by
 by_cases hin:no∈c.blocks
 ·obtain ⟨j,hj⟩:=List.mem_iff_getElem?.1 hin;have hjl:=(List.getElem?_eq_some_iff.1 hj).1;have hjm:j<c.made.length:=by rw [<-P.bm];exact hjl
  have hq:(no,c.made[j])∈nR c:=by
   unfold nR;rw [List.mem_iff_getElem?];refine ⟨j,?_⟩;rw [List.getElem?_zip_eq_some];exact ⟨hj,D9u hjm⟩
  have:=P.pick (a:=Go.Proofs.YtbnkgnfhgbhblaaGreat.blk D no) hq;rw [this] at hg;exact P.good (no,c.made[j]) hq hg
 ·rw [A9E hin] at hg;exact hg
def Mixed.half (M:Mixed D E n):Half D E n (H8 D n):=by
 have hm:=M.may;obtain ⟨b16,b512,n8,n128,nm8,nb⟩:=H5.1 hm;have B:=B3j hm;have ok:=tF M.okD hm;obtain ⟨_,_,_,L8,_⟩:=bJ M.okD hm;obtain ⟨s1,s2,s3,s4,s5,s6,s7⟩:=oP (L:=(H8 D n).row) (c:=H8 D n);have w:RowW n (H8 D n):=by unfold H8;exact B4c B.w
 have P:Pend D n (H8 D n) []:=by unfold H8;exact C04 M.okD (by omega) B.pend
 have hb:(F5 D n).blocks=(H8 D n).blocks:=s3;have hmd:(F5 D n).made=(H8 D n).made:=s4;have hlk:∀ j,((F5 D n).ino.getD j []).getD 0 0=((H8 D n).ino.getD j []).getD 0 0/\((F5 D n).ino.getD j []).getD 2 0=((H8 D n).ino.getD j []).getD 2 0/\((F5 D n).ino.getD j []).drop 4=((H8 D n).ino.getD j []).drop 4:=λj=>A8w
 have D3g:∀ a∈(H8 D n).row,a≠1->((H8 D n).ino.getD a.toNat []).getD 0 0=kdV D n a:=by
  unfold H8;exact C60 (D:=D) n128 rfl B.w B.k B.bm B.il (λj hj=>by omega)
 have hz:∀ i,1<=i->i<=n->i ∉ (H8 D n).row->(H8 D n).ino.getD i.toNat []=zI 11:=by
  intro i i1 i2 hin;unfold H8 at hin ⊢;rw [B8N i1 B.w B.bm (λj _ hj=>hin (D9S hj))];exact B.zero i i1 i2
 have hV:∀ i,P9 D.length n i=A5->(kdV E n i=kdV D n i/\szV E n i=szV D n i/\drV E n i=drV D n i)\/(kdV E n i=((F5 D n).ino.getD i.toNat []).getD 0 0/\szV E n i=((F5 D n).ino.getD i.toNat []).getD 2 0/\drV E n i=((F5 D n).ino.getD i.toNat []).drop 4):=by
  intro i hi;obtain ⟨_,i1,i2⟩:=U7.1 hi;have hr:wA E n i=wA D n i\/wA E n i=wA (kK D n (F5 D n)) n i:=by
   unfold wA;rw [M.len,A9x M.okD hm ok];rcases M.blk (W1 D.length n i) with h | h
   ·rw [h];exact .inl rfl
   ·rw [h];exact .inr rfl
  rcases hr with h | h
  ·exact .inl (D4s M.len h)
  ·rw [C9T M.okD hm ok L8 hi] at h;refine .inr (C7L (by rw [M.len];exact hi) ?_ h);rw [D9z,D9u (by omega)];exact ok.ino _ (D9Y _)
 have aK:∀ i,P9 D.length n i=A6->kdV E n i=kdV D n i:=by
  intro i hi;unfold kdV;rw [M.len,hi];rfl
 refine ⟨M.okD,M.okE,M.len,λa ha=>?_,λno hd hg=>?_,λi h1=>?_,λq hq=>?_⟩
 ·have hr:=w.rg a ha;have hi:P9 D.length n a=A5:=U7.2 ⟨hm,hr.1,hr.2⟩;obtain ⟨k1,k2,k3⟩:=hlk a.toNat;rcases hV a hi with h | h
  ·exact .inl h
  ·rw [k1,k2,k3] at h;exact .inr h
 ·rcases M.blk no with h | h
  ·rw [<-h];exact hg
  ·rw [h,C9S M.okD hm ok L8 hd,hb,hmd] at hg;exact P.picked hg
 ·cases hi:P9 D.length n i with
  | false=>exact .inl (aK i hi)
  | true =>
   obtain ⟨_,i1,i2⟩:=U7.1 hi;rcases hV i hi with h | h
   ·exact .inl h.1
   ·rw [(hlk i.toNat).1] at h;by_cases hin:i∈(H8 D n).row
    ·exact .inl (h.1.trans (D3g i hin h1))
    ·refine .inr ⟨hin,h.1.trans ?_⟩;have e:=hz i i1 i2 hin;rw [e];rfl
 ·rcases M.blk q.1 with h | h
  ·exact .inl h
  ·refine .inr ?_;have hd:N9 D.length n q.1=A5:=(P.dat q.1 (List.mem_append_left _ (List.of_mem_zip hq).1)).1;rw [h,C9S M.okD hm ok L8 hd,hb,hmd];exact P.pick hq
def Mixed.claim (M:Mixed D E n):∃ x,F5 E n=(F5 D n).wl x:=by
 have B:=B3j M.may;obtain ⟨x,hx⟩:=D3K (x:=0) B.w B.bm B.il M.half;have e1:G7 E n=G7 D n:=by unfold G7;rw [M.len]
 have e2:H8 E n=(H8 D n).wl x:=by
  unfold H8;rw [e1,M.len];have hs:=ownR_same (c:=G7 D n) (k:=(eV D.length n).toNat);have e3:(A3a (G7 D n) (eV D.length n).toNat).wl 0=A3a (G7 D n) (eV D.length n).toNat:=by
   have h0:=hs.lost;generalize A3a (G7 D n) (eV D.length n).toNat=c at *;cases c;have h0:_=(0:Int):=h0;subst h0;rfl
  rw [e3] at hx;exact hx
 refine ⟨x,?_⟩;unfold F5;rw [e2];exact C3p
def Mixed.img (M:Mixed D E n):kK E n (F5 E n)=kK D n (F5 D n):=by
 have hm:=M.may;have hmE:P5 E.length n=A5:=by rw [M.len];exact hm
 have ok:=tF M.okD hm;have okE:=tF M.okE hmE;obtain ⟨_,_,_,L8,_⟩:=bJ M.okD hm;obtain ⟨_,_,_,D8I,_⟩:=bJ M.okE hmE;obtain ⟨x,hx⟩:=M.claim;have l1:=A9x M.okD hm ok;have l2:=A9x M.okE hmE okE;refine E0q λi=>?_
 by_cases hi:i<D.length
 ·have hiE:i<E.length:=by rw [M.len];exact hi
  rw [B3F M.okD hm ok L8 hi,B3F M.okE hmE okE D8I hiE];by_cases h1:i=1
  ·rw [if_pos h1,if_pos h1,hx];rfl
  ·rw [if_neg h1,if_neg h1]
   congr 1
   have e0:C2r E n (F5 E n) i=if B0t D.length n i=3 then C9l (F5 D n).ino (8*(i-2)+1) 8 0 (zeros 256) else oS (F5 D n).blocks (F5 D n).made i (E.getD i []):=by
    unfold C2r;rw [hx,M.len];rfl
   rw [e0];unfold C2r;by_cases ha:B0t D.length n i=3
   ·rw [if_pos ha,if_pos ha]
   ·rw [if_neg ha,if_neg ha];have eD:D.getD i []=Go.Proofs.YtbnkgnfhgbhblaaGreat.blk D i:=by rw [A76 hi,D9z,D9u hi];rfl
    have eE:E.getD i []=Go.Proofs.YtbnkgnfhgbhblaaGreat.blk E i:=by rw [A76 hiE,D9z,D9u hiE];rfl
    rw [eD,eE];rcases M.blk i with h | h
    ·rw [h]
    ·rw [h,C4B M.okD hm ok L8 hi,if_neg h1];unfold C2r;rw [if_neg ha,eD,C8U]
 ·rw [D9W (by rw [l2,M.len];omega),D9W (by rw [l1];omega)]
end
def A5G:Nat->Dev->Dev->Dev
 | m,w::W,d::D=>if w=d then d::A5G m W D else (if m=0 then d else w)::A5G (m-1) W D
 | _,_,D=>D
def zV {m:Nat} {w:List UInt8} {W D:Dev}:A5G m (w::W) (w::D)=w::A5G m W D:=if_pos rfl
def zU {m:Nat} {w d:List UInt8} {W D:Dev} (h:w≠d):A5G m (w::W) (d::D)=(if m=0 then d else w)::A5G (m-1) W D:=if_neg h
def A01 {w:List UInt8} {W D:Dev} {i:Nat}:N3 (w::W) (w::D) i=N3 W D (i+1):=by
 conv=>lhs;unfold N3
 rw [if_pos rfl]
def A5J {w d:List UInt8} {W D:Dev} {i:Nat} (h:w≠d):N3 (w::W) (d::D) i=((i:Int),w)::N3 W D (i+1):=by
 conv=>lhs;unfold N3
 rw [if_neg h]
def B6e {D:Dev} {i:Nat}:N3 [] D i=[]:=by cases D<;>rfl
def A8Y:∀ {W D:Dev} {m:Nat},(A5G m W D).length=D.length
 | [],D,m=>by cases D<;>rfl
 | _::_,[],m=>rfl
 | w::W,d::D,m=>by
  by_cases h:w=d
  ·subst h;rw [zV,D9G,D9G,A8Y]
  ·rw [zU h,D9G,D9G,A8Y]
def C4T {j:Nat}:∀ {W D:Dev} {m:Nat},W.length=D.length->(A5G m W D)[j]?=D[j]?\/(A5G m W D)[j]?=W[j]? := by
 induction j with
 | zero =>
  intro W D m hl
  match W,D,hl with
  | [],[],_=>exact .inl rfl
  | w::W,d::D,_ =>
   by_cases h:w=d
   ·subst h;rw [zV];exact .inl rfl
   ·rw [zU h];by_cases hm:m=0
    ·rw [if_pos hm];exact .inl rfl
    ·rw [if_neg hm];exact .inr rfl
 | succ j ih =>
  intro W D m hl
  match W,D,hl with
  | [],[],_=>exact .inl rfl
  | w::W,d::D,hl =>
   have hl':W.length=D.length:=by simpa using hl
   by_cases h:w=d
   ·subst h;rw [zV];simp only [D9Z];exact ih hl'
   ·rw [zU h];simp only [D9Z];exact ih hl'
def A9m {n:Int}:∀ {W D A:Dev} {k:Nat},cQ n (A++D) k (N3 W D A.length)=A++A5G (n-k).toNat W D
 | [],D,A,k=>by
  rw [B6e];show A++D=A++A5G _ [] D;cases D<;>rfl
 | _::_,[],A,k=>rfl
 | w::W,d::D,A,k=>by
  have el:∀ x:List UInt8,(A++[x]).length=A.length+1:=λx=>by simp
  by_cases h:w=d
  ·subst h;have ih:=A9m (n:=n) (W:=W) (D:=D) (A:=A++[w]) (k:=k);rw [el,D9C,D9C] at ih;rw [A01,zV];exact ih
  ·rw [A5J h,zU h];show cQ n (if (k:Int)<n then gE (A++d::D) (A.length:Int) w else A++d::D) (k+1) (N3 W D (A.length+1))=_;have em:(n-((k+1:Nat):Int)).toNat=(n-k).toNat-1:=by omega
   by_cases hk:(k:Int)<n
   ·have ep:gE (A++d::D) (A.length:Int) w=A++w::D:=by
     unfold gE;rw [if_pos ⟨by omega,by rw [D9A,D9G];omega⟩,D9N,D96 _ _ (D9x _),E0p];rfl
    have ih:=A9m (n:=n) (W:=W) (D:=D) (A:=A++[w]) (k:=k+1);rw [el,D9C,D9C,em] at ih;rw [if_pos hk,ep,if_neg (by omega)];exact ih
   ·have ih:=A9m (n:=n) (W:=W) (D:=D) (A:=A++[d]) (k:=k+1);rw [el,D9C,D9C,em] at ih;rw [if_neg hk,if_pos (by omega)];exact ih
def B1F {n:Int} {W D:Dev}:cQ n D 0 (N3 W D 0)=A5G n.toNat W D:=by
 have:=A9m (n:=n) (W:=W) (D:=D) (A:=[]) (k:=0);simpa using this
def A85:∀ {W D:Dev} {m i:Nat},N3 W (A5G m W D) i=(N3 W D i).drop m
 | [],D,m,i=>by rw [B6e,B6e,List.drop_nil]
 | w::W,[],m,i=>by
  have e:∀ i,N3 (w::W) [] i=[]:=λ_=>rfl
  show N3 (w::W) [] i=_;rw [e,List.drop_nil]
 | w::W,d::D,m,i=>by
  by_cases h:w=d
  ·subst h;rw [zV,A01,A01];exact A85
  ·rw [zU h,A5J h];cases m with
   | zero =>
    rw [if_pos rfl,A5J h,D9O,A85];rfl
   | succ m =>
    rw [if_neg (by omega),A01,List.drop_succ_cons,Nat.add_sub_cancel,A85]
def B8L:∀ {W D:Dev} {m i:Nat},W.length=D.length->(N3 W D i).length<=m->A5G m W D=W
 | [],[],m,i,_,_=>rfl
 | w::W,d::D,m,i,hl,h=>by
  have hl':W.length=D.length:=by simpa using hl
  by_cases e:w=d
  ·subst e;rw [A01] at h;rw [zV,B8L hl' h]
  ·rw [A5J e,D9G] at h;rw [zU e,if_neg (by omega),B8L hl' (by omega:(N3 W D (i+1)).length<=m-1)]
section
variable {D E:Dev} {n:Int}
def C4m {O:Dev} {no:Int} (h0:0<=no):blk O no=(O[no.toNat]?).getD (zeros 256):=by
 unfold blk;rw [if_pos h0,D9z]
def D3C (hD:okD D) (hm:P5 D.length n=A5) {m:Nat}:Mixed D (A5G m (kK D n (F5 D n)) D) n:=by
 obtain ⟨okI,lI⟩:=B3G hD hm;refine ⟨hD,λb hb=>?_,A8Y,hm,λno=>?_⟩
 ·obtain ⟨j,hj⟩:=List.mem_iff_getElem?.1 hb;rcases C4T (j:=j) (m:=m) lI with h | h
  ·rw [hj] at h;exact hD b (D9S h.symm)
  ·rw [hj] at h;exact okI b (D9S h.symm)
 ·by_cases h0:0<=no
  ·rw [C4m h0,C4m h0,C4m h0];rcases C4T (j:=no.toNat) (m:=m) lI with h | h
   ·exact .inl (by rw [h])
   ·exact .inr (by rw [h])
  ·left;unfold blk;rw [if_neg h0,if_neg h0]
def D3m (hD:okD D) (hm:P5 D.length n=A5):(kK D n (F5 D n))[0]?=D[0]? := by
 obtain ⟨b16,_⟩:=H5.1 hm;obtain ⟨_,b512,n8,n128,nm8,nb⟩:=H5.1 hm;have B:=B3j hm;have ok:=tF hD hm;obtain ⟨_,_,_,L8,_⟩:=bJ hD hm;have P:Pend D n (H8 D n) []:=by unfold H8;exact C04 hD (by omega) B.pend
 obtain ⟨s1,s2,s3,s4,s5,s6,s7⟩:=oP (L:=(H8 D n).row) (c:=H8 D n);have hb:(F5 D n).blocks=(H8 D n).blocks:=s3;rw [B3F hD hm ok L8 (by omega),if_neg (by omega)];unfold C2r;rw [if_neg ?_,A9E ?_,D9z,D9u (by omega)]
 ·rfl
 ·rw [hb];intro h;have:=(P.dat _ (List.mem_append_left _ h)).1;rw [show ((0:Nat):Int)=0 from rfl,A0U] at this;cases this
 ·unfold B0t;rw [if_pos ⟨hm,by omega,by omega⟩,if_pos (by omega)];decide
def D3B {W:Dev} {m:Nat} (hl:W.length=D.length) (h:W[0]?=D[0]?):(A5G m W D)[0]?=D[0]? := by
 rcases C4T (j:=0) (m:=m) hl with e | e
 ·exact e
 ·rw [e,h]
def C58 (hl:E.length=D.length) (h:E[0]?=D[0]?):A5w E=A5w D/\yX E=yX D/\C57 E=C57 D:=by
 have e:E.headD []=D.headD []:=by
  have:∀ O:Dev,O.headD []=(O[0]?).getD []:=λO=>by cases O<;>rfl
  rw [this,this,h]
 unfold A5w yX C57;rw [e,hl];exact ⟨rfl,rfl,rfl⟩
def D3n (hD:okD D) (hm:P5 D.length n=A5):kdV (kK D n (F5 D n)) n 1=2:=by
 obtain ⟨b16,b512,n8,n128,nm8,nb⟩:=H5.1 hm;have B:=B3j hm;have ok:=tF hD hm;obtain ⟨_,_,_,L8,_⟩:=bJ hD hm;have hi:P9 D.length n 1=A5:=U7.2 ⟨hm,by omega,by omega⟩;have D8U:=C9T hD hm ok L8 hi;have hlk:((F5 D n).ino.getD (1:Int).toNat []).getD 0 0=((H8 D n).ino.getD (1:Int).toNat []).getD 0 0:=A8w.1;have hk:=C7L (E:=kK D n (F5 D n)) (by rw [A9x hD hm ok];exact hi) (y:=(F5 D n).ino.getD (1:Int).toNat []) (by
  rw [D9z,D9u (by rw [L8];omega)];exact ok.ino _ (D9Y _)) D8U
 rw [hk.1,hlk];have hrow:(A3a (G7 D n) (eV D.length n).toNat).row=[1]:=C64;unfold H8;generalize A3a (G7 D n) (eV D.length n).toNat=c at *;have e1:ofR D n 129 0 c=ofR D n 128 1 (W0 D n c 1):=by
  show (match c.row[0]? with
   | none=>c
   | some a=>ofR D n 128 (0+1) (W0 D n c a))=_
  rw [hrow];rfl
 have g:=A82 (D:=D) (n:=n) (a:=1) B.bm;have hg:=B8M (D:=D) (n:=n) (e:=128) (i:=1) g.bm;have wF:RowW n (ofR D n 128 1 (W0 D n c 1)):=B4c (mQ B.w);have hat:(ofR D n 128 1 (W0 D n c 1)).row[0]?=A4 1:=A9G (g.row.trans hg.1) (by rw [hrow];rfl);rw [e1,B8N (by omega) (mQ B.w) g.bm λj hj he=>?_]
 ·have e2:W0 D n c 1=rF D n c 1:=by unfold W0;rw [if_neg (λh=>h.1 rfl)]
  rw [e2,(B3s B.bm).2 (by rw [B.il];omega)];rfl
 ·have:=(List.getElem?_inj (List.getElem?_eq_some_iff.1 hat).1 wF.nd).1 (hat.trans he.symm);omega
end
section
variable {h:A9} {r:Nat} {s:List Int} {B:Int}
def A89 {x:List Int} {id:Nat} (hr:rd h id=rT (encI x)) {k:Nat} (hk:k<x.length):B8 h (pV id k)=A4 (iV (x.getD k 0)) :=
 B9 hr (by rw [H0,D9z,D9u hk];rfl) rfl
def C0h {x:List Int} (h:x.length=11):aX [.a (encI x)]=λh=>A4 (.a (encI (x.drop 4)),h):=by
 funext h
 rw [C29 (by assumption)];exact kM (by rw [E0f];omega)
def D08 {was now:List Int} (hw:was.length=11) (hn:now.length=11) (hr:rd h r=rT (encI s)) (hB:BndR s B) (hB2:B<=900000) :
  ∃ h',lJ [pV r 0,.a (encI was),.a (encI now)] h=A4 (.t [],h')/\rd h' r=rT (encI (C2s was now s))/\OnlyR r h h'/\BndR (C2s was now s) (B+9):=by
 have hrl:=D7 hr;obtain ⟨G,hG⟩:∃ G,G=h++[rT (encI was),rT (encI now)]:=⟨_,rfl⟩;have lG:G.length=h.length+2:=by rw [hG];simp
 have g0:rd G h.length=rT (encI was):=by rw [hG,I1];rfl
 have g1:rd G (h.length+1)=rT (encI now):=by rw [hG,dW];rfl
 have gr:rd G r=rT (encI s):=by rw [hG];exact B6 hr
 have O1:OnlyR r h G:=by rw [hG];exact (OnlyR.refl r h).more _
 obtain ⟨s1,es1⟩:∃ s1,s1=if was.getD 1 0≠now.getD 1 0 then bump s 3 else s:=⟨_,rfl⟩
 obtain ⟨s2,es2⟩:∃ s2,s2=if now.getD 0 0=2/\was.getD 3 0≠now.getD 3 0 then bump s1 4 else s1:=⟨_,rfl⟩
 have er:C2s was now s=C54 (was.drop 4) (now.drop 4) s2:=by unfold C2s;rw [es2,es1]
 have B1:BndR s1 (B+1):=by
  rw [es1];split
  ·exact hB.bump (by omega)
  ·exact hB.mono (by omega)
 have B2:BndR s2 (B+2):=by
  rw [es2];split
  ·exact (B1.bump (by omega)).mono (by omega)
  ·exact B1.mono (by omega)
 have part3:∀ g,rd g r=rT (encI s2)->rd g h.length=rT (encI was)->rd g (h.length+1)=rT (encI now)->OnlyR r h g ->
   ∃ h',vW 20 (pV r 0) (pV h.length 0) (pV (h.length+1) 0) g=A4 (.t [],h')/\rd h' r=rT (encI (C2s was now s))/\OnlyR r h h'/\BndR (C2s was now s) (B+9):=by
  intro g q1 q2 q3 q4;have z7:[o0,o0,o0,o0,o0,o0,o0]=encI (zI 7):=rfl;have hd1:(encI (was.drop 4)).length=7:=by rw [C1,E0f];omega
  have hd2:(encI (now.drop 4)).length=7:=by rw [C1,E0f];omega
  obtain ⟨K,hK⟩:∃ K,K=g++[rT (encI (was.drop 4)),rT (encI (now.drop 4))]:=⟨_,rfl⟩;obtain ⟨h',f1,f2,f3,f4⟩:=D2B (r:=r) (q:=20) (ra:=g.length) (rb:=g.length+1) (a:=was.drop 4) (b:=now.drop 4) (by rw [E0f];omega) (by rw [E0f];omega) 7 0 20 (B+2) s2 K (by omega) (by omega) B2 (by omega) (by rw [hK];exact B6 q1) (by rw [hK,I1];rfl) (by rw [hK,dW];rfl) (by have:=D7 q1;omega) (by have:=D7 q1;omega);rw [D9O,D9O,<-er] at f2 f4;refine ⟨h',?_,f2,q4.trans (OnlyR.trans (by rw [hK];exact (OnlyR.refl r g).more _) f3),f4.mono (by omega)⟩;have l1:D3 g 11 (pV h.length 0)=A4 (.a (encI was)):=C9 q2 (by rw [C1,hw]);have l2:D3 g 11 (pV (h.length+1) 0)=A4 (.a (encI now)):=C9 q3 (by rw [C1,hn]);have n1:=congrFun (C0h hw);have n2:=congrFun (C0h hn);have st1:E9 (g++[rT (encI (zI 7)),rT (encI (zI 7))]) 7 (pV g.length 0) (.a (encI (was.drop 4)))=A4 (g++[rT (encI (was.drop 4)),rT (encI (zI 7))]):=by
   rw [storeAll (by rw [I1];rfl) (by rfl) hd1,nC];rfl
  have st2:E9 (g++[rT (encI (was.drop 4)),rT (encI (zI 7))]) 7 (pV (g.length+1) 0) (.a (encI (now.drop 4)))=A4 K:=by
   rw [storeAll (cs:=encI (zI 7)) (by rw [dW];rfl) (by rfl) hd2,A5R,hK];rfl
  have c00:((0:Nat):Int)=0:=rfl;rw [c00] at f1;rw [A4a,z7];generalize encI was=X at *;generalize encI now=Y at *;generalize encI (was.drop 4)=X' at *;generalize encI (now.drop 4)=Y' at *;generalize encI (zI 7)=Z at *;simp only [esc,l1,l2,n1,n2,st1,st2];exact f1
 have part2:∀ g,rd g r=rT (encI s1)->rd g h.length=rT (encI was)->rd g (h.length+1)=rT (encI now)->OnlyR r h g ->
   ∃ h',vV 20 (pV r 0) (pV h.length 0) (pV (h.length+1) 0) g=A4 (.t [],h')/\rd h' r=rT (encI (C2s was now s))/\OnlyR r h h'/\BndR (C2s was now s) (B+9):=by
  intro g q1 q2 q3 q4;have l0:=A89 q3 (k:=0) (by omega);have l3:=A89 q3 (k:=3) (by omega);have k3:=A89 q2 (k:=3) (by omega);have l4:=A4j q1 B1.1 (k:=4) (by omega);have s4:=zW q1 B1.1 (k:=4) (by omega);have h4:=B1.at (k:=4) (by omega);have w4:D9B .i64 (s1.getD 4 0+1)=s1.getD 4 0+1:=wrap_i64 (by omega) (by omega);by_cases c1:now.getD 0 0=2
  ·by_cases c2:was.getD 3 0=now.getD 3 0
   ·rw [if_neg (λh=>h.2 c2)] at es2;rw [es2] at part3;obtain ⟨h',f1,f2⟩:=part3 g q1 q2 q3 q4;refine ⟨h',?_,f2⟩;rw [dD];simp only [esc,l0,c1,k3,l3,c2];exact f1
   ·rw [if_pos ⟨c1,c2⟩] at es2;have D8Q:r≠h.length:=by omega
    have D8R:r≠h.length+1:=by omega
    obtain ⟨h',f1,f2⟩:=part3 (g.set r (rT (encI s2))) (D1 (D7 q1)) (by rw [B7 D8Q];exact q2) (by rw [B7 D8R];exact q3) (q4.set (.inl rfl));rw [es2] at f1;refine ⟨h',?_,f2⟩;rw [dD];simp only [esc,l0,c1,k3,l3,c2,l4,w4,s4];exact f1
  ·rw [if_neg (λh=>c1 h.1)] at es2;rw [es2] at part3;obtain ⟨h',f1,f2⟩:=part3 g q1 q2 q3 q4;refine ⟨h',?_,f2⟩;rw [dD];simp only [esc,l0,c1];exact f1
 have l1:=A89 g0 (k:=1) (by omega);have l1':=A89 g1 (k:=1) (by omega);have l3:=A4j gr hB.1 (k:=3) (by omega);have s3:=zW gr hB.1 (k:=3) (by omega);have h3:=hB.at (k:=3) (by omega);have w3:D9B .i64 (s.getD 3 0+1)=s.getD 3 0+1:=wrap_i64 (by omega) (by omega);have cl1:cells? (.a (encI was))=A4 (encI was):=rfl;have cl2:cells? (.a (encI now))=A4 (encI now):=rfl;by_cases c1:was.getD 1 0=now.getD 1 0
 ·rw [if_neg (λh=>h c1)] at es1;rw [es1] at part2;obtain ⟨h',f1,f2⟩:=part2 G gr g0 g1 O1;refine ⟨h',pY (n:=20) ?_,f2⟩;rw [pM];simp only [esc,cl1,cl2,<-hG,l1,l1',c1];exact f1
 ·rw [if_pos c1] at es1;obtain ⟨h',f1,f2⟩:=part2 (G.set r (rT (encI s1))) (D1 (D7 gr)) (by rw [B7 (by omega)];exact g0) (by rw [B7 (by omega)];exact g1) (O1.set (.inl rfl));rw [es1] at f1;refine ⟨h',pY (n:=20) ?_,f2⟩;rw [pM];simp only [esc,cl1,cl2,<-hG,l1,l1',c1,l3,w3,s3];exact f1
end
def C0G {g h:A9} {cs:List Cell} {c:Cl} (hc:IsCl g cs c) (hl:Low g.length g h):IsCl h cs c:=by
 obtain ⟨xr,xi,xt,xb,xm,e,h1,h2,h3,h4,h5⟩:=hc.form;exact ⟨xr,xi,xt,xb,xm,e,h1.since hl,h2.since hl,h3.since hl,h4.since hl,h5.since hl⟩
def OnlyR.low {g h h':A9} {r:Nat} (hl:Low g.length g h) (ho:OnlyR r h h') (hr:g.length<=r):Low g.length g h' :=
 ⟨hl.1,D93 hl.2.1 ho.1,λj hj=>(ho.2 j (by have:=hl.2.1;omega) (by omega)).trans (hl.2.2 j hj)⟩
section
variable {D:Dev} {n m:Int} {f:Cell} {g:A9} {q p0 pv pc r:Nat} {cs:List Cell} {c:Cl}
def D2D (hD:okD D) (hv:IsView g f D) (hn:n<=128) (rv:rd g pv=rT (vwC D.length n m f)) (rc:rd g pc=rT cs) (hc:IsCl g cs c) (hrow:c.row.length<=1000) (L8:∀ x∈c.ino,x.length=11) (hin:c.ino.length=(n+1).toNat) (hgr:g.length<=r) :
  ∀ (e:Nat) (i:Int) (M:Nat) (B:Int) (s:List Int) (h:A9),i+e=n+1->1<=i->e<M->BndR s B->B+9*e<=900000->rd h r=rT (encI s)->Low g.length g h ->
  ∃ h' M',A26 q M (pV p0 0) (pV pv 0) (pV pc 0) (pV r 0) (iV i) h=A26 q (M'+1) (pV p0 0) (pV pv 0) (pV pc 0) (pV r 0) (iV (n+1)) h' /\
   rd h' r=rT (encI (A5D D n c e i s))/\Low g.length g h'/\BndR (A5D D n c e i s) (B+9*e):=by
 intro e
 induction e with
 | zero =>
  intro i M B s h hi h1 hM hB hB2 hr hl;obtain ⟨M,rfl⟩:∃ M',M=M'+1:=⟨M-1,by omega⟩;have ei:i=n+1:=by omega
  subst ei;exact ⟨h,M,rfl,hr,hl,hB.mono (by omega)⟩
 | succ e ih =>
  intro i M B s h hi h1 hM hB hB2 hr hl;obtain ⟨M,rfl⟩:∃ M',M=M'+1:=⟨M-1,by omega⟩;have c0:i<=n:=by omega
  have w1:D9B .i64 (i+1)=i+1:=wrap_i64 (by omega) (by omega);have lv1:B8 h (pV pv 1)=A4 (iV n):=B9 (hl.rd rv) rfl rfl;have lv4:D3 h 4 (pV pv 0)=A4 (.a (vwC D.length n m f)):=C9 (hl.rd rv) rfl;have hI:=Z0 (n:=n) (m:=m) (i:=i) (h:=h) hD (hv.since hl);rw [<-D3Z] at hI;have hIl:(encI (A6P D n i)).length=11:=by rw [C1,A88]
  obtain ⟨G,hG⟩:∃ G,G=h++[rT (encI (A6P D n i))]:=⟨_,rfl⟩;have hlG:Low g.length g G:=by rw [hG];exact hl.new _
  have z11:[o0,o0,o0,o0,o0,o0,o0,o0,o0,o0,o0]=encI (zI 11):=rfl;have st:E9 (h++[rT (encI (zI 11))]) 11 (pV h.length 0) (.a (encI (A6P D n i)))=A4 G:=by
   rw [storeAll (by rw [I1];rfl) (by rfl) hIl,nC,hG];rfl
  have rG:rd G r=rT (encI s):=by rw [hG];exact B6 hr
  have lI:D3 G 11 (pV h.length 0)=A4 (.a (encI (A6P D n i))):=C9 (by rw [hG,I1];rfl) hIl;have hcG:=C0G hc hlG;have nQ:cs.length=6:=by obtain ⟨_,_,_,_,_,rfl,_⟩:=hc.form;rfl
  have lc6:D3 G 6 (pV pc 0)=A4 (.a cs):=C9 (hlG.rd rc) nQ;have hK:=C15 (a:=i) hcG hrow;have es:A5D D n c (e+1) i s=A5D D n c e (i+1) (B51 D n c s i):=rfl;rw [es];by_cases hk:i∈c.row
  ·rw [decide_eq_true hk] at hK;have e1:B51 D n c s i=C2s (A6P D n i) (c.ino.getD i.toNat []) s:=by unfold B51;rw [if_pos hk]
   rw [e1];have hit:i.toNat<c.ino.length:=by rw [hin];omega
   obtain ⟨xr,xi,xt,xb,xm,ecs,_,hxi,_⟩:=hcG.form;obtain ⟨ii,oi,ei,_,_,hC⟩:=hxi.sl (by omega);cases ei;have lc1:B8 G (pV pc 1)=A4 (sV ii oi c.ino.length 11):=B9 (hlG.rd rc) (by rw [ecs];rfl) (by rfl);have ei:(i:Int)=((i.toNat:Nat):Int):=by omega
   have ad:E5 11 (sV ii oi c.ino.length 11) (iV i)=A4 (pV ii (oi+i.toNat*11)):=by
    conv=>lhs;rw [ei]
    exact D8 hit
   have eg:c.ino.getD i.toNat []=c.ino[i.toNat]:=by rw [D9z,D9u hit];rfl
   have ln:D3 G 11 (pV ii (oi+i.toNat*11))=A4 (.a (encI (c.ino.getD i.toNat []))):=by
    rw [hC (i.toNat*11) 11 (by rw [kN L8];omega),C0F L8 hit,eg]
   obtain ⟨h1',r1,r2,r3,r4⟩:=D08 (was:=A6P D n i) (now:=c.ino.getD i.toNat []) A88 (by rw [eg];exact L8 _ (D9Y hit)) rG hB (by omega);obtain ⟨h',M',f1,f2,f3,f4⟩:=ih (i+1) M (B+9) _ h1' (by omega) (by omega) (by omega) r4 (by omega) r2 (r3.low hlG hgr);refine ⟨h',M',?_,f2,f3,f4.mono (by omega)⟩;rw [kT,z11];generalize encI (A6P D n i)=X at *;generalize encI (c.ino.getD i.toNat [])=Y at *;generalize encI (zI 11)=Z at *;generalize vwC D.length n m f=V at *;simp only [esc,lv1,c0,lv4,hI,st,lc6,hK,lI,lc1,ad,ln,r1,tQ,w1];exact f1
  ·rw [decide_eq_false hk] at hK;have e1:B51 D n c s i=C3e (kdV D n i) s:=by unfold B51;rw [if_neg hk]
   rw [e1];have er:D9w 11 (Sh.i .i64)=[Sh.i .i64,.i .i64,.i .i64,.i .i64,.i .i64,.i .i64,.i .i64,.i .i64,.i .i64,.i .i64,.i .i64]:=rfl;have q1:=D2d (l:=A6P D n i) (m:=zI 11) (n:=11) A88 (by rfl);rw [er] at q1;have ef:E7 (encI (zI 11)) []=A4 (encI (zI 11)):=rfl;have l2:=A4j rG hB.1 (k:=2) (by omega);have s2:=zW rG hB.1 (k:=2) (by omega);have b2:=hB.at (k:=2) (by omega);have w2:D9B .i64 (s.getD 2 0+1)=s.getD 2 0+1:=wrap_i64 (by omega) (by omega);by_cases hz:kdV D n i=0
   ·have e2:C3e (kdV D n i) s=s:=by unfold C3e;rw [if_neg (by simp [hz])]
    rw [e2];rw [decide_eq_true (C3D.2 hz)] at q1;obtain ⟨h',M',f1,f2,f3,f4⟩:=ih (i+1) M B s G (by omega) (by omega) (by omega) hB (by omega) rG hlG;refine ⟨h',M',?_,f2,f3,f4.mono (by omega)⟩;rw [kT,z11];generalize encI (A6P D n i)=X at *;generalize encI (zI 11)=Z at *;generalize vwC D.length n m f=V at *;simp only [esc,Bool.not_true,lv1,c0,lv4,hI,st,lc6,hK,lI,ef,q1,tQ,w1];exact f1
   ·have e2:C3e (kdV D n i) s=bump s 2:=by unfold C3e;rw [if_pos hz]
    rw [e2];rw [decide_eq_false (λh=>hz (C3D.1 h))] at q1;obtain ⟨h',M',f1,f2,f3,f4⟩:=ih (i+1) M (B+1) _ (G.set r (rT (encI (bump s 2)))) (by omega) (by omega) (by omega) (hB.bump (by omega)) (by omega) (D1 (D7 rG)) (hlG.set hgr _);refine ⟨h',M',?_,f2,f3,f4.mono (by omega)⟩;rw [kT,z11];generalize encI (A6P D n i)=X at *;generalize encI (zI 11)=Z at *;generalize vwC D.length n m f=V at *;simp only [esc,E0E,lv1,c0,lv4,hI,st,lc6,hK,lI,ef,q1,l2,w2,s2,tQ,w1];exact f1
def D2E {T:List Bool} {xt:Cell} (hD:okD D) (hv:IsView g f D) (rv:rd g pv=rT (vwC D.length n m f)) (hT:Has g (.c xt) 1 T.length (bI T)) (hTl:T.length<=100000) (hgr:g.length<=r) (hp0:p0<g.length) {z8:List Cell} (r0:rd g p0=rT z8) (hz8:z8.length=8) :
  ∀ (e i M:Nat) (B:Int) (s:List Int) (h:A9),i+e=T.length->e<M->BndR s B->B+e<=10000000->rd h r=rT (encI s)->Low g.length g h ->
  ∃ h',B0M q M (pV p0 0) (pV pv 0) (pV r 0) (.c xt) (iV (T.length:Nat)) (iV (i:Int)) h=A4 (.t [.a (encI (A2a D n (T.drop i) i s)),.c o0],h')/\BndR (A2a D n (T.drop i) i s) (B+e):=by
 intro e
 induction e with
 | zero =>
  intro i M B s h hi hM hB hB2 hr hl;obtain ⟨M,rfl⟩:∃ M',M=M'+1:=⟨M-1,by omega⟩;have c0:¬ (i:Int)<(T.length:Nat):=by omega
  have e1:A2a D n (T.drop i) i s=s:=by rw [D9K (by omega)];rfl
  rw [e1];have l8:D3 h 8 (pV r 0)=A4 (.a (encI s)):=C9 hr (by rw [C1,hB.1]);have s8:E9 h 8 (pV p0 0) (.a (encI s))=A4 (h.set p0 (rT (encI s))):=storeAll (hl.rd r0) hz8 (by rw [C1,hB.1]);have k8:D3 (h.set p0 (rT (encI s))) 8 (pV p0 0)=A4 (.a (encI s)):=C9 (D1 (by have:=hl.2.1;omega)) (by rw [C1,hB.1]);refine ⟨h.set p0 (rT (encI s)),?_,hB.mono (by omega)⟩;rw [dC];simp only [esc,c0,l8,s8,k8]
 | succ e ih =>
  intro i M B s h hi hM hB hB2 hr hl;obtain ⟨M,rfl⟩:∃ M',M=M'+1:=⟨M-1,by omega⟩;have L8:i<T.length:=by omega
  have c0:(i:Int)<(T.length:Nat):=by omega
  have w1:=D9 (show i+1<9223372036854775808 by omega);obtain ⟨ii,oi,ei,_,hA,_⟩:=(hT.since hl).sl (by omega);cases ei;have a1:E5 1 (sV ii oi T.length 1) (iV (i:Int))=A4 (pV ii (oi+i)):=by rw [D8 L8];simp
  have a2:B8 h (pV ii (oi+i))=A4 (bV T[i]):=hA i _ (by simp [bI,L8]);have lv4:D3 h 4 (pV pv 0)=A4 (.a (vwC D.length n m f)):=C9 (hl.rd rv) rfl;have hU:=C5j (n:=n) (m:=m) (i:=(i:Int)) (h:=h) hD (hv.since hl);have ed:A2a D n (T.drop i) i s=A2a D n (T.drop (i+1)) (i+1) (A3h (C3X D n (i:Int)) T[i] s):=by rw [D9E L8];rfl
  have l7:=A4j hr hB.1 (k:=7) (by omega);have s7:=zW hr hB.1 (k:=7) (by omega);have b7:=hB.at (k:=7) (by omega);have w7:D9B .i64 (s.getD 7 0+1)=s.getD 7 0+1:=wrap_i64 (by omega) (by omega);have l6:=A4j hr hB.1 (k:=6) (by omega);have s6:=zW hr hB.1 (k:=6) (by omega);have b6:=hB.at (k:=6) (by omega);have w6:D9B .i64 (s.getD 6 0+1)=s.getD 6 0+1:=wrap_i64 (by omega) (by omega);rw [ed];generalize C3X D n (i:Int)=u at *;cases hb:T[i] with
  | true =>
   rw [hb] at a2;cases u with
   | true =>
    have e1:A3h A5 A5 s=s:=by simp [A3h]
    rw [e1];obtain ⟨h',f1,f2⟩:=ih (i+1) M B s h (by omega) (by omega) hB (by omega) hr hl;refine ⟨h',?_,f2.mono (by omega)⟩;rw [dC];generalize vwC D.length n m f=V at *;simp only [esc,c0,a1,a2,lv4,hU,kR,w1];exact f1
   | false =>
    have e1:A3h A6 A5 s=bump s 7:=by simp [A3h]
    rw [e1];obtain ⟨h',f1,f2⟩:=ih (i+1) M (B+1) _ (h.set r (rT (encI (bump s 7)))) (by omega) (by omega) (hB.bump (by omega)) (by omega) (D1 (D7 hr)) (hl.set hgr _);refine ⟨h',?_,f2.mono (by omega)⟩;rw [dC];generalize vwC D.length n m f=V at *;simp only [esc,E0E,c0,a1,a2,lv4,hU,l7,w7,s7,kR,w1];exact f1
  | false =>
   rw [hb] at a2;cases u with
   | true =>
    have e1:A3h A5 A6 s=bump s 6:=by simp [A3h]
    rw [e1];obtain ⟨h',f1,f2⟩:=ih (i+1) M (B+1) _ (h.set r (rT (encI (bump s 6)))) (by omega) (by omega) (hB.bump (by omega)) (by omega) (D1 (D7 hr)) (hl.set hgr _);refine ⟨h',?_,f2.mono (by omega)⟩;rw [dC];generalize vwC D.length n m f=V at *;simp only [esc,E0E,c0,a1,a2,lv4,hU,l6,w6,s6,kR,w1];exact f1
   | false =>
    have e1:A3h A6 A6 s=s:=by simp [A3h]
    rw [e1];obtain ⟨h',f1,f2⟩:=ih (i+1) M B s h (by omega) (by omega) hB (by omega) hr hl;refine ⟨h',?_,f2.mono (by omega)⟩;rw [dC];generalize vwC D.length n m f=V at *;simp only [esc,E0E,c0,a1,a2,lv4,hU,kR,w1];exact f1
def C2m {v:Val} {h:A9} (hv:Has h v 256 D.length (C8 D)) (hD:okD D) (hn:A5w D=A5) (hl:D.length<=1000) :
  A5e [v] h=A4 (.t [.a (encI (B5R D (yX D))),.c o0],h)/\BndR (B5R D (yX D)) 1000000:=by
 have hm:=C0c hn;obtain ⟨n,en⟩:∃ n,n=yX D:=⟨_,rfl⟩;obtain ⟨P,hP⟩:∃ P,P=N3 (kK D n (F5 D n)) D 0:=⟨_,rfl⟩;rw [<-en] at hm ⊢;obtain ⟨b16,b512,n8,n128,_,_⟩:=H5.1 hm;obtain ⟨fR,fS,fil,fin,ftl⟩:=bJ hD hm;have D9g:(F5 D n).lost=(H8 D n).lost:=(oP (L:=(H8 D n).row) (c:=H8 D n)).2.2.2.2.1;have D7U:(F5 D n).row=(H8 D n).row:=(oP (L:=(H8 D n).row) (c:=H8 D n)).1;have hPl:P.length<=D.length:=by
  have h1:=(B4i (W:=kK D n (F5 D n)) (D:=D) (i:=0) (B3G hD hm).1).2;rw [(B3G hD hm).2] at h1;rw [hP];exact h1
 obtain ⟨s0,hs0⟩:∃ s0:List Int,s0=[((P.length:Nat):Int),(F5 D n).lost,0,0,0,0,0,0]:=⟨_,rfl⟩;have B0:BndR s0 30000:=by
  rw [hs0];refine ⟨rfl,λa ha=>?_⟩;have:=fS.lost0;have:=fS.lost;simp only [E0B,List.not_mem_nil,or_false] at ha;rcases ha with rfl | rfl | rfl | rfl | rfl | rfl | rfl | rfl<;>omega
 have z8:[o0,o0,o0,o0,o0,o0,o0,o0]=encI (zI 8):=rfl;obtain ⟨G,hG⟩:∃ G,G=ro h++[rT (encI (zI 8))]:=⟨_,rfl⟩;have hvG:Has G v 256 D.length (C8 D):=by rw [hG];exact hv.ro.more _
 have D6F:=rB hvG hD hn (by omega);rw [<-en,<-hP] at D6F;obtain ⟨G2,hG2⟩:∃ G2,G2=G++[rT (fG P)]:=⟨_,rfl⟩;rw [<-hG2] at D6F;obtain ⟨f,t,hO,hV⟩:=A5Y (h:=G2) (by rw [hG2];exact hvG.more _) hD hn (by omega);obtain ⟨H,hHe⟩:∃ H,H=G2++t:=⟨_,rfl⟩;rw [<-hHe] at hO hV;rw [<-en] at hO;generalize C57 D=m at *;have hS5:E9 (H++[rT [o0,o0,.i .u64 0,.nf]]) 4 (pV H.length 0) (.a (vwC D.length n m f))=A4 (H++[rT (vwC D.length n m f)]):=by rw [F8];rfl
 obtain ⟨K,hK⟩:∃ K,K=H++[rT (vwC D.length n m f)]:=⟨_,rfl⟩;rw [<-hK] at hS5;have k4:D3 K 4 (pV H.length 0)=A4 (.a (vwC D.length n m f)):=C9 (by rw [hK,I1];rfl) rfl;have rvK:rd K H.length=rT (vwC D.length n m f):=by rw [hK,I1];rfl
 have hVK:IsView K f D:=by rw [hK];exact hV.more _
 obtain ⟨cs,t2,hC,hI,_⟩:=B69 (m:=m) (h:=K) hD hVK hm;obtain ⟨L,hL⟩:∃ L,L=K++t2:=⟨_,rfl⟩;rw [<-hL] at hC hI;have nQ:cs.length=6:=by obtain ⟨_,_,_,_,_,rfl,_⟩:=hI.form;rfl
 obtain ⟨Q,hQ⟩:∃ Q,Q=L++[rT cs]:=⟨_,rfl⟩;have hS6:E9 (L++[rT [.ns,.ns,.ns,.ns,.ns,o0]]) 6 (pV L.length 0) (.a cs)=A4 Q:=by
  rw [storeAll (n:=6) (cs:=[.ns,.ns,.ns,.ns,.ns,o0]) (by rw [I1];rfl) rfl nQ,nC,hQ];rfl
 have rcQ:rd Q L.length=rT cs:=by rw [hQ,I1];rfl
 have rvQ:rd Q H.length=rT (vwC D.length n m f):=by rw [hQ,hL];exact B6 (B6 rvK)
 have hVQ:IsView Q f D:=by rw [hQ,hL];exact (hVK.more _).more _
 have hIQ:IsCl Q cs (F5 D n):=C0G hI (by rw [hQ];exact (Low.refl (D9x _)).new _);obtain ⟨xr,xi,xt,xb,xm,ecs,_,_,hxt,_⟩:=hIQ.form;have lc5:B8 Q (pV L.length 5)=A4 (iV (F5 D n).lost):=B9 rcQ (by rw [ecs];rfl) rfl;have ef:E7 (encI (zI 8)) [(0,1,iV (P.length:Nat)),(1,1,iV (F5 D n).lost)]=A4 (encI s0):=by rw [hs0];rfl
 have s8:E9 (Q++[rT (encI (zI 8))]) 8 (pV Q.length 0) (.a (encI s0))=A4 (Q++[rT (encI s0)]):=by
  rw [storeAll (by rw [I1];rfl) (by rfl) (by rw [C1,B0.1]),nC];rfl
 have p0Q:rd Q (ro h).length=rT (encI (zI 8)):=by
  rw [hQ,hL,hK,hHe,hG2,hG];refine B6 (B6 (B6 (B6 (B6 ?_))));rw [I1];rfl
 have low0:Low Q.length Q (Q++[rT (encI s0)]):=(Low.refl (D9x _)).new _;obtain ⟨h1,M1,f1,f2,f3,f4⟩:=D2D (q:=100000) (p0:=(ro h).length) hD hVQ n128 rvQ rcQ hIQ (by rw [D7U];have:=fS.row;omega) fil fin (D9x _) n.toNat 1 100000 30000 s0 (Q++[rT (encI s0)]) (by omega) (by omega) (by omega) B0 (by omega) (by rw [I1];rfl) low0;obtain ⟨h2,u1,u2⟩:=D2E (q:=100000) (p0:=(ro h).length) (r:=Q.length) (pv:=H.length) hD hVQ rvQ hxt (by rw [ftl];omega) (D9x _) (by have:=D7 p0Q;omega) p0Q (by rfl) (F5 D n).taken.length 0 100000 _ _ h1 (by omega) (by rw [ftl];omega) f4 (by rw [ftl];omega) f2 f3;rw [D9O] at u1 u2;have ec:A2a D n (F5 D n).taken 0 (A5D D n (F5 D n) n.toNat 1 s0)=B5R D n:=by unfold B5R;rw [hs0,hP]
 rw [ec] at u1 u2;refine ⟨?_,u2.mono (by rw [ftl];omega)⟩;have key:A4V 100000 [v] (ro h)=A4 (.t [.a (encI (B5R D n)),.c o0],h2):=by
  have lt2:B8 h1 (pV L.length 2)=A4 (.c xt):=B9 (f3.rd rcQ) (by rw [ecs];rfl) rfl;have ltl:=(hxt.since f3).len;have lv1:B8 h1 (pV H.length 1)=A4 (iV n):=B9 (f3.rd rvQ) rfl rfl;have cn:¬ n+1<=n:=by omega
  have c00:((0:Nat):Int)=0:=rfl;rw [c00] at u1;rw [B70,z8];generalize encI (zI 8)=Z at *;generalize vwC D.length n m f=V at *;generalize encI s0=S0 at *;simp only [esc,<-hG,D6F,hO,hS5,k4,hC,hS6,lc5,ef,s8,eq_self];refine f1.trans ?_;rw [kT];simp only [esc,lv1,cn,lt2,ltl];exact u1
 exact B2Y key (by simp [Val.flat,Cell.flat])
end
section
variable (n m m2:Nat) (a0 a1 a2:Val) (h:A9)
def A4q:FD A8:=⟨px 0X119f2003a238004881c6b760550525f00138038614022b201042,[.c .np],[.min (.t 3) (.v (.c (.i .i64 512))),.max (.v (.c (.i .i64 16))) (.t 4),.build ([.ns,o0,.b A6,.b A6,o0,o0]) [(0,1,(.t 7))]],[.tmp 2],[]⟩
def B8X:=A4q.R
def C1K:=mR B8X A4q (tT []) n [a0] h
def B8Q:=A4q.K Tryz.func154
def B1f:=A4q.Q
def C1R:OfT B8X B1f:=B8Q.of
def jS:FD A8:=⟨px 0X119f200290400503d75060201120140062240386121942031201042,[],[.eqN A6 A6 (.t 3)],[.tmp 2],[]⟩
def sS:=jS.R
def A9O:=mR sS jS (tT []) n [a0] h
def sQ:=jS.K Tryz.func204
def kC:=jS.S
def A6F:G3 sS kC:=sQ.flat
def mW:FD A8:=⟨px 0X114010201194012a0522438f1d001b281901c4481a0484b0481e00481f0486c7487484870110123a1e01c3b05216940118000072241cf1800430503d71905296101d2154012000072247f5003876031b611c2050023140130182,[],[.eqN A6 A6 (.t 6)],[.tmp 4],[]⟩
def wJ:=mW.R
def B05:=mR wJ mW (tT []) n [a0,a1] h
def A53:=mW.K Tryz.func238
def V7:=mW.S
def A0r:SOk A8 238 V7:=A53.sok
def A7F:G3 wJ V7:=A53.flat
def cH:FD A8:=⟨px 0X422a4051a3d50020440503d6418182410224259273182,[],[],[],[]⟩
def xI:=cH.R
def A4K:=mR xI cH (tT []) n [a0,a1] h
def A9K:=cH.K Tryz.func239
def N2:=cH.Q
def A3x:D13 A8 239 N2:=C90 (C9H _) Tryz.func239 (by kernel_rfl)
def A48:OfT xI N2:=A9K.of
def B2e:DFn:=⟨[([1,3,5,6],(.ops [aB 3 0,aB 5 2,aO 6 (.alloc ([o0]))])),([1,3,5,6],(sO [1,3,5,6] [aL 7 3,aM 8 1,aO 9 (.call 238 [(.t 7),(.t 8)]),aN (.store1 (.t 6) (.t 9))] (sO [1,3,5,6,11] [aL 10 6,aO 11 (.bin .neq (.t 10) (.v (iV 0)))] (.cond (.t 11) (sO [6] [aL 12 6,aN (.store1 (.t 6) (.t 12))] .ret) .skip))))],[1,3,5,6],13,239,[(.t 6),(.t 3)],(.seq [1,3,5,6] (sO [1,3,5,6,24] [aL 14 3,aO 15 (.nilc (.t 14)),aF 16 15 2,aL 17 16,aM 18 17,aG 19 18 A5 (.load1 (.t 3)),aG 20 18 A5 (.nilc (.t 19)),aG 21 18 A5 (.fAddr (.t 20) 1),aG 22 18 A5 (.load1 (.t 21)),aG 23 18 A5 (.bin .eql (.t 22) (.v (iV 0))),aO 24 (.pick (.t 18) (.t 23) (.v (bV A6)))] (.cond (.t 24) (sO [6] [aL 25 3,aO 26 (.nilc (.t 25)),aF 27 26 3,aN (.store1 (.t 27) (.v (bV A5)))] (sO [6] [aN (.store1 (.t 6) (.v (iV 12)))] .ret)) .skip)) (.seq [1,3,5,6] (sO [1,3,5,6,31] [aL 28 3,aO 29 (.nilc (.t 28)),aF 30 29 2,aL 31 30] (.cond (.t 31) (.ops [aL 32 3,aO 33 (.nilc (.t 32)),aF 34 33 1,aL 35 34,aO 36 (.bin .sub (.t 35) (.v (iV 1))),aO 37 (.nilc (.t 32)),aF 38 37 1,aN (.store1 (.t 38) (.t 36))]) .skip)) (.seq [6] (.draw 0 [aL 39 3,aO 40 (.nilc (.t 39)),aF 41 40 0,aL 42 41,aM 43 1,aL' 44 256 5] [aO 45 (.iAddrL 256 (.t 42) (.t 43)),aN (.storeN 256 (.t 45) (.t 44))]) (sO [6] [aN (.store1 (.t 6) (.v (iV 0)))] .ret)))),[.cell1 6]⟩
def B2f:J9:=D2T 238 V7 C6d
def pS:Fun:=B2e.run B2f N2 0
def A7E:SOk A8 205 pS:=D2K (C9f A0r C9e) A3x Tryz.func205 (by kernel_rfl)
def A7D:pS [a0,a1,a2] h=bnd (cells? a0) λc1=>bnd (cells? a2) λc2=>bnd (B8 (((h++[rT (c1)])++[rT (c2)])++[rT ([o0])]) (pV h.length 0)) λv3=>bnd (V7 [v3,a1] (((h++[rT (c1)])++[rT (c2)])++[rT ([o0])])) λp4=>bnd (H1 p4.2 (pV ((h++[rT (c1)])++[rT (c2)]).length 0) p4.1) λh5=>bnd (B8 h5 (pV ((h++[rT (c1)])++[rT (c2)]).length 0)) λv6=>bnd (K6 .neq v6 (iV 0)) λv7=>cnd v7 (bnd (B8 h5 (pV ((h++[rT (c1)])++[rT (c2)]).length 0)) λv8=>bnd (H1 h5 (pV ((h++[rT (c1)])++[rT (c2)]).length 0) v8) λh9=>mp (B8 h9 (pV ((h++[rT (c1)])++[rT (c2)]).length 0)) λv=>(v,h9)) (bnd (A70 239 [(pV ((h++[rT (c1)])++[rT (c2)]).length 0),(pV h.length 0)]) λv10=>bnd (B8 h5 (pV h.length 0)) λv11=>bnd (A3H v11) λv12=>bnd (V8 v12 2) λv13=>bnd (B8 h5 v13) λv14=>bnd (gd v14 A5 (bnd (B8 h5 (pV h.length 0)) λv15=>A4 (v15,h5)) (A4 (.no,h5))) λp16=>bnd (gd v14 A5 (bnd (A3H p16.1) λv17=>A4 (v17,p16.2)) (A4 (.no,p16.2))) λp18=>bnd (gd v14 A5 (bnd (V8 p18.1 1) λv19=>A4 (v19,p18.2)) (A4 (.no,p18.2))) λp20=>bnd (gd v14 A5 (bnd (B8 p20.2 p20.1) λv21=>A4 (v21,p20.2)) (A4 (.no,p20.2))) λp22=>bnd (gd v14 A5 (bnd (K6 .eql p22.1 (iV 0)) λv23=>A4 (v23,p22.2)) (A4 (.no,p22.2))) λp24=>bnd (C5H v14 p24.1 (bV A6)) λv25=>cnd v25 (bnd (B8 p24.2 (pV h.length 0)) λv26=>bnd (A3H v26) λv27=>bnd (V8 v27 3) λv28=>bnd (H1 p24.2 v28 (bV A5)) λh29=>bnd (H1 h29 (pV ((h++[rT (c1)])++[rT (c2)]).length 0) (iV 12)) λh30=>bnd (B3n N2 v10 h30) λp31=>mp (B8 p31.2 (pV ((h++[rT (c1)])++[rT (c2)]).length 0)) λv=>(v,p31.2)) (bnd (B8 p24.2 (pV h.length 0)) λv32=>bnd (A3H v32) λv33=>bnd (V8 v33 2) λv34=>bnd (B8 p24.2 v34) λv35=>cnd v35 (bnd (B8 p24.2 (pV h.length 0)) λv36=>bnd (A3H v36) λv37=>bnd (V8 v37 1) λv38=>bnd (B8 p24.2 v38) λv39=>bnd (K6 .sub v39 (iV 1)) λv40=>bnd (A3H v36) λv41=>bnd (V8 v41 1) λv42=>bnd (H1 p24.2 v42 v40) λh43=>bnd (B8 h43 (pV h.length 0)) λv44=>bnd (A3H v44) λv45=>bnd (V8 v45 0) λv46=>bnd (B8 h43 v46) λv47=>bnd (D3 h43 256 (pV (h++[rT (c1)]).length 0)) λv48=>bnd (E5 256 v47 a1) λv49=>bnd (E9 (h43++[]) 256 v49 v48) λh50=>bnd (H1 h50 (pV ((h++[rT (c1)])++[rT (c2)]).length 0) (iV 0)) λh51=>bnd (B3n N2 v10 h51) λp52=>mp (B8 p52.2 (pV ((h++[rT (c1)])++[rT (c2)]).length 0)) λv=>(v,p52.2)) (bnd (B8 p24.2 (pV h.length 0)) λv53=>bnd (A3H v53) λv54=>bnd (V8 v54 0) λv55=>bnd (B8 p24.2 v55) λv56=>bnd (D3 p24.2 256 (pV (h++[rT (c1)]).length 0)) λv57=>bnd (E5 256 v56 a1) λv58=>bnd (E9 (p24.2++[]) 256 v58 v57) λh59=>bnd (H1 h59 (pV ((h++[rT (c1)])++[rT (c2)]).length 0) (iV 0)) λh60=>bnd (B3n N2 v10 h60) λp61=>mp (B8 p61.2 (pV ((h++[rT (c1)])++[rT (c2)]).length 0)) λv=>(v,p61.2)))):=by kernel_rfl
def dX:FD A8:=⟨px 0X422a5051a3d50020450503d041818,[],[],[],[]⟩
def A0f:=dX.R
def A6C:=mR A0f dX (tT []) n [a0] h
def B02:=dX.K Tryz.func240
def T3:=dX.Q
def A47:D13 A8 240 T3:=C90 (C9H _) Tryz.func240 (by kernel_rfl)
def A6E:OfT A0f T3:=B02.of
def B4E:DFn:=⟨[([1,2,4],(.ops [aB 2 0,aO 4 (.alloc (D9w 256 (.i .u8 0))),aO 5 (.mv (.v (iV 0)))])),([1,2,4],(sO [1,2,4,5] [aL 6 2,aM 7 1,aO 8 (.call 238 [(.t 6),(.t 7)]),aM 5 8] (sO [1,2,4,5,10] [aM 9 5,aO 10 (.bin .neq (.t 9) (.v (iV 0)))] (.cond (.t 10) (sO [4,5] [aL' 11 256 4,aM 12 5,aN (.storeN 256 (.t 4) (.t 11)),aM 5 12] .ret) .skip))))],[1,2,4],13,240,[(.t 2)],(sO [4,5] [aL 14 2,aO 15 (.nilc (.t 14)),aF 16 15 0,aL 17 16,aM 18 1,aO 19 (.iAddrL 256 (.t 17) (.t 18)),aL' 20 256 19,aN (.storeN 256 (.t 4) (.t 20)),aO 5 (.mv (.v (iV 0)))] .ret),[.cellN 4 256,.tmp 5]⟩
def B4F:J9:=D2T 238 V7 C6d
def sW:Fun:=B4E.run B4F T3 0
def A9U:SOk A8 206 sW:=D2K (C9f A0r C9e) A47 Tryz.func206 (by kernel_rfl)
def A9T:sW [a0,a1] h=bnd (cells? a0) λc1=>bnd (B8 ((h++[rT (c1)])++[rT (D9w 256 (.i .u8 0))]) (pV h.length 0)) λv2=>bnd (V7 [v2,a1] ((h++[rT (c1)])++[rT (D9w 256 (.i .u8 0))])) λp3=>bnd (K6 .neq p3.1 (iV 0)) λv4=>cnd v4 (bnd (D3 p3.2 256 (pV (h++[rT (c1)]).length 0)) λv5=>bnd (E9 p3.2 256 (pV (h++[rT (c1)]).length 0) v5) λh6=>B8D [D3 h6 256 (pV (h++[rT (c1)]).length 0),A4 p3.1] h6) (bnd (A70 240 [(pV h.length 0)]) λv7=>bnd (B8 p3.2 (pV h.length 0)) λv8=>bnd (A3H v8) λv9=>bnd (V8 v9 0) λv10=>bnd (B8 p3.2 v10) λv11=>bnd (E5 256 v11 a1) λv12=>bnd (D3 p3.2 256 v12) λv13=>bnd (E9 p3.2 256 (pV (h++[rT (c1)]).length 0) v13) λh14=>bnd (B3n T3 v7 h14) λp15=>B8D [D3 p15.2 256 (pV (h++[rT (c1)]).length 0),A4 (iV 0)] p15.2):=by kernel_rfl
def gK:FD A8:=⟨px 0X11af2001a488390400503d7100048855d70201488248140062240386121942034882481042,[],[.eqN A6 A6 (.t 3)],[.tmp 2],[]⟩
def pK:=gK.R
def A7a:=mR pK gK (tT []) n [a0] h
def A1r:=gK.K Tryz.func84
def pR:=gK.S
def A6D:A4D pK pR:=A1r.out
end
end Go.Proofs.YtbnkgnfhgbhblaaGreat
