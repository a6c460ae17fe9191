/- What the proof of this claim leans on, part 5. -/
import Derived.Test.YtbnkgnfhgbhblaaGreatFMendPlansp4
set_option linter.all false
set_option maxRecDepth 100000
open Go Go.Esc
open Bool renaming and_eq_true→E69,and_false→E75,false_and→E7f,not_false→E77,not_true→E8a,true_and→E7j,false→A6,true→A5
open Int renaming cast_ofNat_Int→E7F,eq_ofNat_of_zero_le→E7Q,toNat_natCast→E7r
open List renaming all_cons→E7P,all_eq_true→E70,append_assoc→E7c,append_nil→E7w,cons_append→E7E,drop_drop→E7X,drop_eq_getElem_cons→E7d,drop_of_length_le→E7k,drop_zero→E7p,getD_eq_getElem?_getD→E7e,getElem?_append_left→E7H,getElem?_append_right→E7l,getElem?_cons_succ→E7S,getElem?_drop→E7W,getElem?_eq_getElem→E66,getElem?_eq_none→E7L,getElem?_take_of_lt→E7G,getElem_mem→E7J,length_append→E7a,length_cons→E7g,length_drop→E72,length_nil→E7v,length_replicate→E7B,length_set→E7D,length_take→E7A,map_append→E71,mem_cons_of_mem→E7s,mem_cons_self→E7u,mem_of_getElem?→E7y,mem_or_eq_of_mem_set→E7O,nil_append→E7m,range→E7C,replicate→E68,replicate_succ→E7z,set_append_right→E7I,set_cons_succ→E7U,set_cons_zero→E7T,take_of_length_le→E7i,take_succ_eq_append_getElem→E7n,take_zero→E76
open Nat renaming le_refl→E7b,le_trans→E7K,min_eq_left→E73,sub_self→E7R,zero_add→E7t
open Option renaming bind_some→E7h,getD_none→E7Z,getD_some→E7N,isSome_none→E7x,isSome_some→E7o,none→A7,some→A4
open Go.Proofs.Tryz renaming prog→A8
namespace Go.Proofs.YtbnkgnfhgbhblaaGreat
section
variable {D:Dev} {n m:Int} {f:Cell} {g:B5} {r:Nat} {c:Cl} {h:B5}
theorem E0c {ino:Nat} {no p0 d:Int} {t:List Int} {q R B S Lo:Nat} {h0:B5} (hD:okD D) (hv:IsView g f D) (ht:t.length=32) (hq:300<=q) (h0g:g.length<=h0.length) (i1:ino<c.ino.length)
  (hR:R<=50000) (hB:B<=500000) (hS:S<=50000) (hLo:Lo<=500000) (sm:Small c R B S Lo) (P:WP D n m f g r c h) (F:Fr r h0 h) (hi:LocV h r h0.length (F8 2 1 0 p0 (no::zI 6))) (hx:LocV h r (h0.length+2) (encI (d::t))) :
  ∃ h',jV q (pV r 0) (iV (ino:Int)) (pV h0.length 0) (pV (h0.length+2) 0) h=A4 (.t [],h') /\
   WP D n m f g r (if no=0 then { c with ino:=c.ino.set ino (2::1::0::p0::no::zI 6) } else xN D n { c with ino:=c.ino.set ino (2::1::0::p0::no::zI 6) } ino no d t) h'/\Fr r h0 h' /\
   Small (if no=0 then { c with ino:=c.ino.set ino (2::1::0::p0::no::zI 6) } else xN D n { c with ino:=c.ino.set ino (2::1::0::p0::no::zI 6) } ino no d t) (R+224) (B+224) (S+33) (Lo+224):=by
 have hv2:=hv.get;obtain ⟨id,hC,c1,c2,c3,PC,FC⟩:=P.setIno hv2 (k:=ino) (l:=2::1::0::p0::no::zI 6) i1 rfl;have iC:=hi.fr FC;have xC:=hx.fr FC;have lI:D4 h 11 (pV h0.length 0)=A4 (.a (encI (2::1::0::p0::no::zI 6))):=C7 hi.2 rfl;have adI:E1 11 (sV id 0 c.ino.length 11) (iV (ino:Int))=A4 (pV id (ino*11)):=by rw [C9 i1];simp
 have lC4:B8 hC (pV h0.length 4)=A4 (iV no):=C4 iC.2 rfl rfl;have ad0:∀ j,J8 6 1 (pV j 4) (iV 0)=A4 (pV j 4):=λj=>J4 (j:=0) (by omega)
 have sm':Small { c with ino:=c.ino.set ino (2::1::0::p0::no::zI 6) } R B S Lo:=⟨sm.row,sm.lnk,sm.blocks,sm.made,sm.lost0,sm.lost⟩;rw [B1c];by_cases cz:no=0
 ·rw [if_pos cz];refine ⟨hC,?_,PC,F.trans FC,⟨E7K sm.row (by omega),sm'.lnk.mono (by omega),E7K sm.blocks (by omega),E7K sm.made (by omega),sm.lost0,by have:=sm.lost;show c.lost<=_;omega⟩⟩;rw [cz] at lC4;simp only [esc,Nat.reduceAdd,c1,lI,adI,c3,ad0,lC4];rfl
 ·rw [if_neg cz];obtain ⟨h',e1,e2,e3,e4,e5⟩:=E0d (ino:=(ino:Int)) (no:=no) (pi:=h0.length) (px:=h0.length+2) (q:=q) (h0:=h0) hD hv ht hq h0g (by omega) (by omega) hR hB hS hLo sm' PC (F.trans FC) iC (tl:=zI 6) rfl xC;refine ⟨h',?_,e2,e3,e4⟩;simp only [esc,Nat.reduceAdd,c1,lI,adI,c3,ad0,lC4,cz];exact e1
theorem E0b {ino:Int} {R B S Lo:Nat} (hD:okD D) (hv:IsView g f D) (P:WP D n m f g r c h) (i0:0<=ino) (i1:ino.toNat<c.ino.length) (hR:R<=50000) (hB:B<=500000) (hS:S<=50000) (hLo:Lo<=500000) (sm:Small c R B S Lo) :
  ∃ h',mW [pV r 0,iV ino] h=A4 (.t [],h')/\WP D n m f g r (qF D n c ino) h'/\Fr r h h'/\Small (qF D n c ino) (R+224) (B+224) (S+33) (Lo+224):=by
 have hv2:=hv.get;obtain ⟨k,rfl⟩:=E7Q i0;rw [E7r] at i1;obtain ⟨mp,hq9,q1,q2,_⟩:=P.setPar hv2 0 0;have q2':=q2 A6 k;obtain ⟨p0,hp0⟩:∃ p0,p0=(c.par k).getD 0:=⟨_,rfl⟩;rw [<-hp0] at q2';obtain ⟨d0,hd0⟩:∃ d0,d0=(drV D n k).getD 0 0:=⟨_,rfl⟩;obtain ⟨b,hb⟩:∃ b,b=blk D d0:=⟨_,rfl⟩;have hbl:b.length=256:=by rw [hb];exact O5 hD
 obtain ⟨I,hI⟩:∃ I,I=F8 (kdV D n k) (lnV D n k) (szV D n k) (paV D n k) (drV D n k):=⟨_,rfl⟩;have hIl:I.length=11:=by rw [hI];simp [F8,B7,uX]
 have I0:I[0]?=A4 (.i .i64 (kdV D n k)):=by rw [hI];rfl
 have I4:I[4]?=A4 (.i .i64 d0):=by
  rw [hI];simp only [F8,E7S];rw [G8,hd0,E7e,E66 (by rw [uX];omega)];rfl
 have hVI:=λt=>oF (n:=n) (m:=m) (i:=(k:Int)) (h:=h++t) hD ((hv.since P.lo).more t)
 rw [A7D,<-hI] at hVI;have lV:=λt=>(P.more hv2 t).view
 have hBk:=λt=>bI (n:=n) (m:=m) (no:=d0) (h:=h++t) hD ((hv.since P.lo).more t)
 rw [<-hb] at hBk;have B8g:=λh=>D3c (b:=b) (h:=h) hbl
 obtain ⟨X,hX⟩:∃ X,X=(bif U8 b then getD b::N7 b 32 else 0::zI 32):=⟨_,rfl⟩;rw [<-hX] at B8g;obtain ⟨dd,tt,hXt,htt⟩:∃ dd tt,X=dd::tt/\tt.length=32:=by
  rw [hX];cases U8 b with
  | true=>exact ⟨_,_,rfl,D0k b⟩
  | false=>exact ⟨_,_,rfl,I8⟩
 have hXl:(encI X).length=33:=by rw [hXt];simp [B7,htt]
 obtain ⟨z,hz⟩:∃ z,z=F8 2 1 0 p0 (0::zI 6):=⟨_,rfl⟩;have yN:z.length=11:=by rw [hz];rfl
 have z11:[o0,o0,o0,o0,o0,o0,o0,o0,o0,o0,o0].length=11:=rfl;have ef:E4 [o0,o0,o0,o0,o0,o0,o0,o0,o0,o0,o0] [(0,1,iV 2),(1,1,iV 1),(3,1,iV p0)]=A4 z:=by rw [hz];rfl
 obtain ⟨T,hT⟩:∃ T,T=[rT z,rT I,rT (encI X)]:=⟨_,rfl⟩;have P1:=P.more hv2 T;have F1:Fr r h (h++T):=Fr.low ((Low.refl (E7b _)).new _) P.rlt;have L0:LocV (h++T) r (h.length+0) z:=LocV.new (k:=0) hv2 P (by rw [hT];rfl);have L1:LocV (h++T) r (h.length+1) I:=LocV.new (k:=1) hv2 P (by rw [hT];rfl);have L2:LocV (h++T) r (h.length+2) (encI X):=LocV.new (k:=2) hv2 P (by rw [hT];rfl);rw [Nat.add_zero] at L0;have ad0:∀ j,J8 6 1 (pV j 4) (iV 0)=A4 (pV j 4):=λj=>J4 (j:=0) (by omega)
 have eO:gX D n c k=(bif decide (kdV D n k=2)&&U8 b then (dU D n c d0,U1 D n c d0) else (c,0)):=by unfold gX;rw [<-hd0,<-hb]
 have eI:∀ s:Cl × Int,gX D n c k=s->Y1 D n c k={ s.1 with ino:=s.1.ino.set k (2::1::0::p0::s.2::zI 6) }:=by
  intro s hs;unfold Y1;rw [hs,<-hp0,E7r]
 have eC:∀ s:Cl × Int,gX D n c k=s->(s.2≠0->U8 b=A5)->qF D n c k=(if s.2=0 then { s.1 with ino:=s.1.ino.set k (2::1::0::p0::s.2::zI 6) } else xN D n { s.1 with ino:=s.1.ino.set k (2::1::0::p0::s.2::zI 6) } k s.2 dd tt):=by
  intro s hs hg;unfold qF;rw [hs,eI s hs,<-hd0,<-hb];split
  ·rfl
  ·rename_i T8;have h1:=hg T8;rw [h1,cond_true,hXt] at hX;cases hX;rfl
 have pre:∀ {v:Val} {h':B5},(cnd (bV (decide (kdV D n k=2)&&U8 b)) (bnd (jQ [pV r 0,iV d0] (h++T)) λp33=>bnd (I3 p33.2 (pV h.length 4) p33.1) λh36=>jV 300 (pV r 0) (iV (k:Int)) (pV h.length 0) (pV (h.length+2) 0) h36)
   (jV 300 (pV r 0) (iV (k:Int)) (pV h.length 0) (pV (h.length+2) 0) (h++T)))=A4 (v,h')->mW [pV r 0,iV (k:Int)] h=A4 (v,h'):=by
  intro v h' hj;refine B2S (n:=300) ?_;rw [B2M];rw [hT] at hj;have l0:ld1 (rT I) 0=A4 (iV (kdV D n k)):=by rw [A3a,I0];rfl
  have l4:ld1 (rT I) 4=A4 (iV d0):=by rw [A3a,I4];rfl
  have E4a:(o0::E68 32 o0).length=33:=by simp
  have s33:stN (rT (o0::E68 32 o0)) 0 33 (encI X)=rT (encI X):=nL E4a hXl;generalize [o0,o0,o0,o0,o0,o0,o0,o0,o0,o0,o0]=zz at *;generalize E68 32 o0=z32 at *;generalize B4 b=BB at *;generalize encI X=XX at *;generalize vwC D.length n m f=V at *;cases hgd:U8 b with
  | true =>
   rw [hgd] at hj;simp only [hgd,cond_true] at B8g;by_cases ck:kdV D n k=2
   ·simp only [esc,bL,Q9,fE,T7,V1,L7,jY,nL,Nat.reduceAdd,q1,q2',A5S,ef,yN,z11,lV,hVI,hIl,ad0,l4,hBk,B8g,s33,l0,ck] at hj ⊢;exact hj
   ·simp only [esc,bL,Q9,fE,T7,V1,L7,jY,nL,Nat.reduceAdd,q1,q2',A5S,ef,yN,z11,lV,hVI,hIl,ad0,l4,hBk,B8g,s33,l0,ck,E7f] at hj ⊢;exact hj
  | false =>
   rw [hgd,E75] at hj;simp only [hgd,cond_false] at B8g;have n14:¬ (14:Int)=0:=by decide
   by_cases ck:kdV D n k=2
   ·simp only [esc,bL,Q9,fE,T7,V1,L7,jY,nL,Nat.reduceAdd,q1,q2',A5S,ef,yN,z11,lV,hVI,hIl,ad0,l4,hBk,B8g,s33,l0,ck,n14] at hj ⊢;exact hj
   ·simp only [esc,bL,Q9,fE,T7,V1,L7,jY,nL,Nat.reduceAdd,q1,q2',A5S,ef,yN,z11,lV,hVI,hIl,ad0,l4,hBk,B8g,s33,l0,ck] at hj ⊢;exact hj
 cases hok:(decide (kdV D n k=2)&&U8 b) with
 | true =>
  rw [hok] at pre eO;rw [cond_true] at eO;obtain ⟨h1,f1,f2,f3⟩:=B8z (no:=d0) P1;have A0:=L0.fr f3;have A2:=L2.fr f3;have s1:=G9 (x:=.i .i64 (U1 D n c d0)) (off:=4) A0.2 (by rw [yN];omega);have es:z.set 4 (.i .i64 (U1 D n c d0))=F8 2 1 0 p0 (U1 D n c d0::zI 6):=by rw [hz];rfl
  rw [es] at s1;have hsame:=pT D n c d0;rw [hXt] at A2;have sm':Small (dU D n c d0) R B S Lo:=⟨by rw [hsame.row];exact sm.row,λi=>by rw [hsame.lnk];exact sm.lnk i,by rw [hsame.blocks];exact sm.blocks,by rw [hsame.made];exact sm.made,by rw [hsame.lost];exact sm.lost0,by rw [hsame.lost];exact sm.lost⟩;obtain ⟨h',e1,e2,e3,e4⟩:=E0c (ino:=k) (no:=U1 D n c d0) (q:=300) (h0:=h) hD hv htt (by omega) P.lo.2.1 (by rw [hsame.ino];exact i1) hR hB hS hLo sm' (f2.set A0.1 (by have:=P.lo.2.1;omega)) ((F1.trans f3).set A0.1 (E7b _)) A0.self (A2.set (by omega) A0.1.2.1);rw [eC _ eO (λ_=>by
   simp only [E69] at hok;exact hok.2)]
  refine ⟨h',pre ?_,e2,e3,e4⟩;simp only [D7r,f1,P9,s1];exact e1
 | false =>
  rw [hok] at pre eO;rw [cond_false] at eO;rw [hz] at L0;rw [hXt] at L2;obtain ⟨h',e1,e2,e3,e4⟩:=E0c (ino:=k) (no:=0) (q:=300) (h0:=h) hD hv htt (by omega) P.lo.2.1 i1 hR hB hS hLo sm P1 F1 L0 L2;rw [eC _ eO (λT8=>absurd rfl T8)];refine ⟨h',pre ?_,e2,e3,e4⟩;simp only [C7s];exact e1
end
structure RowW (n:Int) (c:Cl):Prop where
 nd:c.row.Nodup
 par:∀ i,(c.par i).isSome=A5↔i∈c.row
 rg:∀ i∈c.row,1<=i/\i<=n
theorem RowW.same {n:Int} {c c':Cl} (h:RowW n c) (h1:c'.row=c.row) (h2:c'.par=c.par):RowW n c' :=
 ⟨by rw [h1];exact h.nd,λi=>by rw [h1,h2];exact h.par i,by rw [h1];exact h.rg⟩
theorem D9k {D:Dev} {n dir ino:Int} {c:Cl} (h:RowW n c):RowW n (dL D n c dir ino):=by
 unfold dL;cases ht:iP D n c ino with
 | false=>exact h
 | true =>
  rw [cond_true];cases hs:(c.par ino).isSome with
  | true=>exact h.same rfl rfl
  | false =>
   rw [cond_false];have cH:ino ∉ c.row:=λhm=>by
    rw [(h.par ino).2 hm] at hs;cases hs
   have hk:kdV D n ino≠0:=by
    intro e;unfold iP at ht;rw [e] at ht;simp at ht
   have hr:=(D6w hk).2;refine ⟨?_,λi=>?_,λi hi=>?_⟩
   ·show (c.row++[ino]).Nodup;rw [List.nodup_append];exact ⟨h.nd,by simp,λa ha b hb e=>by simp at hb;subst hb;subst e;exact cH ha⟩
   ·show (vO c.par ino dir i).isSome=A5↔i∈c.row++[ino];unfold vO;by_cases e:i=ino
    ·subst e;simp
    ·rw [if_neg e,h.par i];simp [e]
   ·have hi:i∈c.row++[ino]:=hi;rcases List.mem_append.1 hi with h1 | h1
    ·exact h.rg i h1
    ·simp at h1;subst h1;exact hr
theorem C1m {D:Dev} {n ino:Int}:∀ {L:List Ent} {s:Cl × (List UInt8->Option Int)},RowW n s.1->RowW n (aT D n ino s L).1
 | [],_,h=>h
 | x::L,s,h=>by
  have h1:RowW n (Z5 D n ino s x).1:=by
   unfold Z5;cases iP D n s.1 x.2 with
   | false=>exact h
   | true=>exact D9k h
  exact C1m (L:=L) (s:=Z5 D n ino s x) h1
theorem A7n {D:Dev} {X:List Int} {K:List UInt8->Option Int}:∀ {L:List Int} {c:Cl},(N6 D X K c L).row=c.row/\(N6 D X K c L).par=c.par
 | [],_=>⟨rfl,rfl⟩
 | no::L,c=>by
  have h1:=A7n (D:=D) (X:=X) (K:=K) (L:=L) (c:=vM D X K c no);have h2:=pS (D:=D) (X:=X) (no:=no) (K:=K) (l:=N9 (blk D no)) (s:=(c,bN []));exact ⟨h1.1.trans h2.row,h1.2.trans h2.par⟩
theorem A0P {D:Dev} {n ino:Int} {c:Cl}:SameC c (gX D n c ino).1:=by
 unfold gX;cases (decide (kdV D n ino=2)&&U8 (blk D ((drV D n ino).getD 0 0))) with
 | true=>exact pT ..
 | false=>exact .rfl' _
theorem D97 {D:Dev} {n ino:Int} {c:Cl} (h:RowW n c):RowW n (qF D n c ino):=by
 have hs:=A0P (D:=D) (n:=n) (ino:=ino) (c:=c);have hI:RowW n (Y1 D n c ino):=h.same hs.row hs.par;unfold qF;split
 ·exact hI
 ·unfold xN;have hb:=gO (D:=D) (n:=n) (L:=L8 (fT (getD (blk D ((drV D n ino).getD 0 0))) (N7 (blk D ((drV D n ino).getD 0 0)) 32)) (D1 (W6 (getD (blk D ((drV D n ino).getD 0 0))) (N7 (blk D ((drV D n ino).getD 0 0)) 32)))) (s:=(Y1 D n c ino,fT (getD (blk D ((drV D n ino).getD 0 0))) (N7 (blk D ((drV D n ino).getD 0 0)) 32)));have h1:RowW n (U7 D n (Y1 D n c ino) (getD (blk D ((drV D n ino).getD 0 0))) (N7 (blk D ((drV D n ino).getD 0 0)) 32)).1:=hI.same hb.row hb.par;have h2:RowW n (bodyT D n (Y1 D n c ino) ino (getD (blk D ((drV D n ino).getD 0 0))) (N7 (blk D ((drV D n ino).getD 0 0)) 32)).1:=C1m (by exact h1);generalize bodyT D n (Y1 D n c ino) ino (getD (blk D ((drV D n ino).getD 0 0))) (N7 (blk D ((drV D n ino).getD 0 0)) 32)=s2 at *;refine h2.same (A7n.1.trans rfl) (A7n.2.trans rfl)
theorem vD {D:Dev} {n ino:Int} {c:Cl}:(iJ D n c ino).row=c.row/\(iJ D n c ino).par=c.par/\(iJ D n c ino).lnk=c.lnk/\(iJ D n c ino).lost=c.lost/\(iJ D n c ino).ino.length=c.ino.length/\(iJ D n c ino).blocks.length<=c.blocks.length+1/\(iJ D n c ino).made.length<=c.made.length+1:=by
 have hf:=A1H (D:=D) (n:=n) (ino:=ino) (c:=c);have e1:(Z3 D n c ino).row=c.row:=hf.1.row;have e2:(Z3 D n c ino).par=c.par:=hf.1.par;have e3:(Z3 D n c ino).lnk=c.lnk:=hf.1.lnk;have e4:(Z3 D n c ino).lost=c.lost:=hf.1.lost;have e5:(Z3 D n c ino).ino.length=c.ino.length:=by unfold Z3;simp [hf.1.ino]
 have e6:(Z3 D n c ino).blocks=c.blocks:=hf.1.blocks;have e7:(Z3 D n c ino).made=c.made:=hf.1.made;unfold iJ;split
 ·exact ⟨e1,e2,e3,e4,e5,by rw [e6];omega,by rw [e7];omega⟩
 ·have hs:=vE (D:=D) (n:=n) (many:=A4d (szV D n ino)) (e:=128) (k:=0) (s:=(Z3 D n c ino,blk D ((eG D n c ino).2.getD 6 0)));dsimp only at hs;generalize cF D n (A4d (szV D n ino)) 128 0 (Z3 D n c ino,blk D ((eG D n c ino).2.getD 6 0))=s at *;refine ⟨hs.row.trans e1,hs.par.trans e2,hs.lnk.trans e3,hs.lost.trans e4,?_,?_,?_⟩
  ·show s.1.ino.length=_;rw [hs.ino];exact e5
  ·show (s.1.blocks++[_]).length<=_;rw [E7a,hs.blocks,e6];simp
  ·show (s.1.made++[_]).length<=_;rw [E7a,hs.made,e7];simp
def iN (D:Dev) (n:Int) (c:Cl) (ino:Int):Cl:=if ino≠1/\kdV D n ino=1 then iJ D n c ino else qF D n c ino
def ofR (D:Dev) (n:Int):Nat->Nat->Cl->Cl
 | 0,_,c=>c
 | e+1,i,c=>match c.row[i]? with
  | none=>c
  | some a=>ofR D n e (i+1) (iN D n c a)
theorem D2g {D:Dev} {n ino:Int}:∀ {L:List Ent} {s:Cl × (List UInt8->Option Int)},s.1.row.length<=(aT D n ino s L).1.row.length
 | [],_=>E7b _
 | x::L,s=>by
  have h1:s.1.row.length<=(Z5 D n ino s x).1.row.length:=by
   unfold Z5 dL;cases iP D n s.1 x.2 with
   | false=>exact E7b _
   | true =>
    simp only [cond_true];cases (s.1.par x.2).isSome with
    | true=>exact E7b _
    | false=>simp [D6M,B1N]
  exact E7K h1 (D2g (L:=L) (s:=Z5 D n ino s x))
theorem D1Q {c:Cl} {no:Int} {b:List UInt8}:(S5 c no b).row=c.row:=rfl
theorem D98 {D:Dev} {n ino:Int} {c:Cl}:c.row.length<=(qF D n c ino).row.length:=by
 have hs:=A0P (D:=D) (n:=n) (ino:=ino) (c:=c);have e1:(Y1 D n c ino).row=c.row:=hs.row;unfold qF;split
 ·rw [e1];exact E7b _
 ·unfold xN;rw [A7n.1,D1Q,<-e1];unfold bodyT;refine E7K (Nat.le_of_eq ?_) D2g;unfold U7;exact congrArg List.length (gO (D:=D) (n:=n) (s:=(Y1 D n c ino,_)) (L:=_)).row.symm
theorem C8x {D:Dev} {n ino:Int} {c:Cl}:c.row.length<=(iN D n c ino).row.length:=by
 unfold iN;split
 ·rw [vD.1];exact E7b _
 ·exact D98
section
variable {D:Dev} {n m:Int} {f:Cell} {g:B5} {r:Nat} {h:B5}
theorem C8w {D:Dev} {n ino:Int} {c:Cl} (h:RowW n c):RowW n (iN D n c ino):=by
 unfold iN;split
 ·exact h.same vD.1 vD.2.1
 ·exact D97 h
theorem E2x {pv pr q:Nat} {zr:List Cell} {h0:B5} (hD:okD D) (hv:IsView g f D) (hn:n<=128) :
  ∀ (e i M:Nat) (c:Cl) (h:B5),i+e=129->e<M->i<=c.row.length->RowW n c->Small c 128 (224*i) (33*i) (224*i)->WP D n m f g r c h->Fr r h0 h->LocV h r pv (vwC D.length n m f)->LocV h r pr zr ->
  ∃ M' h',pR q M (pV pv 0) (pV pr 0) (pV r 0) (iV (i:Int)) h=pR q (M'+1) (pV pv 0) (pV pr 0) (pV r 0) (iV ((ofR D n e i c).row.length:Nat)) h' /\
   WP D n m f g r (ofR D n e i c) h'/\Fr r h0 h'/\LocV h' r pv (vwC D.length n m f)/\LocV h' r pr zr/\RowW n (ofR D n e i c)/\Small (ofR D n e i c) 128 (224*129) (33*129) (224*129):=by
 intro e
 induction e with
 | zero =>
  intro i M c h hi hM cC hR sm;have:=B86 hR.nd λa ha=>⟨(hR.rg a ha).1,by have:=(hR.rg a ha).2;omega⟩
  omega
 | succ e ih =>
  intro i M c h hi hM cC hR sm P F hpv hpr;obtain ⟨M,rfl⟩:∃ M',M=M'+1:=⟨M-1,by omega⟩;have hv2:=hv.get;unfold ofR;cases hc:c.row[i]? with
  | none =>
   have hlen:=List.getElem?_eq_none_iff.1 hc;have ei:i=c.row.length:=by omega
   dsimp only;rw [<-ei];exact ⟨M,h,rfl,P,F,hpv,hpr,hR,⟨sm.row,sm.lnk.mono (by omega),E7K sm.blocks (by omega),E7K sm.made (by omega),sm.lost0,by have:=sm.lost;omega⟩⟩
  | some a =>
   dsimp only;have O9:i<c.row.length:=(List.getElem?_eq_some_iff.1 hc).1;have ha:a∈c.row:=E7y hc;obtain ⟨ra1,ra2⟩:=hR.rg a ha;obtain ⟨xr,xi,xt,xb,xm,ml,mp,es1,es2,g1,g2,g3,g4,g5,g6,g7,g8,g9,g10,g11⟩:=id P.row;have w1:=D3 (show i+1<9223372036854775808 by omega);have c0:((i:Int)<(c.row.length:Nat)):=by omega
   rcases g3 with ⟨e0,_,_⟩ | ⟨rid,rfl,r1,r2,r3⟩
   ·omega
   ·have l4:B8 h (pV r 4)=A4 (sV rid 0 c.row.length 1):=C4 g1 rfl rfl;have ad:E1 1 (sV rid 0 c.row.length 1) (iV (i:Int))=A4 (pV rid i):=by rw [C9 O9];simp
    have la:B8 h (pV rid i)=A4 (iV a):=C4 r1 (by rw [G8,hc];rfl) rfl;have lV:D4 h 4 (pV pv 0)=A4 (.a (vwC D.length n m f)):=C7 hpv.2 rfl;have hI:=oF (n:=n) (m:=m) (i:=a) hD (hv.since P.lo);rw [A7D] at hI;have f0:∀ k l s p d,C2u (.a (F8 k l s p d)) 0=A4 (iV k):=λ_ _ _ _ _=>rfl
    have hin:a.toNat<c.ino.length:=by rw [P.ilen];omega
    have hR':=C8w (D:=D) (ino:=a) hR;have r128:=B86 hR'.nd λa ha=>⟨(hR'.rg a ha).1,by have:=(hR'.rg a ha).2;omega⟩
    have step:∃ h1,WP D n m f g r (iN D n c a) h1/\Fr r h h1/\Small (iN D n c a) 128 (224*(i+1)) (33*(i+1)) (224*(i+1)) /\
      pR q (M+1) (pV pv 0) (pV pr 0) (pV r 0) (iV (i:Int)) h=pR q M (pV pv 0) (pV pr 0) (pV r 0) (iV ((i+1:Nat):Int)) h1:=by
     rw [B09];have hs:=vD (D:=D) (n:=n) (ino:=a) (c:=c);have sb:=sm.blocks;have smd:=sm.made;have sl:=sm.lost;by_cases c1:a=1
     ·obtain ⟨h1,f1,f2,f3,f4⟩:=E0b hD hv P (by omega) hin (by omega) (by omega) (by omega) (by omega) sm;have eo:iN D n c a=qF D n c a:=by unfold iN;rw [if_neg (by simp [c1])]
      rw [eo] at r128 ⊢;refine ⟨h1,f2,f3,⟨r128,f4.lnk.mono (by omega),by have:=f4.blocks;omega,by have:=f4.made;omega,f4.lost0,by have:=f4.lost;omega⟩,?_⟩;rw [c1] at la f1;generalize vwC D.length n m f=V at *;simp only [esc,Nat.reduceAdd,l4,c0,ad,la,eq_self,f1,A1C,w1]
     ·by_cases c2:kdV D n a=1
      ·obtain ⟨h1,f1,f2,f3⟩:=E2f hD hv P (by omega) (by omega) (by omega) hin;have eo:iN D n c a=iJ D n c a:=by unfold iN;rw [if_pos ⟨c1,c2⟩]
       rw [eo] at r128 ⊢;refine ⟨h1,f2,f3,⟨r128,λj=>by rw [hs.2.2.1];have:=sm.lnk j;omega,by have:=hs.2.2.2.2.2.1;omega,by have:=hs.2.2.2.2.2.2;omega,by rw [hs.2.2.2.1];exact sm.lost0,by rw [hs.2.2.2.1];omega⟩,?_⟩;generalize vwC D.length n m f=V at *;simp only [esc,Nat.reduceAdd,l4,c0,ad,la,c1,lV,hI,f0,c2,f1,A1C,w1]
      ·obtain ⟨h1,f1,f2,f3,f4⟩:=E0b hD hv P (by omega) hin (by omega) (by omega) (by omega) (by omega) sm;have eo:iN D n c a=qF D n c a:=by unfold iN;rw [if_neg (by simp [c2])]
       rw [eo] at r128 ⊢;refine ⟨h1,f2,f3,⟨r128,f4.lnk.mono (by omega),by have:=f4.blocks;omega,by have:=f4.made;omega,f4.lost0,by have:=f4.lost;omega⟩,?_⟩;generalize vwC D.length n m f=V at *;simp only [esc,Nat.reduceAdd,l4,c0,ad,la,c1,lV,hI,f0,c2,f1,A1C,w1]
    obtain ⟨h1,s1,s2,s3,s4⟩:=step;have hlen:i+1<=(iN D n c a).row.length:=by
     have:c.row.length<=(iN D n c a).row.length:=C8x;omega
    obtain ⟨M',h',e1,e2⟩:=ih (i+1) M (iN D n c a) h1 (by omega) (by omega) hlen hR' s3 s1 (F.trans s2) (hpv.fr s2) (hpr.fr s2);exact ⟨M',h',s4.trans e1,e2⟩
end
theorem C8X:∀ {l:List (List Int)} {i k:Nat} {v:Int} (h:∀ x∈l,x.length=11) (hi:i<l.length) (hk:k<11),(U2 l).set (i*11+k) (.i .i64 v)=U2 (l.set i ((l.getD i []).set k v))
 | x::l,0,k,v,h,_,hk=>by
  have hx:=h x (E7u ..);rw [aC,Nat.zero_mul,E7t,List.set_append_left _ _ (by rw [B7];omega),aK];rfl
 | x::l,i+1,k,v,h,hi,hk=>by
  have hx:=h x (E7u ..);have ih:=C8X (l:=l) (i:=i) (k:=k) (v:=v) (λy hy=>h y (E7s _ hy)) (by simpa using hi) hk;rw [aC,E7I _ _ (by rw [B7,hx];omega),B7,hx,show (i+1)*11+k-11=i*11+k by omega,ih];rfl
theorem C7R:∀ {l:List (List Int)} {i k:Nat} (h:∀ x∈l,x.length=11) (hi:i<l.length) (hk:k<11),(U2 l)[i*11+k]?=A4 (.i .i64 ((l.getD i []).getD k 0))
 | x::l,0,k,h,_,hk=>by
  have hx:=h x (E7u ..);rw [aC,Nat.zero_mul,E7t,E7H (by rw [B7];omega),G8,E66 (by omega)];simp [List.getD,show k<x.length by omega]
 | x::l,i+1,k,h,hi,hk=>by
  have hx:=h x (E7u ..);have ih:=C7R (l:=l) (i:=i) (k:=k) (λy hy=>h y (E7s _ hy)) (by simpa using hi) hk;rw [aC,E7l (by rw [B7,hx];omega),B7,hx,show (i+1)*11+k-11=i*11+k by omega,ih];rfl
def aQ (c:Cl) (a:Int):Cl:=if (c.ino.getD a.toNat []).getD 0 0=1 then { c with ino:=c.ino.set a.toNat ((c.ino.getD a.toNat []).set 1 ((c.lnk a).getD 0)) } else c
def T0 (c:Cl) (L:List Int):Cl:=L.foldl aQ c
section
variable {D:Dev} {n m:Int} {f:Cell} {g:B5} {r:Nat} {c:Cl} {h:B5}
theorem WP.setLink (hv:∃ id cs,f=.f id cs) (P:WP D n m f g r c h) {k:Nat} (hk:k<c.ino.length) (v:Int) :
  ∃ id h',B8 h (pV r 5)=A4 (sV id 0 c.ino.length 11)/\rd h id=rT (U2 c.ino)/\I3 h (pV id (k*11+1)) (iV v)=A4 h'/\WP D n m f g r { c with ino:=c.ino.set k ((c.ino.getD k []).set 1 v) } h'/\Fr r h h' /\
   ∀ rid nn,rd h r≠A7->(∃ cs,rd h r=rT cs/\cs[4]?=A4 (.sl rid 0 nn 1))->rd h' r=rd h r/\rd h' rid=rd h rid:=by
 obtain ⟨xr,xi,xt,xb,xm,ml,mp,es1,es2,g1,g2,g3,g4,g5,g6,g7,g8,g9,g10,g11⟩:=id P.row;rcases g4 with ⟨e,_,_⟩ | ⟨t,rfl,t1,t2,t3⟩
 ·omega
 ·have l1:B8 h (pV r 5)=A4 (sV t 0 c.ino.length 11):=C4 g1 rfl rfl;have st:=G9 (x:=.i .i64 v) (off:=k*11+1) t1 (by rw [t2];omega);rw [C8X P.il hk (by omega)] at st;obtain ⟨q1,q2,q3,q4,q5⟩:=P.mod (off:=5) (x:=.sl t 0 c.ino.length 11) hv g1 rfl rfl (rT (U2 (c.ino.set k ((c.ino.getD k []).set 1 v))));have hkl:(c.ino.getD k []).length=11:=by
   rw [E7e,E66 hk];exact P.il _ (E7J hk)
  have O9:∀ x∈c.ino.set k ((c.ino.getD k []).set 1 v),x.length=11:=λx hx=>by
   rcases E7O hx with h1 | h1
   ·exact P.il x h1
   ·rw [h1,E7D];exact hkl
  refine ⟨t,_,l1,t1,st,⟨q2,P.ge,λid hn=>P.low id ((Nam.same q3).1 hn),O9,by simpa using P.ilen,P.tlen,xr,_,xt,xb,xm,ml,mp,es1,es2,by rw [q3];exact g1,g2,g3.kept λid e=>q4 4 _ _ (by decide) rfl e,.inr ⟨t,by simp,q5,by rw [T5 O9],t3⟩,g5.kept λid e=>q4 6 _ _ (by decide) rfl e,g6.kept λid e=>q4 7 _ _ (by decide) rfl e,g7.kept λid e=>q4 8 _ _ (by decide) rfl e,?_,g9,?_,g11⟩,q1,λrid nn _ hc=>⟨q3,?_⟩⟩
  ·rw [q4 10 (.m ml) ml (by decide) rfl rfl];exact g8
  ·rw [q4 11 (.m mp) mp (by decide) rfl rfl];exact g10
  ·obtain ⟨cs,hc1,hc2⟩:=hc;rw [g1] at hc1;cases hc1;exact q4 4 _ rid (by decide) hc2 rfl
theorem D8K {pr q rid:Nat} {R:List Int} {h0:B5} (hv:IsView g f D) (hR:R.length<=1000) (hrg:∀ a∈R,1<=a/\a<=n) :
  ∀ (e i M:Nat) (c:Cl) (h:B5),i+e=R.length->e<M->WP D n m f g r c h->Fr r h0 h->(∃ z,z.length=6/\LocV h r pr z)->(∃ cs,rd h r=rT cs/\cs[4]?=A4 (.sl rid 0 R.length 1))->rd h rid=rT (encI R) ->
  ∃ M' h',B1a q M (pV pr 0) (pV r 0) (sV rid 0 R.length 1) (iV (R.length:Nat)) (iV (i:Int)) h=B1a q (M'+1) (pV pr 0) (pV r 0) (sV rid 0 R.length 1) (iV (R.length:Nat)) (iV (R.length:Nat)) h' /\
   WP D n m f g r (T0 c (R.drop i)) h'/\Fr r h0 h'/\(∃ z,z.length=6/\LocV h' r pr z):=by
 intro e
 induction e with
 | zero =>
  intro i M c h hi hM P F hz hc hr;obtain ⟨M,rfl⟩:∃ M',M=M'+1:=⟨M-1,by omega⟩;have ei:i=R.length:=by omega
  subst ei;rw [List.drop_length];exact ⟨M,h,rfl,P,F,hz⟩
 | succ e ih =>
  intro i M c h hi hM P F hz hc hr;obtain ⟨M,rfl⟩:∃ M',M=M'+1:=⟨M-1,by omega⟩;have O9:i<R.length:=by omega
  have hv2:=hv.get;have c0:((i:Int)<(R.length:Nat)):=by omega
  have w1:=D3 (show i+1<9223372036854775808 by omega);have ad:E1 1 (sV rid 0 R.length 1) (iV (i:Int))=A4 (pV rid i):=by rw [C9 O9];simp
  have la:B8 h (pV rid i)=A4 (iV R[i]):=C4 hr (by rw [G8,E66 O9];rfl) rfl;obtain ⟨ra1,ra2⟩:=hrg _ (E7J O9);rw [E7d O9];have er:∀ T,T0 c (R[i]::T)=T0 (aQ c R[i]) T:=λT=>rfl
  rw [er];obtain ⟨k,hk⟩:=E7Q (show 0<=R[i] by omega);rw [hk] at la ra1 ra2 ⊢;have hin:k<c.ino.length:=by rw [P.ilen];omega
  obtain ⟨id,h1,a1,a2,a3,a4,a5,a6⟩:=P.setLink hv2 hin ((c.lnk k).getD 0);obtain ⟨ml,hx,b1,b2,_⟩:=P.setLnk hv2 0 0;have b2':=b2 A6 k;have adI:E1 11 (sV id 0 c.ino.length 11) (iV (k:Int))=A4 (pV id (k*11)):=by rw [C9 hin];simp
  have lk:B8 h (pV id (k*11))=A4 (iV ((c.ino.getD k []).getD 0 0)):=C4 a2 (by have:=C7R (l:=c.ino) (i:=k) (k:=0) P.il hin (by omega);simpa using this) rfl;rw [B1b];by_cases c1:(c.ino.getD k []).getD 0 0=1
  ·have ec:aQ c (k:Int)={ c with ino:=c.ino.set k ((c.ino.getD k []).set 1 ((c.lnk k).getD 0)) }:=by unfold aQ;rw [E7r,if_pos c1]
   rw [ec];have T8:rd h r≠A7:=by obtain ⟨cs,h1,_⟩:=hc;rw [h1];simp
   obtain ⟨k1,k2⟩:=a6 rid R.length T8 hc;obtain ⟨z,yN,hz⟩:=hz;obtain ⟨M',h',e1,e2⟩:=ih (i+1) M _ h1 (by omega) (by omega) a4 (F.trans a5) ⟨z,yN,hz.fr a5⟩ (by rw [k1];exact hc) (by rw [k2];exact hr);refine ⟨M',h',?_,e2⟩;simp only [esc,Nat.reduceAdd,c0,ad,la,a1,adI,lk,c1,b1,b2',A5S,a3,B07,w1];exact e1
  ·have ec:aQ c (k:Int)=c:=by unfold aQ;rw [E7r,if_neg c1]
   rw [ec];obtain ⟨M',h',e1,e2⟩:=ih (i+1) M c h (by omega) (by omega) P F hz hc hr;refine ⟨M',h',?_,e2⟩;simp only [esc,Nat.reduceAdd,c0,ad,la,a1,adI,lk,c1,B07,w1];exact e1
def qI (c:Cl):Nat->Cl
 | 0=>c
 | k+1=>{ qI c k with taken:=(qI c k).taken.set k A5 }
theorem E00 {pv pr q sid K:Nat} {cv cr:List Cell} {h0:B5} (hv:IsView g f D) (hK:K<=D.length) (hK2:K<=1000) :
  ∀ (e i M:Nat) (h:B5),i+e=K->e<M->WP D n m f g r (qI c i) h->Fr r h0 h->LocV h r pv cv->LocV h r pr cr->LocV h r sid (encI (upto K)) ->
  ∃ h',C2F q M (pV pv 0) (pV pr 0) (pV r 0) (sV sid 0 K 1) (iV (K:Nat)) (iV (i:Int)) h=pR q q (pV pv 0) (pV pr 0) (pV r 0) (iV 0) h' /\
   WP D n m f g r (qI c K) h'/\Fr r h0 h'/\LocV h' r pv cv/\LocV h' r pr cr:=by
 intro e
 induction e with
 | zero =>
  intro i M h hi hM P F hp hr hs;obtain ⟨M,rfl⟩:∃ M',M=M'+1:=⟨M-1,by omega⟩;have ei:i=K:=by omega
  subst ei;refine ⟨h,?_,P,F,hp,hr⟩;have c0:¬ ((i:Int)<(i:Nat)):=by omega
  rw [B08];simp only [esc,c0]
 | succ e ih =>
  intro i M h hi hM P F hp hr hs;obtain ⟨M,rfl⟩:∃ M',M=M'+1:=⟨M-1,by omega⟩;have hiK:i<K:=by omega
  have c0:((i:Int)<(K:Nat)):=by omega
  have w1:=D3 (show i+1<9223372036854775808 by omega);have ad:E1 1 (sV sid 0 K 1) (iV (i:Int))=A4 (pV sid i):=by rw [C9 hiK];simp
  have la:B8 h (pV sid i)=A4 (iV (i:Int)):=C4 hs.2 (by rw [G8];simp [upto,hiK]) rfl;obtain ⟨xr,xi,xt,xb,xm,ml,mp,es1,es2,g1,_⟩:=id P.row;obtain ⟨t,rfl,t1,t2,t3⟩:=P.take (k:=i) (v:=A5) g1 (by omega);have lT:B8 h (pV r 6)=A4 (sV t 0 D.length 1):=C4 g1 rfl rfl;have hit:i<(qI c i).taken.length:=by rw [P.tlen];omega
  have adT:E1 1 (sV t 0 D.length 1) (iV (i:Int))=A4 (pV t i):=by rw [C9 (show i<D.length by omega)];simp
  have s1:I3 h (pV t i) (bV A5)=A4 (h.set t (rT (J3 ((qI c i).taken.set i A5)))):=by
   rw [G9 t1 (by simp [J3,hit])];simp [J3,List.map_set]
  obtain ⟨h',e1,e2⟩:=ih (i+1) M _ (by omega) (by omega) t2 (F.trans t3) (hp.fr t3) (hr.fr t3) (hs.fr t3);refine ⟨h',?_,e2⟩;rw [B08];simp only [esc,Nat.reduceAdd,c0,ad,la,lT,adT,s1,w1];exact e1
end
theorem B5L {h2:B5} {b:Nat}:∀ (l:List Cell) (seen:List Nat),(∀ x∈l,x.flat=A5\/∃ id off n sz cs,x=.sl id off n sz/\b<=id/\rd h2 id=rT cs/\N8 cs=A5) ->
  (∀ (i j a:Nat) (x y:Cell),l[i]?=A4 x->l[j]?=A4 y->nmC x=A4 a->nmC y=A4 a->i=j)->(∀ x∈l,∀ a,nmC x=A4 a->a ∉ seen) ->
  ∃ l2 fin,R5 h2 b seen l=A4 (l2,fin)/\seen <+: fin/\l2.length=l.length/\∀ (i:Nat) (x:Cell),l[i]?=A4 x->(x.flat=A5/\l2[i]?=A4 x)\/∃ id off n sz j,x=.sl id off n sz/\l2[i]?=A4 (.sl (b+j) off n sz)/\fin[j]?=A4 id
 | [],seen,_,_,_=>⟨[],seen,rfl,List.prefix_refl _,rfl,λi x h=>by simp at h⟩
 | c::l,seen,hf,hd,hs=>by
  have hd':∀ (i j a:Nat) (x y:Cell),l[i]?=A4 x->l[j]?=A4 y->nmC x=A4 a->nmC y=A4 a->i=j:=λi j a x y h1 h2 h3 h4=>by
   have:=hd (i+1) (j+1) a x y (by simpa using h1) (by simpa using h2) h3 h4;omega
  rcases hf c (E7u ..) with hc | ⟨id,off,n,sz,cs,rfl,hb,hr,hfl⟩
  ·obtain ⟨l2,fin,e1,e2,e3,e4⟩:=B5L l seen (λx hx=>hf x (E7s _ hx)) hd' λx hx=>hs x (E7s _ hx)
   refine ⟨c::l2,fin,?_,e2,by simp [e3],λi x hi=>?_⟩
   ·unfold R5;rw [if_pos (Cell.low_of_flat hc),e1];rfl
   ·cases i with
    | zero=>simp at hi;subst hi;exact .inl ⟨hc,rfl⟩
    | succ i=>simpa using e4 i x (by simpa using hi)
  ·have hns:id ∉ seen:=hs _ (E7u ..) id rfl;obtain ⟨l2,fin,e1,e2,e3,e4⟩:=B5L l (seen++[id]) (λx hx=>hf x (E7s _ hx)) hd' λx hx a ha=>by
    rw [List.mem_append];rintro (h1 | h1)
    ·exact hs x (E7s _ hx) a ha h1
    ·simp at h1;subst h1;obtain ⟨j,hj⟩:=List.mem_iff_getElem?.1 hx;have:=hd 0 (j+1) a _ x rfl (by simpa using hj) rfl ha;omega
   have hlow:¬ (Cell.sl id off n sz).low b=A5:=by simp [Cell.low,Cell.flat];omega
   refine ⟨.sl (b+seen.length) off n sz::l2,fin,?_,(List.prefix_append _ _).trans e2,by simp [e3],λi x hi=>?_⟩
   ·unfold R5;rw [if_neg hlow];dsimp only;rw [if_pos ⟨hb,hns,A0U hr hfl⟩,e1];rfl
   ·cases i with
    | zero =>
     simp at hi;subst hi;refine .inr ⟨id,off,n,sz,seen.length,rfl,rfl,?_⟩;obtain ⟨t,rfl⟩:=e2;simp
    | succ i=>simpa using e4 i x (by simpa using hi)
structure IsCl (h:B5) (cs:List Cell) (c:Cl):Prop where
 form:∃ xr xi xt xb xm,cs=[xr,xi,xt,xb,xm,.i .i64 c.lost]/\Has h (.c xr) 1 c.row.length (encI c.row)/\Has h (.c xi) 11 c.ino.length (U2 c.ino)/\Has h (.c xt) 1 c.taken.length (J3 c.taken)/\Has h (.c xb) 1 c.blocks.length (encI c.blocks)/\Has h (.c xm) 256 c.made.length (D5 c.made)
def I6 (D:Dev) (n:Int):Cl:=⟨[1],E68 (n+1).toNat (zI 11),E68 D.length A6,[],[],0,λ_=>A7,vO (λ_=>A7) 1 1⟩
def aX (D:Dev) (n:Int):Cl:=ofR D n 129 0 (qI (I6 D n) (kY D.length n).toNat)
def L6 (D:Dev) (n:Int):Cl:=T0 (aX D n) (aX D n).row
theorem HeldX.canon {g h:B5} {x:Cell} {l:List Cell} {n sz r:Nat} (hx:HeldX h x l n sz r) (hf:N8 l=A5) (hlow:∀ id,nmC x=A4 id->g.length<=id):x.flat=A5\/∃ id off n sz cs,x=.sl id off n sz/\g.length<=id/\rd h id=rT cs/\N8 cs=A5:=by
 rcases hx with ⟨_,_,rfl⟩ | ⟨id,rfl,h1,h2,h3⟩
 ·exact .inl rfl
 ·exact .inr ⟨id,0,n,sz,l,rfl,hlow id rfl,h1,hf⟩
theorem HeldX.moved {h h2:B5} {x y:Cell} {l:List Cell} {n sz r:Nat} {fin:List Nat} (hx:HeldX h2 x l n sz r) (hn:noX l=A5) (hy:(x.flat=A5/\y=x)\/∃ id off n sz j,x=.sl id off n sz/\y=.sl (h.length+j) off n sz/\fin[j]?=A4 id):Has (h++fin.map (rd h2)) (.c y) sz n l:=by
 rcases hx with ⟨h1,h3,h4⟩ | ⟨id,rfl,h1,h3,h4⟩
 ·subst h4;rcases hy with ⟨_,rfl⟩ | ⟨_,_,_,_,_,e,_⟩
  ·exact .inl ⟨rfl,h1,h3⟩
  ·cases e
 ·rcases hy with ⟨e,_⟩ | ⟨bF,off,n',sz',j,e,rfl,hj⟩
  ·cases e
  ·cases e;refine Has.row (rw:=A5) ?_ h3 hn;unfold rd;rw [E7l (by omega),show h.length+j-h.length=j by omega,List.getElem?_map,hj];exact h1
theorem D3u {D:Dev} {n:Int}:∀ {e i:Nat} {c:Cl},c.row.length<=(ofR D n e i c).row.length
 | 0,_,_=>E7b _
 | e+1,i,c=>by
  unfold ofR;cases c.row[i]? with
  | none=>exact E7b _
  | some a=>exact E7K C8x D3u
theorem E2b {b n:Int} (h:S4 b n=A5):kY b n<=b:=by
 obtain ⟨_,_,_,_,_,h6⟩:=J9.1 h;have:=J9.1 h;unfold kY sW A1W;rw [h];simp only [cond_true];omega
theorem ownR_same {c:Cl}:∀ {k:Nat},SameC c (qI c k)
 | 0=>.rfl' _
 | k+1=>by
  have h:=ownR_same (c:=c) (k:=k);exact ⟨h.row,h.ino,h.blocks,h.made,h.lost,h.lnk,h.par⟩
section
variable {D:Dev} {n m:Int} {f:Cell} {h:B5}
theorem D1r {g:B5} (hD:okD D) (hv:IsView g f D) (hm:S4 D.length n=A5) :
  ∃ six g',B4s 1200 [.a (vwC D.length n m f)] g=A4 (.a six,g')/\WP D n m f g (g.length+4) (L6 D n) g'/\∃ V t,rd g' (g.length+4)=rT (V++six++t)/\V.length=4/\six.length=6/\RowW n (aX D n)/\Small (aX D n) 128 (224*129) (33*129) (224*129):=by
 have hv2:=hv.get;obtain ⟨b16,b512,n8,n128,_,_⟩:=J9.1 hm;obtain ⟨N,hN⟩:∃ N:Nat,n+1=(N:Int):=E7Q (by omega);have hCk:=λh=>bY (b:=D.length) (n:=n) (m:=m) (h:=h)
 rw [hm,cond_true] at hCk;obtain ⟨W,hW⟩:∃ W,W=wkC D n m f (.sl (g.length+5) 0 1 1) (.sl (g.length+6) 0 N 11) (.sl (g.length+7) 0 D.length 1) .ns .ns 0 (g.length+2) (g.length+3):=⟨_,rfl⟩;obtain ⟨T,hT⟩:∃ T:B5,T=[rT (vwC D.length n m f),rT [.ns,.ns,.ns,.ns,.ns,o0],A4 (T1 []),A4 (T1 [(.i .i64 1,.c (.i .i64 1))]),rT W,rT [.i .i64 1],rT (U2 (E68 N (zI 11))),rT (J3 (E68 D.length A6))]:=⟨_,rfl⟩;have at_:∀ (k:Nat) (x:Option Row),T[k]?=A4 x->rd (g++T) (g.length+k)=x:=λk x hk=>by
  unfold rd;rw [E7l (by omega),show g.length+k-g.length=k by omega,hk];rfl
 have O9:∀ x∈E68 N (zI 11),x.length=11:=λx hx=>by rw [List.eq_of_mem_replicate hx];simp [zI]
 have P0:WP D n m f g (g.length+4) (I6 D n) (g++T):=by
  have r4:=at_ 4 (rT W) (by rw [hT];rfl);rw [hW] at r4;refine ⟨(Low.refl (E7b _)).new _,by omega,λid hn=>?_,?_,?_,?_,?_⟩
  ·obtain ⟨R,x,hR,hx,hnm⟩:=hn;rw [r4] at hR;cases hR;obtain ⟨fi,fc,rfl⟩:=hv2;simp only [wkC,List.mem_cons,List.not_mem_nil,or_false] at hx;rcases hx with rfl | rfl | rfl | rfl | rfl | rfl | rfl | rfl | rfl | rfl | rfl | rfl<;>cases hnm<;>omega
  ·intro x hx;exact O9 x (by unfold I6 at hx;dsimp only at hx;rw [hN] at hx;simpa using hx)
  ·simp [I6]
  ·simp [I6]
  ·refine ⟨_,_,_,_,_,_,_,[],[(.i .i64 1,.c (.i .i64 1))],r4,⟨λi j a x y hi hj hx hy=>?_,λx hx=>?_⟩,.inr ⟨_,rfl,at_ 5 _ (by rw [hT];rfl),rfl,by omega⟩,?_,?_,.inl ⟨rfl,rfl,rfl⟩,.inl ⟨rfl,rfl,rfl⟩,at_ 2 _ (by rw [hT];rfl),MapI.nil,at_ 3 _ (by rw [hT];rfl),MapI.nil.put 1 1⟩
   ·obtain ⟨fi,fc,rfl⟩:=hv2;have hi2:=(List.getElem?_eq_some_iff.1 hi).1;have hj2:=(List.getElem?_eq_some_iff.1 hj).1;simp only [wkC,E7g,E7v] at hi2 hj2;have cases12:∀ k:Nat,k<12->k=0\/k=1\/k=2\/k=3\/k=4\/k=5\/k=6\/k=7\/k=8\/k=9\/k=10\/k=11:=λk hk=>by omega
    rcases cases12 i (by omega) with rfl | rfl | rfl | rfl | rfl | rfl | rfl | rfl | rfl | rfl | rfl | rfl<;>(cases hi;try cases hx) <;>
     (rcases cases12 j (by omega) with rfl | rfl | rfl | rfl | rfl | rfl | rfl | rfl | rfl | rfl | rfl | rfl<;>(cases hj;try simp [nmC] at hy)<;>first | rfl | omega)
   ·obtain ⟨fi,fc,rfl⟩:=hv2;simp only [wkC,List.mem_cons,List.not_mem_nil,or_false] at hx;rcases hx with rfl | rfl | rfl | rfl | rfl | rfl | rfl | rfl | rfl | rfl | rfl | rfl<;>simp [nmC]
   ·have e:(I6 D n).ino=E68 N (zI 11):=by unfold I6;rw [hN];simp
    rw [e,E7B];exact .inr ⟨_,rfl,at_ 6 _ (by rw [hT];rfl),by rw [T5 O9,E7B],by omega⟩
   ·have e:(I6 D n).taken=E68 D.length A6:=rfl;rw [e,E7B];exact .inr ⟨_,rfl,at_ 7 _ (by rw [hT];rfl),by simp [J3],by omega⟩
 have r4:=at_ 4 (rT W) (by rw [hT];rfl);have noN:∀ k:Nat,k<2->¬ Nam (g++T) (g.length+4) (g.length+k):=by
  rintro k hk ⟨R,x,hR,hx,hnm⟩;rw [r4,hW] at hR;cases hR;obtain ⟨fi,fc,rfl⟩:=hv2;simp only [wkC,List.mem_cons,List.not_mem_nil,or_false] at hx;rcases hx with rfl | rfl | rfl | rfl | rfl | rfl | rfl | rfl | rfl | rfl | rfl | rfl<;>simp [nmC] at hnm<;>omega
 have hTl:T.length=8:=by rw [hT];rfl
 have hGl:(g++T).length=g.length+8:=by rw [E7a,hTl]
 have LV:LocV (g++T) (g.length+4) g.length (vwC D.length n m f):=⟨⟨by omega,by omega,by simpa using noN 0 (by omega)⟩,by simpa using at_ 0 _ (by rw [hT];rfl)⟩;have LR:LocV (g++T) (g.length+4) (g.length+1) [.ns,.ns,.ns,.ns,.ns,o0]:=⟨⟨by omega,by omega,noN 1 (by omega)⟩,at_ 1 _ (by rw [hT];rfl)⟩;obtain ⟨K,hK⟩:∃ K,K=(kY D.length n).toNat:=⟨_,rfl⟩;have hKr:=A1D (b:=(D.length:Int)) (n:=n);have hKD:K<=D.length/\K<=1000:=by
  rw [hK];have:kY (D.length:Int) n<=D.length:=E2b hm;omega
 have E2g:=C2Y (b:=D.length) (n:=n) (m:=m) (h:=g++T);rw [<-hK] at E2g;have eu:(upto K).length=K:=by simp [upto]
 have P1:=P0.more hv2 [rT (encI (upto K))];have F1:Fr (g.length+4) (g++T) (g++T++[rT (encI (upto K))]):=Fr.low ((Low.refl (E7b _)).new _) P0.rlt;have LO:LocV (g++T++[rT (encI (upto K))]) (g.length+4) ((g++T).length+0) (encI (upto K)):=LocV.new (k:=0) hv2 P0 rfl;rw [Nat.add_zero] at LO;obtain ⟨h1,e1,P2,F2,LV2,LR2⟩:=E00 (c:=I6 D n) (q:=1200) (pv:=g.length) (pr:=g.length+1) (sid:=(g++T).length) (h0:=g++T) hv hKD.1 hKD.2 K 0 1200 _ (by omega) (by omega) P1 F1 (LV.fr F1) (LR.fr F1) LO;have hsO:=ownR_same (c:=I6 D n) (k:=K);have rI:RowW n (qI (I6 D n) K):=by
  refine RowW.same (c:=I6 D n) ⟨by simp [I6],λi=>?_,λi hi=>?_⟩ hsO.row hsO.par
  ·by_cases c1:i=1
   ·subst c1;simp [I6,vO]
   ·simp [I6,vO,c1]
  ·simp [I6] at hi;omega
 have smI:Small (qI (I6 D n) K) 128 (224*0) (33*0) (224*0):=⟨by rw [hsO.row];simp [I6],λi=>by rw [hsO.lnk];simp [I6],by rw [hsO.blocks];simp [I6],by rw [hsO.made];simp [I6],by rw [hsO.lost];simp [I6],by rw [hsO.lost];simp [I6]⟩;obtain ⟨M',h2,e2,P3,F3,LV3,LR3,rO,smO⟩:=E2x (q:=1200) (pv:=g.length) (pr:=g.length+1) (h0:=g++T) hD hv n128 129 0 1200 (qI (I6 D n) K) h1 (by omega) (by omega) (by omega) rI smI P2 F2 LV2 LR2;have ecO:ofR D n 129 0 (qI (I6 D n) K)=aX D n:=by unfold aX;rw [<-hK]
 rw [ecO] at e2 P3 rO smO;obtain ⟨c,hc⟩:∃ c,c=aX D n:=⟨_,rfl⟩;rw [<-hc] at e2 P3 rO smO;have xY:1<=c.row.length:=by
  have:(qI (I6 D n) K).row.length<=c.row.length:=by rw [hc,<-ecO];exact D3u
  rw [hsO.row] at this;simpa [I6] using this
 obtain ⟨xr,xi,xt,xb,xm,ml,mp,es1,es2,g1,g2,g3,g4,g5,g6,g7,g8,g9,g10,g11⟩:=id P3.row;rcases g3 with ⟨e0,_,_⟩ | ⟨rid,rfl,r1,r2,r3⟩
 ·omega
 have l4:B8 h2 (.c (.p (g.length+4) 4))=A4 (.c (.sl rid 0 c.row.length 1)):=C4 g1 rfl rfl;have c0:¬ ((c.row.length:Nat):Int)<(c.row.length:Nat):=by omega
 have r128:=B86 rO.nd λa ha=>⟨(rO.rg a ha).1,by have:=(rO.rg a ha).2;omega⟩
 obtain ⟨M2,h3,e3,P4,F4,z,yN,LR4⟩:=D8K (q:=1200) (pr:=g.length+1) (rid:=rid) (R:=c.row) (h0:=g++T) hv (by omega) rO.rg c.row.length 0 1200 c h2 (by omega) (by omega) P3 F3 ⟨_,rfl,LR3⟩ ⟨_,g1,rfl⟩ r1;rw [E7p] at P4;have ecF:T0 c c.row=L6 D n:=by unfold L6;rw [<-hc]
 rw [ecF] at P4;obtain ⟨yr,yi,yt,yb,ym,nl,np,fs1,fs2,k1,k2,_⟩:=id P4.row;have l6:D4 h3 6 (.c (.p (g.length+4) 4))=A4 (.a [yr,yi,yt,yb,ym,.i .i64 (L6 D n).lost]):=by rw [dI k1 (by simp [wkC]) rfl];rfl
 have s6:=storeAll (n:=6) (xs:=[yr,yi,yt,yb,ym,.i .i64 (L6 D n).lost]) LR4.2 yN rfl;have LR5:=LR4.self (cs':=[yr,yi,yt,yb,ym,.i .i64 (L6 D n).lost]);have l6':=C7 (n:=6) LR5.2 rfl;refine ⟨[yr,yi,yt,yb,ym,.i .i64 (L6 D n).lost],h3.set (g.length+1) (rT [yr,yi,yt,yb,ym,.i .i64 (L6 D n).lost]),?_,P4.set LR4.1 (by omega),vwC D.length n m f,[.m nl,.m np],?_,rfl,rfl,by rw [<-hc];exact rO,by rw [<-hc];exact smO⟩
 rotate_left
 ·rw [B6 LR4.1.2.1,k1];rfl
 rw [C9g];rw [B09 1200 M'] at e2;rw [B1b 1200 M2] at e3;have E35:A2O (g++[rT (vwC D.length n m f),rT [Cell.ns,.ns,.ns,.ns,.ns,o0],A4 (T1 []),A4 (T1 [])]) (A4 .i64) (.c (.m (g.length+3))) (.c (.i .i64 1)) (.c (.i .i64 1))=A4 (g++[rT (vwC D.length n m f),rT [Cell.ns,.ns,.ns,.ns,.ns,o0],A4 (T1 []),A4 (T1 [(.i .i64 1,.c (.i .i64 1))])]):=by
  rw [E4z (F:=λ_=>A7) (es:=[]) (by simp) MapI.nil];simp [A88,B1Q,mgo]
 have ef1:E4 [o0,o0,.i .u64 0,.nf,.ns,.ns,.ns,.ns,.ns,o0,.nm,.nm] [(0,4,.a (vwC D.length n m f)),(10,1,.c (.m (g.length+2))),(11,1,.c (.m (g.length+3)))]=A4 (vwC D.length n m f++[.ns,.ns,.ns,.ns,.ns,o0,.m (g.length+2),.m (g.length+3)]):=rfl;have ef2:E4 [o0] [(0,1,.c (.i .i64 1))]=A4 [.i .i64 1]:=rfl;have lv0:ld1 (rT (vwC D.length n m f)) 0=A4 (.c (.i .i64 (D.length:Int))):=rfl;have lv1:ld1 (rT (vwC D.length n m f)) 1=A4 (.c (.i .i64 n)):=rfl;have l4v:=E1G (b:=D.length) (n:=n) (m:=m) (f:=f);have l3v:=D5X (b:=D.length) (n:=n) (m:=m) (f:=f);have wn:IntKind.wrap .i64 (n+1)=(N:Int):=by rw [wrap_i64 (by omega) (by omega),hN]
 have nt:∀ k:Nat,k<=1000->A5P (.c (.i .i64 (k:Int)))=A4 k:=λk hk=>by
  simp only [A5P];rw [if_pos (by omega)];simp
 have am1:A13 (.c (.i .i64 (N:Int))) (.c (.i .i64 (N:Int)))=A4 N:=by simp only [A13,nt N (by omega),E7h];rw [if_pos (E7b _)]
 have am2:A13 (.c (.i .i64 (D.length:Int))) (.c (.i .i64 (D.length:Int)))=A4 D.length:=by simp only [A13,nt D.length (by omega),E7h];rw [if_pos (E7b _)]
 have ef3:E4 [Cell.ns,.ns,.ns,.ns,.ns,o0] [(0,1,.c (.sl (g.length+5) 0 1 1)),(1,1,.c (.sl (g.length+6) 0 N 11)),(2,1,.c (.sl (g.length+7) 0 D.length 1))]=A4 [.sl (g.length+5) 0 1 1,.sl (g.length+6) 0 N 11,.sl (g.length+7) 0 D.length 1,.ns,.ns,o0]:=rfl;have sw:stN (rT (vwC D.length n m f++[.ns,.ns,.ns,.ns,.ns,o0,.m (g.length+2),.m (g.length+3)])) 4 6 [.sl (g.length+5) 0 1 1,.sl (g.length+6) 0 N 11,.sl (g.length+7) 0 D.length 1,.ns,.ns,o0]=rT W:=by rw [hW];rfl
 have rz1:rows [o0,o0,o0,o0,o0,o0,o0,o0,o0,o0,o0] N=U2 (E68 N (zI 11)):=by unfold rows U2;rw [List.map_replicate];rfl
 have rz2:rows [Cell.b A6] D.length=J3 (E68 D.length A6):=by unfold rows J3;rw [List.map_replicate,List.flatten_replicate_singleton]
 rw [hT] at e1;rw [hT] at E2g;simp only [esc,Nat.reduceAdd] at E2g;have c00:((0:Nat):Int)=0:=rfl;rw [c00] at e1 e2 e3;generalize U2 (E68 N (zI 11))=ZI at *;generalize J3 (E68 D.length A6)=ZB at *;generalize vwC D.length n m f=V at *;simp only [esc,bL,Q9,fE,T7,V1,L7,Nat.reduceAdd,l3v,l4v,hCk,E35,ef1,ef2,lv0,lv1,wn,am1,am2,ef3,sw,rz1,rz2,Nat.add_assoc];simp only [esc,E2g];simp only [esc,Nat.reduceAdd] at e1;refine e1.trans ?_;refine e2.trans ?_;simp only [esc,Nat.reduceAdd,l4,c0];refine e3.trans ?_;simp only [esc,Nat.reduceAdd,c0,l6,s6,l6']
end
theorem D41 (l:List (List Int)):N8 (U2 l)=A5:=by
 induction l with
 | nil=>rfl
 | cons x l ih =>
  rw [aC,sF,ih];simp [N8,encI,Cell.flat]
theorem D4Z (l:List Bool):N8 (J3 l)=A5:=by simp [N8,J3,Cell.flat]
theorem C1e (l:List Bool):noX (J3 l)=A5:=by simp [noX,J3,Cell.isX]
theorem C2E {D:Dev} {n m:Int} {f:Cell} {h:B5} (hD:okD D) (hv:IsView h f D) (hm:S4 D.length n=A5) :
  ∃ cs t,B4T [.a (vwC D.length n m f)] h=A4 (.a cs,h++t)/\IsCl (h++t) cs (L6 D n)/\t.all B8G=A5:=by
 obtain ⟨six,g',e,P,V,t,hr,hV,h6,_,_⟩:=D1r (n:=n) (m:=m) hD hv.ro hm;obtain ⟨xr,xi,xt,xb,xm,ml,mp,es1,es2,g1,g2,g3,g4,g5,g6,g7,_⟩:=id P.row;obtain ⟨c,hc⟩:∃ c,c=L6 D n:=⟨_,rfl⟩;rw [<-hc] at g1 g2 g3 g4 g5 g6 g7 P ⊢;rw [g1] at hr;simp only [Option.some.injEq,Row.mk.injEq,and_true] at hr;have e6:six=[xr,xi,xt,xb,xm,.i .i64 c.lost]:=by
  have h1:(wkC D n m f xr xi xt xb xm c.lost ml mp).drop 4=(six++t):=by rw [hr,E7c,List.drop_left' hV]
  have h2:((wkC D n m f xr xi xt xb xm c.lost ml mp).drop 4).take 6=six:=by rw [h1,List.take_left' h6]
  rw [<-h2];rfl
 have low:∀ (i:Nat) (x:Cell) (id:Nat),(wkC D n m f xr xi xt xb xm c.lost ml mp)[i]?=A4 x->nmC x=A4 id->(ro h).length<=id:=λi x id hi hx=>P.low id (B55 g1 hi hx)
 obtain ⟨l2,fin,c1,_,c3,c4⟩:=B5L (h2:=g') (b:=(ro h).length) six [] (λx hx=>by
   rw [e6] at hx;simp only [List.mem_cons,List.not_mem_nil,or_false] at hx;rcases hx with rfl | rfl | rfl | rfl | rfl | rfl
   ·exact g3.canon (by simp [N8,encI,Cell.flat]) λid e=>low 4 _ _ rfl e
   ·exact g4.canon (D41 _) λid e=>low 5 _ _ rfl e
   ·exact g5.canon (D4Z _) λid e=>low 6 _ _ rfl e
   ·exact g6.canon (by simp [N8,encI,Cell.flat]) λid e=>low 7 _ _ rfl e
   ·exact g7.canon gY λid e=>low 8 _ _ rfl e
   ·exact .inl rfl) (λi j a x y hi hj hx hy=>by
   have sh:∀ (i:Nat) (x:Cell),six[i]?=A4 x->(wkC D n m f xr xi xt xb xm c.lost ml mp)[4+i]?=A4 x:=λi x hi=>by
    rw [hr,E7c,E7l (by omega),hV,show 4+i-4=i by omega,E7H (List.getElem?_eq_some_iff.1 hi).1];exact hi
   have:=g2.1 (4+i) (4+j) a x y (sh i x hi) (sh j y hj) hx hy;omega) (λx hx a ha=>by simp)
 have hgood:=(A5d (μ:=λ_=>A7) (μ':=λ_=>A7) (λ_ _=>rfl) _ _ _ _ c1 Good.nil).1;have D0m:(fin.map (rd g')).all B8G=A5:=by
  rw [E70];intro x hx;obtain ⟨j,hj,rfl⟩:=List.mem_map.1 hx;obtain ⟨_,r,h1,h2,_⟩:=hgood.ok j hj;rw [h1];exact Row.own_rw h2
 rw [F7] at c1 c4;have hS:=C3O e (v2:=.a l2) (ids:=fin) (by simp only [Y0,c1,Option.map_some]);refine ⟨l2,_,hS,?_⟩;rw [e6] at c3 c4;have q0:=c4 0 _ rfl;have q1:=c4 1 _ rfl;have q2:=c4 2 _ rfl;have q3:=c4 3 _ rfl;have q4:=c4 4 _ rfl;have q5:=c4 5 _ rfl;obtain ⟨y0,y1,y2,y3,y4,y5,rfl⟩:∃ y0 y1 y2 y3 y4 y5,l2=[y0,y1,y2,y3,y4,y5]:=by
  match l2,c3 with
  | [a,b,c,d,e,f],_=>exact ⟨a,b,c,d,e,f,rfl⟩
 simp only [List.getElem?_cons_zero,E7S,Option.some.injEq] at q0 q1 q2 q3 q4 q5;have e5:y5=.i .i64 c.lost:=by
  rcases q5 with ⟨_,h1⟩ | ⟨_,_,_,_,_,h1,_⟩
  ·exact h1
  ·cases h1
 subst e5;exact ⟨⟨_,_,_,_,_,rfl,g3.moved (aR _) q0,g4.moved (B2C _) q1,g5.moved (C1e _) q2,g6.moved (aR _) q3,g7.moved (dX _) q4⟩,D0m⟩
theorem D1M {R:List Int} {a:Int} {y:Cell} {q:Nat} {h:B5} (hy:∀ i,i<R.length->∃ ad,E1 1 (.c y) (iV (i:Int))=A4 ad/\B8 h ad=A4 (iV (R.getD i 0))) (hR:R.length<=1000):∀ (e i M:Nat),i+e=R.length->e<M ->
  B3M q M (iV a) (.c y) (iV (R.length:Nat)) (iV (i:Int)) h=A4 (bV (decide (a∈R.drop i)),h)
 | e,i,0,_,hM=>by omega
 | 0,i,M+1,hi,_=>by
  have c0:¬ ((i:Int)<(R.length:Nat)):=by omega
  rw [A5k,E7k (by omega)];simp only [esc,c0];simp
 | e+1,i,M+1,hi,hM=>by
  have O9:i<R.length:=by omega
  have c0:((i:Int)<(R.length:Nat)):=by omega
  have w1:=D3 (show i+1<9223372036854775808 by omega);obtain ⟨ad,a1,a2⟩:=hy i O9;have eg:R.getD i 0=R[i]:=by simp [List.getD,O9]
  rw [eg] at a2;rw [A5k,E7d O9];by_cases c1:R[i]=a
  ·rw [c1] at a2 ⊢;simp only [esc,c0,a1,a2,eq_self];simp
  ·have ih:=D1M (q:=q) (a:=a) hy hR e (i+1) M (by omega) (by omega);simp only [esc,c0,a1,a2,c1,w1];rw [ih];have:(a∈R[i]::R.drop (i+1))↔a∈R.drop (i+1):=by
    rw [List.mem_cons];constructor
    ·rintro (h | h)
     ·exact absurd h.symm c1
     ·exact h
    ·exact .inr
   simp only [this]
theorem C98 {cs:List Cell} {c:Cl} {a:Int} {h:B5} (hc:IsCl h cs c) (hR:c.row.length<=1000):A6F [.a cs,iV a] h=A4 (bV (decide (a∈c.row)),h):=by
 obtain ⟨xr,xi,xt,xb,xm,rfl,h1,_⟩:=hc.form;have key:∃ g',A6k 1100 [.a [xr,xi,xt,xb,xm,.i .i64 c.lost],iV a] (ro h)=A4 (bV (decide (a∈c.row)),g'):=by
  have h2:=h1.ro.more [rT [xr,xi,xt,xb,xm,.i .i64 c.lost]];have hl:=h2.len;have k:=D1M (q:=1100) (a:=a) (R:=c.row) (y:=xr) (h:=ro h++[rT [xr,xi,xt,xb,xm,.i .i64 c.lost]]) (λi hi=>by
   obtain ⟨id,off,e,_,hA,_⟩:=h2.sl (by omega);cases e;refine ⟨pV id (off+i*1),C9 hi,?_⟩;rw [Nat.mul_one];exact hA i _ (by rw [G8,E7e,E66 hi];rfl)) hR c.row.length 0 1100 (by omega) (by omega)
  rw [E7p] at k;refine ⟨ro h++[rT [xr,xi,xt,xb,xm,.i .i64 c.lost]],?_⟩
  ·rw [C3m];have l0:B8 (ro h++[rT [xr,xi,xt,xb,xm,.i .i64 c.lost]]) (pV (ro h).length 0)=A4 (.c xr):=by rw [T7];exact A3a
   simp only [esc,l0,hl];exact k
 obtain ⟨g',e⟩:=key;exact B7f e rfl
def A0B (O:Dev) (no:Int) (b:List UInt8):Dev:=if 0<=no/\no<O.length then O.set no.toNat b else O
theorem dJ {O:Dev} {no:Int} {b:List UInt8}:(A0B O no b).length=O.length:=by unfold A0B;split<;>simp
theorem okD.put {O:Dev} (h:okD O) {no:Int} {b:List UInt8} (hb:b.length=256):okD (A0B O no b):=by
 unfold A0B;split
 ·exact h.set hb
 ·exact h
structure OutD (g:B5) (p id:Nat) (O:Dev) (h:B5):Prop where
 lo:Low g.length g h
 gp:g.length<=p
 gid:g.length<=id
 ne:p≠id
 var:rd h p=rT [.sl id 0 O.length 256]
 blk:rd h id=rT (D5 O)
theorem OutD.more {g h:B5} {p id:Nat} {O:Dev} (k:OutD g p id O h) (t:B5):OutD g p id O (h++t) :=
 ⟨k.lo.new t,k.gp,k.gid,k.ne,C5 k.var,C5 k.blk⟩
theorem OutD.set {g h:B5} {p id:Nat} {O O':Dev} (k:OutD g p id O h) (hl:O'.length=O.length):OutD g p id O' (h.set id (rT (D5 O'))) :=
 ⟨k.lo.set k.gid _,k.gp,k.gid,k.ne,by rw [B6 (Ne.symm k.ne),hl];exact k.var,by rw [C6 (C8 k.blk)]⟩
theorem put_eq {g h:B5} {p id:Nat} {O:Dev} {no:Int} {b:List UInt8} (k:OutD g p id O h) (hO:okD O) (hb:b.length=256) :
  ∃ h',oK [iV no,.a (B4 b),pV p 0] h=A4 (.t [],h')/\OutD g p id (A0B O no b) h'/\h.length<=h'.length/\∀ j,j<h.length->j≠id->rd h' j=rd h j:=by
 obtain ⟨H,hH⟩:∃ H,H=h++[rT (B4 b)]:=⟨_,rfl⟩;have kH:OutD g p id O H:=by rw [hH];exact k.more _
 have lV:B8 H (pV p 0)=A4 (sV id 0 O.length 256):=C4 kH.var rfl rfl;have lB:D4 H 256 (pV h.length 0)=A4 (.a (B4 b)):=C7 (by rw [hH,E9];rfl) (by rw [A9,hb]);have cl:cells? (.a (B4 b))=A4 (B4 b):=rfl;have same:∀ j,j<h.length->rd H j=rd h j:=λj hj=>by rw [hH,D9 hj]
 have len:H.length=h.length+1:=by rw [hH];simp
 by_cases c0:0<=no
 ·by_cases c1:no<(O.length:Nat)
  ·obtain ⟨i,rfl⟩:=E7Q c0;have hi:i<O.length:=by omega
   have ad:E1 256 (sV id 0 O.length 256) (iV (i:Int))=A4 (pV id (i*256)):=by rw [C9 hi];simp
   have sd:E6 H 256 (pV id (i*256)) (.a (B4 b))=A4 (H.set id (rT (D5 (O.set i b)))):=A50 kH.blk hO hb hi;have ep:A0B O (i:Int) b=O.set i b:=by unfold A0B;rw [if_pos ⟨c0,c1⟩];simp
   rw [ep];refine ⟨_,oS (n:=0) (p:=(.t [],H.set id (rT (D5 (O.set i b))))) ?_,kH.set (by simp),by simp;omega,λj hj T8=>by rw [B6 (Ne.symm T8)];exact same j hj⟩;rw [oQ];have c0':(i:Int)>=0:=c0;simp only [esc,cl,<-hH,c0',lV,c1,lB,ad,sd];rfl
  ·have ep:A0B O no b=O:=by unfold A0B;rw [if_neg (by omega)]
   rw [ep];refine ⟨_,oS (n:=0) (p:=(.t [],H)) ?_,kH,by omega,λj hj T8=>same j hj⟩;rw [oQ];have c0':no>=0:=c0;simp only [esc,cl,<-hH,c0',lV,c1];rfl
 ·have ep:A0B O no b=O:=by unfold A0B;rw [if_neg (by omega)]
  rw [ep];refine ⟨_,oS (n:=0) (p:=(.t [],H)) ?_,kH,by omega,λj hj T8=>same j hj⟩;rw [oQ];have c0':¬ no>=0:=c0;simp only [esc,cl,<-hH,c0'];rfl
def D8P (x:List Int):Prop:=x.length=11/\A1P (x.getD 0 0) (x.getD 1 0) (x.getD 2 0) (x.getD 3 0) (x.drop 4)=A5
def A7C (x:List Int):List UInt8:=gZ (x.getD 0 0) (x.getD 1 0) (x.getD 2 0) (x.getD 3 0) (x.drop 4)
theorem C02 {x:List Int} (h:x.length=11):encI x=F8 (x.getD 0 0) (x.getD 1 0) (x.getD 2 0) (x.getD 3 0) (x.drop 4):=by
 match x,h with
 | [a,b,c,d,e,f,g,i,j,k,l],_=>rfl
theorem B1G {x:List Int} (h:x.length=11):(A7C x).length=32:=by
 unfold A7C gZ;rw [E7a,E7a,gG,lO,E72,h,zeros_length]
def C3a (O:Dev):List Int->List (List UInt8)->Dev
 | no::l,b::m=>C3a (A0B O no b) l m
 | _,_=>O
def B6i (O:Dev) (no:Int):Nat->Dev
 | 0=>O
 | e+1=>B6i (A0B O no (zeros 256)) (no+1) e
def C1a (n:Int) (O:Dev) (i:Nat) (x:List Int):Dev :=
 if R6 O.length n i=A5 then A0B O (W3 O.length n i) (J1 (blk O (W3 O.length n i)) (32*(cO O.length n i).toNat) (A7C x)) else O
def B8y (n:Int):Dev->Nat->List (List Int)->Dev
 | O,_,[]=>O
 | O,i,x::l=>B8y n (C1a n O i x) (i+1) l
def U6:Nat->List Bool->List Nat
 | _,[]=>[]
 | i,b::l=>if b=A5 then i::U6 (i+1) l else U6 (i+1) l
def vI (D:Dev) (n:Int) (c:Cl):Dev :=
 A0B (B8y n (B6i (C3a D c.blocks c.made) (sW D.length n) (A1W D.length n).toNat) 0 c.ino) 1 (fK (U6 0 c.taken))
theorem C1h {O:Dev} {m:List (List UInt8)}:C3a O [] m=O:=by cases m<;>rfl
theorem B1Z:∀ {l:List Int} {m:List (List UInt8)} {O:Dev},okD O->(∀ b∈m,b.length=256)->okD (C3a O l m)/\(C3a O l m).length=O.length
 | [],_,O,h,_=>by rw [C1h];exact ⟨h,rfl⟩
 | _::_,[],O,h,_=>⟨h,rfl⟩
 | no::l,b::m,O,h,hm=>by
  obtain ⟨h1,h2⟩:=B1Z (l:=l) (m:=m) (O:=A0B O no b) (h.put (hm b (E7u ..))) λx hx=>hm x (E7s _ hx)
  exact ⟨h1,h2.trans dJ⟩
theorem A52:∀ {e:Nat} {no:Int} {O:Dev},okD O->okD (B6i O no e)/\(B6i O no e).length=O.length
 | 0,_,O,h=>⟨h,rfl⟩
 | e+1,no,O,h=>by
  obtain ⟨h1,h2⟩:=A52 (e:=e) (no:=no+1) (h.put (no:=no) zeros_length);exact ⟨h1,h2.trans dJ⟩
theorem D3d {n:Int} {O:Dev} {i:Nat} {x:List Int} (h:okD O) (hx:x.length=11) (hn:n<=128):okD (C1a n O i x)/\(C1a n O i x).length=O.length:=by
 unfold C1a;split
 ·refine ⟨h.put ?_,dJ⟩;rename_i hc;have hk:(cO O.length n i).toNat<8:=by unfold cO;rw [hc];simp only [cond_true];omega
  rw [P5 (by rw [O5 h,B1G hx];omega),O5 h]
 ·exact ⟨h,rfl⟩
theorem B1J {n:Int} (hn:n<=128):∀ {l:List (List Int)} {i:Nat} {O:Dev},okD O->(∀ x∈l,x.length=11)->okD (B8y n O i l)/\(B8y n O i l).length=O.length
 | [],_,O,h,_=>⟨h,rfl⟩
 | x::l,i,O,h,hx=>by
  have h1:=D3d (n:=n) (i:=i) h (hx x (E7u ..)) hn;have h2:=B1J (n:=n) hn (l:=l) (i:=i+1) h1.1 λy hy=>hx y (E7s _ hy)
  exact ⟨h2.1,h2.2.trans h1.2⟩
theorem D3N:∀ {l:List Bool} {i:Nat},(∀ x∈U6 i l,x<i+l.length)/\(U6 i l).length<=l.length
 | [],i=>⟨λx hx=>by simp [U6] at hx,by simp [U6]⟩
 | b::l,i=>by
  obtain ⟨h1,h2⟩:=D3N (l:=l) (i:=i+1);unfold U6;split
  ·refine ⟨λx hx=>?_,by simpa using h2⟩;rcases List.mem_cons.1 hx with rfl | hx
   ·simp
   ·have:=h1 x hx;simp;omega
  ·exact ⟨λx hx=>by have:=h1 x hx;simp;omega,by simp;omega⟩
section
variable {D:Dev} {n m:Int} {f:Cell} {g:B5} {p id q pv pc:Nat} {xr xi xt xb xm:Cell} {lost:Int} {c:Cl}
theorem C0V {a b:Val} {h:B5}:A2R qK (.c (.f 52 [(p,0)])) [a,b] h=oK [a,b,pV p 0] h:=rfl
theorem E4b (hpc:rd g pc=rT [xr,xi,xt,xb,xm,.i .i64 lost]) {bl:List Int} {md:List (List UInt8)} (hb:Has g (.c xb) 1 bl.length (encI bl)) (hm:Has g (.c xm) 256 md.length (D5 md)) (hl:bl.length=md.length) (hmd:∀ b∈md,b.length=256) (hB:bl.length<=1000000) :
  ∀ (e i M:Nat) (O:Dev) (h:B5),i+e=bl.length->e<M->okD O->OutD g p id O h ->
  ∃ h' M',fF q M (pV pv 0) (pV pc 0) (pV p 0) (.c (.f 52 [(p,0)])) (.c xb) (iV (bl.length:Nat)) (iV (i:Int)) h =
   fF q (M'+1) (pV pv 0) (pV pc 0) (pV p 0) (.c (.f 52 [(p,0)])) (.c xb) (iV (bl.length:Nat)) (iV (bl.length:Nat)) h'/\OutD g p id (C3a O (bl.drop i) (md.drop i)) h':=by
 intro e
 induction e with
 | zero =>
  intro i M O h hi hM hO k;obtain ⟨M,rfl⟩:∃ M',M=M'+1:=⟨M-1,by omega⟩;have ei:i=bl.length:=by omega
  subst ei;refine ⟨h,M,rfl,?_⟩;rw [List.drop_length,C1h];exact k
 | succ e ih =>
  intro i M O h hi hM hO k;obtain ⟨M,rfl⟩:∃ M',M=M'+1:=⟨M-1,by omega⟩;have O9:i<bl.length:=by omega
  have him:i<md.length:=by omega
  have c0:(i:Int)<(bl.length:Nat):=by omega
  have c1:(i:Int)<(md.length:Nat):=by omega
  have w1:=D3 (show i+1<9223372036854775808 by omega);have hb':=hb.since k.lo;have hm':=hm.since k.lo;obtain ⟨ib,ob,eb,_,hA,_⟩:=hb'.sl (by omega);cases eb;obtain ⟨im,om,em,_,_,hC⟩:=hm'.sl (by omega);cases em;have a1:E1 1 (sV ib ob bl.length 1) (iV (i:Int))=A4 (pV ib (ob+i)):=by rw [C9 O9];simp
  have a2:B8 h (pV ib (ob+i))=A4 (iV bl[i]):=hA i _ (by rw [G8,E66 O9];rfl);have a3:B8 h (pV pc 4)=A4 (sV im om md.length 256):=C4 (k.lo.rd hpc) rfl rfl;have a4:E1 256 (sV im om md.length 256) (iV (i:Int))=A4 (pV im (om+i*256)):=C9 him;have okm:okD md:=hmd;have a5:D4 h 256 (pV im (om+i*256))=A4 (.a (B4 md[i])):=by
   rw [hC (i*256) 256 (by rw [J0 okm];omega),cV okm him]
  obtain ⟨h1,b1,b2,_⟩:=put_eq (no:=bl[i]) (b:=md[i]) k hO (hmd _ (E7J him));obtain ⟨h',M',e1,e2⟩:=ih (i+1) M _ h1 (by omega) (by omega) (hO.put (hmd _ (E7J him))) b2;rw [E7d O9,E7d him];refine ⟨h',M',?_,e2⟩;rw [kV];simp only [esc,Nat.reduceAdd,c0,a1,a2,a3,C4I,c1,a4,a5,C0V,b1,A1B,w1];exact e1
theorem E4c (t0 tn:Int) (h0:0<=t0/\t0<=100) (hn:0<=tn/\tn<=100) :
  ∀ (e:Nat) (i:Int) (M:Nat) (O:Dev) (h:B5),i+e=t0+tn->t0<=i->e<M->okD O->OutD g p id O h ->
  ∃ h' M',fG q M (pV pv 0) (pV pc 0) (pV p 0) (.c (.f 52 [(p,0)])) (iV t0) (iV tn) (iV i) h =
   fG q (M'+1) (pV pv 0) (pV pc 0) (pV p 0) (.c (.f 52 [(p,0)])) (iV t0) (iV tn) (iV (t0+tn)) h'/\OutD g p id (B6i O i e) h':=by
 intro e
 induction e with
 | zero =>
  intro i M O h hi hi0 hM hO k;obtain ⟨M,rfl⟩:∃ M',M=M'+1:=⟨M-1,by omega⟩;have ei:i=t0+tn:=by omega
  subst ei;exact ⟨h,M,rfl,k⟩
 | succ e ih =>
  intro i M O h hi hi0 hM hO k;obtain ⟨M,rfl⟩:∃ M',M=M'+1:=⟨M-1,by omega⟩;have w0:IntKind.wrap .i64 (t0+tn)=t0+tn:=wrap_i64 (by omega) (by omega);have w1:IntKind.wrap .i64 (i+1)=i+1:=wrap_i64 (by omega) (by omega);have c0:i<t0+tn:=by omega
  have ef:E4 (B4 (zeros 256)) []=A4 (B4 (zeros 256)):=rfl;obtain ⟨h1,b1,b2,_⟩:=put_eq (no:=i) (b:=zeros 256) k hO zeros_length;obtain ⟨h',M',e1,e2⟩:=ih (i+1) M _ h1 (by omega) (by omega) (by omega) (hO.put zeros_length) b2;refine ⟨h',M',?_,e2⟩;rw [kW,I7];generalize B4 (zeros 256)=Z at *;simp only [esc,w0,c0,ef,C0V,b1,w1];exact e1
end
theorem D9q {b n i:Int} (h:R6 b n i=A5):2<=W3 b n i/\W3 b n i<b/\0<=cO b n i/\cO b n i<8:=by
 obtain ⟨h1,h2,h3⟩:=lQ.1 h;obtain ⟨_,_,_,_,h4,h5⟩:=J9.1 h1;unfold W3 cO;rw [h];simp only [cond_true];omega
section
variable {D:Dev} {n m:Int} {f:Cell} {g:B5} {p id q pv pc:Nat} {xr xi xt xb xm:Cell} {lost:Int} {c:Cl}
theorem E4d (hpv:rd g pv=rT (vwC D.length n m f)) {R:List (List Int)} (hx:Has g (.c xi) 11 R.length (U2 R)) (hR:∀ x∈R,D8P x) (hn:n<=128) (hB:R.length<=1000000) :
  ∀ (e i M:Nat) (O:Dev) (h:B5),i+e=R.length->e<M->okD O->O.length=D.length->OutD g p id O h ->
  ∃ h' M',fH q M (pV pv 0) (pV pc 0) (pV p 0) (.c (.f 52 [(p,0)])) (.c xi) (iV (R.length:Nat)) (iV (i:Int)) h =
   fH q (M'+1) (pV pv 0) (pV pc 0) (pV p 0) (.c (.f 52 [(p,0)])) (.c xi) (iV (R.length:Nat)) (iV (R.length:Nat)) h'/\OutD g p id (B8y n O i (R.drop i)) h':=by
 intro e
 induction e with
 | zero =>
  intro i M O h hi hM hO hlen k;obtain ⟨M,rfl⟩:∃ M',M=M'+1:=⟨M-1,by omega⟩;have ei:i=R.length:=by omega
  subst ei;refine ⟨h,M,rfl,?_⟩;rw [List.drop_length];exact k
 | succ e ih =>
  intro i M O h hi hM hO hlen k;obtain ⟨M,rfl⟩:∃ M',M=M'+1:=⟨M-1,by omega⟩;have O9:i<R.length:=by omega
  have c0:(i:Int)<(R.length:Nat):=by omega
  have w1:=D3 (show i+1<9223372036854775808 by omega);obtain ⟨x,ex⟩:∃ x,x=R[i]:=⟨_,rfl⟩;obtain ⟨xl,xm⟩:=hR R[i] (E7J O9);have h11:∀ x∈R,x.length=11:=λx hx=>(hR x hx).1
  have hx':=hx.since k.lo;obtain ⟨ii,oi,ei,_,_,hC⟩:=hx'.sl (by omega);cases ei;have a1:E1 11 (sV ii oi R.length 11) (iV (i:Int))=A4 (pV ii (oi+i*11)):=C9 O9;have a2:D4 h 11 (pV ii (oi+i*11))=A4 (.a (encI R[i])):=by
   rw [hC (i*11) 11 (by rw [T5 h11];omega),B8x h11 O9]
  rw [<-ex] at a2 xl xm;obtain ⟨G,hG⟩:∃ G,G=h++[rT (encI x)]:=⟨_,rfl⟩;have st:E6 (h++[rT [o0,o0,o0,o0,o0,o0,o0,o0,o0,o0,o0]]) 11 (pV h.length 0) (.a (encI x))=A4 G:=by
   rw [storeAll (n:=11) (cs:=[o0,o0,o0,o0,o0,o0,o0,o0,o0,o0,o0]) (by rw [E9];rfl) rfl (by rw [B7,xl]),V6,hG];rfl
  have kG:OutD g p id O G:=by rw [hG];exact k.more _
  have lv3:D4 G 3 (pV pv 0)=A4 (.a (D8 D.length n m)):=by rw [dI (kG.lo.rd hpv) (by simp [vwC]) rfl];rfl
  have hW:=A4t (b:=D.length) (n:=n) (m:=m) (i:=(i:Int)) (h:=G);have lx:D4 G 11 (pV h.length 0)=A4 (.a (encI x)):=C7 (by rw [hG,E9];rfl) (by rw [B7,xl]);rw [E7d O9,<-ex];have es:B8y n O i (x::R.drop (i+1))=B8y n (C1a n O i x) (i+1) (R.drop (i+1)):=rfl;rw [es];obtain ⟨okS,lenS⟩:=D3d (n:=n) (i:=i) (x:=x) hO xl hn;have lV:B8 G (pV p 0)=A4 (sV id 0 O.length 256):=C4 kG.var rfl rfl;cases hc:R6 (D.length:Int) n (i:Int) with
  | false =>
   rw [hc] at hW;have e1:C1a n O i x=O:=by unfold C1a;rw [hlen,hc];simp
   rw [e1] at okS lenS ⊢;obtain ⟨h',M',b1,b2⟩:=ih (i+1) M O G (by omega) (by omega) hO hlen kG;refine ⟨h',M',?_,b2⟩;rw [bS];generalize encI x=X at *;generalize D8 D.length n m=L at *;simp only [esc,Nat.reduceAdd,c0,a1,a2,st,lv3,hW,kT,w1];exact b1
  | true =>
   rw [hc] at hW;obtain ⟨w2,wb,k0,k8⟩:=D9q hc;obtain ⟨wB,hwB⟩:=E7Q (show 0<=W3 D.length n i by omega);obtain ⟨wK,hwK⟩:=E7Q k0;rw [hwB,hwK] at hW;have hwl:wB<O.length:=by omega
   have cW:(wB:Int)<(O.length:Nat):=by omega
   have hk8:wK<8:=by omega
   have ad:E1 256 (sV id 0 O.length 256) (iV (wB:Int))=A4 (pV id (wB*256)):=by rw [C9 hwl];simp
   have lb:D4 G 256 (pV id (wB*256))=A4 (.a (B4 O[wB])):=by
    rw [dI kG.blk (by rw [J0 hO];omega) rfl,cV hO hwl]
   have hT:=B4p (j:=wK) (k:=x.getD 0 0) (l:=x.getD 1 0) (s:=x.getD 2 0) (p:=x.getD 3 0) (d:=x.drop 4) (b:=O[wB]) (h:=G) (hO.at hwl) (by rw [E72,xl]) hk8 xm;rw [<-C02 xl] at hT;have ei:gZ (x.getD 0 0) (x.getD 1 0) (x.getD 2 0) (x.getD 3 0) (x.drop 4)=A7C x:=rfl;rw [ei] at hT;have hbl:(J1 O[wB] (32*wK) (A7C x)).length=256:=by
    rw [P5 (by rw [hO.at hwl,B1G xl];omega),hO.at hwl]
   have sd:E6 G 256 (pV id (wB*256)) (.a (B4 (J1 O[wB] (32*wK) (A7C x))))=A4 (G.set id (rT (D5 (O.set wB (J1 O[wB] (32*wK) (A7C x)))))):=A50 kG.blk hO hbl hwl;have e1:C1a n O i x=O.set wB (J1 O[wB] (32*wK) (A7C x)):=by
    unfold C1a;rw [hlen,hc,if_pos rfl,hwB,hwK,C0R hwl];unfold A0B;rw [if_pos ⟨by omega,cW⟩];simp
   have kS:=kG.set (O':=C1a n O i x) lenS;obtain ⟨h',M',b1,b2⟩:=ih (i+1) M _ _ (by omega) (by omega) okS (by rw [lenS,hlen]) kS;refine ⟨h',M',?_,b2⟩;rw [e1] at b1;rw [bS];generalize encI x=X at *;generalize D8 D.length n m=L at *;simp only [esc,Nat.reduceAdd,c0,a1,a2,st,lv3,hW,lV,cW,ad,lb,lx,hT,sd,kT,w1];exact b1
theorem D9d {l:List Bool} {i:Nat} (hi:i<l.length):U6 i (l.drop i)=if l[i]=A5 then i::U6 (i+1) (l.drop (i+1)) else U6 (i+1) (l.drop (i+1)):=by
 rw [E7d hi];rfl
theorem E4e {T:List Bool} {N:Nat} (hx:Has g (.c xt) 1 T.length (J3 T)) (hT:T.length<=2048) {O:Dev} (hO:okD O) :
  ∀ (e i M:Nat) (S:List Nat) (sid:Nat) (h:B5),i+e=T.length->e<M->S.length<=i->(∀ x∈S,x<2048)->rd h sid=rT (encI (S.map λx:Nat=>(x:Int)))->g.length<=sid->sid≠p->sid≠id->OutD g p id O h ->
  ∃ h',pQ q M (pV p 0) (.c (.f 52 [(p,0)])) (sV sid 0 S.length 1) (.c xt) (iV (T.length:Nat)) (iV (i:Int)) h=A4 (sV id 0 O.length 256,h') /\
   OutD g p id (A0B O 1 (fK (S++U6 i (T.drop i)))) h':=by
 intro e
 induction e with
 | zero =>
  intro i M S sid h hi hM hS hS2 hr hg n1 n2 k;obtain ⟨M,rfl⟩:∃ M',M=M'+1:=⟨M-1,by omega⟩;have ei:i=T.length:=by omega
  subst ei;have c0:¬ ((T.length:Nat):Int)<(T.length:Nat):=by omega
  have hC:=B3K (v:=sV sid 0 S.length 1) (nv:=S.length) (l:=S) (h:=h) hS2 (by omega) (Has.tr hr (by simp [encI]) (aR _));have hml:(fK S).length=256:=by unfold fK;rw [dF,zeros_length]
  obtain ⟨h1,b1,b2,_⟩:=put_eq (no:=1) (b:=fK S) k hO hml;have lV:B8 h1 (pV p 0)=A4 (sV id 0 (A0B O 1 (fK S)).length 256):=C4 b2.var rfl rfl;rw [dJ] at lV;refine ⟨h1,?_,?_⟩
  ·rw [bT];simp only [esc,c0,pW,hC,C0V,b1,lV]
  ·rw [List.drop_length];have:S++U6 T.length []=S:=by simp [U6]
   rw [this];exact b2
 | succ e ih =>
  intro i M S sid h hi hM hS hS2 hr hg n1 n2 k;obtain ⟨M,rfl⟩:∃ M',M=M'+1:=⟨M-1,by omega⟩;have O9:i<T.length:=by omega
  have c0:(i:Int)<(T.length:Nat):=by omega
  have w1:=D3 (show i+1<9223372036854775808 by omega);have hx':=hx.since k.lo;obtain ⟨ii,oi,ei,_,hA,_⟩:=hx'.sl (by omega);cases ei;have a1:E1 1 (sV ii oi T.length 1) (iV (i:Int))=A4 (pV ii (oi+i)):=by rw [C9 O9];simp
  have a2:B8 h (pV ii (oi+i))=A4 (bV T[i]):=hA i _ (by simp [J3,O9]);rw [D9d O9];cases hb:T[i] with
  | false =>
   rw [hb] at a2;obtain ⟨h',b1,b2⟩:=ih (i+1) M S sid h (by omega) (by omega) (by omega) hS2 hr hg n1 n2 k;refine ⟨h',?_,by simpa using b2⟩;rw [bT];simp only [esc,Nat.reduceAdd,c0,a1,a2,kU,w1];exact b1
  | true =>
   rw [hb] at a2;obtain ⟨h1,p1,p2,p3,p4⟩:=C8H (n:=S.length) (sz:=1) (ys:=[Cell.i .i64 (i:Int)]) hr (by simp [encI]) rfl (by omega) (by omega);have hpl:=C8 k.var;have E61:=C8 k.blk;have kk:OutD g p id O h1:=⟨k.lo.trans (p4 g.length hg (by have:=k.lo.2.1;omega)),k.gp,k.gid,k.ne,p3 _ _ (Ne.symm n1) k.var,p3 _ _ (Ne.symm n2) k.blk⟩;have er:encI (S.map λx:Nat=>(x:Int))++[Cell.i .i64 (i:Int)]=encI ((S++[i]).map λx:Nat=>(x:Int)):=by simp [encI]
   rw [er] at p2;have ls:(S++[i]).length=S.length+1:=by simp
   obtain ⟨h',b1,b2⟩:=ih (i+1) M (S++[i]) (h.length+1) h1 (by omega) (by omega) (by rw [ls];omega) (λx hx=>by
    rcases List.mem_append.1 hx with hx | hx
    ·exact hS2 x hx
    ·simp at hx;omega) p2 (by have:=k.lo.2.1;omega) (by omega) (by omega) kk
   rw [ls] at b1;refine ⟨h',?_,by simpa using b2⟩;have ef:E4 [o0] [(0,1,iV (i:Int))]=A4 [.i .i64 (i:Int)]:=rfl;rw [bT];simp only [esc,Nat.reduceAdd,c0,a1,a2,ef,p1,kU,w1];exact b1
structure ImgOk (D:Dev) (n:Int) (c:Cl):Prop where
 row:0<c.row.length
 tak:c.taken.length=D.length
 ino:∀ x∈c.ino,D8P x
 il:c.ino.length<=1000
 bm:c.blocks.length=c.made.length
 bl:c.blocks.length<=1000000
 md:∀ b∈c.made,b.length=256
theorem C7n {h:B5} {cs:List Cell} (hD:okD D) (hv:IsView h f D) (hm:S4 D.length n=A5) (hc:IsCl h cs c) (ok:ImgOk D n c) :
  aU [.a (vwC D.length n m f),.a cs] h=A4 (sV h.length 0 D.length 256,h++[rT (D5 (vI D n c))]):=by
 obtain ⟨b16,b512,n8,n128,_,_⟩:=J9.1 hm;obtain ⟨xr,xi,xt,xb,xm,rfl,hr,hi,ht,hb,hmd⟩:=hc.form;obtain ⟨g,hg⟩:∃ g,g=ro h++[rT (vwC D.length n m f),rT [xr,xi,xt,xb,xm,.i .i64 c.lost],rT []]:=⟨_,rfl⟩;have lg:g.length=(ro h).length+3:=by rw [hg];simp
 have rv:rd g (ro h).length=rT (vwC D.length n m f):=by rw [hg,E9];rfl
 have rc:rd g ((ro h).length+1)=rT [xr,xi,xt,xb,xm,.i .i64 c.lost]:=by rw [hg,L5];rfl
 have hvg:IsView g f D:=by rw [hg];exact hv.ro.more _
 have hr':Has g (.c xr) 1 c.row.length (encI c.row):=by rw [hg];exact hr.ro.more _
 have hi':Has g (.c xi) 11 c.ino.length (U2 c.ino):=by rw [hg];exact hi.ro.more _
 have ht':Has g (.c xt) 1 c.taken.length (J3 c.taken):=by rw [hg];exact ht.ro.more _
 have hb':Has g (.c xb) 1 c.blocks.length (encI c.blocks):=by rw [hg];exact hb.ro.more _
 have hm':Has g (.c xm) 256 c.made.length (D5 c.made):=by rw [hg];exact hmd.ro.more _
 have hI:=D0H (m:=m) hD hvg hm;obtain ⟨H,hH⟩:∃ H,H=g++[rT (D5 D),rT [.sl g.length 0 D.length 256]]:=⟨_,rfl⟩;have k0:OutD g (g.length+1) g.length D H:=by
  refine ⟨by rw [hH];exact (Low.refl (E7b _)).new _,by omega,E7b _,by omega,?_,?_⟩
  ·rw [hH,L5];rfl
  ·rw [hH,E9];rfl
 obtain ⟨h1,M1,e1,k1⟩:=E4b (q:=1000002) (pv:=(ro h).length) rc hb' hm' ok.bm ok.md ok.bl c.blocks.length 0 1000002 D H (by omega) (by have:=ok.bl;omega) hD k0;obtain ⟨ok1,len1⟩:=B1Z (l:=c.blocks) (m:=c.made) hD ok.md;obtain ⟨t0,t2,tn0,tn16⟩:=D9j (b:=D.length) (n:=n);obtain ⟨tN,htN⟩:=E7Q tn0;obtain ⟨h2,M2,e2,k2⟩:=E4c (q:=1000002) (pv:=(ro h).length) (pc:=(ro h).length+1) (sW D.length n) (A1W D.length n) ⟨by omega,by omega⟩ ⟨by omega,by omega⟩ tN (sW D.length n) 1000002 _ h1 (by omega) (by omega) (by omega) ok1 (by simpa using k1);obtain ⟨ok2,len2⟩:=A52 (e:=tN) (no:=sW D.length n) ok1;obtain ⟨h3,M3,e3,k3⟩:=E4d (q:=1000002) (pc:=(ro h).length+1) rv hi' ok.ino n128 (by have:=ok.il;omega) c.ino.length 0 1000002 _ h2 (by omega) (by have:=ok.il;omega) ok2 (by rw [len2,len1]) k2;obtain ⟨ok3,len3⟩:=B1J (n:=n) n128 (l:=c.ino) (i:=0) ok2 (λx hx=>(ok.ino x hx).1);have k3':=(k3.more [rT ([]:List Cell)]);obtain ⟨h4,e4,k4⟩:=E4e (q:=1000002) (N:=0) (p:=g.length+1) (id:=g.length) (g:=g) ht' (by rw [ok.tak];omega) ok3 c.taken.length 0 1000002 [] h3.length (h3++[rT ([]:List Cell)]) (by omega) (by rw [ok.tak];omega) (by simp) (by simp) (by rw [E9];rfl) (by have:=k3.lo.2.1;omega) (by have:=C8 k3.var;omega) (by have:=C8 k3.blk;omega) (by simpa using k3');have eimg:vI D n c=A0B (B8y n (B6i (C3a D c.blocks c.made) (sW D.length n) tN) 0 c.ino) 1 (fK ([]++U6 0 (c.taken.drop 0))):=by
  unfold vI;rw [htN];simp
 have lenF:(vI D n c).length=D.length:=by rw [eimg,dJ,len3,len2,len1]
 have key:gK 1000002 [.a (vwC D.length n m f),.a [xr,xi,xt,xb,xm,.i .i64 c.lost]] (ro h)=A4 (sV g.length 0 D.length 256,h4):=by
  have l0:B8 g (pV ((ro h).length+1) 0)=A4 (.c xr):=C4 rc rfl (by rfl);have l2:B8 g (pV ((ro h).length+1) 2)=A4 (.c xt):=C4 rc rfl (by rfl);have lv0:B8 g (pV (ro h).length 0)=A4 (iV (D.length:Nat)):=C4 rv rfl rfl;have lv4:D4 g 4 (pV (ro h).length 0)=A4 (.a (vwC D.length n m f)):=C7 rv rfl;have s1:I3 (g++[rT (D5 D),rT [Cell.ns]]) (pV (g.length+1) 0) (sV g.length 0 D.length 256)=A4 H:=by
   rw [G9 (cs:=[Cell.ns]) (by rw [L5];rfl) (by simp),pA,hH];rfl
  have l3:B8 H (pV ((ro h).length+1) 3)=A4 (.c xb):=C4 (k0.lo.rd rc) rfl (by rfl);have mf:B5H 52 [pV (g.length+1) 0]=A4 (.c (.f 52 [(g.length+1,0)])):=rfl;have n1:B8 h2 (pV ((ro h).length+1) 1)=A4 (.c xi):=C4 (k2.lo.rd rc) rfl (by rfl);have n2:B8 (h3++[rT ([]:List Cell)]) (pV ((ro h).length+1) 2)=A4 (.c xt):=C4 ((k3.lo.new _).rd rc) rfl (by rfl);have v3:D4 h1 3 (pV (ro h).length 0)=A4 (.a (D8 D.length n m)):=by rw [dI (k1.lo.rd rv) (by simp [vwC]) rfl];rfl
  have hTb:=A4s (b:=D.length) (n:=n) (m:=m) (h:=h1);have c1:¬ ((c.row.length:Nat):Int)=0:=by have:=ok.row;omega
  have c2:((c.taken.length:Nat):Int)=(D.length:Nat):=by rw [ok.tak]
  have lr:=hr'.len;have lt:=ht'.len;have lb:=(hb'.since k0.lo).len;have lx:=(hi'.since k2.lo).len;have lt3:=(ht'.since (k3.lo.new [rT ([]:List Cell)])).len;have cl1:cells? (.a (vwC D.length n m f))=A4 (vwC D.length n m f):=rfl;rw [A11];simp only [E7a,E7g,E7v,E7t,E7c,E7E,E7m,cl1,B00,P9,<-hg];generalize vwC D.length n m f=V at *;have c00:((0:Nat):Int)=0:=rfl;rw [c00] at e1 e3 e4;rw [lenF.symm] at e4;simp only [esc,Nat.reduceAdd,l0,lr,c1,l2,lt,lv0,c2,lv4,hI,s1,mf,l3,lb];refine e1.trans ?_;have cB:¬ ((c.blocks.length:Nat):Int)<(c.blocks.length:Nat):=by omega
  rw [kV];simp only [esc,Nat.reduceAdd,cB,v3,hTb];refine e2.trans ?_;have wT:IntKind.wrap .i64 (sW D.length n+A1W D.length n)=sW D.length n+A1W D.length n:=wrap_i64 (by omega) (by omega);have cT:¬ sW D.length n+A1W D.length n<sW D.length n+A1W D.length n:=by omega
  rw [kW];simp only [esc,Nat.reduceAdd,wT,cT,n1,lx];refine e3.trans ?_;have cI:¬ ((c.ino.length:Nat):Int)<(c.ino.length:Nat):=by omega
  rw [bS];simp only [esc,Nat.reduceAdd,cI,n2,lt3];have eL:([]:List Nat).length=0:=rfl;rw [eL] at e4;rw [e4,lenF,len3,len2,len1]
 have ho:Out h.length h4 (sV g.length 0 D.length 256) 256 D.length (D5 (vI D n c)):=by
  refine ⟨?_,g.length,rfl,by rw [lg,F7];omega,?_⟩
  ·rw [J0,lenF];rw [eimg];refine okD.put ok3 ?_;unfold fK;rw [dF,zeros_length]
  ·rw [eimg];exact k4.blk
 exact A1e key ho gY
end
structure MayC (c:Cl):Prop where
 ino:∀ x∈c.ino,D8P x
 par:∀ i,0<=(c.par i).getD 0/\(c.par i).getD 0<=65535
 bm:c.blocks.length=c.made.length
 md:∀ b∈c.made,b.length=256
theorem B5S {D:Dev} {n:Int} {c:Cl} {no:Int} (hm:S4 D.length n=A5):N5 (U1 D n c no)=A5:=by
 rw [B2c];obtain ⟨_,b512,_⟩:=J9.1 hm;unfold U1 B5R;cases hd:jF D.length n no with
 | false=>simp
 | true =>
  have:=C77 hd;cases c.taken.getD no.toNat A5 with
  | true=>simp
  | false=>simp;omega
theorem D7h {l:List Int} {i:Nat} {x:Int} (h:l.all N5=A5) (hx:N5 x=A5):(l.set i x).all N5=A5:=by
 rw [E70] at h ⊢;intro y hy;rcases E7O hy with h1 | h1
 ·exact h y h1
 ·rw [h1];exact hx
theorem C7y {D:Dev} {n:Int} {d:List Int} (hm:S4 D.length n=A5):∀ {e k:Nat} {s:Cl × List Int},s.2.all N5=A5->(A7q D n d e k s).2.all N5=A5
 | 0,_,s,h=>h
 | e+1,k,s,h=>by
  rw [A7q];exact C7y hm (D7h h (B5S hm))
theorem D4W {D:Dev} {n ino:Int} {c:Cl} (hm:S4 D.length n=A5):(eG D n c ino).2.all N5=A5:=by
 have h1:=C7y (d:=drV D n ino) (e:=(min (A4d (szV D n ino)) 6).toNat) (k:=0) (s:=(c,zI 7)) hm (by show (zI 7).all N5=A5;decide);unfold eG B8m;split
 ·exact D7h h1 (B5S hm)
 ·exact h1
theorem D9i {D:Dev} {n i:Int}:0<=szV D n i/\szV D n i<=34304:=by
 unfold szV;cases hc:C4t D n i with
 | false=>simp
 | true =>
  simp only [cond_true];unfold C4t gU A1P at hc;simp only [E69] at hc;obtain ⟨_,h1,_⟩:=hc;split at h1
  ·unfold D2k at h1;have:=of_decide_eq_true h1;omega
  ·unfold A3d at h1;simp only [E69,decide_eq_true_eq] at h1;exact h1.2.2.2.1
theorem D8Q {s:Int} {d:List Int} {l:Int} (hs:0<=s/\s<=34304) (hd:d.length=7) (ha:d.all N5=A5) (hl:N5 l=A5):D8P (1::l::s::0::d):=by
 refine ⟨by simp [hd],?_⟩;show A1P 1 l s 0 d=A5;unfold A1P A3d;have h0:N5 0=A5:=by decide
 simp [hl,ha,h0,hs]
theorem E0P {p no:Int} (hp:N5 p=A5) (hn:N5 no=A5):D8P (2::1::0::p::no::zI 6):=by
 refine ⟨by simp [zI],?_⟩;show A1P 2 1 0 p (no::zI 6)=A5;unfold A1P A3d;have h0:N5 0=A5:=by decide
 have h1:N5 1=A5:=by decide
 have hz:(zI 6).all N5=A5:=by decide
 simp [E7P,hn,hz,hp,h1]
theorem D8R:D8P (zI 11):=⟨by simp [zI],by decide⟩
theorem C8i {α:Type} {l:List α} {i:Nat} {x y:α} (h:y∈l.set i x):y∈l\/y=x:=E7O h
section
variable {D:Dev} {n:Int} {c:Cl} {ino:Int}
theorem D8u (hm:S4 D.length n=A5) (h:MayC c):MayC (Z3 D n c ino):=by
 have hs:=(A1H (D:=D) (n:=n) (ino:=ino) (c:=c));refine ⟨λx hx=>?_,λi=>?_,?_,λb hb=>?_⟩
 ·rcases C8i hx with h1 | h1
  ·rw [hs.1.ino] at h1;exact h.ino x h1
  ·rw [h1];exact D8Q D9i hs.2 (D4W hm) (by decide)
 ·have:(Z3 D n c ino).par=c.par:=hs.1.par;rw [this];exact h.par i
 ·have e1:(Z3 D n c ino).blocks=c.blocks:=hs.1.blocks;have e2:(Z3 D n c ino).made=c.made:=hs.1.made;rw [e1,e2];exact h.bm
 ·have e2:(Z3 D n c ino).made=c.made:=hs.1.made;rw [e2] at hb;exact h.md b hb
theorem MayC.same {c':Cl} (h:MayC c) (s:SameC c c'):MayC c':=⟨by rw [s.ino];exact h.ino,by rw [s.par];exact h.par,by rw [s.blocks,s.made];exact h.bm,by rw [s.made];exact h.md⟩
theorem MayC.md' (h:MayC c) {no:Int} {b:List UInt8} (hb:b.length=256):MayC (S5 c no b):=by
 refine ⟨h.ino,h.par,?_,λx hx=>?_⟩
 ·show (c.blocks++[no]).length=(c.made++[b]).length;simp [h.bm]
 ·rcases List.mem_append.1 (show x∈c.made++[b] from hx) with h1 | h1
  ·exact h.md x h1
  ·simp at h1;rw [h1];exact hb
theorem D8t (hD:okD D) (hm:S4 D.length n=A5) (h:MayC c):MayC (iJ D n c ino):=by
 have h1:=D8u (ino:=ino) hm h;unfold iJ;split
 ·exact h1
 ·exact MayC.md' (h1.same (vE (D:=D) (n:=n) (many:=A4d (szV D n ino)) (e:=128) (k:=0) (s:=(Z3 D n c ino,blk D ((eG D n c ino).2.getD 6 0))))) (B2v (by omega) (O5 hD))
theorem E0a (hm:S4 D.length n=A5) (h:MayC c):MayC (Y1 D n c ino):=by
 have hs:=A0P (D:=D) (n:=n) (ino:=ino) (c:=c);have hn:N5 (gX D n c ino).2=A5:=by
  unfold gX;cases (decide (kdV D n ino=2)&&U8 (blk D ((drV D n ino).getD 0 0))) with
  | true=>exact B5S hm
  | false=>show N5 0=A5;decide
 refine ⟨λx hx=>?_,λi=>?_,?_,λb hb=>?_⟩
 ·rcases C8i hx with h1 | h1
  ·rw [hs.ino] at h1;exact h.ino x h1
  ·rw [h1];exact E0P (B2c.2 (h.par ino)) hn
 ·have:(Y1 D n c ino).par=c.par:=hs.par;rw [this];exact h.par i
 ·have e1:(Y1 D n c ino).blocks=c.blocks:=hs.blocks;have e2:(Y1 D n c ino).made=c.made:=hs.made;rw [e1,e2];exact h.bm
 ·have e2:(Y1 D n c ino).made=c.made:=hs.made;rw [e2] at hb;exact h.md b hb
theorem D2h (hi:0<=ino/\ino<=65535):∀ {L:List Ent} {s:Cl × (List UInt8->Option Int)},MayC s.1->MayC (aT D n ino s L).1
 | [],_,h=>h
 | x::L,s,h=>by
  have h1:MayC (Z5 D n ino s x).1:=by
   unfold Z5 dL;cases iP D n s.1 x.2 with
   | false=>exact h
   | true =>
    simp only [cond_true];cases (s.1.par x.2).isSome with
    | true=>exact ⟨h.ino,h.par,h.bm,h.md⟩
    | false =>
     refine ⟨h.ino,λi=>?_,h.bm,h.md⟩;show 0<=(vO s.1.par x.2 ino i).getD 0/\(vO s.1.par x.2 ino i).getD 0<=65535;unfold vO;split
     ·exact hi
     ·exact h.par i
  exact D2h hi (L:=L) (s:=Z5 D n ino s x) h1
theorem C2I {X:List Int} {K:List UInt8->Option Int}:∀ {L:List Int} {c:Cl},MayC c->MayC (N6 D X K c L)
 | [],_,h=>h
 | no::L,c,h=>by
  have hs:=pS (D:=D) (X:=X) (no:=no) (K:=K) (l:=N9 (blk D no)) (s:=(c,bN []));have hl:=B5Q (D:=D) (X:=X) (no:=no) (K:=K) (l:=N9 (blk D no)) (s:=(c,bN [])) (pY (l:=[])) λx hx=>(C8Y x hx).1
  have h1:MayC (U5 D X no K (c,bN []) (N9 (blk D no))).1:=⟨by rw [hs.ino];exact h.ino,by rw [hs.par];exact h.par,by rw [hs.blocks,hs.made];exact h.bm,by rw [hs.made];exact h.md⟩;exact C2I (L:=L) (c:=vM D X K c no) (h1.md' hl)
theorem D99 (hi:0<=ino/\ino<=65535) (hm:S4 D.length n=A5) (h:MayC c):MayC (qF D n c ino):=by
 have h1:=E0a (ino:=ino) hm h;unfold qF;split
 ·exact h1
 ·unfold xN;have hb:=h1.same (gO (D:=D) (n:=n) (L:=L8 (fT (getD (blk D ((drV D n ino).getD 0 0))) (N7 (blk D ((drV D n ino).getD 0 0)) 32)) (D1 (W6 (getD (blk D ((drV D n ino).getD 0 0))) (N7 (blk D ((drV D n ino).getD 0 0)) 32)))) (s:=(Y1 D n c ino,fT (getD (blk D ((drV D n ino).getD 0 0))) (N7 (blk D ((drV D n ino).getD 0 0)) 32))));refine C2I (MayC.md' (D2h (s:=(_,_)) hi hb) ?_);have hl:=B2r (D:=D) (n:=n) (L:=L8 (fT (getD (blk D ((drV D n ino).getD 0 0))) (N7 (blk D ((drV D n ino).getD 0 0)) 32)) (D1 (W6 (getD (blk D ((drV D n ino).getD 0 0))) (N7 (blk D ((drV D n ino).getD 0 0)) 32)))) (s:=(Y1 D n c ino,fT (getD (blk D ((drV D n ino).getD 0 0))) (N7 (blk D ((drV D n ino).getD 0 0)) 32)));cases okX (W6 (getD (blk D ((drV D n ino).getD 0 0))) (N7 (blk D ((drV D n ino).getD 0 0)) 32)) (U7 D n (Y1 D n c ino) (getD (blk D ((drV D n ino).getD 0 0))) (N7 (blk D ((drV D n ino).getD 0 0)) 32)).2 with
  | true=>exact lJ (hl.trans xX)
  | false=>exact zeros_length
theorem E0Y (hi:0<=ino/\ino<=65535) (hD:okD D) (hm:S4 D.length n=A5) (h:MayC c):MayC (iN D n c ino):=by
 unfold iN;split
 ·exact D8t hD hm h
 ·exact D99 hi hm h
theorem D7L (hD:okD D) (hm:S4 D.length n=A5):∀ {e i:Nat} {c:Cl},RowW n c->MayC c->MayC (ofR D n e i c)
 | 0,_,_,_,h=>h
 | e+1,i,c,hr,h=>by
  obtain ⟨_,_,_,n128,_⟩:=J9.1 hm;unfold ofR;cases hc:c.row[i]? with
  | none=>exact h
  | some a =>
   have ha:=hr.rg a (E7y hc);exact D7L hD hm (C8w hr) (E0Y ⟨by omega,by omega⟩ hD hm h)
end
theorem D9F (D:Dev):IsView [rT (D5 D),rT [.sl 0 0 D.length 256]] (.f 41 [(1,0)]) D :=
 ⟨1,0,A5,A5,rfl,rfl,rfl⟩
section
variable {D:Dev} {n:Int}
theorem mY (hD:okD D) (hm:S4 D.length n=A5):RowW n (aX D n)/\Small (aX D n) 128 (224*129) (33*129) (224*129)/\(∀ x∈(L6 D n).ino,x.length=11)/\(L6 D n).ino.length=(n+1).toNat/\(L6 D n).taken.length=D.length:=by
 obtain ⟨_,_,_,P,_,_,_,_,_,h1,h2⟩:=D1r (n:=n) (m:=0) hD (D9F D) hm;exact ⟨h1,h2,P.il,P.ilen,P.tlen⟩
theorem claimI_may:MayC (I6 D n):=by
 refine ⟨λx hx=>?_,λi=>?_,rfl,λb hb=>by cases hb⟩
 ·rw [List.eq_of_mem_replicate hx];exact D8R
 ·have e:((I6 D n).par i).getD 0=if i=1 then 1 else 0:=by
   show ((vO (λ_=>A7) 1 1) i).getD 0=_;unfold vO;split<;>rfl
  rw [e];split<;>omega
theorem D6g (hD:okD D) (hm:S4 D.length n=A5):MayC (aX D n):=by
 obtain ⟨_,_,_,n128,_⟩:=J9.1 hm;unfold aX;have hs:=ownR_same (c:=I6 D n) (k:=(kY D.length n).toNat);refine D7L hD hm ?_ (claimI_may.same hs);refine RowW.same (c:=I6 D n) ⟨by simp [I6],λi=>?_,λi hi=>?_⟩ hs.row hs.par
 ·by_cases c1:i=1
  ·subst c1;simp [I6,vO]
  ·simp [I6,vO,c1]
 ·obtain ⟨_,_,n8,_⟩:=J9.1 hm;simp [I6] at hi;omega
theorem D8J {c:Cl} {a:Int} (hl:∀ i,N5 ((c.lnk i).getD 0)=A5) (h:MayC c):MayC (aQ c a):=by
 unfold aQ;split
 ·rename_i h1;refine ⟨λx hx=>?_,h.par,h.bm,h.md⟩;rcases C8i hx with h2 | h2
  ·exact h.ino x h2
  ·have hin:c.ino.getD a.toNat []∈c.ino:=by
    by_cases hl:a.toNat<c.ino.length
    ·rw [E7e,E66 hl];exact E7J hl
    ·rw [E7e (l:=c.ino),E7L (by omega)] at h1;simp at h1
   obtain ⟨h3,h4⟩:=h.ino _ hin;generalize c.ino.getD a.toNat []=y at *;rw [h2]
   match y,h3 with
   | [y0,y1,y2,y3,y4,y5,y6,y7,y8,y9,y10],_ =>
    have e:y0=1:=h1;subst e;have h5:A3d 1 y1 y2 y3 [y4,y5,y6,y7,y8,y9,y10]=A5:=h4;refine ⟨rfl,?_⟩;show A3d 1 ((c.lnk a).getD 0) y2 y3 [y4,y5,y6,y7,y8,y9,y10]=A5;unfold A3d at h5 ⊢;simp only [E69] at h5 ⊢;exact ⟨h5.1,hl a,h5.2.2⟩
 ·exact h
theorem A7H {c:Cl} {a:Int}:(aQ c a).row=c.row/\(aQ c a).taken=c.taken/\(aQ c a).blocks=c.blocks/\(aQ c a).made=c.made/\(aQ c a).lost=c.lost/\(aQ c a).lnk=c.lnk/\(aQ c a).par=c.par:=by
 unfold aQ;split<;>exact ⟨rfl,rfl,rfl,rfl,rfl,rfl,rfl⟩
theorem lU:∀ {L:List Int} {c:Cl},(T0 c L).row=c.row/\(T0 c L).taken=c.taken/\(T0 c L).blocks=c.blocks/\(T0 c L).made=c.made/\(T0 c L).lost=c.lost/\(T0 c L).lnk=c.lnk/\(T0 c L).par=c.par
 | [],c=>⟨rfl,rfl,rfl,rfl,rfl,rfl,rfl⟩
 | a::L,c=>by
  obtain ⟨a1,a2,a3,a4,a5,a6,a7⟩:=lU (L:=L) (c:=aQ c a);obtain ⟨b1,b2,b3,b4,b5,b6,b7⟩:=A7H (c:=c) (a:=a);exact ⟨a1.trans b1,a2.trans b2,a3.trans b3,a4.trans b4,a5.trans b5,a6.trans b6,a7.trans b7⟩
theorem C8e:∀ {L:List Int} {c:Cl},(∀ i,N5 ((c.lnk i).getD 0)=A5)->MayC c->MayC (T0 c L)
 | [],_,_,h=>h
 | a::L,c,hl,h=>C8e (L:=L) (c:=aQ c a) (by rw [(A7H (c:=c) (a:=a)).2.2.2.2.2.1];exact hl) (D8J hl h)
theorem D6f (hD:okD D) (hm:S4 D.length n=A5):MayC (L6 D n):=by
 obtain ⟨h1,h2,_⟩:=mY hD hm;refine C8e (λi=>?_) (D6g hD hm);rw [B2c];have:=h2.lnk i;omega
theorem E0Z {c:Cl} {k:Nat}:(qI c k).row=c.row:=ownR_same.row
theorem A5g (hD:okD D) (hm:S4 D.length n=A5):ImgOk D n (L6 D n):=by
 obtain ⟨h1,h2,h3,h4,h5⟩:=mY hD hm;obtain ⟨_,_,_,n128,_⟩:=J9.1 hm;have hc:=D6f hD hm;obtain ⟨s1,s2,s3,s4,s5,s6,s7⟩:=lU (L:=(aX D n).row) (c:=aX D n);have hr:1<=(aX D n).row.length:=by
  have:(qI (I6 D n) (kY D.length n).toNat).row.length<=(aX D n).row.length:=D3u;rw [E0Z] at this;simpa [I6] using this
 refine ⟨?_,h5,hc.ino,by rw [h4];omega,hc.bm,?_,hc.md⟩
 ·show 0<(T0 _ _).row.length;rw [s1];omega
 ·show (T0 _ _).blocks.length<=_;rw [s3];have:=h2.blocks;omega
theorem C97 {m:Int} {f:Cell} {h:B5} {cs:List Cell} (hD:okD D) (hv:IsView h f D) (hm:S4 D.length n=A5) (hc:IsCl h cs (L6 D n)) :
  aU [.a (vwC D.length n m f),.a cs] h=A4 (sV h.length 0 D.length 256,h++[rT (D5 (vI D n (L6 D n)))]) :=
 C7n hD hv hm hc (A5g hD hm)
end
def B1Y:List Int->List (List UInt8)->Int->List UInt8->List UInt8
 | no::l,b::m,x,a=>B1Y l m x (if no=x then b else a)
 | _,_,_,a=>a
def D0F (ino:List (List Int)) (b:Nat):Nat->Nat->List UInt8->List UInt8
 | 0,_,a=>a
 | e+1,k,a=>D0F ino b e (k+1) (J1 a (32*k) (A7C (ino.getD (b+k) [])))
def B84 (D:Dev) (n:Int) (c:Cl) (i:Nat):List UInt8 :=
 if tK D.length n i=3 then D0F c.ino (8*(i-2)+1) 8 0 (zeros 256) else B1Y c.blocks c.made i (D.getD i [])
theorem B8W {O:Dev} {no:Int} {b:List UInt8} {i:Nat} (hi:i<O.length):(A0B O no b)[i]?=if no=i then A4 b else O[i]? := by
 unfold A0B;by_cases h:0<=no/\no<O.length
 ·rw [if_pos h,List.getElem?_set];by_cases e:no=i
  ·rw [if_pos (by omega),if_pos (by omega),if_pos e]
  ·rw [if_neg (by omega),if_neg e]
 ·rw [if_neg h,if_neg (by omega)]
theorem D1Z {i:Nat}:∀ {l:List Int} {m:List (List UInt8)} {O:Dev},i<O.length->(C3a O l m)[i]?=(O[i]?).map (B1Y l m i)
 | [],_,O,hi=>by rw [C1h,E66 hi];rfl
 | _::_,[],O,hi=>by rw [E66 hi];exact E66 hi
 | no::l,b::m,O,hi=>by
  have ih:=D1Z (i:=i) (l:=l) (m:=m) (O:=A0B O no b) (by rw [dJ];exact hi);rw [B8W hi] at ih;refine ih.trans ?_;rw [E66 hi];split<;>rename_i e
  ·show A4 _=A4 (B1Y l m i (if no=i then b else O[i]));rw [if_pos e]
  ·show A4 _=A4 (B1Y l m i (if no=i then b else O[i]));rw [if_neg e]
theorem C9f {i:Nat}:∀ {e:Nat} {no:Int} {O:Dev},i<O.length->(B6i O no e)[i]?=if no<=i/\i<no+e then A4 (zeros 256) else O[i]?
 | 0,no,O,hi=>by rw [if_neg (by omega)];rfl
 | e+1,no,O,hi=>by
  have ih:=C9f (i:=i) (e:=e) (no:=no+1) (O:=A0B O no (zeros 256)) (by rw [dJ];exact hi);rw [B8W hi] at ih;refine ih.trans ?_;by_cases h1:no=i
  ·rw [if_neg (by omega),if_pos h1,if_pos (by omega)]
  ·rw [if_neg h1];by_cases h2:no+1<=i/\i<no+1+e
   ·rw [if_pos h2,if_pos (by omega)]
   ·rw [if_neg h2,if_neg (by omega)]
def stI (b n:Int) (j:Nat) (i:Nat) (x:List Int) (a:List UInt8):List UInt8 :=
 if R6 b n i=A5/\W3 b n i=j then J1 a (32*(cO b n i).toNat) (A7C x) else a
def foldI (b n:Int) (j:Nat):Nat->List (List Int)->List UInt8->List UInt8
 | _,[],a=>a
 | i,x::l,a=>foldI b n j (i+1) l (stI b n j i x a)
theorem D1K {n:Int} {j:Nat} (hn:n<=128):∀ {l:List (List Int)} {i:Nat} {O:Dev},okD O->(∀ x∈l,x.length=11)->j<O.length->(B8y n O i l)[j]?=(O[j]?).map (foldI O.length n j i l)
 | [],_,O,h,_,hj=>by rw [E66 hj];exact E66 hj
 | x::l,i,O,h,hx,hj=>by
  obtain ⟨h1,h2⟩:=D3d (n:=n) (i:=i) h (hx x (E7u ..)) hn;have ih:=D1K (n:=n) (j:=j) hn (l:=l) (i:=i+1) (O:=C1a n O i x) h1 (λy hy=>hx y (E7s _ hy)) (by rw [h2];exact hj);rw [h2] at ih;refine ih.trans ?_;have e:(C1a n O i x)[j]?=A4 (stI O.length n j i x O[j]):=by
   unfold C1a stI;cases hc:R6 O.length n i with
   | false=>rw [if_neg (by decide),if_neg (λe=>by cases e.1)];exact E66 hj
   | true =>
    rw [if_pos rfl,B8W hj];by_cases e:W3 O.length n i=j
    ·rw [if_pos e,if_pos ⟨rfl,e⟩,e,C0R hj]
    ·rw [if_neg e,if_neg (λq=>e q.2)];exact E66 hj
  rw [e,E66 hj];rfl
section
variable {b n:Int} {j:Nat}
theorem A7x:∀ {l m:List (List Int)} {i:Nat} {a:List UInt8},foldI b n j i (l++m) a=foldI b n j (i+l.length) m (foldI b n j i l a)
 | [],m,i,a=>rfl
 | x::l,m,i,a=>by
  show foldI b n j (i+1) (l++m) _=foldI b n j (i+(l.length+1)) m (foldI b n j (i+1) l _);rw [A7x,show i+1+l.length=i+(l.length+1) by omega]
theorem A7y:∀ {l:List (List Int)} {i:Nat} {a:List UInt8},(∀ k:Nat,i<=k->k<i+l.length->¬ (R6 b n k=A5/\W3 b n k=j))->foldI b n j i l a=a
 | [],i,a,_=>rfl
 | x::l,i,a,h=>by
  have e:stI b n j i x a=a:=by unfold stI;rw [if_neg (h i (E7b _) (by simp))]
  show foldI b n j (i+1) l (stI b n j i x a)=a;rw [e];exact A7y λk h1 h2=>h k (by omega) (by simp at h2 ⊢;omega)
theorem D1D (hm:S4 b n=A5) (hj:2<=j) (hn:8*(j-2)+8<=n.toNat) {ino:List (List Int)} :
  ∀ {e k:Nat} {a:List UInt8},k+e=8->8*(j-2)+9<=ino.length->foldI b n j (8*(j-2)+1+k) ((ino.drop (8*(j-2)+1+k)).take e) a=D0F ino (8*(j-2)+1) e k a
 | 0,k,a,_,_=>by rw [E76];rfl
 | e+1,k,a,hk,hl=>by
  have V5:8*(j-2)+1+k<ino.length:=by omega
  rw [E7d V5,List.take_succ_cons];obtain ⟨_,_,n8,_⟩:=J9.1 hm;have hi:R6 b n ((8*(j-2)+1+k:Nat):Int)=A5:=lQ.2 ⟨hm,by omega,by omega⟩;have hw:W3 b n ((8*(j-2)+1+k:Nat):Int)=j:=by unfold W3;rw [hi];simp only [cond_true];omega
  have hk2:(cO b n ((8*(j-2)+1+k:Nat):Int)).toNat=k:=by unfold cO;rw [hi];simp only [cond_true];omega
  have es:stI b n j (8*(j-2)+1+k) ino[8*(j-2)+1+k] a=J1 a (32*k) (A7C (ino.getD (8*(j-2)+1+k) [])):=by
   unfold stI;rw [if_pos ⟨hi,hw⟩,hk2,E7e,E66 V5];rfl
  show foldI b n j (8*(j-2)+1+k+1) _ (stI b n j _ _ a)=D0F ino (8*(j-2)+1) e (k+1) _;rw [es];exact D1D hm hj hn (k:=k+1) (by omega) hl
end
theorem E4K {l:List (List Int)} {q:Nat}:l=l.take q++((l.drop q).take 8++l.drop (q+8)):=by
 have e:l.drop (q+8)=(l.drop q).drop 8:=by rw [E7X]
 rw [e,List.take_append_drop,List.take_append_drop]
theorem E0z {D:Dev} {n:Int} {c:Cl} {i:Nat} (hD:okD D) (hm:S4 D.length n=A5) (ok:ImgOk D n c) (O9:c.ino.length=(n+1).toNat) (hi:i<D.length) :
  (vI D n c)[i]?=A4 (if i=1 then fK (U6 0 c.taken) else B84 D n c i):=by
 obtain ⟨b16,b512,n8,n128,nm8,nb⟩:=J9.1 hm;have hx:∀ x∈c.ino,x.length=11:=λx hx=>(ok.ino x hx).1
 obtain ⟨ok1,l1⟩:=B1Z (l:=c.blocks) (m:=c.made) hD ok.md;obtain ⟨ok2,l2⟩:=A52 (e:=(A1W D.length n).toNat) (no:=sW D.length n) ok1;obtain ⟨ok3,l3⟩:=B1J (n:=n) n128 (l:=c.ino) (i:=0) ok2 hx;have eF:sW D.length n=2:=by unfold sW;rw [hm];rfl
 have eN:A1W D.length n=n/8:=by unfold A1W;rw [hm];rfl
 unfold vI;rw [B8W (by rw [l3,l2,l1];exact hi)];by_cases h1:i=1
 ·rw [if_pos (by omega),if_pos h1]
 ·rw [if_neg (by omega),if_neg h1,D1K n128 ok2 hx (by rw [l2,l1];exact hi),l2,l1,C9f (by rw [l1];exact hi),D1Z hi,E66 hi,eF,eN];unfold B84;have eD:D.getD i []=D[i]:=by rw [E7e,E66 hi];rfl
  by_cases ha:tK D.length n i=3
  ·have h3:2<=i/\((i:Int)-2)*8<n:=by
    unfold tK at ha;split at ha
    ·split at ha
     ·omega
     ·split at ha<;>omega
    ·omega
   rw [if_pos ha,if_pos (by omega)];have hs:c.ino=c.ino.take (8*(i-2)+1)++((c.ino.drop (8*(i-2)+1)).take 8++c.ino.drop (8*(i-2)+1+8)):=E4K;show A4 (foldI D.length n i 0 c.ino (zeros 256))=_;rw [hs,A7x,A7x];have t1:(c.ino.take (8*(i-2)+1)).length=8*(i-2)+1:=by rw [E7A];omega
   have t2:((c.ino.drop (8*(i-2)+1)).take 8).length=8:=by rw [E7A,E72];omega
   rw [A7y (l:=c.ino.take (8*(i-2)+1)),t1,E7t,t2]
   ·have:=D1D (b:=D.length) (n:=n) (j:=i) hm h3.1 (by omega) (ino:=c.ino) (e:=8) (k:=0) (a:=zeros 256) rfl (by omega);rw [Nat.add_zero] at this;rw [this,A7y,<-hs];intro k k1 k2 q;have q2:=q.2;unfold W3 at q2;rw [q.1] at q2;simp only [cond_true] at q2;omega
   ·intro k k1 k2 q;have q2:=q.2;unfold W3 at q2;rw [q.1] at q2;simp only [cond_true] at q2;rw [t1] at k2;have:=(lQ.1 q.1).2.1;omega
  ·rw [if_neg ha,if_neg (λq=>ha ?_)]
   ·show A4 (foldI D.length n i 0 c.ino _)=_;rw [A7y,eD];intro k k1 k2 q;refine ha ?_;have q2:=q.2;unfold W3 at q2;rw [q.1] at q2;simp only [cond_true] at q2;obtain ⟨_,q3,q4⟩:=lQ.1 q.1;unfold tK;rw [if_pos ⟨hm,by omega,by omega⟩,if_neg (by omega),if_pos (by omega)]
   ·unfold tK;rw [if_pos ⟨hm,by omega,by omega⟩,if_neg (by omega),if_pos (by omega)]
def A7g (b:List UInt8) (i:Nat):List UInt8:=b.set (i/8) (b.getD (i/8) 0+UInt8.ofNat (2 ^ (i%8)))
theorem C2r {b:List UInt8} {i:Nat}:(A7g b i).length=b.length:=by simp [A7g]
theorem C2s {l:List Nat}:∀ {b:List UInt8},(l.foldl A7g b).length=b.length:=by
 induction l with
 | nil=>intro b;rfl
 | cons x l ih=>intro b;rw [List.foldl_cons,ih,C2r]
theorem C8W:∀ {l:List Bool} {i k:Nat},U6 i (l++E68 k A6)=U6 i l
 | [],i,0=>rfl
 | [],i,k+1=>by
  have ih:=C8W (l:=[]) (i:=i+1) (k:=k);rw [E7m] at ih ⊢;rw [E7z];show (if A6=A5 then _ else U6 (i+1) (E68 k A6))=_;rw [if_neg (by decide),ih];rfl
 | b::l,i,k=>by
  have ih:=C8W (l:=l) (i:=i+1) (k:=k);show (if b=A5 then i::U6 (i+1) (l++E68 k A6) else U6 (i+1) (l++E68 k A6))=(if b=A5 then i::U6 (i+1) l else U6 (i+1) l);rw [ih]
theorem D2e {b:Bool}:∀ {l:List Bool} {i:Nat},U6 i (l++[b])=U6 i l++(if b=A5 then [i+l.length] else [])
 | [],i=>by cases b<;>rfl
 | x::l,i=>by
  have ih:=D2e (b:=b) (l:=l) (i:=i+1);show (if x=A5 then i::U6 (i+1) (l++[b]) else U6 (i+1) (l++[b]))=(if x=A5 then i::U6 (i+1) l else U6 (i+1) l)++_;rw [ih,E7g,show i+1+l.length=i+(l.length+1) by omega];cases x<;>rfl
theorem C68:∀ {l:List Bool} {A:List Bool} {i m:Nat},A.length=i->l.length<=m->(U6 i l).foldl (λb x=>b.set x A5) (A++E68 m A6)=A++l++E68 (m-l.length) A6
 | [],A,i,m,_,_=>by simp [U6]
 | b::l,A,i,m,hA,hm=>by
  obtain ⟨m,rfl⟩:∃ m',m=m'+1:=⟨m-1,by simp at hm;omega⟩;have hm':l.length<=m:=by simp at hm;omega
  have e0:A++E68 (m+1) A6=(A++[A6])++E68 m A6:=by rw [E7z,E7c];rfl
  have e1:(A++E68 (m+1) A6).set i A5=(A++[A5])++E68 m A6:=by
   rw [E7z,<-hA,E7I _ _ (E7b _),E7R,E7c];rfl
  have em:m+1-(b::l).length=m-l.length:=by simp
  rw [em];cases b with
  | true =>
   have ih:=C68 (l:=l) (A:=A++[A5]) (i:=i+1) (m:=m) (by simp [hA]) hm';show (U6 (i+1) l).foldl _ ((A++E68 (m+1) A6).set i A5)=_;rw [e1,ih];simp
  | false =>
   have ih:=C68 (l:=l) (A:=A++[A6]) (i:=i+1) (m:=m) (by simp [hA]) hm';show (U6 (i+1) l).foldl _ (A++E68 (m+1) A6)=_;rw [e0,ih];simp
def InvB (i:Nat) (b:List UInt8):Prop:=∀ q,(b.getD q 0).toNat<2 ^ (i-8*q)
theorem InvB.more {i:Nat} {b:List UInt8} (h:InvB i b):InvB (i+1) b:=λq=>Nat.lt_of_lt_of_le (h q) (Nat.pow_le_pow_right (by omega) (by omega))
theorem E1M {i:Nat} {b:List UInt8} (h:InvB i b):A7g b i=sU b i:=by
 unfold A7g sU
 congr 1
 have h1:=h (i/8);rw [show i-8*(i/8)=i%8 by omega] at h1;have e:=Nat.two_pow_add_eq_or_of_lt h1 1;rw [Nat.mul_one] at e;have hl:=A5K i;unfold tR at hl ⊢;refine UInt8.toNat_inj.1 ?_;rw [UInt8.toNat_add,UInt8.toNat_ofNat',UInt8.toNat_ofNat',Nat.or_comm,<-e,Nat.add_mod_mod,Nat.add_comm]
theorem InvB.set {i:Nat} {b:List UInt8} (h:InvB i b):InvB (i+1) (sU b i):=by
 intro q;unfold sU;rw [E7e,List.getElem?_set];by_cases e:i/8=q
 ·rw [if_pos e];by_cases hl:i/8<b.length
  ·rw [if_pos hl,E7N,UInt8.toNat_ofNat'];have h1:=h (i/8);rw [show i-8*(i/8)=i%8 by omega] at h1;have e2:=Nat.two_pow_add_eq_or_of_lt h1 1;rw [Nat.mul_one] at e2;have hm:tR i=2 ^ (i%8):=rfl;have hlm:=A5K i;rw [hm,Nat.or_comm,<-e2];have e3:2 ^ (i+1-8*q)=2 ^ (i%8)*2:=by rw [<-Nat.pow_succ];congr 1;omega
   rw [e3];exact Nat.lt_of_le_of_lt (Nat.mod_le _ _) (by omega)
  ·rw [if_neg hl];exact Nat.pow_pos (by omega)
 ·rw [if_neg e,<-E7e];exact h.more q
theorem D2O:∀ {l:List Bool} {i:Nat} {b:List UInt8},InvB i b->(U6 i l).foldl A7g b=(U6 i l).foldl sU b
 | [],i,b,_=>rfl
 | true::l,i,b,h=>by
  show (U6 (i+1) l).foldl A7g (A7g b i)=(U6 (i+1) l).foldl sU (sU b i);rw [E1M h];exact D2O h.set
 | false::l,i,b,h=>D2O (l:=l) (i:=i+1) h.more
def A8k (S:List Nat):List Bool:=S.foldl (λb x=>b.set x A5) (E68 2048 A6)
theorem A7i {S:List Nat}:(A8k S).length=2048:=by
 have:∀ (S:List Nat) (b:List Bool),(S.foldl (λb x=>b.set x A5) b).length=b.length:=by
  intro S
  induction S with
  | nil=>intro b;rfl
  | cons x S ih=>intro b;rw [List.foldl_cons,ih,E7D]
 unfold A8k;rw [this,E7B]
theorem E0M {l:List Bool} (hl:l.length<=2048):(U6 0 (A8k (U6 0 l))).foldl A7g (zeros 256)=fK (U6 0 l):=by
 have e:=C68 (l:=l) (A:=[]) (i:=0) (m:=2048) rfl hl;rw [E7m,E7m] at e;unfold A8k fK;rw [e,C8W];refine D2O λq=>?_
 have:((zeros 256).getD q 0)=0:=by
  rw [E7e];unfold zeros;rw [List.getElem?_replicate];split<;>rfl
 rw [this];exact Nat.pow_pos (by omega)
section
variable {g:B5} {x0:Val} {l:List Bool} {q:Nat}
theorem D5v {i k:Nat} (h:k<=i%8):2 ^ k<256:=by
 have h8:i%8<8:=Nat.mod_lt _ (by omega);have:(2:Nat) ^ k<=2 ^ 7:=Nat.pow_le_pow_right (by omega) (by omega);omega
theorem E2E {b:List UInt8} {i m:Nat} (hb:b.length=256) (hi:i<2048):∀ e k M:Nat,k+e=i%8->e<M ->
  B3S q m M x0 (sV (g.length+1) 0 256 1) (iV (i:Int)) (iV ((2 ^ k:Nat):Int)) (iV (k:Int)) (g++[rT [],rT (B4 b)]) =
   B3Q q m x0 (sV (g.length+1) 0 256 1) (iV (i:Int)) (g++[rT [],rT (B4 (A7g b i))]):=by
 intro e
 induction e with
 | zero =>
  intro k M hk hM;obtain ⟨M,rfl⟩:∃ M',M=M'+1:=⟨M-1,by omega⟩;have ek:k=i%8:=by omega
  subst ek;have r1:O4 .rem (iV (i:Int)) (iV 8)=A4 (iV ((i%8:Nat):Int)):=by
   rw [A8R (by omega) (by omega)];congr 3
  have q1:O4 .quo (iV (i:Int)) (iV 8)=A4 (iV ((i/8:Nat):Int)):=by
   rw [A0C (by omega) (by omega) (by omega)];congr 3
  have V5:i/8<b.length:=by omega
  have ad:E1 1 (sV (g.length+1) 0 256 1) (iV ((i/8:Nat):Int))=A4 (pV (g.length+1) (i/8)):=by rw [C9 (by omega)];simp
  have l1:(B4 b)[i/8]?=A4 (.i .u8 b[i/8].toNat):=by rw [aJ,E66 V5];rfl
  have hp:=D5v (i:=i) (E7b _);have w1:IntKind.wrap .u8 ((2 ^ (i%8):Nat):Int)=((2 ^ (i%8):Nat):Int):=by
   generalize 2 ^ (i%8)=y at *;exact wrap_u8 (by omega) (by omega)
  have eb:b.getD (i/8) 0=b[i/8]:=by rw [E7e,E66 V5];rfl
  have w2:IntKind.wrap .u8 ((b[i/8].toNat:Int)+((2 ^ (i%8):Nat):Int))=(((b.getD (i/8) 0+UInt8.ofNat (2 ^ (i%8))).toNat:Nat):Int):=by
   rw [eb,qD,UInt8.toNat_add,UInt8.toNat_ofNat',Nat.add_mod_mod];generalize 2 ^ (i%8)=y at *;simp
  have es:(B4 b).set (i/8) (.i .u8 (((b.getD (i/8) 0+UInt8.ofNat (2 ^ (i%8))).toNat:Nat):Int))=B4 (A7g b i):=by rw [iI];rfl
  have s1:=C4S (cs:=B4 b) (off:=i/8) (x:=.i .u8 (((b.getD (i/8) 0+UInt8.ofNat (2 ^ (i%8))).toNat:Nat):Int)) (by rw [A9];omega);rw [es] at s1;have c0:¬ ((i%8:Nat):Int)<((i%8:Nat):Int):=by omega
  rw [A5q];generalize (b.getD (i/8) 0+UInt8.ofNat (2 ^ (i%8))).toNat=z at *;generalize ((2 ^ (i%8):Nat):Int)=y at *;generalize B4 b=B at *;generalize B4 (A7g b i)=B' at *;simp only [esc,fE,uW,A3a,r1,c0,q1,ad,l1,w1,w2,s1]
 | succ e ih =>
  intro k M hk hM;obtain ⟨M,rfl⟩:∃ M',M=M'+1:=⟨M-1,by omega⟩;have r1:O4 .rem (iV (i:Int)) (iV 8)=A4 (iV ((i%8:Nat):Int)):=by
   rw [A8R (by omega) (by omega)];congr 3
  have c0:(k:Int)<((i%8:Nat):Int):=by omega
  have hp:=D5v (i:=i) (k:=k) (by omega);have w2:IntKind.wrap .i64 (((2 ^ k:Nat):Int)*2)=((2 ^ (k+1):Nat):Int):=by
   rw [Nat.pow_succ];generalize 2 ^ k=y at *;rw [wrap_i64 (by omega) (by omega)];omega
  have w1:=D3 (show k+1<9223372036854775808 by omega);rw [A5q];simp only [esc,r1,c0,w2,w1];exact ih (k+1) M (by omega) (by omega)
theorem E2D (hx:Has g x0 1 2048 (J3 l)) (hl:l.length=2048):∀ (e i M:Nat) (b:List UInt8),i+e=2048->e<M->b.length=256->8<q ->
  B3R q M x0 (sV (g.length+1) 0 256 1) (iV (i:Int)) (g++[rT [],rT (B4 b)]) =
   A4 (sV (g.length+1) 0 256 1,g++[rT [],rT (B4 ((U6 i (l.drop i)).foldl A7g b))]):=by
 intro e
 induction e with
 | zero =>
  intro i M b hi hM hb hq;obtain ⟨M,rfl⟩:∃ M',M=M'+1:=⟨M-1,by omega⟩;have ei:i=2048:=by omega
  subst ei;have hlen:=hx.len;have c0:¬ ((2048:Nat):Int)<((2048:Nat):Int):=by omega
  have ed:l.drop 2048=[]:=E7k (by omega);rw [uY,ed];simp only [esc,hlen,c0];rfl
 | succ e ih =>
  intro i M b hi hM hb hq;obtain ⟨M,rfl⟩:∃ M',M=M'+1:=⟨M-1,by omega⟩;have hlen:=hx.len;have c0:((i:Nat):Int)<((2048:Nat):Int):=by omega
  have O9:i<l.length:=by omega
  obtain ⟨id,off,rfl,hid,hA,_⟩:=(hx.more [rT [],rT (B4 b)]).sl (by omega);have ad:E1 1 (sV id off 2048 1) (iV (i:Int))=A4 (pV id (off+i)):=by rw [C9 (by omega)];simp
  have h1:=hA i (.b l[i]) (by simp [J3,O9]);have w1:=D3 (show i+1<9223372036854775808 by omega);rw [E7d O9];cases hb2:l[i] with
  | true =>
   rw [hb2] at h1;have e1:=E2E (g:=g) (x0:=sV id off 2048 1) (q:=q) (m:=M) hb (show i<2048 by omega) (i%8) 0 q (by omega) (by omega);rw [Nat.pow_zero] at e1;rw [uY];simp only [esc,hlen,c0,ad,h1];refine e1.trans ?_;rw [A5p];simp only [esc,w1];exact ih (i+1) M (A7g b i) (by omega) (by omega) (by rw [C2r,hb]) hq
  | false =>
   rw [hb2] at h1;rw [uY];simp only [esc,hlen,c0,ad,h1];rw [A5p];simp only [esc,w1];exact ih (i+1) M b (by omega) (by omega) hb hq
theorem C8M {h:B5} (hx:Has h x0 1 2048 (J3 l)) (hl:l.length=2048):A6O [x0] h=A4 (sV h.length 0 256 1,h++[rT (B4 ((U6 0 l).foldl A7g (zeros 256)))]):=by
 have e:=E2D (q:=2049) hx.ro hl 2048 0 2049 (zeros 256) (by omega) (by omega) zeros_length (by omega);have q1:O4 .quo (iV ((2048:Nat):Int)) (iV 8)=A4 (iV 256):=by
  rw [A0C (by omega) (by omega) (by omega)];congr 3
 have a1:A13 (iV 256) (iV 256)=A4 256:=rfl;have hlen:=hx.len;refine B9V (n:=2049) (h2:=ro h++[rT [],rT (B4 ((U6 0 l).foldl A7g (zeros 256)))]) (v:=sV ((ro h).length+1) 0 256 1) ?_ ⟨?_,(ro h).length+1,rfl,by rw [F7];omega,?_⟩ (by simp)
 ·rw [C3r];simp only [esc,hlen,q1,a1,nK];exact e
 ·rw [A9,C2s,zeros_length]
 ·rw [L5];rfl
theorem E4D {S:List Nat} {nv:Nat} (hS:∀ x∈S,x<2048) (hl:S.length<=2048) (hx:Has g x0 1 nv (encI (S.map λx:Nat=>(x:Int)))):∀ (e i M:Nat),i+e=S.length->e<M ->
  ∃ H',B8c q M x0 (sV (g.length+1) 0 2048 1) (iV (i:Int)) (g++[rT [],rT (J3 ((S.take i).foldl (λb x=>b.set x A5) (E68 2048 A6)))]) =
   A4 (sV (g.length+2) 0 256 1,H')/\rd H' (g.length+2)=rT (B4 ((U6 0 (A8k S)).foldl A7g (zeros 256))):=by
 intro e;have hnv:S.length=nv:=by
  have:=hx.length;rw [B7,List.length_map] at this;omega
 subst hnv
 induction e with
 | zero =>
  intro i M hi hM;obtain ⟨M,rfl⟩:∃ M',M=M'+1:=⟨M-1,by omega⟩;have ei:i=S.length:=by omega
  subst ei;have hlen:=hx.len;have c0:¬ ((S.length:Nat):Int)<((S.length:Nat):Int):=by omega
  rw [List.take_length];have eb:S.foldl (λb x=>b.set x A5) (E68 2048 A6)=A8k S:=rfl;rw [eb];have hB:=C8M (x0:=sV (g.length+1) 0 2048 1) (l:=A8k S) (h:=g++[rT [],rT (J3 (A8k S))]) (Has.row (rw:=A5) (by rw [L5];rfl) (by rw [J3,List.length_map,A7i]) (C1e _)) A7i;rw [A8r];generalize B4 ((U6 0 (A8k S)).foldl A7g (zeros 256))=Y at *;generalize J3 (A8k S)=B at *;simp only [E7a,E7g,E7v,E7t,Nat.reduceAdd,E7c,E7E,E7m] at hB;simp only [esc,hlen,c0,Nat.reduceAdd,hB];exact ⟨_,rfl,by rw [L5];rfl⟩
 | succ e ih =>
  intro i M hi hM;obtain ⟨M,rfl⟩:∃ M',M=M'+1:=⟨M-1,by omega⟩;have O9:i<S.length:=by omega
  have hlen:=hx.len;have c0:((i:Nat):Int)<((S.length:Nat):Int):=by omega
  obtain ⟨B,eB⟩:∃ B,B=(S.take i).foldl (λb x=>b.set x A5) (E68 2048 A6):=⟨_,rfl⟩;have eN:(S.take (i+1)).foldl (λb x=>b.set x A5) (E68 2048 A6)=B.set S[i] A5:=by
   rw [E7n O9,List.foldl_append,<-eB];rfl
  have lB:B.length=2048:=by
   have:=A7i (S:=S.take i);unfold A8k at this;rw [eB];exact this
  obtain ⟨id,off,rfl,hid,hA,_⟩:=(hx.more [rT [],rT (J3 B)]).sl (by omega);have ad:E1 1 (sV id off S.length 1) (iV (i:Int))=A4 (pV id (off+i)):=by rw [C9 (by omega)];simp
  have h1:=hA i (.i .i64 (S[i]:Int)) (by simp [encI,O9]);have hs:=hS _ (E7J O9);obtain ⟨s,es⟩:∃ s,s=S[i]:=⟨_,rfl⟩;rw [<-es] at h1 hs eN;have w1:=D3 (show i+1<9223372036854775808 by omega);have c1:(s:Int)>=0:=by omega
  have c2:(s:Int)<2048:=by omega
  have a2:E1 1 (sV (g.length+1) 0 2048 1) (iV (s:Int))=A4 (pV (g.length+1) s):=by rw [C9 hs];simp
  have s1:=C4S (cs:=J3 B) (off:=s) (x:=.b A5) (by simp [J3,lB];omega);have e1:(J3 B).set s (.b A5)=J3 (B.set s A5):=by simp [J3,List.map_set]
  rw [e1] at s1;obtain ⟨H',f1,f2⟩:=ih (i+1) M (by omega) (by omega);refine ⟨H',?_,f2⟩;rw [<-eB];rw [eN] at f1;rw [A8r];generalize J3 B=Y at *;generalize J3 (B.set s A5)=Y' at *;simp only [esc,uW,hlen,c0,ad,h1,c1,c2,a2,s1,C4x,w1];exact f1
theorem D0A {h:B5} {S:List Nat} {nv:Nat} (hS:∀ x∈S,x<2048) (hl:S.length<=2048) (hx:Has h x0 1 nv (encI (S.map λx:Nat=>(x:Int)))) :
  A96 [x0] h=A4 (sV h.length 0 256 1,h++[rT (B4 ((U6 0 (A8k S)).foldl A7g (zeros 256)))]):=by
 obtain ⟨H',e1,e2⟩:=E4D (q:=2049) hS hl hx.ro S.length 0 2049 (by omega) (by omega);have a1:A13 (iV 2048) (iV 2048)=A4 2048:=rfl;have rz:rows [Cell.b A6] 2048=J3 (E68 2048 A6):=by unfold rows J3;rw [List.map_replicate,List.flatten_replicate_singleton]
 refine C3X (n:=2049) (h2:=H') (v:=sV ((ro h).length+2) 0 256 1) ?_ ⟨?_,(ro h).length+2,rfl,by rw [F7];omega,e2⟩ (by simp)
 ·rw [C5x];generalize E68 2048 A6=Z at *;simp only [esc,a1,rz];exact e1
 ·rw [A9,C2s,zeros_length]
end
theorem C8T (s:List UInt8) (hs:s.length<9223372036854775807) (n:Nat) (h:B5):∀ d i m:Nat,i+d=s.length->d<m ->
  B3P n m (.c (.s s)) (iV i) h=A4 (bV ((s.drop i).all bU),h)
 | d,i,0,_,hm=>by omega
 | 0,i,m+1,hi,hm=>by
  have c0:¬ ((i:Int)<s.length):=by omega
  rw [A5o,show s.drop i=[] from E7k (by omega)];simp only [esc,c0,List.all_nil]
 | d+1,i,m+1,hi,hm=>by
  have h1:(i:Int)<s.length:=by omega
  have h2:i<s.length:=by omega
  have ih:=C8T s hs n h d (i+1) m (by omega) (by omega);rw [A5o,E7d h2,E7P];by_cases c1:(s[i].toNat:Int)=0
  ·have f:bU s[i]=A6:=by unfold bU;rw [decide_eq_true c1];rfl
   simp only [esc,h1,jX h2,c1,f,E7f]
  ·by_cases c2:(s[i].toNat:Int)=47
   ·have f:bU s[i]=A6:=by unfold bU;rw [decide_eq_true c2];simp
    simp only [esc,h1,jX h2,c1,c2,f,E7f,Int.reduceEq]
   ·have f:bU s[i]=A5:=by unfold bU;rw [decide_eq_false c1,decide_eq_false c2];rfl
    simp only [esc,h1,jX h2,c1,c2,f,E7j,D3 (show i+1<9223372036854775808 by omega)];exact ih
theorem right_eq {s:List UInt8} (hs:s.length<9223372036854775807) (h:B5):A6N [.c (.s s)] h=A4 (bV (V4 s),h):=by
 refine B7i (n:=s.length+1) (h2:=ro h) ?_ rfl;rw [C3q];have hl:=C8T s hs (s.length+1) (ro h) s.length 0 (s.length+1) (by omega) (by omega);rw [E7p] at hl;unfold V4;by_cases c1:(s.length:Int)<1
 ·simp only [esc,c1,Bool.true_or,E7f]
 ·by_cases c2:(24:Int)<s.length
  ·simp only [esc,c1,c2,Bool.true_or,E7f,Bool.or_true]
  ·by_cases c3:s=[46]
   ·subst c3;simp only [esc];rfl
   ·by_cases c4:s=[46,46]
    ·subst c4;simp only [esc];rfl
    ·simp only [esc,c1,c2,c3,c4,Bool.or_self,E7j];exact hl
theorem D6K {s:List UInt8} (hs:s.length<=24):iO s s.length=UInt8.ofNat s.length::(s++zeros 24).take 24:=by
 unfold iO;refine congrArg (UInt8.ofNat s.length :: ·) ?_;rw [List.take_append,E7i (E7b _),E7i hs];unfold zeros;rw [List.take_replicate,E73 (by omega)]
theorem B85 {g:B5} (s:List UInt8) (hs:s.length<=24) (k:Nat):∀ d i m h id,i+d=24->d<m->Low g.length g h->g.length<=id->rd h id=rT (B4 (UInt8.ofNat s.length::(s++zeros 24).take i)) ->
  ∃ v' h',B8a k m (.c (.s s)) (sV id 0 (i+1) 1) (iV i) h=A4 (v',h')/\Out g.length h' v' 1 25 (B4 (iO s s.length))
 | d,i,0,h,id,_,hm,_,_,_=>by omega
 | 0,i,m+1,h,id,hi,hm,hlow,hb,hr=>by
  have e:i=24:=by omega
  subst e;have h1':¬ ((24:Nat):Int)<24:=by omega
  rw [<-D6K hs] at hr;rw [A8p];exact ⟨_,_,by simp only [esc,h1']<;>rfl,by rw [A9,nH (E7b _) hs],id,rfl,hb,hr⟩
 | d+1,i,m+1,h,id,hi,hm,hlow,hb,hr=>by
  have hlen:(s++zeros 24).length=s.length+24:=by rw [E7a,zeros_length]
  have E6b:i<(s++zeros 24).length:=by omega
  have c1:(i:Int)<24:=by omega
  have step:∀ x:UInt8,(s++zeros 24)[i]=x->∃ v' h',bnd (jZ (h++[rT [.i .u8 x.toNat]]) 1 (sV id 0 (i+1) 1) (sV h.length 0 1 1)) (λp=>B79 k m (.c (.s s)) p.1 (iV i) p.2)=A4 (v',h')/\Out g.length h' v' 1 25 (B4 (iO s s.length)):=by
   intro x hx;obtain ⟨h',a1,a2,a3,a4,a5⟩:=push (ys:=[.i .u8 x.toNat]) (sz:=1) (n:=i+1) hlow hr (by rw [A9,E7g,E7A];omega) hb rfl (by omega) (by omega);have e4:B4 (UInt8.ofNat s.length::(s++zeros 24).take i)++[Cell.i .u8 x.toNat]=B4 (UInt8.ofNat s.length::(s++zeros 24).take (i+1)):=by
    rw [E7n E6b,hx,<-E7E,M6];rfl
   rw [e4] at a2;obtain ⟨v',h'',b1,b2⟩:=B85 s hs k d (i+1) m h' (h.length+1) (by omega) (by omega) a3 a4 a2;refine ⟨v',h'',?_,b2⟩;simp only [esc,a1];rw [C4v];simp only [esc,D3 (show i+1<9223372036854775808 by omega)];exact b1
  rw [A8p];by_cases c2:i<s.length
  ·have c2':(i:Int)<s.length:=by omega
   obtain ⟨v',h',b1,b2⟩:=step s[i] (by rw [List.getElem_append_left c2]);have e5:E4 [Cell.i .u8 0] [(0,1,.c (.i .u8 s[i].toNat))]=A4 [.i .u8 s[i].toNat]:=rfl;exact ⟨v',h',by simp only [esc,c1,c2',jX c2,e5];exact b1,b2⟩
  ·have c2':¬ (i:Int)<s.length:=by omega
   obtain ⟨v',h',b1,b2⟩:=step 0 (by rw [List.getElem_append_right (by omega)];exact List.getElem_replicate _);have e5:E4 [Cell.i .u8 0] [(0,1,.c (.i .u8 0))]=A4 [.i .u8 (0:UInt8).toNat]:=rfl;exact ⟨v',h',by simp only [esc,c1,c2',e5];exact b1,b2⟩
theorem C8S {s:List UInt8} (hs:s.length<=24) (h:B5):A93 [.c (.s s)] h=A4 (sV h.length 0 25 1,h++[rT (B4 (iO s s.length))]):=by
 obtain ⟨v',h',e,ho⟩:=B85 (g:=ro h) s hs 25 24 0 25 (ro h++[rT [],rT (B4 [UInt8.ofNat s.length])]) ((ro h).length+1) (by omega) (by omega) ((Low.refl (E7b _)).new _) (by omega) (by simp);refine C3U (n:=25) (v:=v') (h2:=h') ?_ (by simpa [F7] using ho) (by simp);have e1:IntKind.wrap .u8 (s.length:Int)=((UInt8.ofNat s.length).toNat:Int):=by rw [wrap_u8 (by omega) (by omega),UInt8.toNat_ofNat'];omega
 have e5:E4 [Cell.i .u8 0] [(0,1,.c (.i .u8 (UInt8.ofNat s.length).toNat))]=A4 (B4 [UInt8.ofNat s.length]):=rfl;rw [C5v];simp only [esc,e1,e5];exact e
theorem D3L {v:Val} {nv:Nat} {l:List UInt8} {h:B5} (hv:Has h v 1 nv (B4 l)) (hl:l.length=25) :
  A3Q [v] h=A4 (.t [.c (.s ((dM l).getD [])),.c (.b (dM l).isSome)],h):=by
 have key:∀ g,Has g v 1 nv (B4 l)->∃ g',A3r 0 [v] g=A4 (.t [.c (.s ((dM l).getD [])),.c (.b (dM l).isSome)],g'):=by
  intro g hv;have hnv:nv=25:=by
   have:l.length=nv:=by simpa [A9] using hv.length
   omega
  subst hnv;have hvl:=hv.len;have hv0:=hv;obtain ⟨id,off,rfl,hid,h1,h2⟩:=hv.sl (by omega);obtain ⟨x,r,rfl⟩:∃ x r,l=x::r:=by
   cases l with
   | nil=>simp at hl
   | cons x r=>exact ⟨x,r,rfl⟩
  have hx:=x.toNat_lt;have a0:E1 1 (sV id off 25 1) (iV 0)=A4 (pV id (off+0)):=rfl;have l0:=h1 0 (.i .u8 x.toNat) rfl;rw [Nat.add_zero] at l0;have e1:IntKind.wrap .i64 (x.toNat:Int)=x.toNat:=wrap_i64 (by omega) (by omega);rw [B9m];unfold dM;simp only [List.headD_cons,List.drop_succ_cons,E7p];by_cases c1:x.toNat<=24
  ·rw [if_pos c1];have c1':¬ (24:Int)<x.toNat:=by omega
   have e2:IntKind.wrap .i64 (1+(x.toNat:Int))=((1+x.toNat:Nat):Int):=by rw [wrap_i64 (by omega) (by omega)];omega
   have e3:=E4J (id:=id) (off:=off) (n:=25) (sz:=1) (a:=1) (b:=1+x.toNat) (by omega) (by omega);rw [show 1+x.toNat-1=x.toNat by omega,Nat.mul_one,show ((1:Nat):Int)=1 from rfl] at e3;have hh:Has g (sV id (off+1) x.toNat 1) 1 x.toNat (B4 (r.take x.toNat)):=by
    rcases hv0 with ⟨e,_⟩ | ⟨bF,off',row,e,hr,g1,g2,g3,g4⟩
    ·cases e
    ·cases e;refine Has.part hr (by omega) ?_ (F9 _);have:(row.cells.drop (off+1)).take (x.toNat*1)=((B4 (x::r)).drop 1).take x.toNat:=by
      rw [<-g3,List.drop_take,E7X,List.take_take]
      congr 1
      omega
     rw [this,D1w,D1x];rfl
   have hs:(r.take x.toNat).length<9223372036854775807:=by simp;omega
   have nC:(r.take x.toNat).length<=24:=by simp;omega
   cases hf:V4 (r.take x.toNat) with
   | false =>
    rw [if_neg (by simp)];exact ⟨_,by simp only [esc,hvl,a0,l0,e1,c1',e2,E7F,e3,hh.str,right_eq hs,hf,E7Z,E7x]<;>rfl⟩
   | true =>
    have hp:=C8S nC g;have hS:=dZ (h:=g++[rT (B4 (iO (r.take x.toNat) (r.take x.toNat).length))]) (v:=sV g.length 0 25 1) (nv:=25) (l:=iO (r.take x.toNat) (r.take x.toNat).length) (Has.tr (by simp) (by rw [A9,nH (E7b _) nC]) (F9 _))
     (hv0.more [rT (B4 (iO (r.take x.toNat) (r.take x.toNat).length))]) (by rw [nH (E7b _) nC];omega)
    have epk:W8 (r.take x.toNat)=iO (r.take x.toNat) (r.take x.toNat).length:=by unfold W8;rw [hf];rfl
    rw [epk];by_cases c2:iO (r.take x.toNat) (r.take x.toNat).length=x::r
    ·rw [if_pos ⟨rfl,c2⟩];rw [decide_eq_true c2] at hS;exact ⟨_,by simp only [esc,hvl,a0,l0,e1,c1',e2,E7F,e3,hh.str,right_eq hs,hf,hp,hS,E7N,E7o]<;>rfl⟩
    ·rw [if_neg (λh=>c2 h.2)];rw [decide_eq_false c2] at hS;exact ⟨_,by simp only [esc,hvl,a0,l0,e1,c1',e2,E7F,e3,hh.str,right_eq hs,hf,hp,hS,E7Z,E7x]<;>rfl⟩
  ·rw [if_neg c1];have c1':(24:Int)<x.toNat:=by omega
   exact ⟨_,by simp only [esc,hvl,a0,l0,e1,c1',E7F,E7Z,E7x]<;>rfl⟩
 obtain ⟨g',e⟩:=key (ro h) hv.ro;exact B40 e (by simp)
noncomputable section
variable (n m m2:Nat) (a0 a1 x0 x1 x5:Val) (h:B5)
def A6a:FD A8:=⟨px 0X17c21362a2a818896192f7f62f1f142f4f60362a2a85641d7f61d1f141d4f606101ac61c044c1e2123062ec2112,[.c (.b A6)],[],[.tmp 2],[cal A8a]⟩
def B4D:=A6a.R
def C9u:=mR B4D A6a (tT []) n [a0] h
def C48:=A6a.K Tryz.func224
def B49:=A6a.S
theorem C9Q:SOk A8 224 B49:=C48.sok
theorem C36:F6 B4D B49:=C48.flat
def zZ:FD A8:=⟨px 0X1782161a13cc31431331231131051a513fc4e1c142125c3162a13cc6111ac361c044c619201ac64c861c1444d601931313b862ec2112,[.c (.i .u8 0)],[],[.tmp 2],[cal iH,cal A94]⟩
def A6p:=zZ.R
def C3u:=mR A6p zZ (tT []) n [a0] h
def B6A:=zZ.K Tryz.func188
def A6S:=zZ.S
theorem A8b:SOk A8 188 A6S:=B6A.sok
theorem B91:oP A6p A6S:=B6A.out
def A2a:FD A8:=⟨px 0X175122821de4825c39354220135122821de0293e83542224675a2a861882bf63a251881af28962a301881af628901887f628961887f41883018836141881af4821883b60672a2a866e2bf6136e1af4826e3b6062bc3c3912a5a18432184231c8221de29182d96113a102293e81962a321ac628907c628967c40006a2a1191874105218c01886114a6803e28697c1916111ac1cd62a301ac629907c628967c4001a11b7641052302942d9241032,[.c (.b A6),.c (.b A5)],[],[.cellN 4 2,.tmp 5],[cal B3x,cal B9U,cal rC,cal C9Q,cal A8b,cal bO]⟩
def A9q:=A2a.R
def C5B:=mR A9q A2a (tT []) n [a0,a1] h
def C1B:=A2a.K Tryz.func182
def A99:=A2a.S
theorem B0a:SOk A8 182 A99:=C1B.sok
theorem B93:F6 A9q A99:=C1B.flat
def pF:FD A8:=⟨px 0X174114125c515607c2e1a1318011cc412c0241224362e2a861a24f7f44f364f1f07a4f4f605e2a17385104218c0188221de2962d912e6802a28697c1c161a201ac4e001d11976510521551033070243d617c1e181219510425103351030605101510320314111022,[.c (.b A6),.c (.i .i64 (-1))],[],[.tmp 4],[cal B0a]⟩
def C17:=pF.R
def B8d:AtH:=pF.lj 0 n [m] [x0,x1,x5]
def C2j:=tT [⟨2,3,B8d⟩]
def C5z:=mR C17 pF C2j n [a0,a1] h
def A8s:=mL pF C2j 0 n [m] [x0,x1,x5] h
def C1z:=pF.K Tryz.func226
def A98:=pF.S
theorem C6j:SOk A8 226 A98:=C1z.sok
theorem B92:F6 C17 A98:=C1z.flat
def A19:FD A8:=⟨px 0X12801614301ac64ac1f131b12711310419413fc28892889175bc5012103b9102,[.c (.i .u8 98),.c (.i .u8 107),.c (.i .u8 116),.c (.i .u8 33)],[],[.tmp 0],[cal iX]⟩
def A9p:=A19.R
def C5A:=mR A9p A19 (tT []) n [] h
def C1A:=A19.K Tryz.func186
def A2C:=A19.S
theorem C6k:SOk A8 186 A2C:=C1A.sok
theorem C35:oP A9p A2C:=C1A.out
end
theorem D3I {s:List UInt8} {n:Int} {h:B5} (hs:s.length<9223372036854775807):B49 [.a [.s s,.i .i64 n]] h=A4 (bV (A15 s n),h):=by
 have key:∀ g,∃ g',B4D 0 [.a [.s s,.i .i64 n]] g=A4 (bV (A15 s n),g'):=by
  intro g;have hC:=λh=>right_eq hs h
  rw [C9u];unfold A15;cases hf:V4 s with
  | false =>
   rw [hf] at hC;exact ⟨_,by simp only [esc,esh,Nat.reduceAdd,Nat.reduceMul,Nat.reduceLT,hC]<;>rfl⟩
  | true =>
   rw [hf] at hC;by_cases c1:1<=n
   ·by_cases c2:n<=128
    ·rw [decide_eq_true c1,decide_eq_true c2];exact ⟨_,by simp only [esc,esh,Nat.reduceAdd,Nat.reduceMul,Nat.reduceLT,hC,c1,c2]<;>rfl⟩
    ·rw [decide_eq_true c1,decide_eq_false c2];exact ⟨_,by simp only [esc,esh,Nat.reduceAdd,Nat.reduceMul,Nat.reduceLT,hC,c1,c2]<;>rfl⟩
   ·rw [decide_eq_false c1];exact ⟨_,by simp only [esc,esh,Nat.reduceAdd,Nat.reduceMul,Nat.reduceLT,hC,c1]<;>rfl⟩
 obtain ⟨g',e⟩:=key (ro h);exact C36 e rfl
theorem D8O {s:List UInt8} {n:Int} (hm:A15 s n=A5):V4 s=A5:=by
 unfold A15 at hm;simp only [E69] at hm;exact hm.1
theorem B17 {s:List UInt8} {n:Int} {h:B5} (hm:A15 s n=A5):A6S [.a [.s s,.i .i64 n]] h=A4 (sV h.length 0 32 1,h++[rT (B4 (Y2 s n))]):=by
 have hf:=D8O hm;have hs:=(cX hf).2;have ep:iO s s.length=W8 s:=by unfold W8;rw [hf,cond_true]
 have key:∀ g,∃ v g',A6p 0 [.a [.s s,.i .i64 n]] g=A4 (v,g')/\Out g.length g' v 1 32 (B4 (Y2 s n)):=by
  intro g;have hB:=λh=>dP (w:=2) (v:=n) (h:=h) (by omega)
  simp only [E7F] at hB;have hP:=λh=>C8S hs h
  rw [ep] at hP;have ef5:E4 [Cell.i .u8 0,.i .u8 0,.i .u8 0,.i .u8 0,.i .u8 0] [(0,1,.c (.i .u8 0)),(1,1,.c (.i .u8 0)),(2,1,.c (.i .u8 0)),(3,1,.c (.i .u8 0)),(4,1,.c (.i .u8 0))]=A4 (B4 [0,0,0,0,0]):=rfl;have hpl:(B4 (W8 s)).length=25:=by rw [A9];exact hJ
  have hA:=kN (h:=g++[rT [.s s,.i .i64 n],rT [],rT (B4 (B9 2 n)),rT (B4 (W8 s))]) (id:=g.length+2) (jd:=g.length+3) (n:=2) (m:=25) (sz:=1) (cs:=B4 (B9 2 n)) (ys:=B4 (W8 s)) (rw:=A5) (by simp) (by simp [A9]) (by simp) (by rw [hpl]) rfl (by omega) (by omega);simp only [E7a,E7g,E7v,E7t,E7c,E7E,E7m,pA,E7U,E7T,Nat.reduceAdd,<-M6] at hA;have E31:(B4 (B9 2 n++W8 s)).length=27*1:=by rw [A9,E7a,Q5,hJ]
  have hA2:=kN (h:=g++[rT [.s s,.i .i64 n],rT [],A7,rT (B4 (W8 s)),rT (B4 (B9 2 n++W8 s)),rT (B4 [0,0,0,0,0])]) (id:=g.length+4) (jd:=g.length+5) (n:=27) (m:=5) (sz:=1) (cs:=B4 (B9 2 n++W8 s)) (ys:=B4 [0,0,0,0,0]) (rw:=A5) (by simp) E31 (by simp) rfl rfl (by omega) (by omega);simp only [E7a,E7g,E7v,E7t,E7c,E7E,E7m,pA,E7U,E7T,Nat.reduceAdd,<-M6] at hA2;rw [<-E7c (B9 2 n),show B9 2 n++W8 s++[0,0,0,0,0]=Y2 s n from rfl] at hA2;rw [C3u];refine ⟨sV (g.length+6) 0 32 1,g++[rT [.s s,.i .i64 n],rT [],A7,rT (B4 (W8 s)),A7,rT (B4 [0,0,0,0,0]),rT (B4 (Y2 s n))],?_,by rw [A9,Y3],g.length+6,rfl,by omega,?_⟩
  ·generalize Y2 s n=E at *;generalize B9 2 n++W8 s=Q at *;generalize B4 [0,0,0,0,0]=F at *;generalize B4 (W8 s)=P at *;generalize B4 (B9 2 n)=B2 at *;simp only [esc,esh,Nat.reduceAdd,Nat.reduceMul,Nat.reduceLT,hB,E4B,hP,hpl,hA,ef5,hA2]
  ·simp
 obtain ⟨v,g',e,ho⟩:=key (ro h);exact B91 e (by simpa [F7] using ho) (by simp)
theorem D90 {b:List UInt8} {k:Nat}:cJ b ((K9 k+2:Nat):Int) 25=nameB b k:=by
 unfold cJ nameB;rw [if_pos (by omega),E7r];rfl
theorem E6F {k:Nat} (hk:k<7):IntKind.wrap .i64 (32*(k:Int))=((32*k:Nat):Int):=by rw [wrap_i64 (by omega) (by omega)];omega
theorem E6D {k:Nat} (hk:k<7):IntKind.wrap .i64 (32+((32*k:Nat):Int))=((K9 k:Nat):Int):=by unfold K9;rw [wrap_i64 (by omega) (by omega)];omega
theorem E5x {k:Nat} (hk:k<7):IntKind.wrap .i64 (34+((32*k:Nat):Int))=((K9 k+2:Nat):Int):=by unfold K9;rw [wrap_i64 (by omega) (by omega)];omega
theorem wW {v:Val} {nv k:Nat} {b:List UInt8} {h:B5} (hv:Has h v 1 nv (B4 b)) (hb:b.length=256) (hk:k<7):A99 [v,iV (k:Int)] h=A4 (.t [.a (W2 (S3 b k)),.c (.b (S3 b k).isSome)],h):=by
 have key:∀ g,Has g v 1 nv (B4 b)->∃ g',A9q 0 [v,iV (k:Int)] g=A4 (.t [.a (W2 (S3 b k)),.c (.b (S3 b k).isSome)],g'):=by
  intro g hv;have hnl:=A7J hb hk;have nC:=B87 hb hk;have hC:=λl=>A7M (hv.more l) (a:=((K9 k+2:Nat):Int)) (n:=25) (by unfold K9;omega) (by omega)
  rw [D90,hnl] at hC;have hU:=λ(c0:Option Row)=>D3L (v:=sV (g.length+1) 0 25 1) (nv:=25) (l:=nameB b k) (h:=g++[c0,rT (B4 (nameB b k))]) (Has.row (rw:=A5) (by simp) (by rw [A9,hnl]) (F9 _)) hnl
  have hA:=λl=>qC (hv.more l) hb (a:=(K9 k:Nat)) (w:=2)
  rw [D7n hk] at hA;have ef:∀ (s:List UInt8) (n:Int),E4 [Cell.s [],o0] [(0,1,.c (.s s)),(1,1,iV n)]=A4 [.s s,.i .i64 n]:=λ_ _=>rfl
  have ef0:E4 [Cell.s [],o0] []=A4 [.s [],o0]:=rfl;have w0:=E6F hk;have w1:=E6D hk;have w2:=E5x hk;rw [C5B];unfold S3;cases hu:dM (nameB b k) with
  | none =>
   rw [hu] at hU;simp only [E7Z,E7x] at hU;generalize dD b k=n at *;generalize B4 (nameB b k)=z at *;exact ⟨_,by simp only [esc,esh,Nat.reduceAdd,Nat.reduceMul,Nat.reduceLT,w0,w1,w2,hC,hU,hA,ef,ef0,Option.bind_none,W2,E7x]<;>rfl⟩
  | some s =>
   rw [hu] at hU;simp only [E7N,E7o] at hU;have hfs:=(cX (A7V hu)).2;have hM:=λh=>D3I (s:=s) (n:=dD b k) (h:=h) (by omega)
   rw [E7h];unfold isE;cases hm:A15 s (dD b k) with
   | false =>
    rw [hm] at hM;rw [E7f,if_neg (by simp)];generalize dD b k=n at *;generalize B4 (nameB b k)=z at *;exact ⟨_,by simp only [esc,esh,Nat.reduceAdd,Nat.reduceMul,Nat.reduceLT,w0,w1,w2,hC,hU,hA,ef,ef0,hM,W2,E7x]<;>rfl⟩
   | true =>
    rw [hm] at hM;rw [E7j];have hB:=λh=>B17 (s:=s) (n:=dD b k) (h:=h) hm
    have hC2:=λl=>A7M (hv.more l) (a:=(K9 k:Nat)) (n:=32) (by unfold K9;omega) (by omega)
    rw [D4M,nC] at hC2;have hS:=λ(c0 c1 c2:Option Row)=>dZ (l:=Y2 s (dD b k)) (r:=A1U b k) (h:=g++[c0,c1,c2,rT (B4 (Y2 s (dD b k))),rT (B4 (A1U b k))]) (v:=sV (g.length+3) 0 32 1) (u:=sV (g.length+4) 0 32 1) (Has.row (rw:=A5) (by simp) (by rw [A9,Y3]) (F9 _)) (Has.row (rw:=A5) (by simp) (by rw [A9,nC]) (F9 _)) (by rw [Y3];omega)
    by_cases ce:Y2 s (dD b k)=A1U b k
    ·rw [if_pos (decide_eq_true ce)];rw [decide_eq_true ce] at hS;generalize Y2 s (dD b k)=E at *;generalize A1U b k=L at *;generalize dD b k=n at *;generalize B4 (nameB b k)=z at *;exact ⟨_,by simp only [esc,esh,Nat.reduceAdd,Nat.reduceMul,Nat.reduceLT,w0,w1,w2,hC,hU,hA,ef,ef0,hM,hB,hC2,hS,W2,E7o]<;>rfl⟩
    ·rw [if_neg (by rw [decide_eq_true_eq];exact ce)];rw [decide_eq_false ce] at hS;generalize Y2 s (dD b k)=E at *;generalize A1U b k=L at *;generalize dD b k=n at *;generalize B4 (nameB b k)=z at *;exact ⟨_,by simp only [esc,esh,Nat.reduceAdd,Nat.reduceMul,Nat.reduceLT,w0,w1,w2,hC,hU,hA,ef,ef0,hM,hB,hC2,hS,W2,E7x]<;>rfl⟩
 obtain ⟨g',e⟩:=key (ro h) hv.ro;exact B93 e (by simp [Val.flat,D1y,Cell.flat])
def D6P (o:Option Nat):Int:=match o with
 | some k=>k
 | none=>-1
theorem B6d {v:Val} {nv q:Nat} {b nm:List UInt8} (hb:b.length=256):∀ (e k m:Nat) (h:B5),k+e=7->e<m->Has h v 1 nv (B4 b) ->
  ∃ h',B8d q m v (.c (.s nm)) (iV (k:Int)) h=A4 (iV (D6P ((aP b nm e k).map (·.1))),h')
 | e,k,0,h,_,hm,_=>by omega
 | 0,k,m+1,h,hk,hm,hv=>by
  have e0:k=7:=by omega
  subst e0;have c0:¬ ((7:Nat):Int)<7:=by omega
  rw [A8s];exact ⟨_,by simp only [esc,c0]<;>rfl⟩
 | e+1,k,m+1,h,hk,hm,hv=>by
  have c0:(k:Int)<7:=by omega
  have hR:=wW (k:=k) hv hb (by omega);have w1:=D3 (show k+1<9223372036854775808 by omega);rw [A8s];cases hx:S3 b k with
  | none =>
   rw [hx] at hR;rw [A4r hx];obtain ⟨h',ih⟩:=B6d (q:=q) (nm:=nm) hb e (k+1) m (h++[rT ([.s [],o0])]) (by omega) (by omega) (hv.more _);exact ⟨h',by simp only [esc,esh,Nat.reduceAdd,Nat.reduceMul,Nat.reduceLT,c0,hR,W2,E7x,w1];exact ih⟩
  | some x =>
   obtain ⟨s,n⟩:=x;rw [hx] at hR;by_cases ce:s=nm
   ·subst ce;rw [A7w hx];exact ⟨_,by simp only [esc,esh,Nat.reduceAdd,Nat.reduceMul,Nat.reduceLT,c0,hR,W2,E7o]<;>rfl⟩
   ·rw [A4q hx ce];obtain ⟨h',ih⟩:=B6d (q:=q) (nm:=nm) hb e (k+1) m (h++[rT [.s s,.i .i64 n]]) (by omega) (by omega) (hv.more _);exact ⟨h',by simp only [esc,esh,Nat.reduceAdd,Nat.reduceMul,Nat.reduceLT,c0,hR,W2,E7o,ce,w1];exact ih⟩
theorem D0B {v:Val} {nv:Nat} {b nm:List UInt8} {h:B5} (hv:Has h v 1 nv (B4 b)) (hb:b.length=256):A98 [v,.c (.s nm)] h=A4 (iV (D6P ((W7 b nm).map (·.1))),h):=by
 obtain ⟨h',e⟩:=B6d (q:=8) (nm:=nm) hb 7 0 8 (ro h) (by omega) (by omega) hv.ro;exact B92 (n:=8) (by rw [C5z];exact e) rfl
theorem D0C {h:B5}:A2C [] h=A4 (sV h.length 0 256 1,h++[rT (B4 hdB)]):=by
 have key:∀ g,∃ v g',A9p 0 [] g=A4 (v,g')/\Out g.length g' v 1 256 (B4 hdB):=by
  intro g;have hn:A13 (iV 256) (iV 256)=A4 256:=rfl;have rz:=nK 256;have ef:E4 [Cell.i .u8 0,.i .u8 0,.i .u8 0,.i .u8 0] [(0,1,.c (.i .u8 98)),(1,1,.c (.i .u8 107)),(2,1,.c (.i .u8 116)),(3,1,.c (.i .u8 33))]=A4 (B4 B24):=rfl;have hM:zN (g++[rT [],rT (B4 (zeros 256)),rT (B4 B24)]) (sV (g.length+2) 0 4 1)=A4 (sV (g.length+2) 0 4 1):=by simp [zN]
  have hL:=nJ (v:=sV (g.length+1) 0 256 1) (u:=sV (g.length+2) 0 4 1) (nv:=256) (nu:=4) (l:=zeros 256) (data:=B24) (a:=0) (h:=g++[rT [],rT (B4 (zeros 256)),rT (B4 B24)]) (Has.row (rw:=A5) (by simp) (by rw [A9,zeros_length]) (F9 _)) (Has.row (rw:=A5) (by simp) rfl (F9 _)) (by omega) (by rw [zeros_length];omega);have el:A87 (zeros 256) 0 B24=hdB:=by
   have h1:=A0R (l:=zeros 256) (a:=0) (xs:=B24) (by rw [zeros_length];decide);have h2:=C8v (b:=B24) (by decide);unfold A86 at h2;rw [if_pos ⟨by omega,by omega⟩,E7i (by decide)] at h2;exact h1.trans h2
  rw [el,zeros_length] at hL;rw [C5A];refine ⟨sV (g.length+3) 0 256 1,g++[rT [],rT (B4 (zeros 256)),rT (B4 B24),rT (B4 hdB)],?_,by rw [A9,A7A],g.length+3,rfl,by omega,by simp⟩;generalize hdB=H at *;generalize B4 B24=mg at *;generalize zeros 256=z at *;simp only [esc,esh,Nat.reduceAdd,Nat.reduceMul,Nat.reduceLT,hn,rz,ef,hM,hL]
 obtain ⟨v,g',e,ho⟩:=key (ro h);exact C35 e (by simpa [F7] using ho) (by simp)
theorem D8M {x:Nat} {b:Int} (h5:b<=5):D0p x b=x%D1 b:=by
 unfold D0p D1 W1;by_cases c:b<1
 ·rw [if_pos c];have:(max 0 (min b 5)).toNat=0:=by omega
  rw [this];simp [Nat.mod_one]
 ·rw [if_neg c,if_neg (by omega)];have:(max 0 (min b 5)).toNat=b.toNat:=by omega
  rw [this]
theorem B1x {b nm:List UInt8}:∀ {e k:Nat} {x:Slt},aP b nm e k=A4 x->k<=x.1/\x.1<k+e/\S3 b x.1=A4 x.2/\x.2.1=nm
 | 0,k,x,h=>by simp [aP] at h
 | e+1,k,x,h=>by
  cases hr:S3 b k with
  | none =>
   rw [A4r hr] at h;have:=B1x h;exact ⟨by omega,by omega,this.2.2⟩
  | some y =>
   obtain ⟨s,n⟩:=y;by_cases c:s=nm
   ·subst c;rw [A7w hr] at h;cases h;exact ⟨E7b _,by simp,hr,rfl⟩
   ·rw [A4q hr c] at h;have:=B1x h;exact ⟨by omega,by omega,this.2.2⟩
theorem D6o {b nm:List UInt8} {x:Slt} (h:W7 b nm=A4 x):x.1<7/\S3 b x.1=A4 x.2/\x.2.1=nm:=by
 have:=B1x h;exact ⟨by omega,this.2.2⟩
noncomputable section
variable (n m m2:Nat) (a0 a1 a2 a3 a4 a5 x0 x1 x3 x4 x5 x6 x7 x8 x9 x10 x11 x12 x13 x14 x15 x16 x17 x18 x19 x20 x22 x23 x33 x34 x35:Val) (h:B5)
def A2e:FD A8:=⟨px 0X11fc71638181de1801c183847622621fa21c4c480363232321fa61a119818048391418632421c818161e13cc61c21c4c00012d3fd518632420117127a181de1c18383762224633a2a863a1f61a13a19b7a3a363a1f25e3a4f6062bc61a201ac4a02e319391b2b6324263233103d62d942ec032ed4643242,[.c (.b A5)],[],[.cellN 6 8,.tmp 7],[cal C6m]⟩
def C2a:=A2e.R
def A05:=mR C2a A2e (tT []) n [a0,a1,a2] h
def C1G:=A2e.K Tryz.func109
def xJ:=A2e.Q
theorem B0h:SOk A8 109 xJ:=C1G.ok
theorem A1j:OfT C2a xJ:=C1G.of
def A2f:FD A8:=⟨px 0X1238181de1c18382612621fa41c4c61e13cc61012113fc18061e13cc61c46e4c00013fc196322621fa35e4c61e13cc61011113fc4061e13cc61c32e4c00013fc19632323d62d9032ed2632142,[],[],[.cellN 6 8],[]⟩
def C2b:=A2f.R
def C5H:=mR C2b A2f (tT []) n [a0,a1,a2] h
def C1H:=A2f.K Tryz.func112
def A2E:=A2f.Q
theorem B0i:SOk A8 112 A2E:=C1H.ok
theorem C6r:OfT C2b A2E:=C1H.of
def V8:FD A8:=⟨px 0X1248181de61e2e361ac26151ac69a061c1a584c28181e939501918135e82b15607c4ca1bb1318621fa1a1e11985de05de05de1dd151806e82c15ba0218228181de5ba181db3922e2b2a1b1a18641826d80106cc2181de3d02d2df14e6804a1d9696c81c9162e3a321ac61c61a119859a059a03833828181ca391b11b2e2d2b2a1b1a18641932461a17c5c039607c4da1bd141c82c2b2a1b1a18641922c2b2a1b1a18641831a12c112c2b2a1b1a1864182352b2a1b1a186473270241889617c4ba1b9121ba2b2a1b1a18641822b2a1b1a1864732b2a1b1a1864726251012b2a1b1a1864722a1a184435c82a16141ac61e231ac61c1a584c4062a1b1a18646201248181de28183821812241627c61c1a584c31aa1b1a18641721b1a1864163621fa1284c3ee031b1a1864162621b1de1a1e1b198581b381c03ce19a15291b1a18641724cc29161e1b3cc61c1284c0001b3fc5291b1a1864311820621fa1a584c3aa0318228181de7c1818b392281b1a186431182498048c2181de3d1f2d913e6803a189694887b161e2a321ac61c1a4c4c3833828187c391b281f1b1a1864311922439657c5c79127a1b1a191864311921b1a186431711a2cc1c15607c685813181a21fa1e61628c4584c780680518228181de6c186c3921e1c1b1a191864311a239c0103982181de3d01d2df14e6804a6a6938c5a162e3a321ac61c1a61628c44c4c6803833828185b391b11b1e1d1c1b1a191864311b3151c1b1a1918643119307024362a2a861a118f7f5c18f36818f36039617c6849174f1c1b1a191864311a21c1b1a191864311931c1b1a191864311906051011c1b1a191864311921b1a191864311832881b16111ac61c24c3e4d41b1a191864311821ec21b1de3b1a2d961251151033b3e861c24c3b4d51a19186431721d821b1de3b192d961a1e301ac1c03833842f1619186431623d182d92a62ed042ed318643152,[.c (.b A6)],[],[.cellN 8 8],[cal oL,cal B9Z,cal B0h,cal oM,cal B7n,cal C4d,cal B0i]⟩
def A2A:=V8.R
def A0t:AtH:=V8.lj 0 n [m] [x1,x3,x4,x6,x8,x9,x10,x11,x12]
def A7u:AtH:=V8.lj 1 n [] [x1,x3,x4,x6,x8,x10,x11]
def A7v:AtH:=V8.lj 2 n [m] [x4,x6,x8,x10,x11,x18,x19]
def D21:AtH:=V8.lj 3 n [m] [x4,x6,x8,x10,x11,x18,x19,x20]
def xL:=tT [⟨2,9,A0t⟩,⟨1,7,A7u⟩,⟨2,7,A7v⟩,⟨2,8,D21⟩]
def C5G:=mR A2A V8 xL n [a0,a1,a2,a3] h
def A8w:=mL V8 xL 0 n [m] [x1,x3,x4,x6,x8,x9,x10,x11,x12] h
def A8u:=mJ V8 xL 1 n [] [x1,x3,x4,x6,x8,x10,x11] h
def yY:=mL V8 xL 2 n [m] [x4,x6,x8,x10,x11,x18,x19] h
def A8v:=mJ V8 xL 3 n [m] [x4,x6,x8,x10,x11,x18,x19,x20] h
def C1F:=V8.K Tryz.func49
def B0g:=V8.Q
theorem C6p:SOk A8 49 B0g:=C1F.ok
theorem C6o:OfT A2A B0g:=C1F.of
def B2k:FD A8:=⟨px 0X11ec01dc01d8611647c5805804c3a171876321cc1a161a231ac18061a221ac6e002d161a19220130101613187632241627c5a2b122c19204219203319819161c1a614828c316a4c61e211ac61c04e4c6101ac4e1b160191920333010161442ed442032,[.c (.b A6)],[],[.tmp 6,.tmp 7,.tmp 8],[cal B7h,cal C9J,cal oM,cal C6j]⟩
def B9r:=B2k.R
def D2t:=mR B9r B2k (tT []) n [a0,a1,a2] h
def D0R:=B2k.K Tryz.func183
def C0c:=B2k.S
theorem D2G:SOk A8 183 C0c:=D0R.sok
theorem C6n:F6 B9r C0c:=D0R.flat
def A6b:FD A8:=⟨px 0X17c614a02612621fa1a1e11985e0402a1b15712587161a13cc000001183fd472132163b9121032,[],[],[.tmp 6],[]⟩
def B4I:=A6b.R
def C9z:=mR B4I A6b (tT []) n [a0,a1,a2] h
def C5e:=A6b.K Tryz.func228
def B5h:=A6b.S
theorem C9V:SOk A8 228 B5h:=C5e.sok
theorem C6s:oP B4I B5h:=C5e.out
def pG:FD A8:=⟨px 0X171b1258181de2c183831b1a220621fa02c4c61e13cc61011113fc28061e13cc61c02c4c00013fc1918621fa72c4c61a1e321ac1c028061c72c4c71a54322462bc6c026e1a543521a5201a621fa62c4c63e4a321ac35607c61c61a119828061c62c4c28061c62c5a4d190191d1a543530131b1258181de2c183831b1a2224673a2a8361a18c2ab6c19b3618c3196218c7f6818c3601627c6848119581d1a543621d1a543531fc1d161a211ac28061c02c3c4d51d1c1a543621dc1c10658c61a1e301ac2803c33842f161c1a543520131b126a181de2c183831b1a2224672e2a861e5487f6481f15e484f6e4836019617c5a1e1182d1a75431721a7543163303d1a2d92e72ed052ed41a7543162,[.c (.b A6),.c (.b A5)],[],[.cellN 10 8,.tmp 11],[cal oL,cal B7j,cal C9V]⟩
def A9t:=pG.R
def D22:AtH:=pG.lj 0 n [] [x5,x10]
def C2k:=tT [⟨1,2,D22⟩]
def eY:=mR A9t pG C2k n [a0,a1,a2,a3,a4] h
def yZ:=mJ pG C2k 0 n [] [x5,x10] h
def C1I:=pG.K Tryz.func185
def A2F:=pG.Q
theorem C6t:SOk A8 185 A2F:=C1I.ok
theorem A1k:OfT A9t A2F:=C1I.of
def A0H:FD A8:=⟨px 0X134114125c515607c2e1a13180174114122461a27c4061c61a11984a001c16295104215510330702461e17c61c80060419510425103351030605101510320334111022,[.c (.b A6),.c (.b A5)],[],[.tmp 4],[]⟩
def D04:=A0H.R
def C7F:AtH:=A0H.lj 0 n [m] [x0,x1,x5]
def D1a:=tT [⟨2,3,C7F⟩]
def D2u:=mR D04 A0H D1a n [a0,a1] h
def B3Z:=mL A0H D1a 0 n [m] [x0,x1,x5] h
def D0S:=A0H.K Tryz.func187
def C0d:=A0H.S
theorem D2H:SOk A8 187 C0d:=D0S.sok
theorem C6q:F6 D04 C0d:=D0S.flat
def J6:FD A8:=⟨px 0X1268181de38183bd3921c1219dc4915607c7ce2ba1318238181de61a3a371ac2298061c61a119828c06c038183ae3960191a884b15607c7ea2bf1318621fa5384c5607c61c5383aa4d5181d8c4a161e3a31b1ac611a1ac2a8238628907c628967c29c02980181824362e2a861e21969b1af669b1f02a869b4f1b869b360362a2a861a26897f29c68932bc689360363e2a862e25e97f65e91f61a15e919b28c5e936c5e932b85e93602c82ef12c39a4c4b4a492e1d1c1b611b21bb801bac01ba84e124a6813e6803a2ec691b9c2de161e2a331ac61c02a84c5c493842df11c584f4e4c4b4a492e1d1c1b611d201972462bc2ac2dc122dd4c4b4a492e1d1c1b611b24c4b4a492e1d1c1b611a31adc01ad8221de294c2d915a6804e2da691acc2c9161a221ac29c062e211ac61c61a119828c06c042ca11e4d4c4b4a492e1d1c1b611b21954b4a492e1d1c1b611971a1870243d617c7da2bd122be4b4a492e1d1c1b611a24b4a492e1d1c1b611934b4a492e1d1c1b6119661851014b4a492e1d1c1b611924a492e1d1c1b6118319e84a10182bc1ad24a492e1d1c1b6118275492e1d1c1b61736702461e17c61c86c07ae2ae142b9492e1d1c1b61182492e1d1c1b6173492e1d1c1b617566514911492e1d1c1b61721c623238181de61a1e371ac7ae028038182aa3952e1d1c1b6162198c019883f112a6801e2a86918fc29d16161ac5c4929e3973f2e1d1c1b6411826b82f15607c4fa1cd1318018e82e163a13cc61013113fc61c61a119878e078078a01818246be0128d2f2e1e1d1c1b1864311c2238181de6be1828c3923e2f2e1e1d1c1b1864311c2189c018982181de3d3d2d914e6804a28a69188c1fa161e2a2e3a551ac61c16aa4c1c0483384038181fb391d3e3d2f2e1e1d1c1b1864311d27cc07c8221de293b2d913e6803a1f8697bc1ea161a221ac5ee061a211ac5ea041eb11b3b2f2e1e1d1c1b1864311c278c0178806fc38125a6814e6804a1df696f81cf162e3a331ac61c61a11985aa07805c493841d811d01939382f2e1e1d1c1b1864311d3552f2e1e1d1c1b1864311b41a4702461e17c61c87804da1c9141cc2f2e1e1d1c1b1864311c22f2e1e1d1c1b1864311b32f2e1e1d1c1b1864311b26451012f2e1e1d1c1b1864311b22e1d1c1b6417312e3b912e1e1d1c1b1864311a26881e16141ac781bf131e1d1c1b1864311923881f15607c7c5f13183a82815607c29e6b131805f81e162a13cc61013113fc61c04da4c78061824362a2a861a22db7f4be2db349a2db360363e2a862e22bb7f62bb1f61a12bb19b7c2bb36c2bb33de2bb360361a2a83ba2ad3603be1991291b929281f1e1d1c1b1864311d24c804bc04b82b124a6813e6803a18e694ac188161e2a331ac61c039a4c5c4938418911c2d2c2b2a29281f1e1d1c1b1864312823fc03f8221de29292d915a6804e7e693ec6d161a221ac2ea062e211ac61c61a11987c06c046e11e2a29281f1e1d1c1b1864311d235281f1e1d1c1b1864311b31a270243d617c28e69126a281f1e1d1c1b1864311c2281f1e1d1c1b1864311b3281f1e1d1c1b1864311b162512811281f1e1d1c1b1864311b2151f1e1d1c1b1864311a30702461e17c61c86c07c5b145e1f1e1d1c1b1864311b21f1e1d1c1b1864311a31f1e1d1c1b1864311a06051011f1e1d1c1b1864311a21e1d1c1b18643119313b811e1d1c1b1864311922d81d16101ac5c49593931d1c1b1864311823d2d83a1b2ed3a182ed062ed41c1b18643172,[.c (.b A6)],[],[.cellN 12 8],[cal A2D,cal oM,cal B0a,cal D2G,cal C6b,cal C6t,cal B3A,cal B0i,cal C6k,cal D2H,cal A8b,cal iX]⟩
def B6Z:=J6.R
def wQ:AtH:=J6.lj 0 n [m] [x1,x3,x4,x6,x8,x11,x12,x13,x14,x15]
def B30:AtH:=J6.lj 1 n [m,m2] [x1,x3,x4,x6,x8,x11,x12,x13,x14,x15,x16]
def A4l:AtH:=J6.lj 2 n [m] [x1,x3,x4,x6,x8,x11,x12,x13,x14,x22,x23]
def D0f:AtH:=J6.lj 3 n [m,m2] [x1,x3,x4,x6,x8,x11,x12,x13,x14,x15,x16]
def D0g:AtH:=J6.lj 4 n [m] [x1,x3,x4,x6,x8,x11,x12,x13,x14,x22,x23]
def A4m:AtH:=J6.lj 5 n [m] [x1,x6,x11,x12,x13,x22,x33]
def A4n:AtH:=J6.lj 6 n [m,m2] [x1,x6,x11,x12,x13,x22,x33,x34,x35]
def D0h:AtH:=J6.lj 7 n [m,m2] [x1,x6,x11,x12,x13,x22,x33,x34,x35]
def aV:=tT [⟨2,10,wQ⟩,⟨3,11,B30⟩,⟨2,11,A4l⟩,⟨3,11,D0f⟩,⟨2,11,D0g⟩,⟨2,7,A4m⟩,⟨3,9,A4n⟩,⟨3,9,D0h⟩]
def C3z:=mR B6Z J6 aV n [a0,a1,a2,a3,a4,a5] h
def A5C:=mL J6 aV 0 n [m] [x1,x3,x4,x6,x8,x11,x12,x13,x14,x15] h
def nA:=mL J6 aV 1 n [m,m2] [x1,x3,x4,x6,x8,x11,x12,x13,x14,x15,x16] h
def vB:=mL J6 aV 2 n [m] [x1,x3,x4,x6,x8,x11,x12,x13,x14,x22,x23] h
def fI:=mJ J6 aV 3 n [m,m2] [x1,x3,x4,x6,x8,x11,x12,x13,x14,x15,x16] h
def A5B:=mJ J6 aV 4 n [m] [x1,x3,x4,x6,x8,x11,x12,x13,x14,x22,x23] h
def A5D:=mL J6 aV 5 n [m] [x1,x6,x11,x12,x13,x22,x33] h
def nB:=mL J6 aV 6 n [m,m2] [x1,x6,x11,x12,x13,x22,x33,x34,x35] h
def bM:=mJ J6 aV 7 n [m,m2] [x1,x6,x11,x12,x13,x22,x33,x34,x35] h
def B6F:=J6.K Tryz.func117
def A6Y:=J6.Q
theorem C4g:SOk A8 117 A6Y:=B6F.ok
theorem C4f:OfT B6Z A6Y:=B6F.of
def Z7:FD A8:=⟨px 0X1248181de61a2e3a3e4a661ac5c493861c161628c44c4c1c0383384028181eb391a181259c2915607c48e1aa13186b82c15607c58e1cd13180121fa1a614828c15c4c5ea04182462e27c161c61a11985de05de061c1a614828c15c4c59e1cf1180191df2c2b29281b191864311c3352c2b29281b191864311b31a27024361e2a816238b7f4fe38b360289617c4de1bf161cc2c2b29281b191864311c22c2b29281b191864311b32c2b29281b191864311b262512c112c2b29281b191864311b2228181de4ea181be3922b29281b191864311a25ec0105e82181de3d02a2df14e6804a1bc695dc1ac162e3a331ac61c61a11984be04be03833828181ad391b11b2b2a29281b191864311b31529281b191864311930702461e17c61c83fe03ee19e141a929281b191864311a229281b1918643119329281b1918643119160510129281b191864311921b19186431734ec2816151ac5c49383281b1918643118225c491de6141ac5c493831b191864317201248181de28183821812241627c61c161628c44c4c41981b191864311821b1918643173621fa1284c7c031b1918643172621b1de1a1e1b1984c1b381c07c7f151f1b191864311823f81f161e1b3cc61c1284c0001b3fc51f1b1918643118201a21fa161628c44c4c780418228181de6c186f3921e1b191864311823b803ac2181de3d1d2d914a6803e6d693a85e162a2e331ac61c161628c4584c3833828185f391c1e1d1b1918643119224361a2a8681af36019627c61c058584d65d1b1a191864311921b19186431701a2bc02b82491de1f1b2d914a6803e4e692ac3f16121ac62a211ac61c161628c4584c44811c1c1b1a191864311921f821b1de3b1a2d961a1e301ac1c03833843b161a19186431721d821b1de3b192d9613511191033b3e861c61a11981c061c7282d4d1819186431623d182d92a62ed042ed318643152,[.c (.b A6)],[],[.cellN 8 8],[cal oL,cal oM,cal C9S,cal B0h,cal C9R,cal A2D,cal C4g]⟩
def B4H:=Z7.R
def B1r:AtH:=Z7.lj 0 n [] [x1,x3,x4,x6,x8,x9,x11]
def xT:AtH:=Z7.lj 1 n [m] [x1,x3,x4,x6,x8,x9,x11,x16,x17]
def B1v:AtH:=Z7.lj 2 n [m,m2] [x1,x3,x4,x6,x8,x9,x11,x16,x17,x19,x20]
def D4U:AtH:=Z7.lj 3 n [m,m2] [x1,x3,x4,x6,x8,x9,x11,x16,x17,x19,x20]
def A1t:=tT [⟨1,7,B1r⟩,⟨2,9,xT⟩,⟨3,11,B1v⟩,⟨3,11,D4U⟩]
def A3u:=mR B4H Z7 A1t n [a0,a1,a2,a3] h
def B1s:=mJ Z7 A1t 0 n [] [x1,x3,x4,x6,x8,x9,x11] h
def B1u:=mL Z7 A1t 1 n [m] [x1,x3,x4,x6,x8,x9,x11,x16,x17] h
def sE:=mL Z7 A1t 2 n [m,m2] [x1,x3,x4,x6,x8,x9,x11,x16,x17,x19,x20] h
def B1t:=mJ Z7 A1t 3 n [m,m2] [x1,x3,x4,x6,x8,x9,x11,x16,x17,x19,x20] h
def C5d:=Z7.K Tryz.func50
def B5g:=Z7.Q
theorem C9U:SOk A8 50 B5g:=C5d.ok
theorem C9T:OfT B4H B5g:=C5d.of
def Y8:FD A8:=⟨px 0X1228181de2c18382412621fa12c4c4c1cc1354225a81a15607c581ab131801a21fa164c3a3e1b19861c61a119858061c62c4c5804c01a18245627c61c064c61a1b1985804c1ad161ba1a1954362551a19543541a4702461e197c61c11c4c5819f141aa1a19543621a19543531a195435364519011a19543521954334f819161e1b3cc61c12c4c0001b19b3fd5195434238c715607c3c68131822c181de61a1e2a431ac4801c338002c183861822c181de61a1e2a421ac4801c338002c183861824363e2a85621eb7f061eb58f61a1e311eb1af481eb31c31eb3b01eb3605637c486f11a1881875430723b818161c61a11983c061c02c6a4d61875430623575430521a2702462a17c61c861c02c4c3c5b155f75430627543053754305162510175430525433328c615607c38481318621fa22c4c63a13cc36101411048a29637c61a201ac3801c33861c22c4a4d71191565430530702461e17c61c01c4c383c143f65430626543053654305060516116543052543043521fa56119861c72c394d45430421c82181de13d452df6172e164e116e1043d3e8661135ca5607c61c11c4c661125ca5607c61c16e4c661b3b15ca5607c61c14e4c510111101b48b1f5195430433d2d8432ed243032,[.c (.b A6)],[],[.cellN 4 8],[cal A1g,cal oL,cal C6p,cal C9U]⟩
def D05:=Y8.R
def C7G:AtH:=Y8.lj 0 n [m] [x0,x3,x4,x5,x6]
def vC:AtH:=Y8.lj 1 n [m] [x0,x3,x4,x5,x7]
def D6m:AtH:=Y8.lj 2 n [m] [x0,x3,x4,x5,x7]
def B5V:AtH:=Y8.lj 3 n [m] [x3,x4,x5,x9,x10]
def D6n:AtH:=Y8.lj 4 n [m] [x3,x4,x5,x9,x10]
def A0M:=tT [⟨2,5,C7G⟩,⟨2,5,vC⟩,⟨2,5,D6m⟩,⟨2,5,B5V⟩,⟨2,5,D6n⟩]
def D2v:=mR D05 Y8 A0M n [a0,a1] h
def B32:=mL Y8 A0M 0 n [m] [x0,x3,x4,x5,x6] h
def B33:=mL Y8 A0M 1 n [m] [x0,x3,x4,x5,x7] h
def A4o:=mJ Y8 A0M 2 n [m] [x0,x3,x4,x5,x7] h
def A4p:=mL Y8 A0M 3 n [m] [x3,x4,x5,x9,x10] h
def B31:=mJ Y8 A0M 4 n [m] [x3,x4,x5,x9,x10] h
def D0T:=Y8.K Tryz.func16
def A42:=Y8.Q
theorem B7p:SOk A8 16 A42:=D0T.ok
theorem D2I:OfT D05 A42:=D0T.of
def O2:FD A8:=⟨px 0X159c613c02612621fa51e11986131ac4803c19f157121981915607c4a29131804f818161e13cc61011113fc4c04805182461c61a11984c061c22c18e4d519a19187540724ac7161e13cc61012113fc5803c18a15191875406203981c15607c6869131848c1a166a7a321ac6111ac61b3863e1b1985607c61a07c68064967c19677c4c061c12c4c628967c680586b12818551c1a191875401834702449617c685f12681c1a191875401921c1a191875401831c1a1918754018364511c111c1a191875401822f81a128892889175bc21a1918754072241d627c61a201ac4c02835a3945d1a191875401821a19187540741a1ec1b15607c5c3c131802cc1a161c61a11985c061c42c4c6182461a27c4c061c61a11985c061c32c3e4d74c1b1a19187540192351b1a191875401821a2702462a17c61c861c32c4c6a2f153b1b1a191875401921b1a191875401831b1a191875401816251011b1a191875401821a19187540731b81a1068861a4881985e002b151a19187540721519187540651a0702461e17c61c05a4c2a1d142819187540721918754063191875406060510119187540621872313b811875405213b8175404213b81e2ec442ed354032,[],[.slA 256 1 (.t 21) A7 A7],[.tmp 6],[cal A1g,cal B3z,cal iX,cal C6c]⟩
def B6Y:=O2.R
def A4i:AtH:=O2.lj 0 n [m] [x0,x4,x5,x7,x8,x9]
def A4j:AtH:=O2.lj 1 n [m,m2] [x0,x4,x5,x7,x8,x9,x10,x11]
def D0d:AtH:=O2.lj 2 n [m,m2] [x0,x4,x5,x7,x8,x9,x10,x11]
def A4k:AtH:=O2.lj 3 n [m,m2] [x0,x4,x5,x7,x8,x9,x10,x12]
def B3Y:AtH:=O2.lj 4 n [m] [x0,x4,x5,x7,x8,x9,x10]
def D0e:AtH:=O2.lj 5 n [m] [x0,x4,x5,x7,x8,x9]
def gM:=tT [⟨2,6,A4i⟩,⟨3,8,A4j⟩,⟨3,8,D0d⟩,⟨3,8,A4k⟩,⟨2,7,B3Y⟩,⟨2,6,D0e⟩]
def C3y:=mR B6Y O2 gM n [a0,a1,a2] h
def vA:=mL O2 gM 0 n [m] [x0,x4,x5,x7,x8,x9] h
def mZ:=mL O2 gM 1 n [m,m2] [x0,x4,x5,x7,x8,x9,x10,x11] h
def A5x:=mJ O2 gM 2 n [m,m2] [x0,x4,x5,x7,x8,x9,x10,x11] h
def A5A:=mL O2 gM 3 n [m,m2] [x0,x4,x5,x7,x8,x9,x10,x12] h
def A5y:=mJ O2 gM 4 n [m] [x0,x4,x5,x7,x8,x9,x10] h
def A5z:=mJ O2 gM 5 n [m] [x0,x4,x5,x7,x8,x9] h
def B6E:=O2.K Tryz.func22
def A6X:=O2.Q
theorem A8c:SOk A8 22 A6X:=B6E.ok
theorem C4e:OfT B6Y A6X:=B6E.of
end
theorem S7 {g H t:B5} (G:Grows g H) (ht:t.all B8G=A5):Grows g (H++t):=by
 refine G.trans' ⟨List.prefix_append _ _,λid x hid hx=>?_⟩;rw [rd_some,E7l hid] at hx;exact List.all_eq_true.1 ht _ (E7y hx)
theorem A7z {g H:B5} (G:Grows g H) {id:Nat} (hid:g.length<=id):Grows g (H.set id A7):=by
 obtain ⟨⟨t,rfl⟩,h2⟩:=G;refine ⟨⟨t.set (id-g.length) A7,by rw [E7I _ _ hid]⟩,λi x hi hx=>?_⟩;by_cases e:id=i
 ·subst e;have hl:=C8 hx;simp at hl;rw [C6 (by simpa using hl)] at hx;cases hx
 ·rw [B6 e] at hx;exact h2 i x hi hx
theorem B5T {H:B5} {v:Val} {ys:List Cell} {m sz:Nat} (hv:Has H v sz m ys) (hsz:0<sz) (hm:m<=1073741824) :
  jZ (H++[rT []]) sz (sV H.length 0 0 sz) v=A4 (sV (H.length+1) 0 m sz,H++[A7,rT ys]):=by
 have h1:=(hv.more [rT []]).add;have h2:rd (H++[rT []]) H.length=rT []:=by rw [E9];rfl
 have hl:=hv.length;have hd:ys.length/sz=m:=by rw [hl];exact Nat.mul_div_cancel m hsz
 simp only [jZ,h1,h2,E7h,hd];rw [if_pos ⟨trivial,trivial,by simp,trivial,by omega⟩];simp
theorem one_app {K:B5} {id n sz:Nat} {cs ys:List Cell} (hr:rd K id=rT cs) (hl:cs.length=n*sz) (hy:ys.length=sz) (hsz:0<sz) (hn:n+1<=1073741824) :
  jZ (K++[rT ys]) sz (sV id 0 n sz) (sV K.length 0 1 sz)=A4 (sV (K.length+1) 0 (n+1) sz,(K++[rT ys]).set id A7++[rT (cs++ys)]):=by
 have h1:rd (K++[rT ys]) id=rT cs:=C5 hr;have h2:P8 (K++[rT ys]) sz (sV K.length 0 1 sz)=A4 ys:=by
  simp [P8,iE,hy,E7i (Nat.le_of_eq hy)]
 simp only [jZ,h2,h1,E7h,hy,Nat.div_self hsz];rw [if_pos ⟨trivial,trivial,hl.symm,trivial,hn⟩];simp
def InR (P:Nat->Prop) (x:Cell):Prop:=∀ id,nmC x=A4 id->P id
theorem has_set {h:B5} {x:Cell} {sz n j:Nat} {cs:List Cell} {y:Option Row} (hv:Has h (.c x) sz n cs) (ho:rd h j=A7\/nmC x≠A4 j):Has (h.set j y) (.c x) sz n cs:=by
 rcases hv with hv | ⟨id,off,r,e,hr,h2⟩
 ·exact .inl hv
 ·cases e;refine .inr ⟨id,off,r,rfl,?_,h2⟩;rw [B6]
  ·exact hr
  ·intro e;subst e;rcases ho with ho | ho
   ·rw [ho] at hr;cases hr
   ·exact ho rfl
theorem A1I {h:B5} {x:Cell} {sz n id:Nat} {cs:List Cell} (hv:Has h (.c x) sz n cs) (hn:nmC x=A4 id):id<h.length:=by
 rcases hv with ⟨e,_⟩ | ⟨bF,off,r,e,hr,_⟩
 ·cases e;cases hn
 ·cases e;cases hn;exact C8 hr
def fJ (n:Int) (F:Int->Option Int):List Int:=(E7C (n+1).toNat).map λi:Nat=>(F (i:Int)).getD 0
theorem R8 {n:Int} {F:Int->Option Int}:(fJ n F).length=(n+1).toNat:=by simp [fJ]
theorem A5J {n:Int} {F:Int->Option Int} {i:Nat} (hi:i<(n+1).toNat):(fJ n F)[i]?=A4 ((F (i:Int)).getD 0):=by simp [fJ,hi]
theorem C8f {n:Int} {F:Int->Option Int} {i:Nat} {v:Int}:(fJ n F).set i v=fJ n (vO F (i:Int) v):=by
 refine List.ext_getElem? λk=>?_
 rw [List.getElem?_set];by_cases hk:k<(n+1).toNat
 ·by_cases e:i=k
  ·subst e;rw [if_pos rfl,if_pos (by rw [R8];exact hk),A5J hk];simp [vO]
  ·rw [if_neg e,A5J hk,A5J hk];unfold vO;rw [if_neg (by omega)]
 ·have h1:¬ k<(fJ n F).length:=by rw [R8];exact hk
  have h2:(fJ n (vO F (i:Int) v))[k]?=A7:=E7L (by rw [R8];omega);have h3:(fJ n F)[k]?=A7:=E7L (by omega);rw [h2,h3];split
  ·rename_i e;subst e;rw [if_neg h1]
  ·rfl
def D3V (P:Nat->Prop) (h:B5) (ys:List Cell) (made:List (List UInt8)):Prop :=
 ys.length=made.length/\noX ys=A5/\∀ (i:Nat) (y:Cell),ys[i]?=A4 y->InR P y/\∃ b,made[i]?=A4 b/\b.length=256/\Has h (.c y) 1 256 (B4 b)
structure RCF (n:Int) (P:Nat->Prop) (h:B5) (c:Cl) (xr xi xt xb xm xl xy:Cell) (ys:List Cell):Prop where
 row:Has h (.c xr) 1 c.row.length (encI c.row)
 ino:Has h (.c xi) 11 c.ino.length (U2 c.ino)
 tak:Has h (.c xt) 1 c.taken.length (J3 c.taken)
 blk:Has h (.c xb) 1 c.blocks.length (encI c.blocks)
 mad:Has h (.c xm) 1 c.made.length ys
 mds:D3V P h ys c.made
 tol:Has h (.c xl) 1 (n+1).toNat (encI (fJ n c.lnk))
 par:Has h (.c xy) 1 (n+1).toNat (encI (fJ n c.par))
 pr:InR P xr
 pi:InR P xi
 pt:InR P xt
 pb:InR P xb
 pm:InR P xm
 pl:InR P xl
 py:InR P xy
def rcC (xr xi xt xb xm:Cell) (lost:Int) (xl xy:Cell):List Cell:=[xr,xi,xt,xb,xm,.i .i64 lost,xl,xy]
def IsRC (n:Int) (P:Nat->Prop) (h:B5) (cs:List Cell) (c:Cl):Prop :=
 ∃ xr xi xt xb xm xl xy ys,cs=rcC xr xi xt xb xm c.lost xl xy/\RCF n P h c xr xi xt xb xm xl xy ys
theorem IsRC.length {n:Int} {P:Nat->Prop} {h:B5} {cs:List Cell} {c:Cl} (k:IsRC n P h cs c):cs.length=8:=by
 obtain ⟨_,_,_,_,_,_,_,_,rfl,_⟩:=k;rfl
section
variable {n:Int} {P Q:Nat->Prop} {h h':B5} {c:Cl} {xr xi xt xb xm xl xy:Cell} {ys:List Cell}
theorem InR.mono (hpq:∀ id,P id->Q id) {x:Cell} (k:InR P x):InR Q x:=λid hi=>hpq id (k id hi)
theorem RCF.mono (hpq:∀ id,P id->Q id) (k:RCF n P h c xr xi xt xb xm xl xy ys):RCF n Q h c xr xi xt xb xm xl xy ys :=
 ⟨k.row,k.ino,k.tak,k.blk,k.mad,⟨k.mds.1,k.mds.2.1,λi y hy=>⟨(k.mds.2.2 i y hy).1.mono hpq,(k.mds.2.2 i y hy).2⟩⟩,k.tol,k.par,k.pr.mono hpq,k.pi.mono hpq,k.pt.mono hpq,k.pb.mono hpq,k.pm.mono hpq,k.pl.mono hpq,k.py.mono hpq⟩
theorem RCF.to (hk:∀ (x:Cell) (sz m:Nat) (cs:List Cell),InR P x->Has h (.c x) sz m cs->Has h' (.c x) sz m cs) (k:RCF n P h c xr xi xt xb xm xl xy ys):RCF n P h' c xr xi xt xb xm xl xy ys :=
 ⟨hk _ _ _ _ k.pr k.row,hk _ _ _ _ k.pi k.ino,hk _ _ _ _ k.pt k.tak,hk _ _ _ _ k.pb k.blk,hk _ _ _ _ k.pm k.mad,
  ⟨k.mds.1,k.mds.2.1,λi y hy=>⟨(k.mds.2.2 i y hy).1,by
   obtain ⟨h1,b,h2,h3,h4⟩:=k.mds.2.2 i y hy;exact ⟨b,h2,h3,hk _ _ _ _ h1 h4⟩⟩⟩,hk _ _ _ _ k.pl k.tol,hk _ _ _ _ k.py k.par,k.pr,k.pi,k.pt,k.pb,k.pm,k.pl,k.py⟩
theorem RCF.grows (G:Grows h h') (k:RCF n P h c xr xi xt xb xm xl xy ys):RCF n P h' c xr xi xt xb xm xl xy ys:=k.to λ_ _ _ _ _ hv=>hv.grows G
theorem RCF.set {j:Nat} {y:Option Row} (hj:rd h j=A7\/¬ P j) (k:RCF n P h c xr xi xt xb xm xl xy ys):RCF n P (h.set j y) c xr xi xt xb xm xl xy ys :=
 k.to λx _ _ _ hp hv=>has_set hv (hj.imp id λhn e=>hn (hp j e))
theorem RCF.low (k:RCF n P h c xr xi xt xb xm xl xy ys):RCF n (λid=>P id/\id<h.length) h c xr xi xt xb xm xl xy ys :=
 ⟨k.row,k.ino,k.tak,k.blk,k.mad,⟨k.mds.1,k.mds.2.1,λi y hy=>by
  obtain ⟨h1,b,h2,h3,h4⟩:=k.mds.2.2 i y hy;exact ⟨λid hi=>⟨h1 id hi,A1I h4 hi⟩,b,h2,h3,h4⟩⟩,k.tol,k.par,λid hi=>⟨k.pr id hi,A1I k.row hi⟩,λid hi=>⟨k.pi id hi,A1I k.ino hi⟩,λid hi=>⟨k.pt id hi,A1I k.tak hi⟩,λid hi=>⟨k.pb id hi,A1I k.blk hi⟩,λid hi=>⟨k.pm id hi,A1I k.mad hi⟩,λid hi=>⟨k.pl id hi,A1I k.tol hi⟩,λid hi=>⟨k.py id hi,A1I k.par hi⟩⟩
theorem IsRC.mono (hpq:∀ id,P id->Q id) {cs:List Cell} (k:IsRC n P h cs c):IsRC n Q h cs c:=by
 obtain ⟨a1,a2,a3,a4,a5,a6,a7,a8,e,k⟩:=k;exact ⟨a1,a2,a3,a4,a5,a6,a7,a8,e,k.mono hpq⟩
theorem IsRC.grows (G:Grows h h') {cs:List Cell} (k:IsRC n P h cs c):IsRC n P h' cs c:=by
 obtain ⟨a1,a2,a3,a4,a5,a6,a7,a8,e,k⟩:=k;exact ⟨a1,a2,a3,a4,a5,a6,a7,a8,e,k.grows G⟩
theorem IsRC.set {j:Nat} {y:Option Row} (hj:rd h j=A7\/¬ P j) {cs:List Cell} (k:IsRC n P h cs c):IsRC n P (h.set j y) cs c:=by
 obtain ⟨a1,a2,a3,a4,a5,a6,a7,a8,e,k⟩:=k;exact ⟨a1,a2,a3,a4,a5,a6,a7,a8,e,k.set hj⟩
theorem IsRC.low {cs:List Cell} (k:IsRC n P h cs c):IsRC n (λid=>P id/\id<h.length) h cs c:=by
 obtain ⟨a1,a2,a3,a4,a5,a6,a7,a8,e,k⟩:=k;exact ⟨a1,a2,a3,a4,a5,a6,a7,a8,e,k.low⟩
end
section
variable {D:Dev} {n m:Int} {P:Nat->Prop} {h:B5} {c:Cl} {cs:List Cell}
theorem D5G {no:Int} (k:IsRC n P h cs c) (ht:c.taken.length=D.length) (hl:D.length<=1000) :
  ∃ cs' H',xJ [.a cs,.a (D8 D.length n m),iV no] h=A4 (.t [.a cs',.c (.i .i64 (U1 D n c no))],H')/\Grows h H'/\IsRC n (λid=>P id\/h.length<=id) H' cs' (dU D n c no):=by
 obtain ⟨xr,xi,xt,xb,xm,xl,xy,ys,rfl,k⟩:=k;have hD:=λh=>D0D (b:=D.length) (n:=n) (m:=m) (i:=no) (h:=h)
 have cl1:cells? (.a (rcC xr xi xt xb xm c.lost xl xy))=A4 (rcC xr xi xt xb xm c.lost xl xy):=rfl;have cl2:cells? (.a (D8 D.length n m))=A4 (D8 D.length n m):=rfl;have z8l:[Cell.ns,.ns,.ns,.ns,.ns,o0,.ns,.ns].length=8:=rfl;have cl8:(rcC xr xi xt xb xm c.lost xl xy).length=8:=rfl;have ll3:(D8 D.length n m).length=3:=rfl;have l2:ld1 (rT (rcC xr xi xt xb xm c.lost xl xy)) 2=A4 (.c xt):=rfl;have stay:∀ t:B5,t.all B8G=A5->Grows h (h++t)/\IsRC n (λid=>P id\/h.length<=id) (h++t) (rcC xr xi xt xb xm c.lost xl xy) c:=λt ht =>
  ⟨S7 Grows.rfl' ht,_,_,_,_,_,_,_,_,rfl,(k.mono λ_=>.inl).grows (S7 Grows.rfl' ht)⟩
 cases hd:jF (D.length:Int) n no with
 | false =>
  have e1:U1 D n c no=0:=by unfold U1 B5R;rw [hd];rfl
  have e2:dU D n c no=c:=by unfold dU B5R;rw [hd];rfl
  rw [e1,e2];rw [hd] at hD;obtain ⟨g1,g2⟩:=stay [rT (rcC xr xi xt xb xm c.lost xl xy),rT (D8 D.length n m),rT (rcC xr xi xt xb xm c.lost xl xy)] rfl;refine ⟨_,_,A1j (n:=0) (p:=(_,_)) ?_,g1,g2⟩;rw [A05];generalize rcC xr xi xt xb xm c.lost xl xy=C at *;generalize D8 D.length n m=L at *;simp only [esc,esh,Nat.reduceAdd,Nat.reduceMul,Nat.reduceLT,E77,cl1,cl2,ll3,cl8,z8l,hD]
 | true =>
  rw [hd] at hD;obtain ⟨i0,i1⟩:=C77 hd;obtain ⟨j,rfl⟩:=E7Q i0;have hj:j<c.taken.length:=by omega
  obtain ⟨it,ot,et,_,hA,_⟩:=k.tak.sl (by omega);cases et;have a1:E1 1 (sV it ot c.taken.length 1) (iV (j:Int))=A4 (pV it (ot+j)):=by rw [C9 hj];simp
  have hA2:∀ t,B8 (h++t) (pV it (ot+j))=A4 (bV c.taken[j]):=λt=>by
   obtain ⟨it',ot',et',_,hA',_⟩:=(k.tak.more t).sl (by omega);cases et';exact hA' j _ (by simp [J3,hj])
  have eg:c.taken.getD (j:Int).toNat A5=c.taken[j]:=by rw [E7r,E7e,E66 hj];rfl
  cases hb:c.taken[j] with
  | true =>
   have e1:U1 D n c j=0:=by unfold U1 B5R;rw [hd,eg,hb];rfl
   have e2:dU D n c j=c:=by unfold dU B5R;rw [hd,eg,hb];rfl
   rw [e1,e2];rw [hb] at hA2;obtain ⟨g1,g2⟩:=stay [rT (rcC xr xi (.sl it ot c.taken.length 1) xb xm c.lost xl xy),rT (D8 D.length n m),rT (rcC xr xi (.sl it ot c.taken.length 1) xb xm c.lost xl xy)] rfl;refine ⟨_,_,A1j (n:=0) (p:=(_,_)) ?_,g1,g2⟩;rw [A05];generalize rcC xr xi (.sl it ot c.taken.length 1) xb xm c.lost xl xy=C at *;generalize D8 D.length n m=L at *;simp only [esc,esh,Nat.reduceAdd,Nat.reduceMul,Nat.reduceLT,E8a,cl1,cl2,ll3,cl8,z8l,hD,l2,a1,hA2]
  | false =>
   have e1:U1 D n c j=j:=by unfold U1 B5R;rw [hd,eg,hb];rfl
   have e2:dU D n c j={ c with taken:=c.taken.set j A5 }:=by unfold dU B5R;rw [hd,eg,hb];rfl
   rw [e1,e2];rw [hb] at hA2;obtain ⟨T3,hT3⟩:∃ T3:B5,T3=[rT (rcC xr xi (.sl it ot c.taken.length 1) xb xm c.lost xl xy),rT (D8 D.length n m),rT [Cell.ns,.ns,.ns,.ns,.ns,o0,.ns,.ns]]:=⟨_,rfl⟩;have hcp:=B5T (H:=h++T3) (k.tak.more T3) (by omega) (by omega);have lT:(h++T3).length=h.length+3:=by rw [hT3];simp
   rw [lT,hT3] at hcp;have ad:E1 1 (sV (h.length+3+1) 0 c.taken.length 1) (iV (j:Int))=A4 (pV (h.length+4) j):=by rw [C9 hj];simp
   have hbl:(J3 c.taken).length=c.taken.length:=by simp [J3]
   have es:(J3 c.taken).set j (.b A5)=J3 (c.taken.set j A5):=by simp [J3,List.map_set]
   have sb:st1 (rT (J3 c.taken)) j (.b A5)=rT (J3 (c.taken.set j A5)):=by
    simp only [st1,E7h];rw [if_pos ⟨trivial,by rw [hbl];exact hj⟩,es]
   have sc:st1 (rT (rcC xr xi (.sl it ot c.taken.length 1) xb xm c.lost xl xy)) 2 (.sl (h.length+3+1) 0 c.taken.length 1)=rT (rcC xr xi (.sl (h.length+4) 0 c.taken.length 1) xb xm c.lost xl xy):=rfl;have cl8':(rcC xr xi (.sl (h.length+4) 0 c.taken.length 1) xb xm c.lost xl xy).length=8:=rfl;obtain ⟨H',hH'⟩:∃ H',H'=h++[rT (rcC xr xi (.sl (h.length+4) 0 c.taken.length 1) xb xm c.lost xl xy),rT (D8 D.length n m),rT (rcC xr xi (.sl (h.length+4) 0 c.taken.length 1) xb xm c.lost xl xy),A7,rT (J3 (c.taken.set j A5))]:=⟨_,rfl⟩;have G:Grows h H':=by rw [hH'];exact S7 Grows.rfl' rfl
   have k2:=(k.mono (Q:=λid=>P id\/h.length<=id) λ_=>.inl).grows G;refine ⟨rcC xr xi (.sl (h.length+4) 0 c.taken.length 1) xb xm c.lost xl xy,H',A1j (n:=0) ?_,G,xr,xi,.sl (h.length+4) 0 c.taken.length 1,xb,xm,xl,xy,ys,rfl,
    ⟨k2.row,k2.ino,?_,k2.blk,k2.mad,k2.mds,k2.tol,k2.par,k2.pr,k2.pi,λid hi=>?_,k2.pb,k2.pm,k2.pl,k2.py⟩⟩
   ·rw [A05,hH'];have ef:E4 [] []=A4 []:=rfl;generalize hC1:rcC xr xi (.sl it ot c.taken.length 1) xb xm c.lost xl xy=C at *;generalize rcC xr xi (.sl (h.length+4) 0 c.taken.length 1) xb xm c.lost xl xy=C' at *;generalize D8 D.length n m=L at *;generalize J3 c.taken=B at *;generalize J3 (c.taken.set j A5)=B' at *;simp only [E7c,E7E,E7m] at hcp;simp only [esc,esh,Nat.reduceAdd,Nat.reduceMul,Nat.reduceLT,E8a,cl1,cl2,ll3,cl8,z8l,hD,l2,a1,hA2,ef,hcp,ad,sb,sc,cl8']
   ·have e3:(c.taken.set j A5).length=c.taken.length:=by simp
    show Has H' (sV (h.length+4) 0 c.taken.length 1) 1 (c.taken.set j A5).length (J3 (c.taken.set j A5));rw [e3];exact Has.row (rw:=A5) (by rw [hH',L5];rfl) (by simp [J3]) (C1e _)
   ·cases hi;exact .inr (by omega)
end
theorem D8Z {m:List (List UInt8)} {x:Int} {a:List UInt8}:B1Y [] m x a=a:=by cases m<;>rfl
theorem E0o {h H:B5} {v:Val} {D:Dev} (hv:Has h v 256 D.length (D5 D)) (hD:okD D) (G:Grows h H) {i:Nat} (hi:i<D.length) :
  ∃ a id off,E1 256 v (iV (i:Int))=A4 a/\B0T H 256 1 a A7 A7=A4 (sV id off 256 1)/\Has H (sV id off 256 1) 1 256 (B4 D[i])/\id<h.length:=by
 rcases hv with ⟨_,h0,_⟩ | ⟨id,off,r,rfl,hr,h1,h2,h3,h4⟩
 ·omega
 ·have cC:off+i*256+256*1<=r.cells.length:=by omega
  have hrH:=G.rd hr;refine ⟨pV id (off+i*256),id,off+i*256,C9 hi,?_,?_,C8 hr⟩
  ·simp only [B0T,hrH,E7h,bound];rw [if_pos ⟨by omega,by omega,cC,C4R h3 h4 (show i*256<D.length*256 by omega) h2⟩];simp
  ·refine Has.part (cs:=r.cells) (rw:=r.rw) hrH cC ?_ (F9 _);rw [<-cV hD hi,<-h3,List.drop_take,List.take_take,E7X]
   congr 1
   omega
section
variable {D:Dev} {n m:Int} {P:Nat->Prop} {h:B5} {c:Cl} {cs:List Cell} {v x7 x8:Val} {q pl pc io is:Nat}
theorem E2J {H:B5} {i m0:Nat} (rc:rd H pc=rT cs) (K:IsRC n P H cs c) (hP:∀ id,P id->id≠io/\id≠is) (bm:c.blocks.length=c.made.length) (hB:c.blocks.length<=1000000) (hmd:∀ b∈c.made,b.length=256) :
  ∀ (e k M:Nat) (y:Cell) (b:List UInt8),k+e=c.blocks.length->e<M->Has H (.c y) 1 256 (B4 b)->b.length=256->InR (λid=>id≠io/\id≠is) y ->
  ∃ y' M',A4j q m0 M v (pV pl 0) (pV pc 0) x7 x8 (iV (i:Int)) (.c y) (iV (k:Int)) H =
   A4j q m0 (M'+1) v (pV pl 0) (pV pc 0) x7 x8 (iV (i:Int)) (.c y') (iV (c.blocks.length:Nat)) H /\
   Has H (.c y') 1 256 (B4 (B1Y (c.blocks.drop k) (c.made.drop k) i b))/\(B1Y (c.blocks.drop k) (c.made.drop k) i b).length=256/\InR (λid=>id≠io/\id≠is) y':=by
 intro e
 induction e with
 | zero =>
  intro k M y b hk hM hy hb hR;obtain ⟨M,rfl⟩:∃ M',M=M'+1:=⟨M-1,by omega⟩;have ek:k=c.blocks.length:=by omega
  subst ek;rw [List.drop_length,D8Z];exact ⟨y,M,rfl,hy,hb,hR⟩
 | succ e ih =>
  intro k M y b hk hM hy hb hR;obtain ⟨M,rfl⟩:∃ M',M=M'+1:=⟨M-1,by omega⟩;have hkl:k<c.blocks.length:=by omega
  have hkm:k<c.made.length:=by omega
  obtain ⟨yr,yi,yt,yb,ym,yl,yy,ys,rfl,kk⟩:=id K;have l3:B8 H (pV pc 3)=A4 (.c yb):=C4 rc rfl rfl;have l4:B8 H (pV pc 4)=A4 (.c ym):=C4 rc rfl rfl;have al:=kk.blk.len;have c0:(k:Int)<(c.blocks.length:Nat):=by omega
  have w1:=D3 (show k+1<9223372036854775808 by omega);obtain ⟨i1,o1,e1,_,hA1,_⟩:=kk.blk.sl (by omega);cases e1;obtain ⟨i2,o2,e2,_,hA2,_⟩:=kk.mad.sl (by omega);cases e2;have a1:E1 1 (sV i1 o1 c.blocks.length 1) (iV (k:Int))=A4 (pV i1 (o1+k)):=by rw [C9 hkl,Nat.mul_one]
  have a2:E1 1 (sV i2 o2 c.made.length 1) (iV (k:Int))=A4 (pV i2 (o2+k)):=by rw [C9 hkm,Nat.mul_one]
  have b1:=hA1 k (.i .i64 c.blocks[k]) (by simp [encI,hkl]);have hyl:=kk.mds.1;have hyk:ys[k]?=A4 (ys[k]'(by omega)):=E66 _;obtain ⟨hp,bb,y1,y2,y3⟩:=kk.mds.2.2 k _ hyk;rw [E66 hkm] at y1;cases y1;have b2:=hA2 k _ hyk;rw [E7d hkl,E7d hkm];have ep:B1Y (c.blocks[k]::c.blocks.drop (k+1)) (c.made[k]::c.made.drop (k+1)) i b=B1Y (c.blocks.drop (k+1)) (c.made.drop (k+1)) i (if c.blocks[k]=i then c.made[k] else b):=rfl;rw [ep];by_cases ce:c.blocks[k]=(i:Int)
  ·rw [if_pos ce];obtain ⟨y',M',f1,f2,f3,f4⟩:=ih (k+1) M _ _ (by omega) (by omega) y3 y2 (λid hi=>hP id (hp id hi));refine ⟨y',M',?_,f2,f3,f4⟩;rw [mZ];simp only [esc,l3,al,c0,a1,b1,ce,l4,a2,b2,A5x,w1];exact f1
  ·rw [if_neg ce];obtain ⟨y',M',f1,f2,f3,f4⟩:=ih (k+1) M _ _ (by omega) (by omega) hy hb hR;refine ⟨y',M',?_,f2,f3,f4⟩;rw [mZ];simp only [esc,l3,al,c0,a1,b1,ce,A5x,w1];exact f1
theorem E2K {H0:B5} {i m0:Nat} (rc:rd H0 pc=rT cs) (K:IsRC n P H0 cs c) (hx:∀ x∈c.ino,x.length=11) (O9:8*(i-2)+9<=c.ino.length) (h2:2<=i) (hi:i<=512) (hio:io<H0.length) (his:is<H0.length) :
  ∀ (e k M:Nat) (y:Cell) (b:List UInt8) (H:B5),k+e=8->e<M->Grows H0 H->Has H (.c y) 1 256 (B4 b)->b.length=256->InR (λid=>id≠io/\id≠is) y ->
  ∃ y' H' M',A4k q m0 M v (pV pl 0) (pV pc 0) x7 x8 (iV (i:Int)) (.c y) (iV (k:Int)) H =
   A4k q m0 (M'+1) v (pV pl 0) (pV pc 0) x7 x8 (iV (i:Int)) (.c y') (iV 8) H'/\Grows H0 H' /\
   Has H' (.c y') 1 256 (B4 (D0F c.ino (8*(i-2)+1) e k b))/\(D0F c.ino (8*(i-2)+1) e k b).length=256/\InR (λid=>id≠io/\id≠is) y':=by
 intro e
 induction e with
 | zero =>
  intro k M y b H hk hM G hy hb hR;obtain ⟨M,rfl⟩:∃ M',M=M'+1:=⟨M-1,by omega⟩;have ek:k=8:=by omega
  subst ek;exact ⟨y,H,M,rfl,G,hy,hb,hR⟩
 | succ e ih =>
  intro k M y b H hk hM G hy hb hR;obtain ⟨M,rfl⟩:∃ M',M=M'+1:=⟨M-1,by omega⟩;obtain ⟨yr,yi,yt,yb,ym,yl,yy,ys,rfl,kk⟩:=K.grows G;have rcH:=G.rd rc;have l1:B8 H (pV pc 1)=A4 (.c yi):=C4 rcH rfl rfl;obtain ⟨j,ej⟩:∃ j,j=8*(i-2)+1+k:=⟨_,rfl⟩;have hj:j<c.ino.length:=by omega
  obtain ⟨ii,oi,ei,_,_,hC⟩:=kk.ino.sl (by omega);cases ei;have c0:(k:Int)<8:=by omega
  have w0:IntKind.wrap .i64 (32*(k:Int))=((32*k:Nat):Int):=by rw [wrap_i64 (by omega) (by omega)];omega
  have w1:IntKind.wrap .i64 ((i:Int)-2)=((i-2:Nat):Int):=by rw [wrap_i64 (by omega) (by omega)];omega
  have w2:IntKind.wrap .i64 (8*((i-2:Nat):Int))=((8*(i-2):Nat):Int):=by rw [wrap_i64 (by omega) (by omega)];omega
  have w3:IntKind.wrap .i64 (((8*(i-2):Nat):Int)+(k:Int))=((8*(i-2)+k:Nat):Int):=by rw [wrap_i64 (by omega) (by omega)];omega
  have w4:IntKind.wrap .i64 (((8*(i-2)+k:Nat):Int)+1)=(j:Int):=by rw [wrap_i64 (by omega) (by omega)];omega
  have w5:=D3 (show k+1<9223372036854775808 by omega);have ad:E1 11 (sV ii oi c.ino.length 11) (iV (j:Int))=A4 (pV ii (oi+j*11)):=C9 hj;have ld:D4 H 11 (pV ii (oi+j*11))=A4 (.a (encI c.ino[j])):=by
   rw [hC (j*11) 11 (by rw [T5 hx];omega),B8x hx hj]
  obtain ⟨x,ex⟩:∃ x,x=c.ino[j]:=⟨_,rfl⟩;have xl:x.length=11:=by rw [ex];exact hx _ (E7J hj)
  rw [<-ex] at ld;have hP:A6R [.a (encI x)] H=A4 (sV H.length 0 32 1,H++[rT (B4 (A7C x))]):=by
   rw [C02 xl];exact B82 (by rw [E72,xl])
  have rl:=B1G xl;obtain ⟨H1,eH1⟩:∃ H1,H1=H++[rT (B4 (A7C x))]:=⟨_,rfl⟩;have lH1:H1.length=H.length+1:=by rw [eH1];simp
  have hL:=nJ (v:=.c y) (u:=sV H.length 0 32 1) (nv:=256) (nu:=32) (l:=b) (data:=A7C x) (a:=((32*k:Nat):Int)) (h:=H1) (by rw [eH1];exact hy.more _) (by rw [eH1];exact Has.row (rw:=A5) (by rw [E9];rfl) (by rw [A9,rl]) (F9 _)) (by omega) (by omega);rw [A0R (by rw [rl,hb];omega),hb] at hL;have G2:Grows H0 (H1++[rT (B4 (J1 b (32*k) (A7C x)))]):=by rw [eH1];exact (G.new _).new _
  have lb:(J1 b (32*k) (A7C x)).length=256:=by rw [P5 (by rw [rl,hb];omega),hb]
  have gl:=G.len;obtain ⟨y',H',M',f1,f2,f3,f4,f5⟩:=ih (k+1) M (.sl H1.length 0 256 1) (J1 b (32*k) (A7C x)) _ (by omega) (by omega) G2 (Has.row (rw:=A5) (by rw [E9];rfl) (by rw [A9,lb]) (F9 _)) lb (λid hid=>by cases hid;constructor<;>omega);have et:D0F c.ino (8*(i-2)+1) (e+1) k b=D0F c.ino (8*(i-2)+1) e (k+1) (J1 b (32*k) (A7C x)):=by
   show D0F c.ino (8*(i-2)+1) e (k+1) (J1 b (32*k) (A7C (c.ino.getD (8*(i-2)+1+k) [])))=_;rw [<-ej,E7e,E66 hj,ex];rfl
  rw [et];refine ⟨y',H',M',?_,f2,f3,f4,f5⟩;rw [<-eH1] at hP;rw [A5A];simp only [esc,c0,w0,l1,w1,w2,w3,w4,ad,ld,hP,hL,w5];exact f1
end
section
variable {D:Dev} {n m:Int} {P:Nat->Prop} {h:B5} {c:Cl} {cs:List Cell} {v:Val} {q:Nat}
structure ImI (D:Dev) (n m:Int) (c:Cl) (cs:List Cell) (h:B5) (i io is:Nat) (ys:List Cell) (H:B5):Prop where
 gr:Grows h H
 rl:rd H h.length=rT (D8 D.length n m)
 rc:rd H (h.length+1)=rT cs
 lo:h.length+2<=io
 ls:h.length+2<=is
 ne:io≠is
 ro:rd H io=rT ys
 rs:rd H is=rT (encI ((U6 0 (c.taken.take i)).map λx:Nat=>(x:Int)))
 md:D3V (λid=>id≠io/\id≠is) H ys ((E7C i).map (B84 D n c))
theorem D7V {i io is M:Nat} {ys:List Cell} {y:Cell} {H:B5} (K:IsRC n P h cs c) (hP:∀ id,P id->id<h.length) (ht:c.taken.length=D.length) (hl:D.length<=512) (hi:i<D.length) (k:ImI D n m c cs h i io is ys H)
  (hy:Has H (.c y) 1 256 (B4 (B84 D n c i))) (hb:(B84 D n c i).length=256) (hR:InR (λid=>id≠io/\id≠is) y) :
  ∃ io' is' ys' H',B3Y q M v (pV h.length 0) (pV (h.length+1) 0) (sV io 0 i 1) (sV is 0 (U6 0 (c.taken.take i)).length 1) (iV (i:Int)) (.c y) H =
   A4i q M v (pV h.length 0) (pV (h.length+1) 0) (sV io' 0 (i+1) 1) (sV is' 0 (U6 0 (c.taken.take (i+1))).length 1) (iV ((i+1:Nat):Int)) H'/\ImI D n m c cs h (i+1) io' is' ys' H':=by
 have ylen:=k.md.1;rw [List.length_map,List.length_range] at ylen;have lio:=C8 k.ro;have lis:=C8 k.rs;have O9:i<c.taken.length:=by omega
 have ef:E4 [Cell.ns] [(0,1,.c y)]=A4 [y]:=rfl;have A1:=one_app (sz:=1) (n:=i) (ys:=[y]) k.ro (by omega) rfl (by omega) (by omega);obtain ⟨H1,eH1⟩:∃ H1,H1=(H++[rT [y]]).set io A7++[rT (ys++[y])]:=⟨_,rfl⟩;rw [<-eH1] at A1;have lH1:H1.length=H.length+2:=by rw [eH1];simp
 have keepR:∀ {id r},rd H id=A4 r->id≠io->rd H1 id=A4 r:=λ{id r} hr T8=>by
  rw [eH1];exact C5 (by rw [B6 (Ne.symm T8)];exact C5 hr)
 have keepH:∀ {x:Cell} {sz w:Nat} {l:List Cell},Has H (.c x) sz w l->nmC x≠A4 io->Has H1 (.c x) sz w l:=λhv hn=>by
  rw [eH1];exact (has_set (hv.more _) (.inr hn)).more _
 have new1:rd H1 (H.length+1)=rT (ys++[y]):=by
  rw [eH1];have:=E9 (h:=(H++[rT [y]]).set io A7) (l:=[rT (ys++[y])]);rw [E7D,E7a] at this;exact this
 have G1:Grows h H1:=by
  rw [eH1];exact (A7z (k.gr.new _) (by have:=k.lo;omega)).new _
 obtain ⟨yr,yi,yt,yb,ym,yl,yy,zs,ec,kk⟩:=K.grows G1;have rc1:rd H1 (h.length+1)=rT cs:=keepR k.rc (by have:=k.lo;omega);have l2:B8 H1 (pV (h.length+1) 2)=A4 (.c yt):=C4 rc1 (by rw [ec];rfl) rfl;obtain ⟨i1,o1,e1,_,hA1,_⟩:=kk.tak.sl (by omega);cases e1;have a1:E1 1 (sV i1 o1 c.taken.length 1) (iV (i:Int))=A4 (pV i1 (o1+i)):=by rw [C9 O9,Nat.mul_one]
 have b1:=hA1 i (.b c.taken[i]) (by simp [J3,O9]);have w1:=D3 (show i+1<9223372036854775808 by omega);have er:(E7C (i+1)).map (B84 D n c)=(E7C i).map (B84 D n c)++[B84 D n c i]:=by rw [List.range_succ,E71];rfl
 have md1:∀ is',is'=is\/H.length+2<=is'->D3V (λid=>id≠H.length+1/\id≠is') H1 (ys++[y]) ((E7C (i+1)).map (B84 D n c)):=by
  intro is' his;have one:∀ (x:Cell) (w:List UInt8),InR (λid=>id≠io/\id≠is) x->w.length=256->Has H (.c x) 1 256 (B4 w)->InR (λid=>id≠H.length+1/\id≠is') x/\Has H1 (.c x) 1 256 (B4 w):=by
   intro x w hx hw hv;refine ⟨λid hid=>?_,keepH hv λe=>(hx _ e).1 rfl⟩;have h1:=A1I hv hid;have h2:=(hx id hid).2;constructor
   ·omega
   ·rcases his with rfl | his
    ·exact h2
    ·omega
  rw [er];refine ⟨by simp [ylen],?_,λj x hj=>?_⟩
  ·have h1:noX [y]=A5:=by
    have:y.isX=A6:=by
     rcases hy with ⟨e,_⟩ | ⟨_,_,_,e,_⟩<;>cases e<;>rfl
    simp [noX,this]
   have h2:=k.md.2.1;unfold noX at h1 h2 ⊢;rw [List.all_append,h1,h2];rfl
  ·by_cases hji:j<i
   ·rw [E7H (by omega)] at hj;obtain ⟨p1,b,p2,p3,p4⟩:=k.md.2.2 j x hj;obtain ⟨q1,q2⟩:=one x b p1 p3 p4;exact ⟨q1,b,by rw [E7H (by simp;exact hji)];exact p2,p3,q2⟩
   ·have ej:j=i:=by
     have:=(List.getElem?_eq_some_iff.1 hj).1;simp at this;omega
    subst ej;have:(ys++[y])[j]?=A4 y:=by rw [E7l (by omega),ylen];simp
    rw [this] at hj;cases hj;obtain ⟨q1,q2⟩:=one y _ hR hb hy;exact ⟨q1,_,by rw [E7l (by simp)];simp,hb,q2⟩
 have es:U6 0 (c.taken.take (i+1))=U6 0 (c.taken.take i)++(if c.taken[i]=A5 then [i] else []):=by
  rw [E7n O9,D2e,E7A,E7t,E73 (by omega)]
 obtain ⟨S,eS⟩:∃ S,S=U6 0 (c.taken.take i):=⟨_,rfl⟩;have rs1:rd H1 is=rT (encI (S.map λx:Nat=>(x:Int))):=by rw [eS];exact keepR k.rs (Ne.symm k.ne)
 have lS:S.length<=i:=by
  rw [eS];have:=(D3N (l:=c.taken.take i) (i:=0)).2;rw [E7A] at this;omega
 rw [es,<-eS];have rl1:rd H1 h.length=rT (D8 D.length n m):=keepR k.rl (by have:=k.lo;omega);have hlo:=k.lo;have hls:=k.ls;cases hb2:c.taken[i] with
 | false =>
  rw [hb2] at b1;rw [if_neg (by decide),E7w];refine ⟨H.length+1,is,ys++[y],H1,?_,⟨G1,rl1,rc1,by omega,hls,by omega,new1,by rw [es,<-eS,hb2,if_neg (by decide),E7w];exact rs1,md1 is (.inl rfl)⟩⟩;rw [A5y];simp only [esc,ef,A1,l2,a1,b1,A5z,w1]
 | true =>
  rw [hb2] at b1;rw [if_pos rfl];have ef2:E4 [o0] [(0,1,iV (i:Int))]=A4 [.i .i64 (i:Int)]:=rfl;have A2:=one_app (sz:=1) (n:=S.length) (ys:=[Cell.i .i64 (i:Int)]) rs1 (by simp [encI]) rfl (by omega) (by omega);obtain ⟨H2,eH2⟩:∃ H2,H2=(H1++[rT [Cell.i .i64 (i:Int)]]).set is A7++[rT (encI (S.map λx:Nat=>(x:Int))++[Cell.i .i64 (i:Int)])]:=⟨_,rfl⟩;rw [<-eH2] at A2;have eE:encI (S.map λx:Nat=>(x:Int))++[Cell.i .i64 (i:Int)]=encI ((S++[i]).map λx:Nat=>(x:Int)):=by simp [encI]
  have keepR2:∀ {id r},rd H1 id=A4 r->id≠is->rd H2 id=A4 r:=λ{id r} hr T8=>by
   rw [eH2];exact C5 (by rw [B6 (Ne.symm T8)];exact C5 hr)
  have new2:rd H2 (H1.length+1)=rT (encI ((S++[i]).map λx:Nat=>(x:Int))):=by
   rw [eH2,<-eE];have:=E9 (h:=(H1++[rT [Cell.i .i64 (i:Int)]]).set is A7) (l:=[rT (encI (S.map λx:Nat=>(x:Int))++[Cell.i .i64 (i:Int)])]);rw [E7D,E7a] at this;exact this
  have G2:Grows h H2:=by
   rw [eH2];exact (A7z (G1.new _) (by omega)).new _
  have md0:=md1 is (.inl rfl);have md2:D3V (λid=>id≠H.length+1/\id≠H1.length+1) H2 (ys++[y]) ((E7C (i+1)).map (B84 D n c)):=by
   refine ⟨md0.1,md0.2.1,λj x hj=>?_⟩;obtain ⟨p1,b,p2,p3,p4⟩:=md0.2.2 j x hj;refine ⟨λid hid=>⟨(p1 id hid).1,?_⟩,b,p2,p3,?_⟩
   ·have:=A1I p4 hid;omega
   ·rw [eH2];exact (has_set (p4.more _) (.inr λe=>(p1 _ e).2 rfl)).more _
  have lS2:(S++[i]).length=S.length+1:=by simp
  refine ⟨H.length+1,H1.length+1,ys++[y],H2,?_,⟨G2,keepR2 rl1 (by omega),keepR2 rc1 (by omega),by omega,by omega,by omega,keepR2 new1 (by omega),by rw [es,<-eS,hb2,if_pos rfl];exact new2,md2⟩⟩;rw [lS2,A5y];simp only [esc,ef,A1,l2,a1,b1,ef2,A2,A5z,w1]
theorem E2I (hv:Has h v 256 D.length (D5 D)) (hD:okD D) (hm:S4 D.length n=A5) (K:IsRC n P h cs c) (hP:∀ id,P id->id<h.length) (ok:ImgOk D n c) (O9:c.ino.length=(n+1).toNat) :
  ∀ (e i M io is:Nat) (ys:List Cell) (H:B5),i+e=D.length->e<M->1000002<=q->ImI D n m c cs h i io is ys H ->
  ∃ io' ys' H',A4i q M v (pV h.length 0) (pV (h.length+1) 0) (sV io 0 i 1) (sV is 0 (U6 0 (c.taken.take i)).length 1) (iV (i:Int)) H=A4 (sV io' 0 D.length 1,H') /\
   Grows h H'/\rd H' io'=rT ys'/\D3V (λ_=>True) H' ys' (vI D n c):=by
 obtain ⟨b16,b512,n8,n128,nm8,nb⟩:=J9.1 hm;have hx:∀ x∈c.ino,x.length=11:=λx hx=>(ok.ino x hx).1
 have lenD:(vI D n c).length=D.length:=by
  obtain ⟨ok1,l1⟩:=B1Z (l:=c.blocks) (m:=c.made) hD ok.md;obtain ⟨ok2,l2⟩:=A52 (e:=(A1W D.length n).toNat) (no:=sW D.length n) ok1;obtain ⟨ok3,l3⟩:=B1J (n:=n) n128 (l:=c.ino) (i:=0) ok2 hx;unfold vI;rw [dJ,l3,l2,l1]
 intro e
 induction e with
 | zero =>
  intro i M io is ys H hi hM hq k;obtain ⟨M,rfl⟩:∃ M',M=M'+1:=⟨M-1,by omega⟩;have ei:i=D.length:=by omega
  subst ei;have et:c.taken.take D.length=c.taken:=by rw [<-ok.tak,List.take_length]
  have rs:=k.rs;rw [et] at rs ⊢;have ylen:=k.md.1;rw [List.length_map,List.length_range] at ylen;have l0:B8 H (pV h.length 0)=A4 (iV (D.length:Nat)):=C4 k.rl rfl rfl;have c0:¬ ((D.length:Nat):Int)<(D.length:Nat):=by omega
  obtain ⟨s1,s2⟩:=D3N (l:=c.taken) (i:=0);have htk:=ok.tak;have hMk:=D0A (x0:=sV is 0 (U6 0 c.taken).length 1) (h:=H) (S:=U6 0 c.taken) (nv:=(U6 0 c.taken).length) (λx hx=>by have:=s1 x hx;omega) (by omega) (Has.row rs (by simp [encI]) (aR _));rw [E0M (by omega)] at hMk;have ad:E1 1 (sV io 0 D.length 1) (iV 1)=A4 (pV io 1):=by
   have:=C9 (k:=.i64) (id:=io) (off:=0) (sz:=1) (len:=D.length) (j:=1) (by omega);exact this
  have lio:=C8 k.ro;obtain ⟨Hm,eHm⟩:∃ Hm,Hm=H++[rT (B4 (fK (U6 0 c.taken)))]:=⟨_,rfl⟩;rw [<-eHm] at hMk;have rom:rd Hm io=rT ys:=by rw [eHm];exact C5 k.ro
  have st:=G9 (x:=.sl H.length 0 256 1) rom (off:=1) (by omega);have lm:(fK (U6 0 c.taken)).length=256:=by unfold fK;rw [dF,zeros_length]
  have GH:Grows h Hm:=by rw [eHm];exact k.gr.new _
  refine ⟨io,_,Hm.set io (rT (ys.set 1 (.sl H.length 0 256 1))),?_,GH.set (by have:=k.lo;omega) _,C6 (C8 rom),?_⟩
  ·rw [vA];simp only [esc,l0,c0,hMk,ad,st]
  ·refine ⟨by rw [E7D,ylen,lenD],?_,λj x hj=>⟨λ_ _=>trivial,?_⟩⟩
   ·have h2:=k.md.2.1;refine List.all_eq_true.2 λx hx=>?_
    rcases E7O hx with hx | rfl
    ·exact List.all_eq_true.1 h2 x hx
    ·rfl
   ·have hjl:j<D.length:=by
     have:=(List.getElem?_eq_some_iff.1 hj).1;rw [E7D] at this;omega
    have hI:=E0z (c:=c) hD hm ok O9 hjl;rw [List.getElem?_set] at hj;by_cases e1:1=j
    ·rw [if_pos e1,if_pos (by omega)] at hj;cases hj;rw [if_pos e1.symm] at hI;refine ⟨_,hI,lm,has_set (Has.row (rw:=A5) (by rw [eHm,E9];rfl) (by rw [A9,lm]) (F9 _)) (.inr λe=>?_)⟩;cases e;omega
    ·rw [if_neg e1] at hj;rw [if_neg (Ne.symm e1)] at hI;obtain ⟨p1,b,p2,p3,p4⟩:=k.md.2.2 j x hj;rw [List.getElem?_map,List.getElem?_range hjl] at p2;cases p2;refine ⟨_,hI,p3,has_set (by rw [eHm];exact p4.more _) (.inr λe=>(p1 _ e).1 rfl)⟩
 | succ e ih =>
  intro i M io is ys H hi hM hq k;obtain ⟨M,rfl⟩:∃ M',M=M'+1:=⟨M-1,by omega⟩;have hiD:i<D.length:=by omega
  have l0:B8 H (pV h.length 0)=A4 (iV (D.length:Nat)):=C4 k.rl rfl rfl;have l3:D4 H 3 (pV h.length 0)=A4 (.a (D8 D.length n m)):=C7 k.rl rfl;have c0:(i:Int)<(D.length:Nat):=by omega
  obtain ⟨a,idv,off,ha,hs,hHv,V5⟩:=E0o hv hD k.gr hiD;have hlo:=k.lo;have hls:=k.ls;have lio:=C8 k.ro;have lis:=C8 k.rs;have okb:D[i].length=256:=hD _ (E7J hiD);have hPn:∀ id,P id->id≠io/\id≠is:=λid hid=>by have:=hP id hid;constructor<;>omega
  obtain ⟨y1,M1,f1,f2,f3,f4⟩:=E2J (v:=v) (x7:=sV io 0 i 1) (x8:=sV is 0 (U6 0 (c.taken.take i)).length 1) (q:=q) (pl:=h.length) (io:=io) (is:=is) (i:=i) (m0:=M) k.rc (K.grows k.gr) hPn ok.bm ok.bl ok.md c.blocks.length 0 q _ _ (by omega) (by have:=ok.bl;omega) hHv okb (λid hid=>by cases hid;constructor<;>omega);rw [E7p,E7p] at f2 f3;obtain ⟨zr,zi,zt,zb,zm,zl,zy,zs,ec,kk⟩:=K.grows k.gr;have lb:B8 H (pV (h.length+1) 3)=A4 (.c zb):=C4 k.rc (by rw [ec];rfl) rfl;have al:=kk.blk.len;have cB:¬ ((c.blocks.length:Nat):Int)<(c.blocks.length:Nat):=by omega
  have hAr:=A4B (b:=D.length) (n:=n) (m:=m) (no:=(i:Int)) (h:=H);have eD:D.getD i []=D[i]:=by rw [E7e,E66 hiD];rfl
  have c00:((0:Nat):Int)=0:=rfl;rw [c00] at f1;by_cases hA:tK D.length n i=3
  ·have h3:2<=i/\((i:Int)-2)*8<n:=by
    unfold tK at hA;split at hA
    ·split at hA
     ·omega
     ·split at hA<;>omega
    ·omega
   have a6:A13 (iV 256) (iV 256)=A4 256:=rfl;obtain ⟨H0,eH0⟩:∃ H0,H0=H++[rT (B4 (zeros 256))]:=⟨_,rfl⟩;have lH0:H0.length=H.length+1:=by rw [eH0];simp
   have G0:Grows h H0:=by rw [eH0];exact k.gr.new _
   obtain ⟨y2,H2,M2,g1,g2,g3,g4,g5⟩:=E2K (v:=v) (x7:=sV io 0 i 1) (x8:=sV is 0 (U6 0 (c.taken.take i)).length 1) (q:=q) (pl:=h.length) (io:=io) (is:=is) (H0:=H0) (i:=i) (m0:=M) (pc:=h.length+1) (by rw [eH0];exact C5 k.rc) (K.grows G0) hx (by omega) h3.1 (by omega) (by omega) (by omega) 8 0 q (.sl H.length 0 256 1) (zeros 256) H0 (by omega) (by omega) Grows.rfl' (by rw [eH0];exact Has.row (rw:=A5) (by rw [E9];rfl) (by rw [A9,zeros_length]) (F9 _)) zeros_length (λid hid=>by cases hid;constructor<;>omega);have er:B84 D n c i=D0F c.ino (8*(i-2)+1) 8 0 (zeros 256):=by unfold B84;rw [if_pos hA]
   rw [<-er] at g3 g4;have GH2:Grows H H2:=(by rw [eH0];exact (Grows.rfl').new _:Grows H H0).trans' g2;have k2:ImI D n m c cs h i io is ys H2:=⟨k.gr.trans' GH2,GH2.rd k.rl,GH2.rd k.rc,hlo,hls,k.ne,GH2.rd k.ro,GH2.rd k.rs,k.md.1,k.md.2.1,λj x hj=>by
    obtain ⟨p1,b,p2,p3,p4⟩:=k.md.2.2 j x hj;exact ⟨p1,b,p2,p3,p4.grows GH2⟩⟩
   obtain ⟨io',is',ys',H',t1,t2⟩:=D7V (q:=q) (M:=M) (v:=v) K hP ok.tak (by omega) hiD k2 g3 g4 g5;obtain ⟨io2,ys2,H3,r1,r2⟩:=ih (i+1) M io' is' ys' H' (by omega) (by omega) hq t2;refine ⟨io2,ys2,H3,?_,r2⟩;rw [hA] at hAr;rw [vA];simp only [esc,l0,c0,ha,hs];refine f1.trans ?_;have c33:((3:Int)=3):=rfl;have c88:¬ (8:Int)<8:=by omega
   rw [c00] at g1;rw [mZ];simp only [esc,lb,al,cB,l3,hAr,a6,nK,<-eH0];refine g1.trans ?_;rw [A5A];simp only [esc,c88];exact t1.trans r1
  ·have er:B84 D n c i=B1Y c.blocks c.made i D[i]:=by unfold B84;rw [if_neg hA,eD]
   rw [<-er] at f2 f3;obtain ⟨io',is',ys',H',t1,t2⟩:=D7V (q:=q) (M:=M) (v:=v) K hP ok.tak (by omega) hiD k f2 f3 f4;obtain ⟨io2,ys2,H3,r1,r2⟩:=ih (i+1) M io' is' ys' H' (by omega) (by omega) hq t2;refine ⟨io2,ys2,H3,?_,r2⟩;rw [vA];simp only [esc,l0,c0,ha,hs];refine f1.trans ?_;rw [mZ];simp only [esc,lb,al,cB,l3,hAr,hA];exact t1.trans r1
theorem D7U (hv:Has h v 256 D.length (D5 D)) (hD:okD D) (hm:S4 D.length n=A5) (K:IsRC n P h cs c) (hP:∀ id,P id->id<h.length) (ok:ImgOk D n c) (O9:c.ino.length=(n+1).toNat) :
  ∃ id ys H',A6X [v,.a (D8 D.length n m),.a cs] h=A4 (sV id 0 D.length 1,H')/\Grows h H'/\rd H' id=rT ys/\D3V (λ_=>True) H' ys (vI D n c):=by
 obtain ⟨b16,_⟩:=J9.1 hm;obtain ⟨H0,eH0⟩:∃ H0,H0=h++[rT (D8 D.length n m),rT cs,rT [],rT [],rT []]:=⟨_,rfl⟩;have et:c.taken.take 0=[]:=rfl;have k0:ImI D n m c cs h 0 (h.length+3) (h.length+4) [] H0:=by
  refine ⟨by rw [eH0];exact S7 Grows.rfl' rfl,by rw [eH0,E9];rfl,by rw [eH0,L5];rfl,by omega,by omega,by omega,by rw [eH0,L5];rfl,by rw [eH0,L5,et];rfl,rfl,rfl,λj x hj=>by simp at hj⟩
 obtain ⟨q,hq⟩:∃ q,q=1000002:=⟨_,rfl⟩;obtain ⟨io',ys',H',e1,e2,e3,e4⟩:=E2I (q:=q) (m:=m) hv hD hm K hP ok O9 D.length 0 q _ _ _ _ (by omega) (by have:=(J9.1 hm).2.1;omega) (by omega) k0;have z0:((0:Nat):Int)=0:=rfl;have z1:(U6 0 (c.taken.take 0)).length=0:=rfl;rw [z0,z1] at e1;refine ⟨io',ys',H',C4e (n:=q) (p:=(_,_)) ?_,e2,e3,e4⟩;have cl1:cells? (.a (D8 D.length n m))=A4 (D8 D.length n m):=rfl;have cl2:cells? (.a cs)=A4 cs:=rfl;rw [C3y];generalize D8 D.length n m=L at *;simp only [esc,Nat.reduceAdd,cl1,cl2,<-eH0];exact e1
end
theorem D5l {l:List Cell} {x:Cell} (h:noX l=A5) (hx:x.isX=A6):noX (l++[x])=A5:=by
 unfold noX at *;rw [List.all_append,h];simp [hx]
section
variable {D:Dev} {n m:Int} {P:Nat->Prop} {h:B5} {c:Cl} {cs:List Cell}
theorem D5H {no:Int} {y:Cell} {b:List UInt8} (k:IsRC n P h cs c) (hy:Has h (.c y) 1 256 (B4 b)) (py:InR P y) (h1:c.blocks.length<=100000) (h2:c.made.length<=100000) (hyx:y.isX=A6) :
  ∃ cs' H',A2E [.a cs,iV no,.c y] h=A4 (.a cs',H')/\Grows h H'/\IsRC n (λid=>P id\/h.length<=id) H' cs' (S5 c no b):=by
 obtain ⟨xr,xi,xt,xb,xm,xl,xy,ys,rfl,k⟩:=k;have hbl:b.length=256:=by have:=hy.length;rw [A9] at this;omega
 obtain ⟨T,hT⟩:∃ T:B5,T=[rT (rcC xr xi xt xb xm c.lost xl xy),rT [Cell.ns,.ns,.ns,.ns,.ns,o0,.ns,.ns]]:=⟨_,rfl⟩;have lT:(h++T).length=h.length+2:=by rw [hT];simp
 have c1:=B5T (H:=h++T) (k.blk.more T) (by omega) (by omega);obtain ⟨K,hK⟩:∃ K,K=h++T++[A7,rT (encI c.blocks)]:=⟨_,rfl⟩;have lK:K.length=h.length+4:=by rw [hK,E7a,lT];rfl
 have rK:rd K (h.length+3)=rT (encI c.blocks):=by rw [hK,hT,E7c,L5];rfl
 have o1:=one_app (ys:=[Cell.i .i64 no]) rK (n:=c.blocks.length) (sz:=1) (by rw [B7];omega) rfl (by omega) (by omega);obtain ⟨K2,hK2⟩:∃ K2,K2=(K++[rT [Cell.i .i64 no]]).set (h.length+3) A7++[rT (encI c.blocks++[Cell.i .i64 no])]:=⟨_,rfl⟩;have lK2:K2.length=h.length+6:=by rw [hK2];simp [lK]
 have G0:Grows h K:=by rw [hK,E7c];exact S7 Grows.rfl' (by rw [hT];rfl)
 have G2:Grows h K2:=by rw [hK2];exact (A7z (G0.new _) (by omega)).new _
 have rc2:rd K2 h.length=rT (rcC xr xi xt xb xm c.lost xl xy):=by
  rw [hK2,D9 (by simp;omega),B6 (by omega),D9 (by omega),hK,hT,E7c,E9];rfl
 have rr2:rd K2 (h.length+1)=rT [Cell.ns,.ns,.ns,.ns,.ns,o0,.ns,.ns]:=by
  rw [hK2,D9 (by simp;omega),B6 (by omega),D9 (by omega),hK,hT,E7c,L5];rfl
 have rb2:rd K2 (h.length+5)=rT (encI (c.blocks++[no])):=by
  have:rd K2 ((K++[rT [Cell.i .i64 no]]).set (h.length+3) A7).length=rT (encI c.blocks++[Cell.i .i64 no]):=by rw [hK2];exact T9
  rw [E7D,E7a,lK] at this;rw [A2Y];exact this
 obtain ⟨K3,hK3⟩:∃ K3,K3=K2.set h.length (rT (rcC xr xi xt (.sl (h.length+5) 0 (c.blocks.length+1) 1) xm c.lost xl xy)):=⟨_,rfl⟩;have lK3:K3.length=h.length+6:=by rw [hK3];simp [lK2]
 have s3:I3 K2 (pV h.length 3) (sV (h.length+5) 0 (c.blocks.length+1) 1)=A4 K3:=by rw [G9 rc2 (by simp [rcC]),hK3];rfl
 have G3:Grows h K3:=by rw [hK3];exact G2.set (E7b _) _
 have rc3:rd K3 h.length=rT (rcC xr xi xt (.sl (h.length+5) 0 (c.blocks.length+1) 1) xm c.lost xl xy):=by rw [hK3];exact C6 (by omega)
 have rr3:rd K3 (h.length+1)=rT [Cell.ns,.ns,.ns,.ns,.ns,o0,.ns,.ns]:=by rw [hK3,B6 (by omega)];exact rr2
 have rb3:rd K3 (h.length+5)=rT (encI (c.blocks++[no])):=by rw [hK3,B6 (by omega)];exact rb2
 have c2:=B5T (H:=K3) (k.mad.grows G3) (by omega) (by omega);obtain ⟨K4,hK4⟩:∃ K4,K4=K3++[A7,rT ys]:=⟨_,rfl⟩;have lK4:K4.length=h.length+8:=by rw [hK4];simp [lK3]
 have rK4:rd K4 (h.length+7)=rT ys:=by
  rw [hK4,show h.length+7=K3.length+1 by omega,L5];rfl
 have o2:=one_app (ys:=[y]) rK4 (n:=c.made.length) (sz:=1) (by rw [k.mds.1];omega) rfl (by omega) (by omega);obtain ⟨K5,hK5⟩:∃ K5,K5=(K4++[rT [y]]).set (h.length+7) A7++[rT (ys++[y])]:=⟨_,rfl⟩;have G4:Grows h K4:=by rw [hK4];exact S7 G3 rfl
 have G5:Grows h K5:=by rw [hK5];exact (A7z (G4.new _) (by omega)).new _
 have old5:∀ id,id<K3.length->rd K5 id=rd K3 id:=λid hid=>by
  rw [hK5,D9 (by simp [lK4];omega),B6 (by omega),D9 (by omega),hK4,D9 hid]
 have rm5:rd K5 (h.length+9)=rT (ys++[y]):=by
  have:rd K5 ((K4++[rT [y]]).set (h.length+7) A7).length=rT (ys++[y]):=by rw [hK5];exact T9
  rw [E7D,E7a,lK4] at this;exact this
 have lK5:K5.length=h.length+10:=by rw [hK5];simp [lK4]
 obtain ⟨C',hC'⟩:∃ C',C'=rcC xr xi xt (.sl (h.length+5) 0 (c.blocks.length+1) 1) (.sl (h.length+9) 0 (c.made.length+1) 1) c.lost xl xy:=⟨_,rfl⟩;obtain ⟨K6,hK6⟩:∃ K6,K6=K5.set h.length (rT C'):=⟨_,rfl⟩;have rc5:rd K5 h.length=rT (rcC xr xi xt (.sl (h.length+5) 0 (c.blocks.length+1) 1) xm c.lost xl xy):=by rw [old5 _ (by omega)];exact rc3
 have s4:I3 K5 (pV h.length 4) (sV (h.length+9) 0 (c.made.length+1) 1)=A4 K6:=by rw [G9 rc5 (by simp [rcC]),hK6,hC'];rfl
 have rc6:rd K6 h.length=rT C':=by rw [hK6];exact C6 (by omega)
 have rr6:rd K6 (h.length+1)=rT [Cell.ns,.ns,.ns,.ns,.ns,o0,.ns,.ns]:=by rw [hK6,B6 (by omega),old5 _ (by omega)];exact rr3
 have l8:D4 K6 8 (pV h.length 0)=A4 (.a C'):=C7 rc6 (by rw [hC'];rfl);have s8:E6 K6 8 (pV (h.length+1) 0) (.a C')=A4 (K6.set (h.length+1) (rT C')):=storeAll rr6 rfl (by rw [hC'];rfl);obtain ⟨K7,hK7⟩:∃ K7,K7=K6.set (h.length+1) (rT C'):=⟨_,rfl⟩;rw [<-hK7] at s8;have l8':D4 K7 8 (pV (h.length+1) 0)=A4 (.a C'):=C7 (by rw [hK7];exact C6 (C8 rr6)) (by rw [hC'];rfl);have G7:Grows h K7:=by rw [hK7,hK6];exact (G5.set (E7b _) _).set (by omega) _
 have old7:∀ id,id≠h.length->id≠h.length+1->rd K7 id=rd K5 id:=λid e1 e2=>by rw [hK7,B6 (Ne.symm e2),hK6,B6 (Ne.symm e1)]
 have k7:=(k.mono (Q:=λid=>P id\/h.length<=id) λ_=>.inl).grows G7;refine ⟨C',K7,C6r (n:=0) ?_,G7,xr,xi,xt,.sl (h.length+5) 0 (c.blocks.length+1) 1,.sl (h.length+9) 0 (c.made.length+1) 1,xl,xy,ys++[y],by rw [hC'];rfl,
  ⟨k7.row,k7.ino,k7.tak,?_,?_,⟨by simp [S5,k.mds.1],D5l k.mds.2.1 hyx,λi z hz=>?_⟩,k7.tol,k7.par,k7.pr,k7.pi,k7.pt,λid hi=>by cases hi;exact .inr (by omega),λid hi=>by cases hi;exact .inr (by omega),k7.pl,k7.py⟩⟩
 ·have cl1:cells? (.a (rcC xr xi xt xb xm c.lost xl xy))=A4 (rcC xr xi xt xb xm c.lost xl xy):=rfl;have ef:E4 [] []=A4 []:=rfl;have ef1:E4 [o0] [(0,1,iV no)]=A4 [.i .i64 no]:=rfl;have ef2:E4 [Cell.ns] [(0,1,.c y)]=A4 [y]:=rfl;have lb:B8 (h++T++[rT []]) (pV h.length 3)=A4 (.c xb):=C4 (cs:=rcC xr xi xt xb xm c.lost xl xy) (rw:=A5) (by rw [hT,E7c,E9];rfl) rfl rfl;have lm:B8 (K3++[rT []]) (pV h.length 4)=A4 (.c xm):=C4 (C5 rc3) rfl rfl;rw [lT] at c1;rw [<-hK] at c1;rw [<-hK2] at o1;rw [lK] at o1;rw [lK3] at c2;rw [<-hK4] at c2;rw [<-hK5] at o2;rw [lK4] at o2;simp only [hT,E7c,E7E,E7m] at c1 lb;rw [C5H];generalize C'=Z at *;simp only [esc,Nat.reduceAdd,cl1,ef,lb,c1,lK,ef1,o1,s3,lK3,lm,c2,lK4,ef2,o2,s4,l8,s8,l8']
 ·show Has K7 (sV (h.length+5) 0 (c.blocks.length+1) 1) 1 (c.blocks++[no]).length (encI (c.blocks++[no]));rw [E7a];exact Has.row (rw:=A5) (by rw [old7 _ (by omega) (by omega),old5 _ (by omega)];exact rb3) (by simp [B7]) (aR _)
 ·show Has K7 (sV (h.length+9) 0 (c.made.length+1) 1) 1 (c.made++[b]).length (ys++[y]);rw [E7a];exact Has.row (rw:=A5) (by rw [old7 _ (by omega) (by omega)];exact rm5) (by simp [k.mds.1]) (D5l k.mds.2.1 hyx)
 ·by_cases hi:i<ys.length
  ·rw [E7H hi] at hz;obtain ⟨q1,b',q2,q3,q4⟩:=k7.mds.2.2 i z hz;refine ⟨q1,b',?_,q3,q4⟩;show (c.made++[b])[i]?=A4 b';rw [E7H (by rw [<-k.mds.1];exact hi)];exact q2
  ·rw [E7l (by omega)] at hz;have e:i-ys.length=0:=by
    have:=(List.getElem?_eq_some_iff.1 hz).1;simp at this;omega
   rw [e] at hz;simp at hz;subst hz;refine ⟨λid hid=>.inl (py id hid),b,?_,hbl,hy.grows G7⟩;show (c.made++[b])[i]?=A4 b;have e2:=k.mds.1;rw [E7l (by omega),show i-c.made.length=0 by omega];rfl
theorem D7X {x:Cell} {l:List Int} {at_:Nat} {v:Int} {nv:Nat} (hx:Has h (.c x) 1 nv (encI l)) (ha:at_<l.length) (hl:l.length<=100000) :
  B5h [.c x,iV (at_:Int),iV v] h=A4 (sV h.length 0 nv 1,h++[rT (encI (l.set at_ v))]):=by
 have hn:nv=l.length:=by have:=hx.length;rw [B7] at this;omega
 subst hn;obtain ⟨T,hT⟩:∃ T:B5,T=[rT []]:=⟨_,rfl⟩;have c1:=B5T (H:=ro h++T) (hx.ro.more T) (by omega) (by omega);have lT:(ro h++T).length=(ro h).length+1:=by rw [hT];simp
 rw [lT,hT] at c1;have ad:E1 1 (sV ((ro h).length+1+1) 0 l.length 1) (iV (at_:Int))=A4 (pV ((ro h).length+2) at_):=by rw [C9 ha];simp
 have st:st1 (rT (encI l)) at_ (.i .i64 v)=rT (encI (l.set at_ v)):=by
  simp only [st1,E7h];rw [if_pos ⟨trivial,by rw [B7];exact ha⟩,aK]
 have key:B4I 0 [.c x,iV (at_:Int),iV v] (ro h)=A4 (sV ((ro h).length+2) 0 l.length 1,ro h++[rT [],A7,rT (encI (l.set at_ v))]):=by
  have ef:E4 [] []=A4 []:=rfl;simp only [E7c,E7E,E7m] at c1;rw [C9z];generalize encI l=E at *;generalize encI (l.set at_ v)=E' at *;simp only [esc,esh,Nat.reduceAdd,Nat.reduceMul,Nat.reduceLT,ef,c1,ad,st]
 exact C6s key ⟨by simp [B7],(ro h).length+2,rfl,by rw [F7];omega,by rw [L5];rfl⟩ B5Z
end
section
variable {D:Dev} {n m:Int} {P:Nat->Prop} {h:B5} {c:Cl} {cs:List Cell} {v:Val}
theorem E1j {dir ino:Int} (hv:Has h v 256 D.length (D5 D)) (hD:okD D) (k:IsRC n P h cs c) (hR:RowW n c) (hr:c.row.length<=100000) (hk:∀ i,0<=(c.lnk i).getD 0/\(c.lnk i).getD 0<1000000) (hn:n<=128) :
  ∃ cs' H',A2F [.a cs,v,.a (D8 D.length n m),iV dir,iV ino] h=A4 (.t [.a cs',.c (.b (iP D n c ino))],H')/\Grows h H'/\IsRC n (λid=>P id\/h.length<=id) H' cs' (dL D n c dir ino):=by
 obtain ⟨xr,xi,xt,xb,xm,xl,xy,ys,rfl,k⟩:=k;have cl1:cells? (.a (rcC xr xi xt xb xm c.lost xl xy))=A4 (rcC xr xi xt xb xm c.lost xl xy):=rfl;have cl2:cells? (.a (D8 D.length n m))=A4 (D8 D.length n m):=rfl;have z8l:[Cell.ns,.ns,.ns,.ns,.ns,o0,.ns,.ns].length=8:=rfl;have cl8:(rcC xr xi xt xb xm c.lost xl xy).length=8:=rfl;have ll3:(D8 D.length n m).length=3:=rfl;have ll1:ld1 (rT (D8 D.length n m)) 1=A4 (iV n):=rfl;have l0:ld1 (rT (rcC xr xi xt xb xm c.lost xl xy)) 0=A4 (.c xr):=by simp only [ld1,rcC];rfl
 have l6:ld1 (rT (rcC xr xi xt xb xm c.lost xl xy)) 6=A4 (.c xl):=by simp only [ld1,rcC];rfl
 have no:iP D n c ino=A6->∀ t:B5,t=[rT (rcC xr xi xt xb xm c.lost xl xy),rT (D8 D.length n m),rT (rcC xr xi xt xb xm c.lost xl xy)] ->
   A9t 0 [.a (rcC xr xi xt xb xm c.lost xl xy),v,.a (D8 D.length n m),iV dir,iV ino] h=A4 (.t [.a (rcC xr xi xt xb xm c.lost xl xy),.c (.b A6)],h++t) ->
   ∃ cs' H',A2F [.a (rcC xr xi xt xb xm c.lost xl xy),v,.a (D8 D.length n m),iV dir,iV ino] h=A4 (.t [.a cs',.c (.b (iP D n c ino))],H')/\Grows h H'/\IsRC n (λid=>P id\/h.length<=id) H' cs' (dL D n c dir ino):=by
  intro hb t ht he;have e2:dL D n c dir ino=c:=by unfold dL;rw [hb];rfl
  rw [hb,e2];have G:Grows h (h++t):=S7 Grows.rfl' (by rw [ht];rfl);exact ⟨_,_,A1k he,G,_,_,_,_,_,_,_,_,rfl,(k.mono λ_=>.inl).grows G⟩
 by_cases c0:ino<2
 ·refine no ?_ _ rfl ?_
  ·unfold iP;by_cases e:ino=1
   ·simp [e]
   ·have:kdV D n ino=0:=by
     by_cases hz:kdV D n ino=0
     ·exact hz
     ·have:=(D6w hz).2;omega
    simp [this]
  ·rw [eY];generalize rcC xr xi xt xb xm c.lost xl xy=C at *;generalize D8 D.length n m=L at *;simp only [esc,esh,Nat.reduceAdd,Nat.reduceMul,Nat.reduceLT,cl1,cl2,c0,cl8,z8l,ll1]
 by_cases c1:ino > n
 ·refine no ?_ _ rfl ?_
  ·unfold iP;have:kdV D n ino=0:=by
    by_cases hz:kdV D n ino=0
    ·exact hz
    ·have:=(D6w hz).2;omega
   simp [this]
  ·rw [eY];generalize rcC xr xi xt xb xm c.lost xl xy=C at *;generalize D8 D.length n m=L at *;simp only [esc,esh,Nat.reduceAdd,Nat.reduceMul,Nat.reduceLT,cl1,cl2,c0,cl8,z8l,ll1,c1]
 obtain ⟨j,rfl⟩:=E7Q (show 0<=ino by omega);have hI:=λt=>sN (n:=n) (m:=m) (i:=(j:Int)) (hv.more t) hD
 have hIn:=λt=>C3c (x:=(j:Int)) (k.row.more t) (by omega)
 have f0:C2u (.a (A14 D n (j:Int))) 0=A4 (iV (kdV D n (j:Int))):=by rw [A7D];rfl
 have E5m:decide ((j:Int)∈c.row)=(c.par (j:Int)).isSome:=by
  rw [Bool.eq_iff_iff,decide_eq_true_eq];exact (hR.par _).symm
 rw [E5m] at hIn;have n1:¬ (j:Int)=1:=by omega
 have eb:iP D n c (j:Int) = !(decide (kdV D n (j:Int)=0)||decide (kdV D n (j:Int)=2)&&(c.par (j:Int)).isSome):=by unfold iP;simp [n1]
 by_cases c2:kdV D n (j:Int)=0
 ·refine no (by rw [eb];simp [c2]) _ rfl ?_;rw [eY];generalize A14 D n (j:Int)=I at *;generalize (c.par (j:Int)).isSome=sn at *;generalize rcC xr xi xt xb xm c.lost xl xy=C at *;generalize D8 D.length n m=L at *;rw [c2] at f0;simp only [esc,esh,Nat.reduceAdd,Nat.reduceMul,Nat.reduceLT,cl1,cl2,c0,cl8,z8l,ll1,c1,ll3,hI,f0,l0,hIn]
 by_cases c3:kdV D n (j:Int)=2/\(c.par (j:Int)).isSome=A5
 ·refine no (by rw [eb];simp [c3.1,c3.2]) _ rfl ?_;rw [c3.2] at hIn;rw [c3.1] at f0;have n20:¬ (2:Int)=0:=by decide
  rw [eY];generalize A14 D n (j:Int)=I at *;generalize rcC xr xi xt xb xm c.lost xl xy=C at *;generalize D8 D.length n m=L at *;simp only [esc,esh,Nat.reduceAdd,Nat.reduceMul,Nat.reduceLT,cl1,cl2,c0,cl8,z8l,ll1,c1,ll3,hI,f0,l0,hIn,n20]
 have hb:iP D n c (j:Int)=A5:=by
  rw [eb];by_cases e:kdV D n (j:Int)=2
  ·have:(c.par (j:Int)).isSome=A6:=by
    cases hs:(c.par (j:Int)).isSome with
    | false=>rfl
    | true=>exact absurd ⟨e,hs⟩ c3
   rw [this];simp [c2]
  ·simp [c2,e]
 have hj:j<(n+1).toNat:=by omega
 have hlj:j<(fJ n c.lnk).length:=by rw [R8];exact hj
 have hyj:j<(fJ n c.par).length:=by rw [R8];exact hj
 obtain ⟨it,ot,et,_,hA,_⟩:=k.tol.sl (by omega);cases et;have a1:E1 1 (sV it ot (n+1).toNat 1) (iV (j:Int))=A4 (pV it (ot+j)):=by rw [C9 hj];simp
 have a2:∀ t,B8 (h++t) (pV it (ot+j))=A4 (iV ((c.lnk (j:Int)).getD 0)):=λt=>by
  obtain ⟨it',ot',et',_,hA',_⟩:=(k.tol.more t).sl (by omega);cases et';exact hA' j _ (by rw [G8,A5J hj];rfl)
 have hkj:=hk (j:Int);have wk:IntKind.wrap .i64 ((c.lnk (j:Int)).getD 0+1)=(c.lnk (j:Int)).getD 0+1:=wrap_i64 (by omega) (by omega);obtain ⟨lk',elk⟩:∃ lk',lk'=vO c.lnk (j:Int) ((c.lnk (j:Int)).getD 0+1):=⟨_,rfl⟩;have eset:=C8f (n:=n) (F:=c.lnk) (i:=j) (v:=(c.lnk (j:Int)).getD 0+1);rw [<-elk] at eset;have S1:=λt=>D7X (at_:=j) (v:=(c.lnk (j:Int)).getD 0+1) (k.tol.more t) hlj (by rw [R8];omega)
 rw [eset] at S1;obtain ⟨C1,hC1⟩:∃ C1,C1=rcC xr xi xt xb xm c.lost (.sl (h.length+3) 0 (n+1).toNat 1) xy:=⟨_,rfl⟩;have sC1:st1 (rT (rcC xr xi xt xb xm c.lost (.sl it ot (n+1).toNat 1) xy)) 6 (.sl (h.length+3) 0 (n+1).toNat 1)=rT C1:=by rw [hC1];rfl
 have C18:C1.length=8:=by rw [hC1];rfl
 cases hsn:(c.par (j:Int)).isSome with
 | true =>
  rw [hsn] at hIn;have e2:dL D n c dir (j:Int)=B1N c (j:Int):=by unfold dL;rw [hb,hsn];rfl
  rw [hb,e2];have nk2:¬ kdV D n (j:Int)=2:=λe=>c3 ⟨e,hsn⟩
  obtain ⟨H',hH'⟩:∃ H',H'=h++[rT C1,rT (D8 D.length n m),rT C1,rT (encI (fJ n lk'))]:=⟨_,rfl⟩;have G:Grows h H':=by rw [hH'];exact S7 Grows.rfl' rfl
  have k2:=(k.mono (Q:=λid=>P id\/h.length<=id) λ_=>.inl).grows G;refine ⟨C1,H',A1k (n:=0) ?_,G,xr,xi,xt,xb,xm,.sl (h.length+3) 0 (n+1).toNat 1,xy,ys,hC1,
   ⟨k2.row,k2.ino,k2.tak,k2.blk,k2.mad,k2.mds,?_,k2.par,k2.pr,k2.pi,k2.pt,k2.pb,k2.pm,λid hi=>by cases hi;exact .inr (by omega),k2.py⟩⟩
  ·rw [eY,hH'];generalize A14 D n (j:Int)=I at *;generalize kdV D n (j:Int)=kd at *;generalize rcC xr xi xt xb xm c.lost (.sl it ot (n+1).toNat 1) xy=C at *;generalize D8 D.length n m=L at *;generalize encI (fJ n lk')=E at *;simp only [esc,esh,Nat.reduceAdd,Nat.reduceMul,Nat.reduceLT,cl1,cl2,c0,cl8,z8l,ll1,c1,ll3,hI,f0,l0,hIn,c2,nk2,l6,a1,a2,wk,S1,sC1,C18,yZ]
  ·show Has H' (sV (h.length+3) 0 (n+1).toNat 1) 1 (n+1).toNat (encI (fJ n (B1N c (j:Int)).lnk));have:(B1N c (j:Int)).lnk=lk':=by rw [elk];rfl
   rw [this];exact Has.row (rw:=A5) (by rw [hH',L5];rfl) (by rw [B7,R8];omega) (aR _)
 | false =>
  rw [hsn] at hIn;have e2:dL D n c dir (j:Int)=D6M (B1N c (j:Int)) dir (j:Int):=by unfold dL;rw [hb,hsn];rfl
  rw [hb,e2];obtain ⟨pa',epa⟩:∃ pa',pa'=vO c.par (j:Int) dir:=⟨_,rfl⟩;have eset2:=C8f (n:=n) (F:=c.par) (i:=j) (v:=dir);rw [<-epa] at eset2;have S2:=λt=>D7X (at_:=j) (v:=dir) (k.par.more t) hyj (by rw [R8];omega)
  rw [eset2] at S2;obtain ⟨C2,hC2⟩:∃ C2,C2=rcC xr xi xt xb xm c.lost (.sl (h.length+3) 0 (n+1).toNat 1) (.sl (h.length+4) 0 (n+1).toNat 1):=⟨_,rfl⟩;have l7:ld1 (rT C1) 7=A4 (.c xy):=by rw [hC1];simp only [ld1,rcC];rfl
  have sC2:st1 (rT C1) 7 (.sl (h.length+4) 0 (n+1).toNat 1)=rT C2:=by rw [hC1,hC2];rfl
  have l0':ld1 (rT C2) 0=A4 (.c xr):=by rw [hC2];simp only [ld1,rcC];rfl
  obtain ⟨T,hT⟩:∃ T:B5,T=[rT C2,rT (D8 D.length n m),rT [Cell.ns,.ns,.ns,.ns,.ns,o0,.ns,.ns],rT (encI (fJ n lk')),rT (encI (fJ n pa'))]:=⟨_,rfl⟩;have cp:=B5T (H:=h++T) (k.row.more T) (by omega) (by omega);have lT:(h++T).length=h.length+5:=by rw [hT];simp
  obtain ⟨K,hK⟩:∃ K,K=h++T++[A7,rT (encI c.row)]:=⟨_,rfl⟩;have lK:K.length=h.length+7:=by rw [hK,E7a,lT];rfl
  have rK:rd K (h.length+6)=rT (encI c.row):=by rw [hK,hT,E7c,L5];rfl
  have op:=one_app (ys:=[Cell.i .i64 (j:Int)]) rK (n:=c.row.length) (sz:=1) (by rw [B7];omega) rfl (by omega) (by omega);have er:encI c.row++[Cell.i .i64 (j:Int)]=encI (c.row++[(j:Int)]):=by simp [encI]
  rw [lK,er] at op;rw [lT] at cp;obtain ⟨C3,hC3⟩:∃ C3,C3=rcC (.sl (h.length+8) 0 (c.row.length+1) 1) xi xt xb xm c.lost (.sl (h.length+3) 0 (n+1).toNat 1) (.sl (h.length+4) 0 (n+1).toNat 1):=⟨_,rfl⟩;have sC3:st1 (rT C2) 0 (.sl (h.length+8) 0 (c.row.length+1) 1)=rT C3:=by rw [hC2,hC3];rfl
  have C38:C3.length=8:=by rw [hC3];rfl
  have ef:E4 [] []=A4 []:=rfl;have ef1:E4 [o0] [(0,1,iV (j:Int))]=A4 [.i .i64 (j:Int)]:=rfl;obtain ⟨H',hH'⟩:∃ H',H'=h++[rT C3,rT (D8 D.length n m),rT C3,rT (encI (fJ n lk')),rT (encI (fJ n pa')),A7,A7,rT [Cell.i .i64 (j:Int)],rT (encI (c.row++[(j:Int)]))]:=⟨_,rfl⟩;have G:Grows h H':=by rw [hH'];exact S7 Grows.rfl' rfl
  have k2:=(k.mono (Q:=λid=>P id\/h.length<=id) λ_=>.inl).grows G;refine ⟨C3,H',A1k (n:=0) ?_,G,.sl (h.length+8) 0 (c.row.length+1) 1,xi,xt,xb,xm,.sl (h.length+3) 0 (n+1).toNat 1,.sl (h.length+4) 0 (n+1).toNat 1,ys,hC3,
   ⟨?_,k2.ino,k2.tak,k2.blk,k2.mad,k2.mds,?_,?_,λid hi=>by cases hi;exact .inr (by omega),k2.pi,k2.pt,k2.pb,k2.pm,λid hi=>by cases hi;exact .inr (by omega),λid hi=>by cases hi;exact .inr (by omega)⟩⟩
  ·rw [hK,hT] at op;rw [hT] at cp;rw [eY,hH'];generalize A14 D n (j:Int)=I at *;generalize kdV D n (j:Int)=kd at *;generalize rcC xr xi xt xb xm c.lost (.sl it ot (n+1).toNat 1) xy=C at *;generalize D8 D.length n m=L at *;generalize encI (fJ n lk')=E at *;generalize encI (fJ n pa')=E2 at *;generalize encI (c.row++[(j:Int)])=R2 at *;generalize encI c.row=R1 at *;simp only [E7c,E7E,E7m] at cp;simp only [esc,Nat.reduceAdd] at op;by_cases nk2:kd=2
   ·rw [nk2] at f0;have n20:¬ (2:Int)=0:=by decide
    simp only [esc,esh,Nat.reduceAdd,Nat.reduceMul,Nat.reduceLT,E77,cl1,cl2,c0,cl8,z8l,ll1,c1,ll3,hI,f0,l0,hIn,n20,l6,a1,a2,wk,S1,sC1,l7,S2,sC2,l0',ef,cp,ef1,op,sC3,C38,yZ]
   ·simp only [esc,esh,Nat.reduceAdd,Nat.reduceMul,Nat.reduceLT,E77,cl1,cl2,c0,cl8,z8l,ll1,c1,ll3,hI,f0,l0,hIn,c2,nk2,l6,a1,a2,wk,S1,sC1,l7,S2,sC2,l0',ef,cp,ef1,op,sC3,C38,yZ]
  ·show Has H' (sV (h.length+8) 0 (c.row.length+1) 1) 1 (c.row++[(j:Int)]).length (encI (c.row++[(j:Int)]));rw [E7a];exact Has.row (rw:=A5) (by rw [hH',L5];rfl) (by simp [B7]) (aR _)
  ·show Has H' (sV (h.length+3) 0 (n+1).toNat 1) 1 (n+1).toNat (encI (fJ n (B1N c (j:Int)).lnk));have:(B1N c (j:Int)).lnk=lk':=by rw [elk];rfl
   rw [this];exact Has.row (rw:=A5) (by rw [hH',L5];rfl) (by rw [B7,R8];omega) (aR _)
  ·show Has H' (sV (h.length+4) 0 (n+1).toNat 1) 1 (n+1).toNat (encI (fJ n (D6M (B1N c (j:Int)) dir (j:Int)).par));have:(D6M (B1N c (j:Int)) dir (j:Int)).par=pa':=by rw [epa];rfl
   rw [this];exact Has.row (rw:=A5) (by rw [hH',L5];rfl) (by rw [B7,R8];omega) (aR _)
end
section
variable {D:Dev} {h:B5} {v:Val}
theorem A0V {no:Int} (hv:Has h v 256 D.length (D5 D)) (hD:okD D) :
  ∃ u t,rD [v,iV no] h=A4 (.c u,h++t)/\t.all B8G=A5/\Has (h++t) (.c u) 1 256 (B4 (blk D no))/\u.isX=A6:=by
 by_cases hin:0<=no/\no<(D.length:Nat)
 ·obtain ⟨i,rfl⟩:=E7Q hin.1;have hi:i<D.length:=by omega
  obtain ⟨u,e1,e2⟩:=C8R hv hD hi;obtain ⟨id,off,eu,_⟩:=e2.sl (by omega);subst eu;refine ⟨.sl id off 256 1,[],by rw [E7w];exact e1,rfl,?_,rfl⟩;rw [E7w,C0R hi];exact e2
 ·have eb:blk D no=zeros 256:=D4x (by omega);rw [eb];have hlen:=hv.ro.len;have mk:A13 (iV 256) (iV 256)=A4 256:=rfl;have rz:rows [Cell.i .u8 0] 256=B4 (zeros 256):=by
   unfold rows;rw [List.flatten_replicate_singleton,I7]
  have key:A0i 0 [v,iV no] (ro h)=A4 (sV ((ro h).length+1) 0 256 1,ro h++[rT [],rT (B4 (zeros 256))]):=by
   rw [A77];by_cases c0:no<0
   ·simp only [esc,c0,mk,rz]
   ·have c1:no>=(D.length:Nat):=by omega
    simp only [esc,c0,hlen,c1,mk,rz]
  have hS:=C0b key (sz:=1) (k:=256) (cs:=B4 (zeros 256)) ⟨by rw [A9,zeros_length],(ro h).length+1,rfl,by rw [F7];omega,by rw [L5];rfl⟩ (by simp);refine ⟨.sl h.length 0 256 1,[rT (B4 (zeros 256))],hS,rfl,?_,rfl⟩;exact Has.row (rw:=A5) (by rw [E9];rfl) (by rw [A9,zeros_length]) (F9 _)
def B5K (D:Dev) (X:List Int) (nm:List UInt8):Int:=if R3 X nm=0 then 0 else D6P ((W7 (blk D (R3 X nm)) nm).map (·.1))
theorem D6S {d:Int} {t:List Int} {nm:List UInt8} (hv:Has h v 256 D.length (D5 D)) (hD:okD D) (ht:t.length=32) (h5:d<=5) (hs:nm.length<9223372036854775807) :
  C0c [v,.a (encI (d::t)),.c (.s nm)] h=A4 (.t [.c (.i .i64 (R3 (d::t) nm)),.c (.i .i64 (B5K D (d::t) nm)),.c (.b (hmS D (d::t) nm).isSome)],h):=by
 have key:∀ g,Has g v 256 D.length (D5 D)->∃ g',B9r 0 [v,.a (encI (d::t)),.c (.s nm)] g=A4 (.t [.c (.i .i64 (R3 (d::t) nm)),.c (.i .i64 (B5K D (d::t) nm)),.c (.b (hmS D (d::t) nm).isSome)],g'):=λg hv=>by
  obtain ⟨G,hG⟩:∃ G,G=g++[rT (encI (d::t))]:=⟨_,rfl⟩;have rG:rd G g.length=rT (encI (d::t)):=by rw [hG,E9];rfl
  have hvG:Has G v 256 D.length (D5 D):=by rw [hG];exact hv.more _
  have hM:=λh=>C3b (s:=nm) hs (h:=h)
  have hP:=λh=>D3B (x:=zF nm) (b:=d) (h:=h) C4O
  rw [D8M h5] at hP;have V5:=D46 (d::t) nm;have eP:zF nm%D1 d=A1L (d::t) nm:=rfl;rw [eP] at hP;have ad:J8 32 1 (pV g.length 1) (iV (A1L (d::t) nm:Nat))=A4 (pV g.length (1+A1L (d::t) nm)):=by rw [D9z (by omega) (by omega)];simp
  have l0:B8 G (pV g.length 0)=A4 (iV d):=C4 rG rfl rfl;have l1:B8 G (pV g.length (1+A1L (d::t) nm))=A4 (iV (R3 (d::t) nm)):=by
   refine C4 rG ?_ rfl;rw [G8,Nat.add_comm,E7S,E66 (by omega)];unfold R3;rw [List.tail_cons,E7e,E66 (by omega)];rfl
  have cl:cells? (.a (encI (d::t)))=A4 (encI (d::t)):=rfl;rw [D2t];by_cases c0:R3 (d::t) nm=0
  ·have e1:B5K D (d::t) nm=0:=by unfold B5K;rw [if_pos c0]
   have e2:hmS D (d::t) nm=A7:=by unfold hmS;rw [if_pos c0]
   rw [e1,e2,c0];rw [c0] at l1;generalize encI (d::t)=X at *;generalize A1L (d::t) nm=P at *;exact ⟨G,by simp only [esc,Nat.reduceAdd,cl,<-hG,hM,l0,hP,ad,l1];rfl⟩
  ·obtain ⟨u,tt,b1,b2,b3,b4⟩:=A0V (no:=R3 (d::t) nm) hvG hD;have hF:=D0B (nm:=nm) b3 (O5 hD);have e1:B5K D (d::t) nm=D6P ((W7 (blk D (R3 (d::t) nm)) nm).map (·.1)):=by unfold B5K;rw [if_neg c0]
   have e2:hmS D (d::t) nm=W7 (blk D (R3 (d::t) nm)) nm:=by unfold hmS;rw [if_neg c0]
   have e3:decide (D6P ((W7 (blk D (R3 (d::t) nm)) nm).map (·.1))>=0)=(W7 (blk D (R3 (d::t) nm)) nm).isSome:=by
    cases W7 (blk D (R3 (d::t) nm)) nm with
    | none=>rfl
    | some x =>
     show decide (((x.1:Nat):Int)>=0)=A5;exact decide_eq_true (by omega)
   rw [e1,e2];have e3':O4 .geq (iV (D6P ((W7 (blk D (R3 (d::t) nm)) nm).map (·.1)))) (iV 0)=A4 (bV (W7 (blk D (R3 (d::t) nm)) nm).isSome):=by rw [C6W,e3]
   generalize D6P ((W7 (blk D (R3 (d::t) nm)) nm).map (·.1))=S at *;generalize (W7 (blk D (R3 (d::t) nm)) nm).isSome=I at *;generalize R3 (d::t) nm=B at *;generalize A1L (d::t) nm=P at *;generalize encI (d::t)=X at *;refine ⟨G++tt,?_⟩;simp only [P9,cl,E7w,<-hG,hM,C8K,D4d,E7t,l0,hP,ad,l1,xM,c0,decide_false,C7s,b1,hF,e3'];rfl
 obtain ⟨g',e⟩:=key (ro h) hv.ro;exact C6n e rfl
theorem D9M {X:List Int} {no:Int} {kk:Nat} {s:List UInt8} {i:Int} (cH:no≠0) (hr:S3 (blk D no) kk=A4 (s,i)) :
  ((hmS D X s).isSome&&decide (R3 X s=no)&&decide (B5K D X s=(kk:Int)))=atH D X (no,(kk,(s,i))):=by
 show _=(decide (R3 X s=no)&&decide (hmS D X s=A4 (kk,(s,i))));by_cases c:R3 X s=no
 ·have c0:¬ R3 X s=0:=by rw [c];exact cH
  unfold hmS B5K;rw [if_neg c0,if_neg c0,c];cases hf:W7 (blk D no) s with
  | none=>simp
  | some x =>
   obtain ⟨h1,h2,h3⟩:=D6o hf;simp only [E7o,decide_true,E7j,Option.map_some,Option.some.injEq];show decide (((x.1:Nat):Int)=(kk:Int))=decide (x=(kk,(s,i)));by_cases e:x.1=kk
   ·rw [e] at h2;rw [hr] at h2;have:x=(kk,(s,i)):=by
     obtain ⟨a,b⟩:=x;simp only at e h2;simp only [Option.some.injEq] at h2;rw [e,<-h2]
    rw [decide_eq_true this,decide_eq_true (by omega)]
   ·rw [decide_eq_false (by omega),decide_eq_false (λh=>e (by rw [h]))]
 ·simp [c]
theorem D5D {x:Val} {l:W0} {s:List UInt8} {nv q:Nat} (hx:Has h x 1 nv (encS l)) (hl:l.length<=100000):∀ (e i M:Nat),i+e=l.length->e<M ->
  C7F q M x (.c (.s s)) (iV (i:Int)) h=A4 (bV (decide (s∈l.drop i)),h)
 | e,i,0,_,hM=>by omega
 | 0,i,M+1,hi,_=>by
  have hn:nv=l.length:=by have:=hx.length;rw [N3] at this;omega
  subst hn;have hlen:=hx.len;have c0:¬ (i:Int)<(l.length:Nat):=by omega
  rw [B3Z,E7k (by omega)];simp only [esc,hlen,c0];simp
 | e+1,i,M+1,hi,hM=>by
  have hn:nv=l.length:=by have:=hx.length;rw [N3] at this;omega
  subst hn;have O9:i<l.length:=by omega
  have hlen:=hx.len;have c0:(i:Int)<(l.length:Nat):=by omega
  have w1:=D3 (show i+1<9223372036854775808 by omega);obtain ⟨id,off,ex,_,hA,_⟩:=id hx |>.sl (by omega)
  have a1:E1 1 x (iV (i:Int))=A4 (pV id (off+i)):=by rw [ex,C9 O9];simp
  have a2:B8 h (pV id (off+i))=A4 (.c (.s l[i])):=hA i _ (by simp [encS,O9]);have ih:=D5D (q:=q) (s:=s) hx hl e (i+1) M (by omega) (by omega);rw [B3Z,E7d O9];by_cases c1:l[i]=s
  ·simp only [esc,hlen,c0,a1,a2,C0M,c1];simp
  ·have:decide (s∈l[i]::l.drop (i+1))=decide (s∈l.drop (i+1)):=by
    have:s∈l[i]::l.drop (i+1)↔s∈l.drop (i+1):=by
     rw [List.mem_cons];exact ⟨λh=>h.resolve_left (λe=>c1 e.symm),.inr⟩
    simp only [this]
   rw [this];simp only [esc,hlen,c0,a1,a2,C0M,c1,w1];exact ih
theorem E4C {x:Val} {l:W0} {s:List UInt8} {nv:Nat} (hx:Has h x 1 nv (encS l)) (hl:l.length<=100000):C0d [x,.c (.s s)] h=A4 (bV (decide (s∈l)),h):=by
 have e:=D5D (q:=l.length+1) (s:=s) hx.ro hl l.length 0 (l.length+1) (by omega) (by omega);rw [E7p] at e;exact C6q (n:=l.length+1) (by rw [D2u];exact e) rfl
end
theorem D4J {D:Dev} {n:Int} {c:Cl}:B5R D n c 0=A6:=by
 unfold B5R;have:jF D.length n 0=A6:=by
  cases h:jF (D.length:Int) n 0 with
  | false=>rfl
  | true =>
   obtain ⟨h1,h2,_⟩:=D5b.1 h;unfold kY sW A1W at h2;rw [h1] at h2;simp only [cond_true] at h2;obtain ⟨_,_,h8,_⟩:=J9.1 h1;omega
 rw [this];rfl
theorem D8m {D:Dev} {n:Int} {c:Cl}:dU D n c 0=c:=by unfold dU;rw [D4J];rfl
theorem D8n {D:Dev} {n:Int} {c:Cl}:U1 D n c 0=0:=by unfold U1;rw [D4J];rfl
theorem gW {D:Dev} {n:Int} {c:Cl} {no:Int}:(dU D n c no).taken.length=c.taken.length:=by
 unfold dU;cases B5R D n c no<;>simp
section
variable {D:Dev} {n m:Int} {P Q:Nat->Prop} {g H:B5} {c:Cl} {cs:List Cell} {v:Val}
abbrev Z8:List Cell:=[.ns,.ns,.ns,.ns,.ns,o0,.ns,.ns]
theorem E0A {x4:Nat} {no:Int} {c0:List Cell} (G:Grows g H) (hg:g.length<=x4) (k:IsRC n Q H cs c) (rx:rd H x4=rT c0) (hc0:c0.length=8) (hQ:∀ id,H.length<id->Q id) (hx:¬ Q x4) (ht:c.taken.length=D.length) (hl:D.length<=1000) :
  ∃ cs' K H1 H2,quiet (H++[A7]) (xJ [.a cs,.a (D8 D.length n m),iV no] (H++[A7]))=A4 (.t [.a cs',.c (.i .i64 (U1 D n c no))],K) /\
   E6 (K.set H.length (rT Z8)) 8 (pV H.length 0) (.a cs')=A4 H1/\D4 H1 8 (pV H.length 0)=A4 (.a cs')/\E6 H1 8 (pV x4 0) (.a cs')=A4 H2 /\
   Grows g H2/\IsRC n Q H2 cs' (dU D n c no)/\rd H2 x4=rT cs'/\H.length<=H2.length/\(∀ j,j<H.length->j≠x4->rd H2 j=rd H j):=by
 have hxl:=C8 rx;obtain ⟨cs',K,e1,e2,e3⟩:=D5G (m:=m) (no:=no) (k.grows (h':=H++[A7]) (S7 Grows.rfl' rfl)) ht hl;have e3:IsRC n Q K cs' (dU D n c no):=e3.mono λid h=>by
  rcases h with h | h
  ·exact h
  ·exact hQ id (by simp at h;omega)
 have hc8:=e3.length;have hKl:H.length+1<=K.length:=by have:=e2.len;simpa using this
 have rn:rd K H.length=A7:=by
  obtain ⟨t,rfl⟩:=e2.1;rw [E7c];unfold rd;rw [E7l (E7b _),E7R];rfl
 have low:∀ j,j<H.length->rd K j=rd H j:=λj hj=>by
  obtain ⟨t,rfl⟩:=e2.1;rw [E7c,D9 hj]
 have GK:Grows g K:=G.trans' ((S7 (t:=[A7]) Grows.rfl' rfl).trans' e2);obtain ⟨K1,hK1⟩:∃ K1,K1=K.set H.length (rT Z8):=⟨_,rfl⟩;obtain ⟨H1,hH1⟩:∃ H1,H1=K1.set H.length (rT cs'):=⟨_,rfl⟩;obtain ⟨H2,hH2⟩:∃ H2,H2=H1.set x4 (rT cs'):=⟨_,rfl⟩;have hgH:=G.len;have rz:rd K1 H.length=rT Z8:=by rw [hK1];exact C6 (by omega)
 have r1:rd H1 H.length=rT cs':=by rw [hH1];exact C6 (by rw [hK1];simp;omega)
 have rx1:rd H1 x4=rT c0:=by rw [hH1,B6 (by omega),hK1,B6 (by omega),low x4 hxl];exact rx
 have eq1:H1=K.set H.length (rT cs'):=by rw [hH1,hK1];simp
 refine ⟨cs',K,H1,H2,by rw [e1];exact U3 e2,?_,C7 r1 hc8,?_,?_,?_,?_,?_,?_⟩
 ·rw [<-hK1,storeAll (n:=8) rz rfl hc8,hH1]
 ·rw [storeAll rx1 hc0 hc8,hH2]
 ·rw [hH2,eq1];exact (GK.set (by omega) _).set hg _
 ·rw [hH2,eq1];exact (e3.set (.inl rn)).set (.inr hx)
 ·rw [hH2];exact C6 (by rw [eq1];simp;omega)
 ·rw [hH2,eq1];simp;omega
 ·intro j hj T8;rw [hH2,B6 (Ne.symm T8),eq1,B6 (by omega)];exact low j hj
theorem E0B {x4:Nat} {no:Int} {c0:List Cell} (G:Grows g H) (hg:g.length<=x4) (k:IsRC n Q H cs c) (rx:rd H x4=rT c0) (hc0:c0.length=8) (hQ:∀ id,H.length<=id->Q id) (hx:¬ Q x4) (ht:c.taken.length=D.length) (hl:D.length<=1000) :
  ∃ cs' K H1 H2,xJ [.a cs,.a (D8 D.length n m),iV no] H=A4 (.t [.a cs',.c (.i .i64 (U1 D n c no))],K) /\
   E6 (K++[rT Z8]) 8 (pV K.length 0) (.a cs')=A4 H1/\D4 H1 8 (pV K.length 0)=A4 (.a cs')/\E6 H1 8 (pV x4 0) (.a cs')=A4 H2 /\
   Grows g H2/\IsRC n Q H2 cs' (dU D n c no)/\rd H2 x4=rT cs'/\H.length<=H2.length/\(∀ j,j<H.length->j≠x4->rd H2 j=rd H j):=by
 have hxl:=C8 rx;obtain ⟨cs',K,e1,e2,e3⟩:=D5G (m:=m) (no:=no) k ht hl;have e3:IsRC n Q K cs' (dU D n c no):=e3.mono λid h=>by
  rcases h with h | h
  ·exact h
  ·exact hQ id h
 have hc8:=e3.length;have hKl:=e2.len;have low:∀ j,j<H.length->rd K j=rd H j:=λj hj=>by
  obtain ⟨t,rfl⟩:=e2.1;rw [D9 hj]
 have GK:Grows g K:=G.trans' e2;obtain ⟨H1,hH1⟩:∃ H1,H1=K++[rT cs']:=⟨_,rfl⟩;obtain ⟨H2,hH2⟩:∃ H2,H2=H1.set x4 (rT cs'):=⟨_,rfl⟩;have rx1:rd H1 x4=rT c0:=by rw [hH1,D9 (by omega),low x4 hxl];exact rx
 refine ⟨cs',K,H1,H2,e1,?_,C7 (by rw [hH1,E9];rfl) hc8,?_,?_,?_,?_,?_,?_⟩
 ·rw [storeAll (n:=8) (cs:=Z8) (by rw [E9];rfl) rfl hc8,V6,hH1];rfl
 ·rw [storeAll rx1 hc0 hc8,hH2]
 ·rw [hH2,hH1];exact (GK.new _).set hg _
 ·rw [hH2,hH1];exact (e3.grows ((Grows.rfl').new _)).set (.inr hx)
 ·rw [hH2];exact C6 (by rw [hH1];simp;omega)
 ·rw [hH2,hH1];simp;omega
 ·intro j hj T8;rw [hH2,B6 (Ne.symm T8),hH1,D9 (by omega)];exact low j hj
theorem fP {h:B5} {x:List Int} {id:Nat} (hr:rd h id=rT (encI x)) {k:Nat} (hk:k<x.length):B8 h (pV id k)=A4 (iV (x.getD k 0)) :=
 C4 hr (by rw [G8,E7e,E66 hk];rfl) rfl
theorem A47:[Cell.ns,.ns,.ns,.ns,.ns,o0,.ns,.ns]=Z8:=rfl
theorem E1c {was:List Int} {x3:Val} {x4 x6 x8 x9 x10 q:Nat} {many:Int} {pre:List Int} (hw:was.length=11) (hpre:pre.length=4) (hg:g.length<=x4/\g.length<=x10) (hx4:¬ Q x4) (E6w:¬ Q x10) (hl:D.length<=1000)
  (n1:x4≠x10) (n2:x4≠x6) (n3:x4≠x9) (n4:x10≠x6) (n5:x10≠x9) (n6:x4≠x8) (n7:x10≠x8) {r8:List Cell} (hm:many<=134) :
  ∀ (e k M:Nat) (c:Cl) (cs:List Cell) (dd:List Int) (H:B5),(k:Int)+e=min many 6->e<M->dd.length=7->Grows g H->(∀ id,H.length<=id->Q id)->IsRC n Q H cs c->c.taken.length=D.length->rd H x4=rT cs->rd H x6=rT (D8 D.length n m)->rd H x8=rT r8->rd H x9=rT (encI was)->rd H x10=rT (encI (pre++dd)) ->
  ∃ cs' H' M',A0t q M v x3 (pV x4 0) (pV x6 0) (pV x8 0) (pV x9 0) (pV x10 0) (iV many) (iV (k:Int)) H =
    A0t q (M'+1) v x3 (pV x4 0) (pV x6 0) (pV x8 0) (pV x9 0) (pV x10 0) (iV many) (iV (min many 6)) H' /\
   Grows g H'/\(∀ id,H'.length<=id->Q id)/\IsRC n Q H' cs' (A7q D n (was.drop 4) e k (c,dd)).1/\rd H' x4=rT cs'/\rd H' x6=rT (D8 D.length n m)/\rd H' x8=rT r8/\rd H' x9=rT (encI was)/\rd H' x10=rT (encI (pre++(A7q D n (was.drop 4) e k (c,dd)).2))/\(A7q D n (was.drop 4) e k (c,dd)).1.taken.length=D.length/\H.length<=H'.length:=by
 intro e
 induction e with
 | zero =>
  intro k M c cs dd H hi hM hd G hQ K ht r4 r6 rr8 r9 r10;obtain ⟨M,rfl⟩:∃ M',M=M'+1:=⟨M-1,by omega⟩;have ei:(k:Int)=min many 6:=by omega
  rw [<-ei];exact ⟨cs,H,M,rfl,G,hQ,K,r4,r6,rr8,r9,r10,ht,E7b _⟩
 | succ e ih =>
  intro k M c cs dd H hi hM hd G hQ K ht r4 r6 rr8 r9 r10;obtain ⟨M,rfl⟩:∃ M',M=M'+1:=⟨M-1,by omega⟩;have k6:(k:Int)<6:=by omega
  have km:(k:Int)<many:=by omega
  have w1:=D3 (show k+1<9223372036854775808 by omega);have l4:D4 H 8 (pV x4 0)=A4 (.a cs):=C7 r4 K.length;have l6:D4 H 3 (pV x6 0)=A4 (.a (D8 D.length n m)):=C7 r6 rfl;have ad:∀ x,J8 6 1 (pV x 4) (iV (k:Int))=A4 (pV x (4+k)):=λx=>by rw [J4 (by omega)];simp
  have lw:B8 H (pV x9 (4+k))=A4 (iV ((was.drop 4).getD k 0)):=by
   rw [fP r9 (by omega)];rw [E7e,E7e,E7W]
  obtain ⟨cs',K1,H1,H2,a1,a2,a3,a4,a5,a6,a7,a8,a9⟩:=E0A (m:=m) (no:=(was.drop 4).getD k 0) G hg.1 K r4 K.length (λid h=>hQ id (by omega)) hx4 ht hl;have E6e:=C8 r10;have l10:(encI (pre++dd)).length=11:=by rw [B7,E7a,hpre,hd]
  have q10:rd H2 x10=rT (encI (pre++dd)):=by rw [a9 _ E6e (Ne.symm n1)];exact r10
  have es:(encI (pre++dd)).set (4+k) (.i .i64 (U1 D n c ((was.drop 4).getD k 0)))=encI (pre++dd.set k (U1 D n c ((was.drop 4).getD k 0))):=by
   rw [aK,E7I _ _ (by omega),hpre,Nat.add_sub_cancel_left]
  obtain ⟨H3,zB⟩:∃ H3,H3=H2.set x10 (rT (encI (pre++dd.set k (U1 D n c ((was.drop 4).getD k 0))))):=⟨_,rfl⟩;have s10:I3 H2 (pV x10 (4+k)) (iV (U1 D n c ((was.drop 4).getD k 0)))=A4 H3:=by rw [G9 q10 (by omega),es,zB]
  have o3:∀ j,j≠x10->rd H3 j=rd H2 j:=λj hj=>by rw [zB,B6 (Ne.symm hj)]
  have lH3:H3.length=H2.length:=by rw [zB];simp
  have ed:A7q D n (was.drop 4) (e+1) k (c,dd)=A7q D n (was.drop 4) e (k+1) (dU D n c ((was.drop 4).getD k 0),dd.set k (U1 D n c ((was.drop 4).getD k 0))):=rfl;rw [ed];obtain ⟨cs2,H',M',f1,f2,f3,f4,f5,f6,f7,f8,f9,f10,f11⟩:=ih (k+1) M _ cs' (dd.set k (U1 D n c ((was.drop 4).getD k 0))) H3 (by omega) (by omega) (by simpa using hd) (by rw [zB];exact a5.set hg.2 _) (λid h=>hQ id (by omega)) (by rw [zB];exact a6.set (.inr E6w)) (by rw [gW];exact ht) (by rw [o3 _ n1];exact a7) (by rw [o3 _ (Ne.symm n4),a9 _ (C8 r6) (Ne.symm n2)];exact r6) (by rw [o3 _ (Ne.symm n7),a9 _ (C8 rr8) (Ne.symm n6)];exact rr8) (by rw [o3 _ (Ne.symm n5),a9 _ (C8 r9) (Ne.symm n3)];exact r9) (by rw [zB];exact C6 (C8 q10));refine ⟨cs2,H',M',?_,f2,f3,f4,f5,f6,f7,f8,f9,f10,by omega⟩;rw [A8w,A47];simp only [esc,Nat.reduceAdd,k6,km,l4,l6,ad,lw,a1,a2,a3,a4,s10,w1];exact f1
end
theorem B8f {b b':List UInt8} {k:Nat} {x:Int} (hk:k<128) (h1:ptP b' k=x) (h2:∀ i,i<128->i≠k->ptP b' i=ptP b i):(bE b 128).set k x=bE b' 128:=by
 rw [B2w,B2w];refine List.ext_getElem? λi=>?_
 rw [List.getElem?_set];by_cases hi:i<128
 ·by_cases e:k=i
  ·subst e;rw [if_pos rfl,if_pos (by simp;exact hi)];simp [hi,h1]
  ·rw [if_neg e];simp [hi,h2 i hi (Ne.symm e)]
 ·rw [E7L (by simp;omega),E7L (by simp;omega)];split
  ·rename_i e;subst e;exact absurd hk hi
  ·rfl
theorem D8y {b:List UInt8} {k:Nat} (hk:k<128):(bE b 128)[k]?=A4 (ptP b k):=by rw [B2w];simp [hk]
section
variable {D:Dev} {n m:Int} {P Q:Nat->Prop} {g H h:B5} {c:Cl} {cs:List Cell} {v:Val}
theorem B1w {many:Int}:∀ {e k:Nat} {s:Cl × List UInt8},(cF D n many e k s).1.taken.length=s.1.taken.length
 | 0,_,_=>rfl
 | e+1,k,s=>by
  rw [cF,B1w];unfold iK;split
  ·rfl
  ·dsimp only;split
   ·exact gW
   ·rfl
theorem E1d {x4 x6 x8 x10 nid q:Nat} {many:Int} {ii:List Int} (hii:ii.length=11) (hg:g.length<=x4/\g.length<=nid) (hx4:¬ Q x4) (E5k:¬ Q nid) (hl:D.length<=1000) (hm:many<=134)
  (n1:x4≠nid) (n2:x4≠x6) (n3:x4≠x8) (n4:x4≠x10) (n5:nid≠x6) (n6:nid≠x8) (n7:nid≠x10) {r8:List Cell} :
  ∀ (e k M:Nat) (s:Cl × List UInt8) (cs:List Cell) (H:B5),k+e=128->e<M->s.2.length=256->Grows g H->(∀ id,H.length<=id->Q id)->IsRC n Q H cs s.1->s.1.taken.length=D.length->rd H x4=rT cs->rd H x6=rT (D8 D.length n m)->rd H x8=rT r8->rd H x10=rT (encI ii)->rd H nid=rT (encI (bE s.2 128)) ->
  ∃ cs' H' M',A7v q M (pV x4 0) (pV x6 0) (pV x8 0) (pV x10 0) (iV many) (sV nid 0 128 1) (iV (k:Int)) H =
    A7v q (M'+1) (pV x4 0) (pV x6 0) (pV x8 0) (pV x10 0) (iV many) (sV nid 0 128 1) (iV 128) H' /\
   Grows g H'/\(∀ id,H'.length<=id->Q id)/\IsRC n Q H' cs' (cF D n many e k s).1/\rd H' x4=rT cs'/\rd H' x8=rT r8/\rd H' x10=rT (encI ii)/\rd H' nid=rT (encI (bE (cF D n many e k s).2 128)):=by
 intro e
 induction e with
 | zero =>
  intro k M s cs H hi hM hs G hQ K ht r4 r6 rr8 r10 rn;obtain ⟨M,rfl⟩:∃ M',M=M'+1:=⟨M-1,by omega⟩;have ei:k=128:=by omega
  subst ei;exact ⟨cs,H,M,rfl,G,hQ,K,r4,rr8,r10,rn⟩
 | succ e ih =>
  intro k M s cs H hi hM hs G hQ K ht r4 r6 rr8 r10 rn;obtain ⟨M,rfl⟩:∃ M',M=M'+1:=⟨M-1,by omega⟩;have hk:k<128:=by omega
  have c0:(k:Int)<128:=by omega
  have w1:=D3 (show k+1<9223372036854775808 by omega);have w6:IntKind.wrap .i64 ((k:Int)+6)=(k:Int)+6:=wrap_i64 (by omega) (by omega);have l4:D4 H 8 (pV x4 0)=A4 (.a cs):=C7 r4 K.length;have l6:D4 H 3 (pV x6 0)=A4 (.a (D8 D.length n m)):=C7 r6 rfl;have ad:E1 1 (sV nid 0 128 1) (iV (k:Int))=A4 (pV nid k):=by rw [C9 hk];simp
  have ln:B8 H (pV nid k)=A4 (iV (ptP s.2 k)):=C4 rn (by rw [G8,D8y hk];rfl) rfl;have nl:(encI (bE s.2 128)).length=128:=by rw [B7,sG]
  have er:cF D n many (e+1) k s=cF D n many e (k+1) (iK D n many s k):=rfl;rw [er];have nC:=C03 (D:=D) (n:=n) (many:=many) hs hk;have wS:=C7N (D:=D) (n:=n) (many:=many) (s:=s) (k:=k);have hft:(iK D n many s k).1.taken.length=D.length:=by
   have:=B1w (D:=D) (n:=n) (many:=many) (e:=1) (k:=k) (s:=s);rw [<-ht];exact this
  have setE:∀ x,x=(if (k:Int)+6<many then U1 D n s.1 (ptP s.2 k) else 0)->(bE s.2 128).set k x=bE (iK D n many s k).2 128:=by
   intro x hx;subst hx;unfold iK;by_cases hz:ptP s.2 k=0
   ·rw [if_pos hz];refine B8f hk ?_ λ_ _ _=>rfl
    rw [hz,D8n];split<;>rfl
   ·rw [if_neg hz];dsimp only;by_cases h6:(k:Int)+6<many
    ·simp only [h6,if_true,decide_true,E7j];by_cases hc:U1 D n s.1 (ptP s.2 k)=0
     ·rw [hc];simp only [decide_true,E8a,cond_false];refine B8f hk ?_ λi hi T8=>?_
      ·rw [C4P hs hk hk];simp
      ·rw [C4P hs hk hi,if_neg T8]
     ·simp only [hc,decide_false,E77,cond_true];have:U1 D n s.1 (ptP s.2 k)=ptP s.2 k:=by
       unfold U1 at hc ⊢;cases hB:B5R D n s.1 (ptP s.2 k) with
       | true=>rfl
       | false=>rw [hB] at hc;exact absurd rfl hc
      rw [this];exact B8f hk rfl λ_ _ _=>rfl
    ·simp only [h6,if_false,decide_false,E7f,cond_false];refine B8f hk ?_ λi hi T8=>?_
     ·rw [C4P hs hk hk];simp
     ·rw [C4P hs hk hi,if_neg T8]
  have clmE:(if (k:Int)+6<many then dU D n s.1 (ptP s.2 k) else s.1)=(iK D n many s k).1:=by
   unfold iK;by_cases hz:ptP s.2 k=0
   ·rw [if_pos hz,hz,D8m];split<;>rfl
   ·rw [if_neg hz]
  by_cases h6:(k:Int)+6<many
  ·rw [if_pos h6] at clmE setE;obtain ⟨cs',K1,H1,H2,a1,a2,a3,a4,a5,a6,a7,a8,a9⟩:=E0A (m:=m) (no:=ptP s.2 k) G hg.1 K r4 K.length (λid h=>hQ id (by omega)) hx4 ht hl;rw [clmE] at a6;have q1:rd H2 nid=rT (encI (bE s.2 128)):=by rw [a9 _ (C8 rn) (Ne.symm n1)];exact rn
   have sn:I3 H2 (pV nid k) (iV (U1 D n s.1 (ptP s.2 k)))=A4 (H2.set nid (rT (encI (bE (iK D n many s k).2 128)))):=by
    rw [G9 q1 (by omega),aK,setE _ rfl]
   obtain ⟨H3,zB⟩:∃ H3,H3=H2.set nid (rT (encI (bE (iK D n many s k).2 128))):=⟨_,rfl⟩;rw [<-zB] at sn;have o3:∀ j,j≠nid->rd H3 j=rd H2 j:=λj hj=>by rw [zB,B6 (Ne.symm hj)]
   have lH3:H3.length=H2.length:=by rw [zB];simp
   obtain ⟨cs2,H',M',f1,f2⟩:=ih (k+1) M (iK D n many s k) cs' H3 (by omega) (by omega) nC (by rw [zB];exact a5.set hg.2 _) (λid h=>hQ id (by omega)) (by rw [zB];exact a6.set (.inr E5k)) hft (by rw [o3 _ n1];exact a7) (by rw [o3 _ (Ne.symm n5),a9 _ (C8 r6) (Ne.symm n2)];exact r6) (by rw [o3 _ (Ne.symm n6),a9 _ (C8 rr8) (Ne.symm n3)];exact rr8) (by rw [o3 _ (Ne.symm n7),a9 _ (C8 r10) (Ne.symm n4)];exact r10) (by rw [zB];exact C6 (C8 q1));refine ⟨cs2,H',M',?_,f2⟩;rw [yY,A47];simp only [esc,Nat.reduceAdd,c0,w6,h6,l4,l6,ad,ln,a1,a2,a3,a4,A8v,sn,w1];exact f1
  ·rw [if_neg h6] at clmE setE;have sn:I3 H (pV nid k) (iV 0)=A4 (H.set nid (rT (encI (bE (iK D n many s k).2 128)))):=by
    rw [G9 rn (by omega),aK,setE _ rfl]
   obtain ⟨H3,zB⟩:∃ H3,H3=H.set nid (rT (encI (bE (iK D n many s k).2 128))):=⟨_,rfl⟩;rw [<-zB] at sn;have o3:∀ j,j≠nid->rd H3 j=rd H j:=λj hj=>by rw [zB,B6 (Ne.symm hj)]
   have lH3:H3.length=H.length:=by rw [zB];simp
   obtain ⟨cs2,H',M',f1,f2⟩:=ih (k+1) M (iK D n many s k) cs H3 (by omega) (by omega) nC (by rw [zB];exact G.set hg.2 _) (λid h=>hQ id (by omega)) (by rw [zB,<-clmE];exact K.set (.inr E5k)) hft (by rw [o3 _ n1];exact r4) (by rw [o3 _ (Ne.symm n5)];exact r6) (by rw [o3 _ (Ne.symm n6)];exact rr8) (by rw [o3 _ (Ne.symm n7)];exact r10) (by rw [zB];exact C6 (C8 rn));refine ⟨cs2,H',M',?_,f2⟩;rw [yY,A47];simp only [esc,Nat.reduceAdd,c0,w6,h6,ad,A8v,sn,w1];exact f1
theorem D15 {x4 x10 ino:Nat} {ii:List Int} (G:Grows g H) (hg:g.length<=x4) (K:IsRC n Q H cs c) (r4:rd H x4=rT cs) (hQ:∀ id,H.length<=id->Q id) (hx4:¬ Q x4) (r10:rd H x10=rT (encI ii)) (hii:ii.length=11) (hin:ino<c.ino.length) (O9:∀ x∈c.ino,x.length=11) (hc:c.ino.length<=1000) (nx:x10≠x4) :
  ∃ v49 p50 H1 cs' H2,B8 (H++[rT []]) (pV x4 1)=A4 v49/\jZ (H++[rT []]) 11 (sV H.length 0 0 11) v49=A4 (sV (H.length+1) 0 c.ino.length 11,p50)/\D4 p50 11 (pV x10 0)=A4 (.a (encI ii)) /\
   E1 11 (sV (H.length+1) 0 c.ino.length 11) (iV (ino:Int))=A4 (pV (H.length+1) (ino*11))/\E6 p50 11 (pV (H.length+1) (ino*11)) (.a (encI ii))=A4 H1/\I3 H1 (pV x4 1) (sV (H.length+1) 0 c.ino.length 11)=A4 H2 /\
   Grows g H2/\IsRC n Q H2 cs' { c with ino:=c.ino.set ino ii }/\rd H2 x4=rT cs'/\H2.length=H.length+2/\(∀ j,j<H.length->j≠x4->rd H2 j=rd H j):=by
 obtain ⟨xr,xi,xt,xb,xm,xl,xy,ys,rfl,k⟩:=K;have hxl:=C8 r4;have h10:=C8 r10;have cp:=B5T (H:=H) k.ino (by omega) (by omega);obtain ⟨p50,hp⟩:∃ p50,p50=H++[A7,rT (U2 c.ino)]:=⟨_,rfl⟩;rw [<-hp] at cp;have lp:p50.length=H.length+2:=by rw [hp];simp
 have rn:rd p50 (H.length+1)=rT (U2 c.ino):=by rw [hp,L5];rfl
 have Gp:Grows g p50:=by rw [hp];exact S7 G rfl
 have old:∀ j,j<H.length->rd p50 j=rd H j:=λj hj=>by rw [hp,D9 hj]
 obtain ⟨H1,hH1⟩:∃ H1,H1=p50.set (H.length+1) (rT (U2 (c.ino.set ino ii))):=⟨_,rfl⟩;have st:E6 p50 11 (pV (H.length+1) (ino*11)) (.a (encI ii))=A4 H1:=by
  rw [B2I rn (by rw [B7,hii]) (by rw [T5 O9];omega),C8c O9 hii hin,hH1]
 obtain ⟨C',hC'⟩:∃ C',C'=rcC xr (.sl (H.length+1) 0 c.ino.length 11) xt xb xm c.lost xl xy:=⟨_,rfl⟩;obtain ⟨H2,hH2⟩:∃ H2,H2=H1.set x4 (rT C'):=⟨_,rfl⟩;have q4:rd H1 x4=rT (rcC xr xi xt xb xm c.lost xl xy):=by rw [hH1,B6 (by omega),old _ hxl];exact r4
 have s4:I3 H1 (pV x4 1) (sV (H.length+1) 0 c.ino.length 11)=A4 H2:=by rw [G9 q4 (by simp [rcC]),hH2,hC'];rfl
 have hgl:=G.len;have G2:Grows g H2:=by rw [hH2,hH1];exact (Gp.set (by omega) _).set hg _
 have kp:=k.grows (h':=p50) (by rw [hp];exact S7 Grows.rfl' rfl);have low:=k.low;have k2:RCF n (λid=>Q id/\id<H.length) H2 c xr xi xt xb xm xl xy ys:=by
  rw [hH2,hH1];refine RCF.set (.inr λh=>hx4 h.1) (RCF.set (.inr λh=>by omega) (RCF.grows ?_ k.low));rw [hp];exact S7 Grows.rfl' rfl
 have k3:=k2.mono (Q:=Q) λid h=>h.1
 refine ⟨.c xi,p50,H1,C',H2,C4 (C5 r4) rfl rfl,cp,C7 (by rw [old _ h10];exact r10) (by rw [B7,hii]),by rw [C9 hin];simp,st,s4,G2,?_,by rw [hH2];exact C6 (by rw [hH1];simp;omega),by rw [hH2,hH1];simp [lp],λj hj T8=>by rw [hH2,B6 (Ne.symm T8),hH1,B6 (by omega),old _ hj]⟩;refine ⟨xr,.sl (H.length+1) 0 c.ino.length 11,xt,xb,xm,xl,xy,ys,hC',⟨k3.row,?_,k3.tak,k3.blk,k3.mad,k3.mds,k3.tol,k3.par,k3.pr,λid hi=>by cases hi;exact hQ _ (by omega),k3.pt,k3.pb,k3.pm,k3.pl,k3.py⟩⟩;have E6d:∀ x∈c.ino.set ino ii,x.length=11:=λx hx=>by
  rcases E7O hx with h1 | h1
  ·exact O9 x h1
  ·rw [h1];exact hii
 show Has H2 (sV (H.length+1) 0 c.ino.length 11) 11 (c.ino.set ino ii).length (U2 (c.ino.set ino ii));rw [E7D];refine Has.row (rw:=A5) ?_ (by rw [T5 E6d,E7D]) (B2C _);rw [hH2,B6 (by omega),hH1];exact C6 (by omega)
end
theorem C7w {D:Dev} (h:A4f D=A5):S4 D.length (A7p D)=A5:=by
 unfold A4f at h;rw [E69] at h;have h1:=h.1;unfold okS at h1;rw [E69,of_decide_eq_true h.2] at h1;exact h1.1
noncomputable section
variable (n m m2:Nat) (a0 a1 a2 x0 x2 x4 x5 x6 x7 x8 x9 x10 x20 x21 x22 x42 x65 x66 x67:Val) (h:B5)
def gB:FD A8:=⟨px 0X1102c82138581332222bc2e1518e04f7d21802b86162e4893cc6489012814893fc648811a102283e848488383c0380718240688164883861a4881983c000484883b395019482e2d2c187601831d8484881de1c8711c182d96488381e2e4881981a062e2d2c1876072152e2d2c60511a070242e2d2c60531a617c12f2e2d2c60622e2d2c605060501061c861e221ac6111ac7a4386e4293960192e2d2c605361348963b916403201188048923b95e033222241637c4e1e121f5404240236c068241de2e42d912a6801e1c695c1916101ac01a118540321048923b92012,[],[.eqA A5 (E68 256 (.i .u8)) (.t 27) (.t 31)],[.tmp 2,.tmp 3],[cal B7G,cal B3w,cal A12]⟩
def A2B:=gB.R
def B8D:AtH:=gB.lj 0 n [m] [x0,x6,x20,x21,x22]
def D3m:AtH:=gB.lj 1 n [m] [x0,x6,x20,x21,x22]
def B0P:=tT [⟨2,5,B8D⟩,⟨2,5,D3m⟩]
def A9B:=mR A2B gB B0P n [a0] h
def zD:=mL gB B0P 0 n [m] [x0,x6,x20,x21,x22] h
def A8J:=mJ gB B0P 1 n [m] [x0,x6,x20,x21,x22] h
def C1Q:=gB.K Tryz.func24
def A2I:=gB.S
theorem A1p:SOk A8 24 A2I:=C1Q.sok
theorem A44:E3f A2B A2I:=C1Q.out2
def J2:FD A8:=⟨px 0X3f85a151aa07c21801a21fa564c2e39c5607c61c564c639c00181824362e2a81621cb7f61cb1f63c171cb28f481cb3601637c61c6381728c485d11a6e5a760522e81811a025a1876052155a760431a070245a760433d617c15b5a760525a7604260515a115a760422cc271de2bc671de23912de39062df6101ac2c1b386101ac281b3862197603301a21fa464c2e39c5607c61c464c639c00181824363a2a861e3697f6691f32c694f6691f328694f6019627c61c02c4c1a3e54042540311a01a21fa364c2e39c5607c61c364c639c0018182461e37c61c13a4c61c12e194d51d54042540301a1e2ec442ed254032,[.c (.b A6)],[],[],[cal oU]⟩
def zL:=J2.R
def yD:AtH:=J2.lj 0 n [] [x0,x4,x5]
def yE:AtH:=J2.lj 1 n [] [x0,x4,x5]
def yF:AtH:=J2.lj 2 n [m] [x0,x6,x7,x42]
def B1P:AtH:=J2.lj 3 n [m] [x0,x6,x7,x42]
def aE:=tT [⟨1,3,yD⟩,⟨1,3,yE⟩,⟨2,4,yF⟩,⟨2,4,B1P⟩]
def qT:=mR zL J2 aE n [a0,a1,a2] h
def fM:=mJ J2 aE 0 n [] [x0,x4,x5] h
def A5L:=mJ J2 aE 1 n [] [x0,x4,x5] h
def Z4:=mL J2 aE 2 n [m] [x0,x6,x7,x42] h
def fN:=mJ J2 aE 3 n [m] [x0,x6,x7,x42] h
def zH:=J2.K Tryz.func61
def nU:=J2.Q
theorem A66:SOk A8 61 nU:=zH.ok
theorem rF:OfT zL nU:=zH.of
def T4:FD A8:=⟨px 0X1131218181de4c181c9393322268818b151ee07c2180621fa64c4c5607c61c64c1bc4d518245dc1ac1362a2a861a262df1af682df33842df3b6062bc6c1ad1181ac18b18a189196272621fa74c4c5607c61c74c1a84d518244fc1981362e2a862ad2bf61a262ad1af682ad33842ad3b606c19911819818b18a1891d1c1962192554bc04ac1c161c1e2e11981a0518b18a1891d1c19621824518b18a1891962631a3702418b18a1891962631a617c118c18b18a18919627218b18a1891962626351061c861c2481884d418b18a189196262192232cc1a15607c585813180621fa24c4c5607c61c24c7c4d518243dc781068803b3e85c1b79394781a1918626263a4c351ac161b3861a1b19858061c1484c5c1b69396019243885d161a241ac5804865e3945d1b1a19186272252e821b1de3b1b2d961a231ac5803845a3951b1a19186262151a191862511a0702462a197c61c164c0384c584b154f1a191862621a191862531a191862506055011a19186252191862432982181de3a192d96111e1023a3e861c5484c61c8283e17191862421ec261de3e182d96121ac3843c39418642421dc01d8241de2e62d912a6801e3a691cc2f16111ac03811864232011b831618181de2c003a3e843222241637c7a2b122c54205242033198018c4112a6801e29691881e16101ac01f17542042103a22d922022,[.c (.b A6)],[.eqA A5 ([.i .i64,.i .i64,.i .i64,.i .i64,.i .i64,.i .i64,.i .i64,.i .i64,.i .i64,.i .i64,.i .i64]) (.t 57) (.t 58)],[.cellN 2 8,.tmp 3],[cal A1p,cal B7G,cal B3w,cal X7,cal C3N,cal A66,cal B22]⟩
def A6w:=T4.R
def A4x:AtH:=T4.lj 0 n [m] [x2,x6,x8,x9,x10]
def D0r:AtH:=T4.lj 1 n [m] [x2,x6,x8,x9,x10]
def B4a:AtH:=T4.lj 2 n [m] [x2,x6,x9,x65,x66,x67]
def D0s:AtH:=T4.lj 3 n [m] [x2,x6,x9,x65,x66,x67]
def rS:=tT [⟨2,5,A4x⟩,⟨2,5,D0r⟩,⟨2,6,B4a⟩,⟨2,6,D0s⟩]
def C3F:=mR A6w T4 rS n [a0] h
def nF:=mL T4 rS 0 n [m] [x2,x6,x8,x9,x10] h
def vL:=mJ T4 rS 1 n [m] [x2,x6,x8,x9,x10] h
def fL:=mL T4 rS 2 n [m] [x2,x6,x9,x65,x66,x67] h
def nE:=mJ T4 rS 3 n [m] [x2,x6,x9,x65,x66,x67] h
def B6L:=T4.K Tryz.func26
def A65:=T4.S
theorem C4k:SOk A8 26 A65:=B6L.sok
theorem B7x:F6 A6w A65:=B6L.flat
def A6d:FD A8:=⟨px 0X11cc2161e07c61c744c61e07c61c644c61e07c61c544c61e07c61c444c61e07c61c344c61e07c61c244c61c1464d2d21201121121224068803a3e841838351221131062ec2112,[],[.eqA A6 ([.i .i64,.i .i64,.i .i64,.i .i64,.i .i64,.i .i64,.i .i64,.i .i64]) (.t 3) (.t 4)],[.tmp 2],[]⟩
def B4L:=A6d.R
def C9C:=mR B4L A6d (tT []) n [a0] h
def C5h:=A6d.K Tryz.func28
def B5u:=A6d.S
theorem C9W:SOk A8 28 B5u:=C5h.sok
theorem C4l:F6 B4L B5u:=C5h.flat
end
abbrev Wr:=Int × List UInt8
def wrC (w:Wr):List Cell:=.i .i64 w.1::B4 w.2
def qJ (l:List Wr):List Cell:=(l.map wrC).flatten
def okW (l:List Wr):Prop:=∀ w∈l,w.2.length=256
theorem A1Z {w:Wr} (h:w.2.length=256):(wrC w).length=257:=by simp [wrC,A9,h]
theorem A51 {w:Wr} {l:List Wr}:qJ (w::l)=wrC w++qJ l:=rfl
theorem D5Z {l m:List Wr}:qJ (l++m)=qJ l++qJ m:=by simp [qJ]
theorem qE:∀ {l:List Wr},okW l->(qJ l).length=l.length*257
 | [],_=>rfl
 | w::l,h=>by
  rw [A51,E7a,A1Z (h w (E7u ..)),qE λx hx=>h x (E7s _ hx),E7g];omega
theorem C8n:∀ (l:List Wr),noX (qJ l)=A5
 | []=>rfl
 | w::l=>by
  have h1:=C8n l;have h2:=F9 w.2;unfold noX at *;rw [A51,List.all_append,h1,wrC,E7P,h2];rfl
theorem C7M:∀ {l:List Wr},N8 (qJ l)=A5
 | []=>rfl
 | w::l=>by
  rw [A51,sF,C7M (l:=l),wrC,B5Y,C7K];rfl
theorem D3U:∀ {l:List Wr} {i:Nat} (h:okW l) (hi:i<l.length),((qJ l).drop (i*257)).take 257=wrC l[i]
 | w::l,0,h,_=>by
  have:=A1Z (h w (E7u ..));simp only [A51,Nat.zero_mul,E7p,List.getElem_cons_zero];rw [List.take_append_of_le_length (by omega),E7i (by omega)]
 | w::l,i+1,h,hi=>by
  have h1:=A1Z (h w (E7u ..));have:=D3U (l:=l) (i:=i) (λx hx=>h x (E7s _ hx)) (by simpa using hi);rw [A51,show (i+1)*257=257+i*257 by omega,<-E7X,List.drop_left' h1];simpa using this
def R9:Dev->Dev->Nat->List Wr
 | w::W,d::D,i=>if w=d then R9 W D (i+1) else ((i:Int),w)::R9 W D (i+1)
 | _,_,_=>[]
theorem B8V:∀ {W D:Dev} {i:Nat},okD W->okW (R9 W D i)/\(R9 W D i).length<=W.length
 | [],_,_,_=>⟨λx hx=>by simp [R9] at hx,by simp [R9]⟩
 | _::_,[],_,_=>⟨λx hx=>by simp [R9] at hx,by simp [R9]⟩
 | w::W,d::D,i,h=>by
  obtain ⟨h1,h2⟩:=B8V (W:=W) (D:=D) (i:=i+1) h.cons.2;unfold R9;split
  ·exact ⟨h1,by simp;omega⟩
  ·exact ⟨λx hx=>by
    rcases List.mem_cons.1 hx with rfl | hx
    ·exact h.cons.1
    ·exact h1 x hx,by simpa using h2⟩
theorem D9C {a:Int} {b:List UInt8} (hb:b.length=256):E4 ([o0]++B4 (zeros 256)) [(0,1,iV a),(1,256,.a (B4 b))]=A4 (wrC (a,b)):=by
 have hl:(B4 b).length=256:=by rw [A9,hb]
 have hz:(B4 (zeros 256)).length=256:=by rw [A9,zeros_length]
 show _=A4 (.i .i64 a::B4 b);generalize B4 (zeros 256)=z at *;generalize B4 b=y at *;simp only [E4,B00,D4A];rw [if_pos ⟨rfl,by simp⟩];have e1:lay ([o0]++z) 0 [.i .i64 a]=.i .i64 a::z:=by simp [lay]
 rw [e1,if_pos ⟨hl,by simp;omega⟩];have e2:lay (Cell.i .i64 a::z) 1 y=.i .i64 a::y:=by
  simp [lay,hl];omega
 rw [e2]
theorem D8c {w:Wr} (hb:w.2.length=256):E4 ([o0]++B4 (zeros 256)) [(0,257,.a (wrC w))]=A4 (wrC w):=by
 have hl:=A1Z hb;have hz:([o0]++B4 (zeros 256)).length=257:=by simp [A9,zeros_length]
 generalize [o0]++B4 (zeros 256)=z at *;generalize wrC w=y at *;simp only [E4,B00];rw [if_pos ⟨hl,by omega⟩,lay_all (by omega)]
section
variable {D W:Dev} {n m:Int} {g:B5} {q:Nat} {x0 x20:Val}
def D9t (v:Val) (id:Nat):Prop:=∀ off n sz,v≠sV id off n sz
theorem C7V {h h':B5} {v:Val} {sz n id:Nat} {cs:List Cell} (hv:Has h v sz n cs) (ho:D9t v id) (hk:∀ i r,i≠id->rd h i=A4 r->rd h' i=A4 r):Has h' v sz n cs:=by
 rcases hv with hv | ⟨j,off,r,rfl,hr,h2⟩
 ·exact .inl hv
 ·exact .inr ⟨j,off,r,rfl,hk j r (λe=>ho off n sz (by rw [e])) hr,h2⟩
theorem B8h {h:B5} {v:Val} {sz n id:Nat} {cs:List Cell} (hv:Has h v sz n cs) (hid:h.length<=id):D9t v id:=by
 intro off k s e;rcases hv with ⟨e1,_⟩ | ⟨j,off,r,e1,hr,h2⟩
 ·rw [e1] at e;cases e
 ·rw [e1] at e;cases e;have:=C8 hr;omega
theorem D80 {b:Nat} {hb:B5} (hD:okD D) (hW:okD W) (hWD:W.length=D.length) (h5:D.length<=1000000) :
  ∀ (e i M:Nat) (l:List Wr) (id:Nat) (h:B5),i+e=W.length->e<M->Low b hb h->b<=id->okW l->l.length<=i->Has h x0 256 D.length (D5 D)->Has h x20 256 W.length (D5 W)->D9t x0 id->D9t x20 id->rd h id=rT (qJ l) ->
  ∃ bF h',B8D q M x0 (sV id 0 l.length 257) x20 (iV (W.length:Nat)) (iV (i:Int)) h=A4 (.t [.c (.sl bF 0 (l++R9 (W.drop i) (D.drop i) i).length 257),.c o0],h') /\
   Low b hb h'/\b<=bF/\rd h' bF=rT (qJ (l++R9 (W.drop i) (D.drop i) i)):=by
 intro e
 induction e with
 | zero =>
  intro i M l id h hi hM hlow hid hl hli h0 h20 n0 n20 hr;obtain ⟨M,rfl⟩:∃ M',M=M'+1:=⟨M-1,by omega⟩;have c0:¬ (i:Int)<(W.length:Nat):=by omega
  have e1:R9 (W.drop i) (D.drop i) i=[]:=by rw [E7k (by omega)];rfl
  rw [e1,E7w];refine ⟨id,h,?_,hlow,hid,hr⟩;rw [zD];simp only [esc,c0]
 | succ e ih =>
  intro i M l id h hi hM hlow hid hl hli h0 h20 n0 n20 hr;obtain ⟨M,rfl⟩:∃ M',M=M'+1:=⟨M-1,by omega⟩;have hiW:i<W.length:=by omega
  have hiD:i<D.length:=by omega
  have c0:(i:Int)<(W.length:Nat):=by omega
  have w1:=D3 (show i+1<9223372036854775808 by omega);obtain ⟨_,_,e1,_,a1,b1⟩:=D26 h20 hW hiW;obtain ⟨G,hG⟩:∃ G,G=h++[rT (B4 W[i])]:=⟨_,rfl⟩;have lGh:h.length<=G.length:=by rw [hG];simp
  have hlG:Low b hb G:=by rw [hG];exact hlow.new _
  have h0G:Has G x0 256 D.length (D5 D):=by rw [hG];exact h0.more _
  have h20G:Has G x20 256 W.length (D5 W):=by rw [hG];exact h20.more _
  obtain ⟨_,_,e2,_,a2,b2⟩:=D26 h0G hD hiD;have st:E6 (h++[rT (B4 (zeros 256))]) 256 (pV h.length 0) (.a (B4 W[i]))=A4 G:=by
   rw [storeAll (cs:=B4 (zeros 256)) (by rw [E9];rfl) (by rw [A9,zeros_length]) (by rw [A9,hW.at hiW]),V6,hG];rfl
  have lG:D4 G 256 (pV h.length 0)=A4 (.a (B4 W[i])):=C7 (by rw [hG,E9];rfl) (by rw [A9,hW.at hiW]);have q1:=D4c (l:=W[i]) (m:=D[i]) (n:=256) (hW.at hiW) (hD.at hiD);have hrG:rd G id=rT (qJ l):=by rw [hG];exact C5 hr
  have hbG:b<=G.length:=by have:=hlG.1;have:=hlG.2.1;omega
  have ed:R9 (W.drop i) (D.drop i) i=if W[i]=D[i] then R9 (W.drop (i+1)) (D.drop (i+1)) (i+1) else ((i:Int),W[i])::R9 (W.drop (i+1)) (D.drop (i+1)) (i+1):=by
   rw [E7d hiW,E7d hiD];rfl
  by_cases cw:W[i]=D[i]
  ·rw [ed,if_pos cw];rw [decide_eq_true cw] at q1;obtain ⟨bF,h',f1,f2,f3,f4⟩:=ih (i+1) M l id G (by omega) (by omega) hlG hid hl (by omega) h0G h20G n0 n20 hrG;generalize l++R9 (W.drop (i+1)) (D.drop (i+1)) (i+1)=P at f1 f4 ⊢;refine ⟨bF,h',?_,f2,f3,f4⟩;rw [zD,I7];generalize B4 W[i]=x at *;generalize B4 D[i]=y at *;generalize B4 (zeros 256)=z at *;simp only [esc,E8a,c0,a1,b1,st,lG,a2,b2,q1,A8J,w1];exact f1
  ·rw [ed,if_neg cw];rw [decide_eq_false cw] at q1;have hwl:((i:Int),W[i]).2.length=256:=hW.at hiW;obtain ⟨h1,p1,p2,p3,p4⟩:=C8H (n:=l.length) (sz:=257) (ys:=wrC ((i:Int),W[i])) hrG (qE hl) (A1Z hwl) (by omega) (by omega);have hok:okW (l++[((i:Int),W[i])]):=λx hx=>by
    rcases List.mem_append.1 hx with hx | hx
    ·exact hl x hx
    ·simp at hx;subst hx;exact hwl
   have ls:(l++[((i:Int),W[i])]).length=l.length+1:=by simp
   obtain ⟨bF,h',f1,f2,f3,f4⟩:=ih (i+1) M (l++[((i:Int),W[i])]) (G.length+1) h1 (by omega) (by omega) (hlG.trans (p4 b hid hbG)) (by omega) hok (by rw [ls];omega) (C7V h0G n0 p3) (C7V h20G n20 p3) (B8h h0G (by omega)) (B8h h20G (by omega)) (by rw [p2,D5Z];simp [qJ]);rw [ls] at f1;rw [E7c] at f1 f4;have eP:[((i:Int),W[i])]++R9 (W.drop (i+1)) (D.drop (i+1)) (i+1)=((i:Int),W[i])::R9 (W.drop (i+1)) (D.drop (i+1)) (i+1):=rfl;rw [eP] at f1 f4;generalize l++((i:Int),W[i])::R9 (W.drop (i+1)) (D.drop (i+1)) (i+1)=P at f1 f4 ⊢;refine ⟨bF,h',?_,f2,f3,f4⟩;have ef:=D9C (a:=(i:Int)) (hW.at hiW);have ef2:=D8c hwl;rw [zD,I7];generalize wrC ((i:Int),W[i])=u at *;generalize B4 W[i]=x at *;generalize B4 D[i]=y at *;generalize B4 (zeros 256)=z at *;simp only [E7E,E7m] at ef ef2;simp only [esc,E77,c0,a1,b1,st,lG,a2,b2,q1,ef,ef2,p1,A8J,w1];exact f1
theorem B8l {D:Dev} {n:Int} (hD:okD D) (hm:S4 D.length n=A5):okD (vI D n (L6 D n))/\(vI D n (L6 D n)).length=D.length:=by
 have okf:=A5g hD hm;obtain ⟨_,_,_,n128,_⟩:=J9.1 hm;have h1:=B1Z (l:=(L6 D n).blocks) (m:=(L6 D n).made) hD okf.md;have h2:=A52 (e:=(A1W D.length n).toNat) (no:=sW D.length n) h1.1;have h3:=B1J (n:=n) n128 (l:=(L6 D n).ino) (i:=0) h2.1 λx hx=>(okf.ino x hx).1
 unfold vI;refine ⟨h3.1.put ?_,by rw [dJ,h3.2,h2.2,h1.2]⟩;unfold fK;rw [dF,zeros_length]
theorem A0A {v:Val} {h:B5} (hv:Has h v 256 D.length (D5 D)) (hD:okD D) (hn:A4f D=A5) (hl:D.length<=1000000) :
  A2I [v] h=A4 (.t [.c (.sl h.length 0 (R9 (vI D (A7p D) (L6 D (A7p D))) D 0).length 257),.c o0],h++[rT (qJ (R9 (vI D (A7p D) (L6 D (A7p D))) D 0))]):=by
 have hm:=C7w hn;obtain ⟨W,hWd⟩:∃ W,W=vI D (A7p D) (L6 D (A7p D)):=⟨_,rfl⟩;have key:∃ id g',A2B (D.length+2) [v] (ro h)=A4 (.t [.c (.sl id 0 (R9 W D 0).length 257),.c o0],g')/\Out (ro h).length g' (sV id 0 (R9 W D 0).length 257) 257 (R9 W D 0).length (qJ (R9 W D 0)):=by
  obtain ⟨f,t,hO,hV⟩:=C9c (h:=ro h++[rT []]) (hv.ro.more _) hD hn (by omega);obtain ⟨H,hHe⟩:∃ H,H=ro h++[rT []]++t:=⟨_,rfl⟩;rw [<-hHe] at hO hV;obtain ⟨n,en⟩:∃ n,n=A7p D:=⟨_,rfl⟩;rw [<-en] at hO hm hWd;generalize D4O D=m at *;have hvH:Has H v 256 D.length (D5 D):=by rw [hHe];exact (hv.ro.more _).more _
  have hS5:E6 (H++[rT [o0,o0,.i .u64 0,.nf]]) 4 (pV H.length 0) (.a (vwC D.length n m f))=A4 (H++[rT (vwC D.length n m f)]):=by rw [L7];rfl
  obtain ⟨K,hK⟩:∃ K,K=H++[rT (vwC D.length n m f),rT []]:=⟨_,rfl⟩;have k4:D4 K 4 (pV H.length 0)=A4 (.a (vwC D.length n m f)):=C7 (by rw [hK,E9];rfl) rfl;have hVK:IsView K f D:=by rw [hK];exact hV.more _
  obtain ⟨cs,t2,hC,hI,D0m⟩:=C2E (h:=K) hD hVK hm;have hq1:=U3 (h:=K) (h':=K++t2) (v:=.a cs) ⟨List.prefix_append _ _,λid x hid hx=>by
   rw [rd_some,E7l hid] at hx;exact List.all_eq_true.1 D0m _ (E7y hx)⟩
  have hIm:=C97 (m:=m) hD (hVK.more t2) hm hI;rw [<-hWd] at hIm;have E0x:okD W/\W.length=D.length:=by rw [hWd];exact B8l hD hm
  obtain ⟨N,hN⟩:∃ N,N=K++t2++[rT (D5 W)]:=⟨_,rfl⟩;have hq2:=U3 (h:=K++t2) (h':=N) (v:=sV (K++t2).length 0 D.length 256) (by rw [hN];exact (Grows.rfl').new _);rw [<-hN] at hIm;have h20:Has N (sV (K++t2).length 0 W.length 256) 256 W.length (D5 W):=by
   rw [hN];exact Has.tr (by rw [E9];rfl) (J0 E0x.1) (dX _)
  have h0N:Has N v 256 D.length (D5 D):=by rw [hN,hK];exact ((hvH.more _).more _).more _
  have lK:(ro h).length<=H.length:=by rw [hHe];simp only [E7a];omega
  have rN:rd N (H.length+1)=rT (qJ []):=by rw [hN,hK];refine C5 (C5 ?_);rw [L5];rfl
  have lN:N.length=H.length+2+t2.length+1:=by rw [hN,hK];simp only [E7a,E7g,E7v]
  obtain ⟨bF,h',f1,f2,f3,f4⟩:=D80 (q:=D.length+2) (b:=(ro h).length) (hb:=N) hD E0x.1 E0x.2 hl W.length 0 (D.length+2) [] (H.length+1) N (by omega) (by omega) (Low.refl (by omega)) (by omega) (λx hx=>by cases hx) (by simp) h0N h20 (B8h hvH (by omega)) (by
   intro off k s e;simp only [Val.c.injEq,Cell.sl.injEq] at e;have e2:=e.1;rw [hK] at e2;simp only [E7a,E7g,E7v] at e2;omega) rN
  rw [E7m,E7p,E7p] at f1 f4;refine ⟨bF,h',?_,?_,bF,rfl,f3,f4⟩
  ·rw [A9B];have c00:((0:Nat):Int)=0:=rfl;have l00:([]:List Wr).length=0:=rfl;rw [c00,l00] at f1;have eK:H++[rT (vwC D.length n m f)]++[rT []]=K:=by rw [hK];simp
   rw [E0x.2] at f1;generalize hV':vwC D.length n m f=V at *;simp only [P9,hO,D9B,List.getElem?_cons_zero,E7S,Option.map_some,D5p,D5q,hS5,D37,eq_self,E7a,E7g,E7v,E7t];simp only [esc,Nat.reduceAdd,eq_self] at *;simp only [<-hK,k4,hC,hq1,hIm,hq2,P9,C4I];exact f1
  ·exact qE (B8V E0x.1).1
 obtain ⟨id,g',e,ho⟩:=key;rw [<-hWd];exact A44 e (by rw [F7] at ho;exact ho) C7M rfl
end
theorem D0u {D:Dev} {v:Val} {h:B5} (hv:Has h v 256 D.length (D5 D)) (hD:okD D) (hn:A4f D=A6) :
  A2I [v] h=A4 (.t [.c (.sl h.length 0 0 257),.c (.i .i64 13)],h++[rT []]):=by
 obtain ⟨t,hO⟩:=D5V (h:=ro h++[rT []]) (hv.ro.more _) hD hn;obtain ⟨H,hHe⟩:∃ H,H=ro h++[rT []]++t:=⟨_,rfl⟩;rw [<-hHe] at hO;have lK:(ro h).length<=H.length:=by rw [hHe];simp only [E7a];omega
 have hS5:E6 (H++[rT [o0,o0,.i .u64 0,.nf]]) 4 (pV H.length 0) (.a (vwC 0 0 0 .nf))=A4 (H++[rT (vwC 0 0 0 .nf)]):=by rw [L7];rfl
 have n13:¬ (13:Int)=0:=by decide
 have key:A2B 0 [v] (ro h)=A4 (.t [.c (.sl (H.length+1) 0 0 257),.c (.i .i64 13)],H++[rT (vwC 0 0 0 .nf),rT []]):=by
  rw [A9B];generalize vwC 0 0 0 .nf=V at *;simp only [esc,Nat.reduceAdd,hO,hS5,n13]
 exact A44 (cs:=[]) key ⟨rfl,H.length+1,rfl,by rw [F7] at lK;omega,by rw [L5];rfl⟩ rfl rfl
theorem E0p {h:B5} {v:Val} {l:List Wr} (hv:Has h v 257 l.length (qJ l)) (hl:okW l) {i:Nat} (hi:i<l.length) :
  ∃ id off,v=sV id off l.length 257/\id<h.length/\E1 257 v (iV (i:Int))=A4 (pV id (off+i*257))/\D4 h 257 (pV id (off+i*257))=A4 (.a (wrC l[i])) /\
   B8 h (pV id (off+i*257))=A4 (iV (l[i]).1):=by
 obtain ⟨id,off,rfl,hid,h1,h2⟩:=hv.sl (by omega);have hat:=D3U hl hi;refine ⟨id,off,rfl,hid,C9 hi,?_,h1 _ _ ?_⟩
 ·rw [h2 (i*257) 257 (by rw [qE hl];omega),hat]
 ·have:(((qJ l).drop (i*257)).take 257)[0]?=A4 (.i .i64 (l[i]).1):=by rw [hat];rfl
  rw [E7G (by omega),E7W] at this;simpa using this
section
variable {D:Dev} {n:Int} {q:Nat} {x13:Val}
theorem D5f {x:List Int} {h:B5} (hx:x.length=8) (hr:∀ a∈x,0<=a/\a<1000000000):B5u [.a (encI x)] h=A4 (iV (x.tail.sum),h):=by
 match x,hx with
 | [a,b,c,d,e,f,g,i],_ =>
  have ha:=hr a (by simp);have hb:=hr b (by simp);have hc:=hr c (by simp);have hd:=hr d (by simp);have he:=hr e (by simp);have hf:=hr f (by simp);have hg:=hr g (by simp);have hi:=hr i (by simp);have key:∀ k,∃ g',B4L 0 [.a (encI [a,b,c,d,e,f,g,i])] k=A4 (iV ([b,c,d,e,f,g,i].sum),g'):=λk=>by
   obtain ⟨K,hK⟩:∃ K,K=k++[rT (encI [a,b,c,d,e,f,g,i])]:=⟨_,rfl⟩;have rK:rd K k.length=rT (encI [a,b,c,d,e,f,g,i]):=by rw [hK,E9];rfl
   have l8:D4 K 8 (pV k.length 0)=A4 (.a (encI [a,b,c,d,e,f,g,i])):=C7 rK rfl;have l1:B8 K (pV k.length 1)=A4 (iV b):=C4 rK rfl rfl;have l2:B8 K (pV k.length 2)=A4 (iV c):=C4 rK rfl rfl;have l3:B8 K (pV k.length 3)=A4 (iV d):=C4 rK rfl rfl;have l4:B8 K (pV k.length 4)=A4 (iV e):=C4 rK rfl rfl;have l5:B8 K (pV k.length 5)=A4 (iV f):=C4 rK rfl rfl;have l6:B8 K (pV k.length 6)=A4 (iV g):=C4 rK rfl rfl;have l7:B8 K (pV k.length 7)=A4 (iV i):=C4 rK rfl rfl;have ef:E4 [o0,o0,o0,o0,o0,o0,o0,o0] []=A4 (encI [0,0,0,0,0,0,0,0]):=rfl;have eq:=D54 (l:=[a,b,c,d,e,f,g,i]) (m:=[0,0,0,0,0,0,0,0]) (n:=8) rfl rfl;have er:E68 8 (Sh.i .i64)=[Sh.i .i64,.i .i64,.i .i64,.i .i64,.i .i64,.i .i64,.i .i64,.i .i64]:=rfl;rw [er] at eq;have cl:cells? (.a (encI [a,b,c,d,e,f,g,i]))=A4 (encI [a,b,c,d,e,f,g,i]):=rfl;have w1:IntKind.wrap .i64 (b+c)=b+c:=wrap_i64 (by omega) (by omega);have w2:IntKind.wrap .i64 (b+c+d)=b+c+d:=wrap_i64 (by omega) (by omega);have w3:IntKind.wrap .i64 (b+c+d+e)=b+c+d+e:=wrap_i64 (by omega) (by omega);have w4:IntKind.wrap .i64 (b+c+d+e+f)=b+c+d+e+f:=wrap_i64 (by omega) (by omega);have w5:IntKind.wrap .i64 (b+c+d+e+f+g)=b+c+d+e+f+g:=wrap_i64 (by omega) (by omega);have w6:IntKind.wrap .i64 (b+c+d+e+f+g+i)=b+c+d+e+f+g+i:=wrap_i64 (by omega) (by omega);rw [C9C];by_cases c0:[a,b,c,d,e,f,g,i]=[0,0,0,0,0,0,0,0]
   ·rw [decide_eq_true c0] at eq;simp only [List.cons.injEq,and_true] at c0;obtain ⟨rfl,rfl,rfl,rfl,rfl,rfl,rfl,rfl⟩:=c0;generalize encI [0,0,0,0,0,0,0,0]=X at *;exact ⟨_,by simp only [esc,Nat.reduceAdd,cl,<-hK,l8,ef,eq]<;>rfl⟩
   ·rw [decide_eq_false c0] at eq;have es:[b,c,d,e,f,g,i].sum=b+c+d+e+f+g+i:=by simp;omega
    rw [es];generalize encI [0,0,0,0,0,0,0,0]=X at *;generalize encI [a,b,c,d,e,f,g,i]=Y at *;exact ⟨_,by simp only [esc,Nat.reduceAdd,cl,<-hK,l8,ef,eq,l1,l2,l3,l4,l5,l6,l7,w1,w2,w3,w4,w5,w6]<;>rfl⟩
  obtain ⟨g',e'⟩:=key (ro h);exact C4l e' rfl
end
def bump (s:List Int) (k:Nat):List Int:=s.set k (s.getD k 0+1)
def BndR (s:List Int) (B:Int):Prop:=s.length=8/\∀ a∈s,0<=a/\a<=B
theorem BndR.mono {s:List Int} {B B':Int} (h:BndR s B) (hb:B<=B'):BndR s B':=⟨h.1,λa ha=>⟨(h.2 a ha).1,Int.le_trans (h.2 a ha).2 hb⟩⟩
theorem BndR.at {s:List Int} {B:Int} (h:BndR s B) {k:Nat} (hk:k<8):0<=s.getD k 0/\s.getD k 0<=B:=by
 have hl:=h.1;rw [E7e,E66 (by omega)];exact h.2 _ (E7J _)
theorem BndR.bump {s:List Int} {B:Int} (h:BndR s B) {k:Nat} (hk:k<8):BndR (bump s k) (B+1):=by
 refine ⟨by simp [Go.Proofs.YtbnkgnfhgbhblaaGreat.bump,h.1],λa ha=>?_⟩;have hb:=h.at hk;rcases E7O ha with h1 | h1
 ·have:=h.2 a h1;omega
 ·omega
def D4K:List Int->List Int->List Int->List Int
 | x::a,y::b,s=>D4K a b (if x≠0/\y=0 then bump s 5 else s)
 | _,_,s=>s
def D0E (was now s:List Int):List Int :=
 D4K (was.drop 4) (now.drop 4) (if now.getD 0 0=2/\was.getD 3 0≠now.getD 3 0 then bump (if was.getD 1 0≠now.getD 1 0 then bump s 3 else s) 4 else if was.getD 1 0≠now.getD 1 0 then bump s 3 else s)
def D1F (kd:Int) (s:List Int):List Int:=if kd≠0 then bump s 2 else s
def A5Y (D:Dev) (n i:Int):List Int:=kdV D n i::lnV D n i::szV D n i::paV D n i::drV D n i
def C09 (D:Dev) (n:Int) (c:Cl) (s:List Int) (i:Int):List Int:=if i∈c.row then D0E (A5Y D n i) (c.ino.getD i.toNat []) s else D1F (kdV D n i) s
def A7F (D:Dev) (n:Int) (c:Cl):Nat->Int->List Int->List Int
 | 0,_,s=>s
 | e+1,i,s=>A7F D n c e (i+1) (C09 D n c s i)
def A4F (used taken:Bool) (s:List Int):List Int:=if taken=A5/\used=A6 then bump s 7 else if taken=A6/\used=A5 then bump s 6 else s
def A3h (D:Dev) (n:Int):List Bool->Nat->List Int->List Int
 | [],_,s=>s
 | t::l,i,s=>A3h D n l (i+1) (A4F (D2i D n (i:Int)) t s)
def C0Z (D:Dev) (n:Int):List Int :=
 A3h D n (L6 D n).taken 0 (A7F D n (L6 D n) n.toNat 1 [((R9 (vI D n (L6 D n)) D 0).length:Nat),(L6 D n).lost,0,0,0,0,0,0])
theorem C8U (D:Dev) (n i:Int):encI (A5Y D n i)=A14 D n i:=by rw [A7D];rfl
theorem yH {D:Dev} {n i:Int}:(A5Y D n i).length=11:=by simp [A5Y,uX]
theorem D17 {D:Dev} {n i:Int}:A5Y D n i=zI 11↔kdV D n i=0:=by
 constructor
 ·intro h;have:(A5Y D n i).getD 0 0=(zI 11).getD 0 0:=by rw [h]
  simpa [A5Y,zI] using this
 ·intro h;have hk:=D7C (D:=D) (n:=n) (i:=i);unfold A5Y lnV szV paV drV;rw [h];cases hc:C4t D n i with
  | false=>rfl
  | true =>
   rw [hc,cond_true,h] at hk;have hc2:=hc;unfold C4t gU A1P at hc2;rw [<-hk] at hc2;simp only [E69,if_true] at hc2;obtain ⟨_,h1,_⟩:=hc2;unfold D2k at h1;obtain ⟨e1,e2,e3,e4⟩:=of_decide_eq_true h1;simp only [cond_true,e1,e2,e3,e4];rfl
def OnlyR (r:Nat) (h h':B5):Prop:=h.length<=h'.length/\∀ j,j<h.length->j≠r->rd h' j=rd h j
theorem OnlyR.refl (r:Nat) (h:B5):OnlyR r h h:=⟨E7b _,λ_ _ _=>rfl⟩
theorem OnlyR.trans {r:Nat} {h h' h'':B5} (a:OnlyR r h h') (b:OnlyR r h' h''):OnlyR r h h'' :=
 ⟨E7K a.1 b.1,λj hj hr=>(b.2 j (by have:=a.1;omega) hr).trans (a.2 j hj hr)⟩
theorem OnlyR.more {r:Nat} {h h':B5} (a:OnlyR r h h') (t:B5):OnlyR r h (h'++t) :=
 ⟨by have:=a.1;simp;omega,λj hj hr=>by rw [D9 (by have:=a.1;omega)];exact a.2 j hj hr⟩
theorem OnlyR.set {r j:Nat} {h h':B5} {x:Option Row} (a:OnlyR r h h') (hj:j=r\/h.length<=j):OnlyR r h (h'.set j x) :=
 ⟨by simpa using a.1,λk hk hr=>by rw [B6 (by omega)];exact a.2 k hk hr⟩
section
variable {h:B5} {r:Nat} {s:List Int} {B:Int}
theorem A5X (hr:rd h r=rT (encI s)) (hs:s.length=8) {k:Nat} (hk:k<8):B8 h (pV r k)=A4 (iV (s.getD k 0)) :=
 C4 hr (by rw [G8,E7e,E66 (by omega)];rfl) rfl
theorem A0X (hr:rd h r=rT (encI s)) (hs:s.length=8) {k:Nat} (hk:k<8):I3 h (pV r k) (iV (s.getD k 0+1))=A4 (h.set r (rT (encI (bump s k)))):=by
 rw [G9 hr (by rw [B7];omega),aK];rfl
theorem D9W {q ra rb:Nat} {a b:List Int} (ha:a.length=7) (hb:b.length=7):∀ (e i M:Nat) (B:Int) (s:List Int) (h:B5),i+e=7->e<M->BndR s B->B+e<=1000000->rd h r=rT (encI s)->rd h ra=rT (encI a)->rd h rb=rT (encI b)->ra≠r->rb≠r ->
  ∃ h',yF q M (pV r 0) (pV ra 0) (pV rb 0) (iV (i:Int)) h=A4 (.t [],h')/\rd h' r=rT (encI (D4K (a.drop i) (b.drop i) s))/\OnlyR r h h'/\BndR (D4K (a.drop i) (b.drop i) s) (B+e):=by
 intro e
 induction e with
 | zero =>
  intro i M B s h hi hM hB hB2 hr h1 h2 n1 n2;obtain ⟨M,rfl⟩:∃ M',M=M'+1:=⟨M-1,by omega⟩;have c0:¬ (i:Int)<7:=by omega
  have e1:D4K (a.drop i) (b.drop i) s=s:=by rw [E7k (by omega)];rfl
  rw [e1];refine ⟨h,?_,hr,OnlyR.refl r h,hB.mono (by omega)⟩;rw [Z4];simp only [esc,c0];rfl
 | succ e ih =>
  intro i M B s h hi hM hB hB2 hr h1 h2 n1 n2;obtain ⟨M,rfl⟩:∃ M',M=M'+1:=⟨M-1,by omega⟩;have hia:i<a.length:=by omega
  have hib:i<b.length:=by omega
  have c0:(i:Int)<7:=by omega
  have w1:=D3 (show i+1<9223372036854775808 by omega);have a1:∀ x,J8 7 1 (pV x 0) (iV (i:Int))=A4 (pV x i):=λx=>by rw [J4 (by omega)];simp
  have la:B8 h (pV ra i)=A4 (iV a[i]):=C4 h1 (by rw [G8,E66 hia];rfl) rfl;have lb:B8 h (pV rb i)=A4 (iV b[i]):=C4 h2 (by rw [G8,E66 hib];rfl) rfl;have ed:D4K (a.drop i) (b.drop i) s=D4K (a.drop (i+1)) (b.drop (i+1)) (if a[i]≠0/\b[i]=0 then bump s 5 else s):=by
   rw [E7d hia,E7d hib];rfl
  have l5:=A5X hr hB.1 (k:=5) (by omega);have s5:=A0X hr hB.1 (k:=5) (by omega);have h5:=hB.at (k:=5) (by omega);have w5:IntKind.wrap .i64 (s.getD 5 0+1)=s.getD 5 0+1:=wrap_i64 (by omega) (by omega);rw [ed];by_cases ca:a[i]=0
  ·rw [if_neg (λh=>h.1 ca)];obtain ⟨h',f1,f2,f3,f4⟩:=ih (i+1) M B s h (by omega) (by omega) hB (by omega) hr h1 h2 n1 n2;refine ⟨h',?_,f2,f3,f4.mono (by omega)⟩;rw [Z4];simp only [esc,c0,a1,la,ca,fN,w1];exact f1
  ·by_cases cb:b[i]=0
   ·rw [if_pos ⟨ca,cb⟩];obtain ⟨h',f1,f2,f3,f4⟩:=ih (i+1) M (B+1) (bump s 5) _ (by omega) (by omega) (hB.bump (by omega)) (by omega) (C6 (C8 hr)) (by rw [B6 (Ne.symm n1)];exact h1) (by rw [B6 (Ne.symm n2)];exact h2) n1 n2;refine ⟨h',?_,f2,(((OnlyR.refl r h).set (.inl rfl)).trans f3),f4.mono (by omega)⟩;rw [Z4];simp only [esc,Nat.reduceAdd,c0,a1,la,ca,lb,cb,l5,w5,s5,fN,w1];exact f1
   ·rw [if_neg (λh=>cb h.2)];obtain ⟨h',f1,f2,f3,f4⟩:=ih (i+1) M B s h (by omega) (by omega) hB (by omega) hr h1 h2 n1 n2;refine ⟨h',?_,f2,f3,f4.mono (by omega)⟩;rw [Z4];simp only [esc,c0,a1,la,ca,lb,cb,fN,w1];exact f1
end
end Go.Proofs.YtbnkgnfhgbhblaaGreat
