/- What the proof of this claim leans on, part 6. -/
import Derived.Test.YtbipebfdappanaaGreatFMendWholep5
set_option linter.all false
set_option maxRecDepth 100000
open Go Go.Esc
noncomputable section
open List renaming length->l_,all_cons->E9p,all_eq_true->E8O,append_assoc->E8t,append_nil->E8C,cons_append->E89,drop_eq_getElem_cons->E8s,drop_of_length_le->E8x,drop_zero->E8y,ext_getElem?->E9z,filter_append->E9x,filter_cons_of_neg->E9k,filter_cons_of_pos->E9l,foldl_cons->E9q,getD_eq_getElem?_getD->E8k,getElem?_cons_succ->E8F,getElem?_cons_zero->E84,getElem?_eq_getElem->E8h,getElem?_eq_none->E8P,getElem?_eq_some_iff->E8p,getElem?_set->E9n,getElem?_set_ne->E9r,getElem?_take_of_lt->E86,getElem_mem->E8M,length_append->E8o,length_cons->E8w,length_drop->E9u,length_nil->E8X,length_set->E80,map_append->E9e,map_cons->E9c,mem_append->E8U,mem_append_left->E8W,mem_append_right->E8V,mem_cons->E8J,mem_cons_of_mem->E8q,mem_cons_self->E8u,mem_filter->E8Z,mem_iff_getElem?->E9g,mem_map->E8N,mem_of_getElem?->E8H,mem_range'_1->E9s,mem_singleton->E82,nil_append->E8I,range->E8T,range'->E8Q,replicate->E8l,take_of_length_le->E8B,take_zero->E9i
open Bool renaming and_eq_true->E8j,false_and->E8E,false_or->E9h,not_eq_true'->E9b,true_and->E8K,true_or->E9d,false->A6,true->A5
open Int renaming toNat_natCast->E8D
open IntKind renaming wrap->E8r
open Nat renaming le_refl->E8m,le_trans->E83,sub_self->E9t,zero_add->E8A
open Option renaming map_some->E85,none->A7,some->A4
open Go.Proofs.Tryz renaming prog->A8
namespace Go.Proofs.YtbipebfdappanaaGreat
variable {c c':Cl}{a x no i n k many:Int}{q j pp p m e:Nat}{D W:Dev}{h h' g:A9}{L d t X dr:List Int}{v:Val}{b w:List UInt8}{f:Nat->Int}
structure Pend(D:Dev)(n:Int)(c:Cl)(Q:List Int):Prop where
 nd:(c.blocks++Q).Nodup
 dat:∀ no∈c.blocks++Q,G7 (l_ D) n no=A5/\c.taken.getD no.toNat A5=A5
 bm:c.blocks.length=c.made.length
 good:∀ q∈iZ c,Q9 q.2=A5->Q9 (blk D q.1)=A5
section
variable {D:Dev} {n:Int} {c:Cl} {Q:List Int}
def E0m{l:List Bool}{i:Nat}(h:l.getD j A5=A5):(l.set i A5).getD j A5=A5:=by
 rw [E8k] at h ⊢;rw [E9n];by_cases e:i=j
 ·rw [C4 e];split<;>rfl
 ·rw [C5 e];exact h
def D7A{l:List Bool}{i:Nat}:(l.set i A5).getD i A5=A5:=by
 rw [E8k,E9n,C4 rfl];split<;>rfl
def C7b(h:dL D n c no=A5):J9 D n c no={ c with taken:=c.taken.set no.toNat A5 }:=by unfold J9;rw [h];rfl
def D6s(h:dL D n c no=A5):G7 (l_ D) n no=A5/\c.taken.getD no.toNat A5=A6:=by
 unfold dL at h;rw [E8j,E9b] at h;exact h
def Pend.same(h:Pend D n c Q)(s:SameC c c')(ht:∀ j,c.taken.getD j A5=A5->c'.taken.getD j A5=A5):Pend D n c' Q:=by
 refine ⟨by rw [s.blocks];exact h.nd,λno Y8=>?_,by rw [s.blocks,s.made];exact h.bm,?_⟩
 ·rw [s.blocks] at Y8;exact ⟨(h.dat no Y8).1,ht _ (h.dat no Y8).2⟩
 ·unfold iZ;rw [s.blocks,s.made];exact h.good
def B5R(j:Nat)(h:c.taken.getD j A5=A5):(J9 D n c no).taken.getD j A5=A5:=by
 cases hb:dL D n c no with
 | false=>rw [B1o hb];exact h
 | true=>rw [C7b hb];exact E0m h
def Pend.claimed(h:Pend D n c Q)(hb:dL D n c no=A5):Pend D n (J9 D n c no) (Q++[no]):=by
 obtain ⟨h1,h2⟩:=D6s hb;have hs:=A05 D n c no;refine ⟨?_,λk hk=>?_,by rw [hs.blocks,hs.made];exact h.bm,?_⟩
 ·rw [hs.blocks,<-E8t,List.nodup_append];refine ⟨h.nd,by simp,λa ha b hb' e=>?_⟩;rw [E82.1 hb'] at e;have:=(h.dat a ha).2;rw [e,h2] at this;cases this
 ·rw [hs.blocks,<-E8t] at hk;rcases E8U.1 hk with hk | hk
  ·exact ⟨(h.dat k hk).1,B5R _ (h.dat k hk).2⟩
  ·rw [E82.1 hk,C7b hb];exact ⟨h1,D7A⟩
 ·unfold iZ;rw [hs.blocks,hs.made];exact h.good
def Pend.made(h:Pend D n c (no::Q))(hg:Q9 b=A5->Q9 (blk D no)=A5):Pend D n (dY c no b) Q:=by
 have e:c.blocks++no::Q=(c.blocks++[no])++Q:=by simp
 refine ⟨?_,λk hk=>?_,?_,λq hq=>?_⟩
 ·show ((c.blocks++[no])++Q).Nodup;rw [<-e];exact h.nd
 ·exact h.dat k (by rw [e];exact hk)
 ·show (c.blocks++[no]).length=(c.made++[b]).length;simp [h.bm]
 ·rw [A1i h.bm] at hq;rcases E8U.1 hq with hq | hq
  ·exact h.good q hq
  ·rw [E82.1 hq];exact hg
def Pend.claims:∀ {L:List Int} {c:Cl} {Q:List Int},Pend D n c Q->Pend D n (cY D n c L) (Q++J4 D n c L)
 | [],c,Q,h=>by
  show Pend D n c (Q++[]);rw [E8C];exact h
 | no::L,c,Q,h=>by
  cases hb:dL D n c no with
  | true =>
   have e2:J4 D n c (no::L)=no::J4 D n (J9 D n c no) L:=by show (if _ then _ else _)=_;rw [C4 hb]
   rw [e2];have:=(h.claimed hb).claims (L:=L);rw [E8t] at this;exact this
  | false =>
   have e2:J4 D n c (no::L)=J4 D n c L:=by show (if _ then _ else _)=_;rw [C5 (by rw [hb];decide)]
   rw [e2];have e3:cY D n c (no::L)=cY D n c L:=by show cY D n (J9 D n c no) L=_;rw [B1o hb]
   rw [e3];exact h.claims
def B5Z:∀ {e k:Nat} {s:Cl × List Int} (j:Nat),s.1.taken.getD j A5=A5->(dW D n d e k s).1.taken.getD j A5=A5
 | 0,_,_,_,h=>h
 | e+1,k,s,j,h=>by
  rw [dW];exact B5Z j (B5R j h)
def D6G{s:Cl × List UInt8}{k:Nat}(j:Nat)(h:s.1.taken.getD j A5=A5):(R7 D n many s k).1.taken.getD j A5=A5:=by
 unfold R7;split
 ·exact h
 ·dsimp only;split
  ·exact B5R j h
  ·exact h
def C7y:∀ {e k:Nat} {s:Cl × List UInt8} (j:Nat),s.1.taken.getD j A5=A5->(M4 D n many e k s).1.taken.getD j A5=A5
 | 0,_,_,_,h=>h
 | e+1,k,s,j,h=>by
  rw [M4];exact C7y j (D6G j h)
def D6B(h:Pend D n c [])(h0:(I6 D n c a).2.getD 6 0≠0):Pend D n (I6 D n c a).1 [(I6 D n c a).2.getD 6 0]:=by
 have hs:=A07 (D:=D) (n:=n) (d:=drV D n a) (e:=(min (T9 (szV D n a)) 6).toNat) (k:=0) (s:=(c,zI 7));have h6:=gL (D:=D) (n:=n) (d:=drV D n a) (j:=6) (e:=(min (T9 (szV D n a)) 6).toNat) (k:=0) (s:=(c,zI 7)) (by omega);have hp:Pend D n (dW D n (drV D n a) (min (T9 (szV D n a)) 6).toNat 0 (c,zI 7)).1 []:=h.same hs.1 λj hj=>B5Z j hj
 unfold I6 at h0 ⊢;generalize dW D n (drV D n a) (min (T9 (szV D n a)) 6).toNat 0 (c,zI 7)=s at *;unfold A2w at h0 ⊢;by_cases hm:6<T9 (szV D n a)
 ·rw [C4 hm] at h0 ⊢;have hl:s.2.length=7:=by rw [hs.2];rfl
  have e:(s.2.set 6 (K4 D n s.1 ((drV D n a).getD 6 0))).getD 6 0=K4 D n s.1 ((drV D n a).getD 6 0):=by
   rw [E8k,E9n,C4 rfl,C4 (by omega)];rfl
  have h0:(s.2.set 6 (K4 D n s.1 ((drV D n a).getD 6 0))).getD 6 0≠0:=h0;show Pend D n (J9 D n s.1 ((drV D n a).getD 6 0)) [(s.2.set 6 (K4 D n s.1 ((drV D n a).getD 6 0))).getD 6 0];rw [e] at h0 ⊢;obtain ⟨h1,h2⟩:=B5U h0;rw [h1];exact hp.claimed h2
 ·rw [C5 hm] at h0;exact absurd (h6.trans rfl) h0
def D6A(j:Nat)(h:c.taken.getD j A5=A5):(I6 D n c a).1.taken.getD j A5=A5:=by
 unfold I6 A2w;split
 ·exact B5R j (B5Z j h)
 ·exact B5Z j h
def D6z(hD:okD D)(D2o:l_ D<=512)(h:Pend D n c []):Pend D n (V4 D n c a) []:=by
 have hs:=pA (D:=D) (n:=n) (ino:=a) (c:=c);by_cases h0:(I6 D n c a).2.getD 6 0=0
 ·have e:V4 D n c a=L9 D n c a:=by unfold V4;rw [C4 h0]
  rw [e];have:=h.same hs.1 D6A;exact ⟨this.nd,this.dat,this.bm,this.good⟩
 ·have hp:=D6B h h0;have hI:Pend D n (L9 D n c a) [(I6 D n c a).2.getD 6 0]:=⟨hp.nd,hp.dat,hp.bm,hp.good⟩;have hf:=kC (D:=D) (n:=n) (many:=T9 (szV D n a)) (e:=128) (k:=0) (s:=(L9 D n c a,blk D ((I6 D n c a).2.getD 6 0)));have E6G:=C7y (D:=D) (n:=n) (many:=T9 (szV D n a)) (e:=128) (k:=0) (s:=(L9 D n c a,blk D ((I6 D n c a).2.getD 6 0)));have E7i:=D87 (D:=D) (n:=n) (many:=T9 (szV D n a)) (c:=L9 D n c a) (b:=blk D ((I6 D n c a).2.getD 6 0)) (J6 hD) D2o;unfold V4;rw [C5 h0];generalize M4 D n (T9 (szV D n a)) 128 0 (L9 D n c a,blk D ((I6 D n c a).2.getD 6 0))=s at *;exact (hI.same hf E6G).made λh=>by rw [E7i] at h;cases h
def D6h{d:Int}:∃ L,(H5 D n c d t).1=cY D n c L/\J3 (H5 D n c d t).2 (C6 (P9 d t))=J4 D n c L:=by
 obtain ⟨h0,h5,hf⟩:=C0m d t;obtain ⟨L,hL⟩:=xEq (J3 (bU d t) (C6 (P9 d t)));have nd:L.Nodup:=by rw [hL];exact C5E
 have nz:∀ x∈L,x≠0:=by rw [hL];exact λx=>A2i
 have eB:H5 D n c d t=W2 D n (c,bU d t) L:=by rw [hL];rfl
 obtain ⟨a1,a2⟩:=A9m (D:=D) (n:=n) (c:=c) hf.len nd nz;refine ⟨L,by rw [eB];exact a1,?_⟩;rw [eB,D0G a2,<-hL];have:L.filter (λx=>!(decide (x∈L) && !decide (x∈J4 D n c L)))=L.filter λx=>decide (x∈J4 D n c L):=List.filter_congr λx hx=>by simp [hx]
 rw [this];exact C7A keptL_sub nd
def C37{X:List Int}{K:List UInt8->Option Int}:∀ {L:List Int} {c:Cl},Pend D n c L->Pend D n (P5 D X K c L) []
 | [],c,h=>h
 | no::L,c,h=>by
  obtain ⟨y,hy⟩:=C0S (D:=D) (X:=X) (K:=K) (no:=no) (c:=c);have h1:=h.made (b:=clB (blk D no) (V5 D X no K)) λh=>by rw [E3y] at h;cases h
  have h2:Pend D n (dN D X K c no) L:=by rw [hy];exact ⟨h1.nd,h1.dat,h1.bm,h1.good⟩
  exact C37 (L:=L) (c:=dN D X K c no) h2
def B5x{a:Int}:∀ {L:List Ent} {s:Cl × (List UInt8->Option Int)},(O7 D n a s L).1.taken=s.1.taken
 | [],_=>rfl
 | e::L,s=>by
  have h1:=B5x (a:=a) (L:=L) (s:=J7 D n a s e);have h3:(J7 D n a s e).1.taken=s.1.taken:=by
   unfold J7 T7;cases R0 D n s.1 e.2 with
   | false=>rfl
   | true =>
    show (bif (s.1.par e.2).isSome then A2A s.1 e.2 else C5s (A2A s.1 e.2) a e.2).taken=_;cases (s.1.par e.2).isSome<;>rfl
  exact h1.trans h3
def D6i{d:Int}(h:Pend D n c [no])(hg:Q9 (blk D no)=A5):Pend D n (bE D n c a no d t) []:=by
 obtain ⟨L,h1,h2⟩:=D6h (D:=D) (n:=n) (c:=c) (d:=d) (t:=t);have hc:=h.claims (L:=L);rw [<-h1,<-h2] at hc;have eT:bodyT D n c a d t=O7 D n a ((H5 D n c d t).1,λ_=>A7) (S9 D (P9 d t::(H5 D n c d t).2) (J3 (H5 D n c d t).2 (C6 (P9 d t)))):=rfl;have t1:=C8V (D:=D) (n:=n) (a:=a) (L:=S9 D (P9 d t::(H5 D n c d t).2) (J3 (H5 D n c d t).2 (C6 (P9 d t)))) (s:=((H5 D n c d t).1,λ_=>A7));have t2:=B5x (D:=D) (n:=n) (a:=a) (L:=S9 D (P9 d t::(H5 D n c d t).2) (J3 (H5 D n c d t).2 (C6 (P9 d t)))) (s:=((H5 D n c d t).1,λ_=>A7));rw [<-eT] at t1 t2;unfold bE;generalize bodyT D n c a d t=T at *;have hT:Pend D n T.1 ([no]++J3 (H5 D n c d t).2 (C6 (P9 d t))):=by
  refine ⟨?_,?_,?_,?_⟩
  ·rw [t1.1];exact hc.nd
  ·rw [t1.1,t2];exact hc.dat
  ·rw [t1.1,t1.2];exact hc.bm
  ·unfold iZ;rw [t1.1,t1.2];exact hc.good
 exact C37 (Pend.made hT λ_=>hg)
def D8Y(h:Pend D n c []):Pend D n (oY D n c a) []:=by
 by_cases h0:(K5 D n c a).2=0
 ·rw [A4r h0];have hs:=C2O h0;have e1:(K5 D n c a).1=c:=by rw [hs]
  refine ⟨?_,?_,?_,?_⟩
  ·show ((K5 D n c a).1.blocks++[]).Nodup;rw [e1];exact h.nd
  ·show ∀ no∈(K5 D n c a).1.blocks++[],G7 (l_ D) n no=A5/\(K5 D n c a).1.taken.getD no.toNat A5=A5;rw [e1];exact h.dat
  ·show (K5 D n c a).1.blocks.length=(K5 D n c a).1.made.length;rw [e1];exact h.bm
  ·show ∀ q∈(K5 D n c a).1.blocks.zip (K5 D n c a).1.made,_;rw [e1];exact h.good
 ·rw [A06 h0];obtain ⟨_,h2,h3,h4,h5⟩:=A9B h0;rw [<-h3] at h2 h4;have hp:=h.claimed h4;have e1:(K5 D n c a).1=J9 D n c (K5 D n c a).2:=by rw [h3,h5]
  rw [<-e1] at hp;refine D6i ?_ h2;exact ⟨hp.nd,hp.dat,hp.bm,hp.good⟩
def D9P(hD:okD D)(D2o:l_ D<=512)(h:Pend D n c []):Pend D n (U4 D n c a) []:=by
 unfold U4;split
 ·exact D6z hD D2o h
 ·exact D8Y h
def C06(hD:okD D)(D2o:l_ D<=512):∀ {e i:Nat} {c:Cl},Pend D n c []->Pend D n (ofR D n e i c) []
 | 0,_,_,h=>h
 | e+1,i,c,h=>by
  unfold ofR;cases hc:c.row[i]? with
  | none=>exact h
  | some a=>exact C06 hD D2o (D9P hD D2o h)
end
section
variable {D E:Dev} {n:Int} {c:Cl}
structure RowK(D:Dev)(n:Int)(c:Cl):Prop where
 kd:∀ i∈c.row,i≠1->kdV D n i≠0
def RowK.same(h:RowK D n c)(e:c'.row=c.row):RowK D n c':=⟨by rw [e];exact h.kd⟩
def C8X:∀ {L:List Ent} {s:Cl × (List UInt8->Option Int)},RowK D n s.1->RowK D n (O7 D n a s L).1
 | [],_,h=>h
 | e::L,s,h=>by
  refine C8X (L:=L) (s:=J7 D n a s e) ?_;unfold J7 T7;cases hB:R0 D n s.1 e.2 with
  | false=>exact h
  | true =>
   show RowK D n (bif (s.1.par e.2).isSome then A2A s.1 e.2 else C5s (A2A s.1 e.2) a e.2);cases (s.1.par e.2).isSome with
   | true=>exact ⟨h.kd⟩
   | false =>
    refine ⟨λi hi aZ=>?_⟩;rcases E8U.1 (show i∈s.1.row++[e.2] from hi) with h1 | h1
    ·exact h.kd i h1 aZ
    ·rw [E82.1 h1];intro h0;unfold R0 at hB;rw [O4 h0] at hB;simp at hB
def D6j{d:Int}(h:RowK D n c):RowK D n (bE D n c a no d t):=by
 have hs:=bK (D:=D) (n:=n) (L:=J3 (bU d t) (C6 (P9 d t))) (s:=(c,bU d t));have eb:W2 D n (c,bU d t) (J3 (bU d t) (C6 (P9 d t)))=H5 D n c d t:=rfl;rw [eb] at hs;have ht:=C8X (D:=D) (n:=n) (a:=a) (L:=S9 D (P9 d t::(H5 D n c d t).2) (J3 (H5 D n c d t).2 (C6 (P9 d t)))) (s:=((H5 D n c d t).1,λ_=>A7)) (h.same hs.row);have et:O7 D n a ((H5 D n c d t).1,λ_=>A7) (S9 D (P9 d t::(H5 D n c d t).2) (J3 (H5 D n c d t).2 (C6 (P9 d t))))=bodyT D n c a d t:=rfl;rw [et] at ht;unfold bE;refine ht.same ?_;rw [oV.1,C24]
def D9Q(h:RowK D n c):RowK D n (U4 D n c a):=by
 unfold U4;split
 ·exact h.same A08.1
 ·have hs:=vT (D:=D) (n:=n) (ino:=a) (c:=c);by_cases h0:(K5 D n c a).2=0
  ·rw [A4r h0];exact h.same hs.row
  ·rw [A06 h0];exact D6j (h.same hs.row)
def D2A:kdV D n i=0\/kdV D n i=1\/kdV D n i=2:=by
 rw [D2z];cases hc:B4x D n i with
 | false=>exact .inl rfl
 | true =>
  rw [S8];unfold B4x cD at hc;simp only [E8j] at hc;have:=(C8a hc.2.1).1;omega
def D9O(h:RowK D n c)(hbm:c.blocks.length=c.made.length)(ha:a∈c.row)(hal:a.toNat<c.ino.length)(h1:a≠1):((U4 D n c a).ino.getD a.toNat []).getD 0 0=kdV D n a:=by
 have h0:=h.kd a ha h1;by_cases hc:a≠1/\kdV D n a=1
 ·have e:U4 D n c a=V4 D n c a:=by unfold U4;rw [C4 hc]
  rw [e,(A9G hbm).2 hal,hc.2];rfl
 ·have e:U4 D n c a=oY D n c a:=by unfold U4;rw [C5 hc]
  have h2:kdV D n a=2:=by
   rcases D2A (D:=D) (n:=n) (i:=a) with h | h | h
   ·exact absurd h h0
   ·exact absurd ⟨h1,h⟩ hc
   ·exact h
  rw [e,(A9A hbm).2 hal,h2];rfl
def D4Z(n128:n<=128):∀ {e i:Nat} {c:Cl},i+e=129->RowW n c->RowK D n c->c.blocks.length=c.made.length->c.ino.length=(n+1).toNat ->
  (∀ j,j<i->∀ a,c.row[j]?=A4 a->a≠1->(c.ino.getD a.toNat []).getD 0 0=kdV D n a)->∀ a∈(ofR D n e i c).row,a≠1->((ofR D n e i c).ino.getD a.toNat []).getD 0 0=kdV D n a
 | 0,i,c,hi,w,k,hbm,K6,h=>by
  intro a ha h1;obtain ⟨j,hj⟩:=E9g.1 (show a∈c.row from ha);have hl:=A7j w.nd λb hb=>⟨(w.rg b hb).1,by have:=(w.rg b hb).2;omega⟩
  have hjl:=(E8p.1 hj).1;exact h j (by omega) a hj h1
 | e+1,i,c,hi,w,k,hbm,K6,h=>by
  unfold ofR;cases hc:c.row[i]? with
  | none =>
   intro a ha h1;obtain ⟨j,hj⟩:=E9g.1 (show a∈c.row from ha);have hjl:=(E8p.1 hj).1;have:=List.getElem?_eq_none_iff.1 hc;exact h j (by omega) a hj h1
  | some b =>
   have g:=A2F (D:=D) (n:=n) (a:=b) hbm;have E6r:=E8H hc;have hrg:=w.rg b E6r;refine D4Z n128 (by omega) (iX w) (D9Q k) g.bm (g.il.trans K6) λj hj a ha h1=>?_
   have E8c:i<c.row.length:=(E8p.1 hc).1;have hjc:c.row[j]?=A4 a:=by
    have hjl:j<c.row.length:=by omega
    have:=A1h g.row (E8h hjl);rw [this] at ha;rw [E8h hjl];exact ha
   by_cases e1:j=i
   ·rw [e1,hc] at hjc;have e2:=Option.some.inj hjc;subst e2;exact D9O k hbm E6r (by omega) h1
   ·have aZ:a≠b:=λe2=>by
     have:=(List.getElem?_inj (by omega) w.nd).1 (hjc.trans ((congrArg A4 e2).trans hc.symm));omega
    have hra:=w.rg a (E8H hjc);rw [g.ino _ (by omega)];exact h j (by omega) a hjc h1
end
def C7L:((aV c a).ino.getD j []).getD 0 0=(c.ino.getD j []).getD 0 0/\((aV c a).ino.getD j []).getD 2 0=(c.ino.getD j []).getD 2 0/\((aV c a).ino.getD j []).drop 4=(c.ino.getD j []).drop 4:=by
 unfold aV;split
 ·by_cases e:j=a.toNat
  ·subst e;by_cases hl:a.toNat<c.ino.length
   ·show ((c.ino.set a.toNat _).getD a.toNat []).getD 0 0=_/\((c.ino.set a.toNat _).getD a.toNat []).getD 2 0=_/\((c.ino.set a.toNat _).getD a.toNat []).drop 4=_;rw [A68 hl];refine ⟨?_,?_,?_⟩
    ·rw [E8k,E9r (by omega),<-E8k]
    ·rw [E8k,E9r (by omega),<-E8k]
    ·rw [List.drop_set,C4 (by omega)]
   ·have:c.ino.set a.toNat ((c.ino.getD a.toNat []).set 1 ((c.lnk a).getD 0))=c.ino:=List.set_eq_of_length_le (by omega);show ((c.ino.set a.toNat _).getD a.toNat []).getD 0 0=_/\((c.ino.set a.toNat _).getD a.toNat []).getD 2 0=_/\((c.ino.set a.toNat _).getD a.toNat []).drop 4=_;rw [this];exact ⟨rfl,rfl,rfl⟩
  ·show ((c.ino.set a.toNat _).getD j []).getD 0 0=_/\((c.ino.set a.toNat _).getD j []).getD 2 0=_/\((c.ino.set a.toNat _).getD j []).drop 4=_;rw [getD_set_ne e];exact ⟨rfl,rfl,rfl⟩
 ·exact ⟨rfl,rfl,rfl⟩
def A67{j:Nat}:∀ {L:List Int} {c:Cl},((cE c L).ino.getD j []).getD 0 0=(c.ino.getD j []).getD 0 0/\((cE c L).ino.getD j []).getD 2 0=(c.ino.getD j []).getD 2 0/\((cE c L).ino.getD j []).drop 4=(c.ino.getD j []).drop 4
 | [],_=>⟨rfl,rfl,rfl⟩
 | a::L,c=>by
  obtain ⟨h1,h2,h3⟩:=A67 (j:=j) (L:=L) (c:=aV c a);obtain ⟨k1,k2,k3⟩:=C7L (c:=c) (a:=a) (j:=j);exact ⟨h1.trans k1,h2.trans k2,h3.trans k3⟩
def D1d:∀ {L:List Int} {c:Cl},cE (c.wl x) L=(cE c L).wl x
 | [],_=>rfl
 | a::L,c=>by
  have e:aV (c.wl x) a=(aV c a).wl x:=by
   show (if (c.ino.getD a.toNat []).getD 0 0=1 then _ else _)=(if (c.ino.getD a.toNat []).getD 0 0=1 then _ else _:Cl).wl x;split<;>rfl
  show cE (aV (c.wl x) a) L=(cE (aV c a) L).wl x;rw [e];exact D1d
section
variable {D E:Dev} {n:Int}
structure Beg(D:Dev)(n:Int)(c:Cl):Prop where
 w:RowW n c
 k:RowK D n c
 bm:c.blocks.length=c.made.length
 il:c.ino.length=(n+1).toNat
 pend:Pend D n c []
 zero:∀ i:Int,1<=i->i<=n->c.ino.getD i.toNat []=zI 11
def A9j(hm:P6 (l_ D) n=A5):Beg D n (wM (I5 D n) (aR (l_ D) n).toNat):=by
 obtain ⟨_,_,n8,_⟩:=H8.1 hm;have hs:=ownR_same (c:=I5 D n) (k:=(aR (l_ D) n).toNat);refine ⟨?_,?_,?_,?_,⟨?_,?_,?_,?_⟩,?_⟩
 ·refine RowW.same (c:=I5 D n) ⟨by simp [I5],λi=>?_,λi hi=>?_⟩ hs.row hs.par
  ·by_cases c1:i=1
   ·subst c1;simp [I5,A1o]
   ·simp [I5,A1o,c1]
  ·simp [I5] at hi;omega
 ·refine RowK.same (c:=I5 D n) ⟨λi hi h1=>?_⟩ hs.row;exact absurd (E82.1 hi) h1
 ·rw [hs.blocks,hs.made];rfl
 ·rw [hs.ino];simp [I5]
 ·rw [hs.blocks];exact List.nodup_nil
 ·rw [hs.blocks];intro no Y8;cases Y8
 ·rw [hs.blocks,hs.made];rfl
 ·unfold iZ;rw [hs.blocks];intro q hq;cases hq
 ·intro i h1 h2;rw [hs.ino];show (E8l (n+1).toNat (zI 11)).getD i.toNat []=zI 11;rw [E8k,List.getElem?_replicate,C4 (by omega)];rfl
structure Mixed(D E:Dev)(n:Int):Prop where
 okD:okD D
 okE:Go.Proofs.YtbipebfdappanaaGreat.okD E
 len:l_ E=(l_ D)
 may:P6 (l_ D) n=A5
 blk:∀ no:Int,blk E no=blk D no\/blk E no=blk (gQ D n (E7 D n)) no
def Pend.pick{q:Int × List UInt8}{a:List UInt8}(P:Pend D n c [])(hq:q∈iZ c):wC c.blocks c.made q.1 a=q.2:=by
 have nd:c.blocks.Nodup:=by have:=P.nd;rw [E8C] at this;exact this
 exact D5c nd hq
def Pend.picked(P:Pend D n c [])(hg:Q9 (wC c.blocks c.made no (Go.Proofs.YtbipebfdappanaaGreat.blk D no))=A5):Q9 (Go.Proofs.YtbipebfdappanaaGreat.blk D no)=A5:=by
 by_cases hin:no∈c.blocks
 ·obtain ⟨j,hj⟩:=E9g.1 hin;have hjl:=(E8p.1 hj).1;have hjm:j<c.made.length:=by rw [<-P.bm];exact hjl
  have hq:(no,c.made[j])∈iZ c:=by
   unfold iZ;rw [E9g];refine ⟨j,?_⟩;rw [List.getElem?_zip_eq_some];exact ⟨hj,E8h hjm⟩
  have:=P.pick (a:=Go.Proofs.YtbipebfdappanaaGreat.blk D no) hq;rw [this] at hg;exact P.good (no,c.made[j]) hq hg
 ·rw [B57 hin] at hg;exact hg
def Mixed.half(M:Mixed D E n):Half D E n (F5 D n):=by
 have hm:=M.may;obtain ⟨b16,b512,n8,n128,nm8,nb⟩:=H8.1 hm;have B:=A9j hm;have ok:=qT M.okD hm;obtain ⟨_,_,_,K6,_⟩:=Z8 M.okD hm;obtain ⟨s1,s2,s3,s4,s5,s6,s7⟩:=jN (L:=(F5 D n).row) (c:=F5 D n);have w:RowW n (F5 D n):=by unfold F5;exact A96 B.w
 have P:Pend D n (F5 D n) []:=by unfold F5;exact C06 M.okD (by omega) B.pend
 have hb:(E7 D n).blocks=(F5 D n).blocks:=s3;have hmd:(E7 D n).made=(F5 D n).made:=s4;have hlk:∀ j,((E7 D n).ino.getD j []).getD 0 0=((F5 D n).ino.getD j []).getD 0 0/\((E7 D n).ino.getD j []).getD 2 0=((F5 D n).ino.getD j []).getD 2 0/\((E7 D n).ino.getD j []).drop 4=((F5 D n).ino.getD j []).drop 4:=λj=>A67
 have E1R:∀ a∈(F5 D n).row,a≠1->((F5 D n).ino.getD a.toNat []).getD 0 0=kdV D n a:=by
  unfold F5;exact D4Z (D:=D) n128 rfl B.w B.k B.bm B.il (λj hj=>by omega)
 have hz:∀ i,1<=i->i<=n->i ∉ (F5 D n).row->(F5 D n).ino.getD i.toNat []=zI 11:=by
  intro i i1 i2 hin;unfold F5 at hin ⊢;rw [B56 i1 B.w B.bm (λj _ hj=>hin (E8H hj))];exact B.zero i i1 i2
 have hV:∀ i,Q2 (l_ D) n i=A5->(kdV E n i=kdV D n i/\szV E n i=szV D n i/\drV E n i=drV D n i)\/(kdV E n i=((E7 D n).ino.getD i.toNat []).getD 0 0/\szV E n i=((E7 D n).ino.getD i.toNat []).getD 2 0/\drV E n i=((E7 D n).ino.getD i.toNat []).drop 4):=by
  intro i hi;obtain ⟨_,i1,i2⟩:=M8.1 hi;have hr:uZ E n i=uZ D n i\/uZ E n i=uZ (gQ D n (E7 D n)) n i:=by
   unfold uZ;rw [M.len,B50 M.okD hm ok];rcases M.blk (aY (l_ D) n i) with h | h
   ·rw [h];exact .inl rfl
   ·rw [h];exact .inr rfl
  rcases hr with h | h
  ·exact .inl (E25 M.len h)
  ·rw [C5M M.okD hm ok K6 hi] at h;refine .inr (D5U (by rw [M.len];exact hi) ?_ h);rw [E8k,E8h (by omega)];exact ok.ino _ (E8M _)
 have Y8:∀ i,Q2 (l_ D) n i=A6->kdV E n i=kdV D n i:=by
  intro i hi;unfold kdV;rw [M.len,hi];rfl
 refine ⟨M.okD,M.okE,M.len,λa ha=>?_,λno hd hg=>?_,λi h1=>?_,λq hq=>?_⟩
 ·have hr:=w.rg a ha;have hi:Q2 (l_ D) n a=A5:=M8.2 ⟨hm,hr.1,hr.2⟩;obtain ⟨k1,k2,k3⟩:=hlk a.toNat;rcases hV a hi with h | h
  ·exact .inl h
  ·rw [k1,k2,k3] at h;exact .inr h
 ·rcases M.blk no with h | h
  ·rw [<-h];exact hg
  ·rw [h,D2t M.okD hm ok K6 hd,hb,hmd] at hg;exact P.picked hg
 ·cases hi:Q2 (l_ D) n i with
  | false=>exact .inl (Y8 i hi)
  | true =>
   obtain ⟨_,i1,i2⟩:=M8.1 hi;rcases hV i hi with h | h
   ·exact .inl h.1
   ·rw [(hlk i.toNat).1] at h;by_cases hin:i∈(F5 D n).row
    ·exact .inl (h.1.trans (E1R i hin h1))
    ·refine .inr ⟨hin,h.1.trans ?_⟩;have e:=hz i i1 i2 hin;rw [e];rfl
 ·rcases M.blk q.1 with h | h
  ·exact .inl h
  ·refine .inr ?_;have hd:G7 (l_ D) n q.1=A5:=(P.dat q.1 (E8W _ (List.of_mem_zip hq).1)).1;rw [h,D2t M.okD hm ok K6 hd,hb,hmd];exact P.pick hq
def Mixed.claim(M:Mixed D E n):∃ x,E7 E n=(E7 D n).wl x:=by
 have B:=A9j M.may;obtain ⟨x,hx⟩:=E2j (x:=0) B.w B.bm B.il M.half;have e1:I5 E n=I5 D n:=by unfold I5;rw [M.len]
 have e2:F5 E n=(F5 D n).wl x:=by
  unfold F5;rw [e1,M.len];have hs:=ownR_same (c:=I5 D n) (k:=(aR (l_ D) n).toNat);have e3:(wM (I5 D n) (aR (l_ D) n).toNat).wl 0=wM (I5 D n) (aR (l_ D) n).toNat:=by
   have h0:=hs.lost;generalize wM (I5 D n) (aR (l_ D) n).toNat=c at *;cases c;have h0:_=(0:Int):=h0;subst h0;rfl
  rw [e3] at hx;exact hx
 refine ⟨x,?_⟩;unfold E7;rw [e2];exact D1d
def Mixed.img(M:Mixed D E n):gQ E n (E7 E n)=gQ D n (E7 D n):=by
 have hm:=M.may;have hmE:P6 (l_ E) n=A5:=by rw [M.len];exact hm
 have ok:=qT M.okD hm;have okE:=qT M.okE hmE;obtain ⟨_,_,_,K6,_⟩:=Z8 M.okD hm;obtain ⟨_,_,_,E7s,_⟩:=Z8 M.okE hmE;obtain ⟨x,hx⟩:=M.claim;have l1:=B50 M.okD hm ok;have l2:=B50 M.okE hmE okE;refine E9z λi=>?_
 by_cases hi:i<(l_ D)
 ·have hiE:i<(l_ E):=by rw [M.len];exact hi
  rw [C0v M.okD hm ok K6 hi,C0v M.okE hmE okE E7s hiE];by_cases h1:i=1
  ·rw [C4 h1,C4 h1,hx];rfl
  ·rw [C5 h1,C5 h1]
   congr 1
   have e0:C93 E n (E7 E n) i=if B7c (l_ D) n i=3 then D7z (E7 D n).ino (8*(i-2)+1) 8 0 (zeros 256) else wC (E7 D n).blocks (E7 D n).made i (E.getD i []):=by
    unfold C93;rw [hx,M.len];rfl
   rw [e0];unfold C93;by_cases ha:B7c (l_ D) n i=3
   ·rw [C4 ha,C4 ha]
   ·rw [C5 ha,C5 ha];have eD:D.getD i []=Go.Proofs.YtbipebfdappanaaGreat.blk D i:=by rw [B4e hi,E8k,E8h hi];rfl
    have eE:E.getD i []=Go.Proofs.YtbipebfdappanaaGreat.blk E i:=by rw [B4e hiE,E8k,E8h hiE];rfl
    rw [eD,eE];rcases M.blk i with h | h
    ·rw [h]
    ·rw [h,C5L M.okD hm ok K6 hi,C5 h1];unfold C93;rw [C5 ha,eD,D67]
 ·rw [E8P (by rw [l2,M.len];omega),E8P (by rw [l1];omega)]
end
def B6F:Nat->Dev->Dev->Dev
 | m,w::W,d::D=>if w=d then d::B6F m W D else (if m=0 then d else w)::B6F (m-1) W D
 | _,_,D=>D
def A93:B6F m (w::W) (w::D)=w::B6F m W D:=C4 rfl
def A92{d:List UInt8}(h:w≠d):B6F m (w::W) (d::D)=(if m=0 then d else w)::B6F (m-1) W D:=C5 h
def B8Q{i:Nat}:U1 (w::W) (w::D) i=U1 W D (i+1):=by
 conv=>lhs;unfold U1
 rw [C4 rfl]
def C8B{d:List UInt8}{i:Nat}(h:w≠d):U1 (w::W) (d::D) i=((i:Int),w)::U1 W D (i+1):=by
 conv=>lhs;unfold U1
 rw [C5 h]
def D9Y{i:Nat}:U1 [] D i=[]:=by cases D<;>rfl
def B5d:∀ {W D:Dev} {m:Nat},(B6F m W D).length=(l_ D)
 | [],D,m=>by cases D<;>rfl
 | _::_,[],m=>rfl
 | w::W,d::D,m=>by
  by_cases h:w=d
  ·subst h;rw [A93,E8w,E8w,B5d]
  ·rw [A92 h,E8w,E8w,B5d]
def D8g:∀ {W D:Dev} {m:Nat},W.length=l_ D->(B6F m W D)[j]?=D[j]?\/(B6F m W D)[j]?=W[j]? := by
 induction j with
 | zero =>
  intro W D m hl
  match W,D,hl with
  | [],[],_=>exact .inl rfl
  | w::W,d::D,_ =>
   by_cases h:w=d
   ·subst h;rw [A93];exact .inl rfl
   ·rw [A92 h];by_cases hm:m=0
    ·rw [C4 hm];exact .inl rfl
    ·rw [C5 hm];exact .inr rfl
 | succ j ih =>
  intro W D m hl
  match W,D,hl with
  | [],[],_=>exact .inl rfl
  | w::W,d::D,hl =>
   have hl':W.length=(l_ D):=by simpa using hl
   by_cases h:w=d
   ·subst h;rw [A93];simp only [E8F];exact ih hl'
   ·rw [A92 h];simp only [E8F];exact ih hl'
def B5N{n:Int}:∀ {W D A:Dev} {k:Nat},A04 n (A++D) k (U1 W D A.length)=A++B6F (n-k).toNat W D
 | [],D,A,k=>by
  rw [D9Y];show A++D=A++B6F _ [] D;cases D<;>rfl
 | _::_,[],A,k=>rfl
 | w::W,d::D,A,k=>by
  have el:∀ x:List UInt8,(A++[x]).length=A.length+1:=λx=>by simp
  by_cases h:w=d
  ·subst h;have ih:=B5N (n:=n) (W:=W) (D:=D) (A:=A++[w]) (k:=k);rw [el,E8t,E8t] at ih;rw [B8Q,A93];exact ih
  ·rw [C8B h,A92 h];show A04 n (if (k:Int)<n then mN (A++d::D) (A.length:Int) w else A++d::D) (k+1) (U1 W D (A.length+1))=_;have em:(n-((k+1:Nat):Int)).toNat=(n-k).toNat-1:=by omega
   by_cases hk:(k:Int)<n
   ·have ep:mN (A++d::D) (A.length:Int) w=A++w::D:=by
     unfold mN;rw [C4 ⟨by omega,by rw [E8o,E8w];omega⟩,E8D,List.set_append_right _ _ (E8m _),E9t];rfl
    have ih:=B5N (n:=n) (W:=W) (D:=D) (A:=A++[w]) (k:=k+1);rw [el,E8t,E8t,em] at ih;rw [C4 hk,ep,C5 (by omega)];exact ih
   ·have ih:=B5N (n:=n) (W:=W) (D:=D) (A:=A++[d]) (k:=k+1);rw [el,E8t,E8t,em] at ih;rw [C5 hk,C4 (by omega)];exact ih
def D6c:A04 n D 0 (U1 W D 0)=B6F n.toNat W D:=by
 have:=B5N (n:=n) (W:=W) (D:=D) (A:=[]) (k:=0);simpa using this
def C5P:∀ {W D:Dev} {m i:Nat},W.length=l_ D->(U1 W D i).length<=m->B6F m W D=W
 | [],[],m,i,_,_=>rfl
 | w::W,d::D,m,i,hl,h=>by
  have hl':W.length=(l_ D):=by simpa using hl
  by_cases e:w=d
  ·subst e;rw [B8Q] at h;rw [A93,C5P hl' h]
  ·rw [C8B e,E8w] at h;rw [A92 e,C5 (by omega),C5P hl' (by omega:(U1 W D (i+1)).length<=m-1)]
section
variable {D E:Dev} {n:Int}
def D2c{O:Dev}(h0:0<=no):blk O no=(O[no.toNat]?).getD (zeros 256):=by
 unfold blk;rw [C4 h0,E8k]
def E2b(hD:okD D)(hm:P6 (l_ D) n=A5):Mixed D (B6F m (gQ D n (E7 D n)) D) n:=by
 obtain ⟨okI,lI⟩:=C0w hD hm;refine ⟨hD,λb hb=>?_,B5d,hm,λno=>?_⟩
 ·obtain ⟨j,hj⟩:=E9g.1 hb;rcases D8g (j:=j) (m:=m) lI with h | h
  ·rw [hj] at h;exact hD b (E8H h.symm)
  ·rw [hj] at h;exact okI b (E8H h.symm)
 ·by_cases h0:0<=no
  ·rw [D2c h0,D2c h0,D2c h0];rcases D8g (j:=no.toNat) (m:=m) lI with h | h
   ·exact .inl (by rw [h])
   ·exact .inr (by rw [h])
  ·left;unfold blk;rw [C5 h0,C5 h0]
def E1X(hD:okD D)(hm:P6 (l_ D) n=A5):(gQ D n (E7 D n))[0]?=D[0]? := by
 obtain ⟨b16,_⟩:=H8.1 hm;obtain ⟨_,b512,n8,n128,nm8,nb⟩:=H8.1 hm;have B:=A9j hm;have ok:=qT hD hm;obtain ⟨_,_,_,K6,_⟩:=Z8 hD hm;have P:Pend D n (F5 D n) []:=by unfold F5;exact C06 hD (by omega) B.pend
 obtain ⟨s1,s2,s3,s4,s5,s6,s7⟩:=jN (L:=(F5 D n).row) (c:=F5 D n);have hb:(E7 D n).blocks=(F5 D n).blocks:=s3;rw [C0v hD hm ok K6 (by omega),C5 (by omega)];unfold C93;rw [C5 ?_,B57 ?_,E8k,E8h (by omega)]
 ·rfl
 ·rw [hb];intro h;have:=(P.dat _ (E8W _ h)).1;rw [show ((0:Nat):Int)=0 from rfl,bN] at this;cases this
 ·unfold B7c;rw [C4 ⟨hm,by omega,by omega⟩,C4 (by omega)];decide
def E1g(hl:l_ E=l_ D)(h:E[0]?=D[0]?):A9z E=A9z D/\uW E=uW D/\C7j E=C7j D:=by
 have e:E.headD []=D.headD []:=by
  have:∀ O:Dev,O.headD []=(O[0]?).getD []:=λO=>by cases O<;>rfl
  rw [this,this,h]
 unfold A9z uW C7j;rw [e,hl];exact ⟨rfl,rfl,rfl⟩
def E1Y(hD:okD D)(hm:P6 (l_ D) n=A5):kdV (gQ D n (E7 D n)) n 1=2:=by
 obtain ⟨b16,b512,n8,n128,nm8,nb⟩:=H8.1 hm;have B:=A9j hm;have ok:=qT hD hm;obtain ⟨_,_,_,K6,_⟩:=Z8 hD hm;have hi:Q2 (l_ D) n 1=A5:=M8.2 ⟨hm,by omega,by omega⟩;have E7G:=C5M hD hm ok K6 hi;have hlk:((E7 D n).ino.getD (1:Int).toNat []).getD 0 0=((F5 D n).ino.getD (1:Int).toNat []).getD 0 0:=A67.1;have hk:=D5U (E:=gQ D n (E7 D n)) (by rw [B50 hD hm ok];exact hi) (y:=(E7 D n).ino.getD (1:Int).toNat []) (by
  rw [E8k,E8h (by rw [K6];omega)];exact ok.ino _ (E8M _)) E7G
 rw [hk.1,hlk];have hrow:(wM (I5 D n) (aR (l_ D) n).toNat).row=[1]:=D46;unfold F5;generalize wM (I5 D n) (aR (l_ D) n).toNat=c at *;have e1:ofR D n 129 0 c=ofR D n 128 1 (U4 D n c 1):=by
  show (match c.row[0]? with
   | none=>c
   | some a=>ofR D n 128 (0+1) (U4 D n c a))=_
  rw [hrow];rfl
 have g:=A2F (D:=D) (n:=n) (a:=1) B.bm;have hg:=C05 (D:=D) (n:=n) (e:=128) (i:=1) g.bm;have wF:RowW n (ofR D n 128 1 (U4 D n c 1)):=A96 (iX B.w);have hat:(ofR D n 128 1 (U4 D n c 1)).row[0]?=A4 1:=A1h (g.row.trans hg.1) (by rw [hrow];rfl);rw [e1,B56 (by omega) (iX B.w) g.bm λj hj he=>?_]
 ·have e2:U4 D n c 1=oY D n c 1:=by unfold U4;rw [C5 (λh=>h.1 rfl)]
  rw [e2,(A9A B.bm).2 (by rw [B.il];omega)];rfl
 ·have:=(List.getElem?_inj (E8p.1 hat).1 wF.nd).1 (hat.trans he.symm);omega
end
section
variable {D:Dev} {n a:Int}
inductive seqT(D:Dev)(n a:Int):List Ent->Cl->Prop where
 | nil (c:Cl):seqT D n a [] c
 | cons (e:Ent) (L:List Ent) (c:Cl) (h1:R0 D n c e.2=A5) (h2:seqT D n a L (T7 D n c a e.2)):seqT D n a (e::L) c
def seqT.get{e:Ent}{L:List Ent}(h:seqT D n a (e::L) c):R0 D n c e.2=A5/\seqT D n a L (T7 D n c a e.2):=by
 cases h with
 | cons _ _ _ h1 h2=>exact ⟨h1,h2⟩
def B4y(L:List Ent)(x:Int):Nat:=(L.filter λe=>decide (e.2=x)).length
def D1E(D:Dev)(n a:Int)(c:Cl)(L:List Ent):Cl:=L.foldl (λc e=>T7 D n c a e.2) c
def E0n:R0 D n c i=A5↔i≠1/\kdV D n i≠0/\(kdV D n i=2->c.par i=A7):=by
 unfold R0;rw [E9b,Bool.or_eq_false_iff,Bool.or_eq_false_iff,decide_eq_false_iff_not,decide_eq_false_iff_not,Bool.and_eq_false_iff,decide_eq_false_iff_not];constructor
 ·rintro ⟨⟨h1,h2⟩,h3⟩;refine ⟨h1,h2,λhk=>?_⟩;rcases h3 with h | h
  ·exact absurd hk h
  ·cases hp:c.par i with
   | none=>rfl
   | some v=>rw [hp] at h;cases h
 ·rintro ⟨h1,h2,h3⟩;refine ⟨⟨h1,h2⟩,?_⟩;by_cases hk:kdV D n i=2
  ·right;rw [h3 hk];rfl
  ·exact .inl hk
def C3q(h:R0 D n c i=A5):(T7 D n c a i).par x=if (c.par x).isSome=A5 then c.par x else if x=i then A4 a else A7:=by
 unfold T7;rw [h,S8];cases hs:(c.par i).isSome with
 | true =>
  show c.par x=_;by_cases e:x=i
  ·subst e;rw [C4 hs]
  ·cases hx:c.par x with
   | none=>rw [C5 (by simp),C5 e]
   | some v=>simp
 | false =>
  show A1o c.par i a x=_;unfold A1o;by_cases e:x=i
  ·subst e;rw [C4 rfl,hs,C5 (by decide),C4 rfl]
  ·rw [C5 e];cases hx:c.par x with
   | none=>rw [C5 (by simp),C5 e]
   | some v=>simp
def E0o(h:R0 D n c i=A5):((T7 D n c a i).lnk x).getD 0=(c.lnk x).getD 0+(if i=x then 1 else 0):=by
 have key:((A2A c i).lnk x).getD 0=(c.lnk x).getD 0+(if i=x then 1 else 0):=by
  show (A1o c.lnk i ((c.lnk i).getD 0+1) x).getD 0=_;unfold A1o;by_cases e:x=i
  ·subst e;rw [C4 rfl,C4 rfl];rfl
  ·rw [C5 e,C5 (λh=>e h.symm)];omega
 unfold T7;rw [h,S8];cases hs:(c.par i).isSome with
 | true=>exact key
 | false=>exact key
structure Told(D:Dev)(n a:Int)(L:List Ent)(c c':Cl):Prop where
 par:∀ x,c'.par x=if (c.par x).isSome=A5 then c.par x else if x∈L.map (·.2) then A4 a else A7
 lnk:∀ x,(c'.lnk x).getD 0=(c.lnk x).getD 0+(B4y L x:Int)
 one:∀ e∈L,e.2≠1/\kdV D n e.2≠0
 dir:∀ e∈L,kdV D n e.2=2->c.par e.2=A7/\B4y L e.2=1
def C2N{e:Ent}{L:List Ent}:B4y (e::L) x=(if e.2=x then 1 else 0)+B4y L x:=by
 unfold B4y;by_cases h:e.2=x
 ·rw [E9l (by simpa using h),C4 h,E8w];omega
 ·rw [E9k (by simpa using h),C5 h];omega
def B5X{L:List Ent}(h:∀ e∈L,e.2≠x):B4y L x=0:=by
 unfold B4y;rw [List.filter_eq_nil_iff.2 λe he=>by simpa using h e he];rfl
def C5S:∀ {L:List Ent} {c:Cl},seqT D n a L c->Told D n a L c (D1E D n a c L)
 | [],c,_=>⟨λx=>by
   show c.par x=_;cases hx:c.par x with
   | none=>rw [C5 (by simp),C5 (by simp)]
   | some v=>simp,λx=>by show (c.lnk x).getD 0=_+((0:Nat):Int);omega,λe he=>by simp at he,λe he=>by simp at he⟩
 | e::L,c,h=>by
  obtain ⟨hb,hs⟩:=h.get;have ih:=C5S (L:=L) hs;have e1:D1E D n a c (e::L)=D1E D n a (T7 D n c a e.2) L:=rfl;rw [e1];obtain ⟨b1,b2,b3⟩:=E0n.1 hb;have aZ:∀ f∈L,kdV D n f.2=2->f.2≠e.2:=λf hf hk tH=>by
   have:=(ih.dir f hf hk).1;rw [C3q hb] at this;exact absurd this (by
    cases hp:c.par f.2 with
    | none=>rw [C5 (by simp),C4 tH];simp
    | some v=>simp)
  refine ⟨λx=>?_,λx=>?_,λf hf=>?_,λf hf hk=>?_⟩
  ·rw [ih.par,C3q hb];cases hp:c.par x with
   | some v=>simp
   | none =>
    by_cases e2:x=e.2
    ·subst e2;simp
    ·rw [C5 (by simp [e2])];by_cases h3:x∈L.map (·.2)
     ·rw [E9c,C4 h3,C5 (by simp),C4 (E8q _ h3)]
     ·rw [E9c,C5 h3,C5 (by simp),C5 (λh=>(E8J.1 h).elim e2 h3)]
  ·rw [ih.lnk,E0o hb,C2N];by_cases h:e.2=x
   ·rw [C4 h,C4 h];omega
   ·rw [C5 h,C5 h];omega
  ·rcases E8J.1 hf with rfl | hf
   ·exact ⟨b1,b2⟩
   ·exact ih.one f hf
  ·rcases E8J.1 hf with rfl | hf
   ·refine ⟨b3 hk,?_⟩;rw [C2N,C4 rfl,B5X λg hg tH=>aZ g hg (by rw [tH];exact hk) tH]
   ·obtain ⟨d1,d2⟩:=ih.dir f hf hk;have hn:=aZ f hf hk;refine ⟨?_,by rw [C2N,C5 (λh=>hn h.symm),d2]⟩;rw [C3q hb] at d1;cases hp:c.par f.2 with
    | none=>rfl
    | some v=>rw [hp] at d1;simp at d1
def C4z(h:c'.par=c.par):R0 D n c' i=R0 D n c i:=by unfold R0;rw [h]
def D5O(h:c'.par=c.par):(T7 D n c' a i).par=(T7 D n c a i).par:=by
 unfold T7;rw [C4z h,h];cases R0 D n c i with
 | false=>exact h
 | true =>
  cases (c.par i).isSome with
  | true=>exact h
  | false=>show A1o c'.par i a=A1o c.par i a;rw [h]
def B8T:∀ {L:List Ent} {c c':Cl},c'.par=c.par->seqT D n a L c->seqT D n a L c'
 | [],_,_,_,_=>.nil _
 | e::L,c,c',h,hs=>.cons _ _ _ (by rw [C4z h];exact hs.get.1) (B8T (D5O h) hs.get.2)
def D1M:∀ {L:List Ent} {c:Cl} {K:List UInt8->Option Int},seqT D n a L c->(O7 D n a (c,K) L).1=D1E D n a c L
 | [],_,_,_=>rfl
 | e::L,c,K,h=>by
  have e1:J7 D n a (c,K) e=(T7 D n c a e.2,B5z K e.1 e.2):=by unfold J7;rw [h.get.1];rfl
  show (O7 D n a (J7 D n a (c,K) e) L).1=D1E D n a (T7 D n c a e.2) L;rw [e1];exact D1M h.get.2
def D1G:∀ {L:List Ent} {c:Cl} {K:List UInt8->Option Int},L.Pairwise (λe f=>e.1≠f.1)->seqT D n a L c->∀ e∈L,(O7 D n a (c,K) L).2 e.1=A4 e.2
 | [],_,_,_,_=>λe he=>by simp at he
 | e::L,c,K,hp,h=>by
  have e1:J7 D n a (c,K) e=(T7 D n c a e.2,B5z K e.1 e.2):=by unfold J7;rw [h.get.1];rfl
  obtain ⟨p1,p2⟩:=List.pairwise_cons.1 hp;intro f hf;show (O7 D n a (J7 D n a (c,K) e) L).2 f.1=A4 f.2;rw [e1];rcases E8J.1 hf with rfl | hf
  ·rw [A7p λg hg h=>p1 g hg h.symm];show B5z K f.1 f.2 f.1=A4 f.2;unfold B5z;rw [C4 rfl]
  ·exact D1G p2 h.get.2 f hf
def D5A:∀ {L:List Ent} {c:Cl} {K:List UInt8->Option Int},L.Pairwise (λe f=>e.1≠f.1)->(∀ e∈L,K e.1=A7)->(∀ e∈L,(O7 D n a (c,K) L).2 e.1≠A7)->seqT D n a L c
 | [],_,_,_,_,_=>.nil _
 | e::L,c,K,hp,hK,h=>by
  obtain ⟨p1,p2⟩:=List.pairwise_cons.1 hp;have h0:=h e (E8u ..);have hb:R0 D n c e.2=A5:=by
   cases hb:R0 D n c e.2 with
   | true=>rfl
   | false =>
    have e1:J7 D n a (c,K) e=(c,K):=by unfold J7;rw [hb];rfl
    have h0:(O7 D n a (J7 D n a (c,K) e) L).2 e.1≠A7:=h0;rw [e1,A7p λg hg h=>p1 g hg h.symm] at h0;exact absurd (hK e (E8u ..)) h0
  have e1:J7 D n a (c,K) e=(T7 D n c a e.2,B5z K e.1 e.2):=by unfold J7;rw [hb];rfl
  refine .cons _ _ _ hb (D5A (K:=B5z K e.1 e.2) p2 (λf hf=>?_) λf hf=>?_)
  ·unfold B5z;rw [C5 λh=>p1 f hf h.symm];exact hK f (E8q _ hf)
  ·have:=h f (E8q _ hf);have:(O7 D n a (J7 D n a (c,K) e) L).2 f.1≠A7:=this;rw [e1] at this;exact this
end
section
variable {D:Dev} {n:Int}
def A9V(h:G7 (l_ D) n x=A5):0<=x/\x<l_ D/\x≠0:=by
 obtain ⟨hm,h1,h2⟩:=vX.1 h;have:=(oX (b:=l_ D) (n:=n)).1;refine ⟨by omega,h2,λe=>?_⟩;rw [e,bN] at h;cases h
def B5s{l:List Bool}{i:Nat}:(l.set i A5).getD j A5=A5↔l.getD j A5=A5\/j=i:=by
 rw [E8k,E8k,E9n];by_cases h:i=j
 ·subst h;rw [C4 rfl];by_cases hl:i<(l_ l)
  ·rw [C4 hl];simp
  ·rw [C5 hl];simp
 ·rw [C5 h];constructor
  ·exact .inl
  ·rintro (h1 | rfl)
   ·exact h1
   ·exact absurd rfl h
def C7a(h:dL D n c x=A5):(J9 D n c x).taken=c.taken.set x.toNat A5:=by rw [C7b h]
def C69:dL D n c x=A5↔G7 (l_ D) n x=A5/\c.taken.getD x.toNat A5=A6:=by
 unfold dL;rw [E8j,E9b]
def D7R(h:c'.taken=c.taken):dL D n c' x=dL D n c x:=by unfold dL;rw [h]
def D7S(h:c'.taken=c.taken):(J9 D n c' x).taken=(J9 D n c x).taken:=by
 unfold J9;rw [D7R h];cases dL D n c x with
 | false=>exact h
 | true=>show c'.taken.set _ _=c.taken.set _ _;rw [h]
def A5H:∀ {L:List Int} {c c':Cl},c'.taken=c.taken->J4 D n c' L=J4 D n c L
 | [],_,_,_=>rfl
 | x::L,c,c',h=>by
  unfold J4;rw [D7R h,A5H (D7S h),A5H h]
def D2g:∀ {L:List Int} {c c':Cl},c'.taken=c.taken->(cY D n c' L).taken=(cY D n c L).taken
 | [],_,_,h=>h
 | x::L,c,c',h=>by
  show (cY D n (J9 D n c' x) L).taken=(cY D n (J9 D n c x) L).taken;exact D2g (D7S h)
def eZ:J4 D n c (x::L)=x::L↔dL D n c x=A5/\J4 D n (J9 D n c x) L=L:=by
 show (if dL D n c x=A5 then x::J4 D n (J9 D n c x) L else J4 D n c L)=x::L↔_;cases h:dL D n c x with
 | true=>rw [C4 rfl];simp
 | false =>
  rw [C5 (by decide)];constructor
  ·intro e;have:=(keptL_sub (D:=D) (n:=n) (c:=c) (L:=L)).length_le;rw [e] at this;simp at this;omega
  ·rintro ⟨h,_⟩;cases h
def A9W:∀ {L:List Int} {c:Cl},J4 D n c L=L↔L.Nodup/\∀ x∈L,G7 (l_ D) n x=A5/\c.taken.getD x.toNat A5=A6
 | [],c=>by simp [J4]
 | x::L,c=>by
  rw [eZ,A9W,List.nodup_cons];constructor
  ·rintro ⟨hb,hn,hL⟩;obtain ⟨b1,b2⟩:=C69.1 hb;rw [C7a hb] at hL;refine ⟨⟨λhx=>?_,hn⟩,λy hy=>?_⟩
   ·have:=(hL x hx).2;rw [B5s.2 (.inr rfl)] at this;cases this
   ·rcases E8J.1 hy with rfl | hy
    ·exact ⟨b1,b2⟩
    ·obtain ⟨h1,h2⟩:=hL y hy;refine ⟨h1,?_⟩;cases ht:c.taken.getD y.toNat A5 with
     | false=>rfl
     | true=>rw [B5s.2 (.inl ht)] at h2;cases h2
  ·rintro ⟨⟨hx,hn⟩,hL⟩;obtain ⟨b1,b2⟩:=hL x (E8u ..);have hb:=C69.2 ⟨b1,b2⟩;refine ⟨hb,hn,λy hy=>?_⟩;obtain ⟨h1,h2⟩:=hL y (E8q _ hy);refine ⟨h1,?_⟩;rw [C7a hb];cases ht:(c.taken.set x.toNat A5).getD y.toNat A5 with
   | false=>rfl
   | true =>
    rcases B5s.1 ht with h | h
    ·rw [h] at h2;cases h2
    ·have e1:=A9V b1;have e2:=A9V h1;have:y=x:=by omega
     rw [this] at hy;exact absurd hy hx
def B8z:∀ {L:List Int} {c:Cl},J4 D n c L=L->∀ j:Nat,(cY D n c L).taken.getD j A5=A5↔c.taken.getD j A5=A5\/(j:Int)∈L
 | [],c,_,j=>by simp [cY]
 | x::L,c,h,j=>by
  obtain ⟨hb,hL⟩:=eZ.1 h;have ih:=B8z hL j;have hx:=A9V (C69.1 hb).1;show (cY D n (J9 D n c x) L).taken.getD j A5=A5↔_;rw [ih,C7a hb,B5s,E8J];constructor
  ·rintro ((h1 | rfl) | h1)
   ·exact .inl h1
   ·exact .inr (.inl (by omega))
   ·exact .inr (.inr h1)
  ·rintro (h1 | h1 | h1)
   ·exact .inl (.inl h1)
   ·exact .inl (.inr (by omega))
   ·exact .inr h1
def B44{c:Cl}:∀ {L M:List Int} {c:Cl},J4 D n c (L++M)=L++M↔J4 D n c L=L/\J4 D n (cY D n c L) M=M
 | [],M,c=>by
  show J4 D n c M=M↔_;simp [J4,cY]
 | x::L,M,c=>by
  rw [E89,eZ,eZ,B44 (c:=c)];exact ⟨λ⟨h1,h2,h3⟩=>⟨⟨h1,h2⟩,h3⟩,λ⟨⟨h1,h2⟩,h3⟩=>⟨h1,h2,h3⟩⟩
variable {no:Int}
def D2w{d:Int}(tI:Z5 D n k dr=A5)(hX:uY D n k dr=d::t)(hb:∀ b∈L,G7 (l_ D) n b=A5)
  {b:Int} (hL:b∈L) {s:Slt} (hs:s∈J2 (blk D b)):isL D n k dr ((b,s.1,s.2.2),s.2.1)=atH D (d::t) (b,s):=by
 have hz:=(A9V (hb b hL)).2.2;rw [Bool.eq_iff_iff];unfold isL;rw [decide_eq_true_iff,B5O];show A9Y D n k dr s.2.1=A4 (b,s.1,s.2.2)↔_;unfold A9Y;rw [hX];constructor
 ·intro h;by_cases c:Z5 D n k dr=A5/\G7 (l_ D) n (R8 (d::t) s.2.1)=A5
  ·rw [C4 c] at h;cases hf:U3 (blk D (R8 (d::t) s.2.1)) s.2.1 with
   | none=>rw [hf] at h;cases h
   | some y =>
    rw [hf] at h;obtain ⟨e1,e2⟩:=Prod.mk.inj (Option.some.inj h);obtain ⟨e3,e4⟩:=Prod.mk.inj e2;refine ⟨e1,?_⟩;rw [zL e1 hz,<-e1,hf];have hn:=A8p (e:=7) (k:=0) hf
    congr 1
    exact Prod.ext e3 (Prod.ext hn e4)
  ·rw [C5 c] at h;cases h
 ·rintro ⟨h1,h2⟩;rw [zL h1 hz] at h2;rw [C4 ⟨tI,by rw [h1];exact hb b hL⟩,h1,h2];rfl
def E0K:C6Q D L=(yR D L).map λe=>((e.1,e.2.1,e.2.2.2),e.2.2.1):=by
 unfold C6Q yR C1s;rw [List.map_flatMap]
 congr 1
 funext b
 rw [List.map_map];rfl
def C8c{e:Spt}:e∈yR D L↔e.1∈L/\e.2∈J2 (blk D e.1):=by
 unfold yR;rw [List.mem_flatMap];constructor
 ·rintro ⟨b,hb,he⟩;obtain ⟨s,hs,rfl⟩:=E8N.1 he;exact ⟨hb,hs⟩
 ·rintro ⟨h1,h2⟩;exact ⟨e.1,h1,E8N.2 ⟨e.2,h2,rfl⟩⟩
def D9z{d:Int}(tI:Z5 D n k dr=A5)(hX:uY D n k dr=d::t)(hB:T1 D n k dr=J3 t (C6 d)) :
  iQ D n k dr=S9 D (d::t) (J3 t (C6 d)):=by
 have hb:∀ b∈J3 t (C6 d),G7 (l_ D) n b=A5:=by
  intro b hb;rw [<-hB] at hb;unfold T1 at hb;rw [tI] at hb;exact (E8Z.1 hb).2
 have e1:T6 D n k dr (sJ D n k dr)=Q0 D (d::t) (yR D (J3 t (C6 d))):=by
  unfold T6 Q0 sJ;rw [hB,E0K,List.filter_map,List.map_map];have:(yR D (J3 t (C6 d))).filter ((isL D n k dr)∘λe=>((e.1,e.2.1,e.2.2.2),e.2.2.1))=(yR D (J3 t (C6 d))).filter (atH D (d::t)) :=
   List.filter_congr λe he=>by
    obtain ⟨h1,h2⟩:=C8c.1 he;exact D2w tI hX hb h1 h2
  rw [this];rfl
 unfold iQ S9;rw [e1];refine List.map_congr_left λs hs=>?_
 rw [fB] at hs;have hm:=(pL (λno h=>A2i h)).1 hs;have hz:=A2i hm.1
 congr 1
 unfold D6P B4Q A9Y;rw [hX,C4 ⟨tI,hb _ hm.1⟩,zL rfl hz];cases U3 (blk D (R8 (d::t) s)) s with
 | none=>rfl
 | some y=>rfl
def D7w{d:Int}(tI:Z5 D n k dr=A5)(hX:uY D n k dr=d::t)(hB:T1 D n k dr=J3 t (C6 d)) :
  eR D n k dr (sJ D n k dr)=[]↔∀ b∈J3 t (C6 d),∀ s∈J2 (blk D b),atH D (d::t) (b,s)=A5:=by
 have hb:∀ b∈J3 t (C6 d),G7 (l_ D) n b=A5:=by
  intro b hb;rw [<-hB] at hb;unfold T1 at hb;rw [tI] at hb;exact (E8Z.1 hb).2
 unfold eR sJ;rw [hB,E0K,List.map_eq_nil_iff,List.filter_eq_nil_iff];constructor
 ·intro h b h1 s h2;have:=h ((b,s.1,s.2.2),s.2.1) (E8N.2 ⟨(b,s),C8c.2 ⟨h1,h2⟩,rfl⟩);rw [D2w tI hX hb h1 h2] at this;simpa using this
 ·intro h x hx;obtain ⟨e,he,rfl⟩:=E8N.1 hx;obtain ⟨h1,h2⟩:=C8c.1 he;rw [D2w tI hX hb h1 h2];simpa using h e.1 h1 e.2 h2
end
section
variable {D:Dev} {n a:Int}
def noV(D:Dev)(n a:Int):Int:=(drV D n a).getD 0 0
def dpV(D:Dev)(n a:Int):Int:=getD (blk D (noV D n a))
def toV(D:Dev)(n a:Int):List Int:=O5 (blk D (noV D n a)) 32
def bkV(D:Dev)(n a:Int):List Int:=J3 (toV D n a) (C6 (dpV D n a))
def mkV(D:Dev)(n a:Int):List Int:=if kdV D n a=2 then pO D n (kdV D n a) (drV D n a) else if (drV D n a).getD 6 0=0 then [] else [(drV D n a).getD 6 0]
structure Stp(D:Dev)(n a:Int)(c c':Cl)(O:List Int)(L:List Ent):Prop where
 kept:J4 D n c O=O
 taken:∀ j:Nat,c'.taken.getD j A5=A5↔c.taken.getD j A5=A5\/(j:Int)∈O
 told:Told D n a L c c'
 lost:c'.lost=c.lost
 put:∀ q∈iZ c',q∈iZ c\/(blk D q.1=q.2/\q.1∈mkV D n a)
 own:pO D n (kdV D n a) (drV D n a)=O
 list:iQ D n (kdV D n a) (drV D n a)=L
structure DirS(D:Dev)(n a:Int):Prop where
 good:Q9 (blk D (noV D n a))=A5
 d0:0<=dpV D n a
 d5:dpV D n a<=5
 fair:Fair (dpV D n a) (toV D n a)
 at_:∀ b∈bkV D n a,∀ s∈J2 (blk D b),atH D (dpV D n a::toV D n a) (b,s)=A5
 clr:∀ b∈bkV D n a,clB (blk D b) (λ_=>A5)=blk D b
structure DirB(D:Dev)(n:Int)(c:Cl)(a:Int):Prop where
 s:DirS D n a
 kept:J4 D n c (noV D n a::bkV D n a)=noV D n a::bkV D n a
 seq:seqT D n a (S9 D (dpV D n a::toV D n a) (bkV D n a)) c
structure DirK(D:Dev)(n:Int)(c:Cl)(a:Int):Prop where
 kd:kdV D n a=2
 dr:drV D n a=noV D n a::zI 6
 body:noV D n a≠0->DirB D n c a
def D9y{e:Ent}(hz:∀ no∈L,no≠0)(he:e∈S9 D X L):R8 X e.1∈L/\∃ y,hmS D X e.1=A4 y/\y∈J2 (blk D (R8 X e.1))/\y.2=e:=by
 have hv:=D1e he;have hn:e.1∈Q0 D X (yR D L):=by
  unfold S9 at he;obtain ⟨s,hs,rfl⟩:=E8N.1 he;exact (fB _ _).1 hs
 obtain ⟨h1,h2⟩:=(pL hz).1 hn;refine ⟨h1,?_⟩;cases hm:hmS D X e.1 with
 | none=>rw [hm] at h2;cases h2
 | some y =>
  obtain ⟨_,r2,r3,_⟩:=C0s hm;refine ⟨y,rfl,r2,?_⟩;unfold B4Q at hv;rw [hm] at hv;exact Prod.ext r3 hv.symm
def D9G{b:Int}{s:Slt}(hz:∀ no∈L,no≠0)(hb:b∈L)(ha:atH D X (b,s)=A5):s.2∈S9 D X L:=by
 obtain ⟨h1,h2⟩:=B5O.1 ha;unfold S9;refine E8N.2 ⟨s.2.1,?_,?_⟩
 ·rw [fB,pL hz,h1,h2];exact ⟨hb,rfl⟩
 ·unfold B4Q;rw [h2];rfl
def E3F(hbm:c.blocks.length=c.made.length)(h0:noV D n a≠0)(hd:(K5 D n c a).2=noV D n a)(hp:∀ q∈iZ (oY D n c a),blk D q.1=q.2):DirB D n c a:=by
 obtain ⟨k1,k2,k3,k4,k5⟩:=A9B (D:=D) (n:=n) (c:=c) (a:=a) (by rw [hd];exact h0);have e0:(drV D n a).getD 0 0=noV D n a:=rfl;rw [e0] at k2 k3 k4 k5;rw [A06 (by rw [hd];exact h0),hd] at hp;have eD:getD (blk D (noV D n a))=dpV D n a:=rfl;have eT:O5 (blk D (noV D n a)) 32=toV D n a:=rfl;rw [eD,eT] at hp;have hs:=vT (D:=D) (n:=n) (ino:=a) (c:=c);have hib:(W0 D n c a).blocks.length=(W0 D n c a).made.length:=by
  show (K5 D n c a).1.blocks.length=(K5 D n c a).1.made.length;rw [hs.blocks,hs.made];exact hbm
 have hit:(W0 D n c a).taken=(J9 D n c (noV D n a)).taken:=by
  show (K5 D n c a).1.taken=_;rw [k5]
 have hip:(W0 D n c a).par=c.par:=hs.par;obtain ⟨p1,p2⟩:=A9l (D:=D) (n:=n) (c:=W0 D n c a) (a:=a) (no:=noV D n a) (d:=dpV D n a) (t:=toV D n a) hib;rw [p1] at hp;obtain ⟨f0,f5,fF⟩:=C0m (dpV D n a) (toV D n a);obtain ⟨fT,fA,_⟩:=B4f (D:=D) (n:=n) (c:=W0 D n c a) (d:=dpV D n a) (t:=toV D n a);obtain ⟨g1,g2⟩:=D4r f0 f5 fT;have Y8:=hp (_,_) (E8V _ (E8u ..));rw [g1] at Y8;have Y8:blk D (noV D n a)=pH (P9 (dpV D n a) (toV D n a)) (H5 D n (W0 D n c a) (dpV D n a) (toV D n a)).2:=Y8;have hdd:dpV D n a=P9 (dpV D n a) (toV D n a):=by
  have:getD (blk D (noV D n a))=_:=(congrArg getD Y8).trans (C7K f0 f5);exact this
 have htt:toV D n a=(H5 D n (W0 D n c a) (dpV D n a) (toV D n a)).2:=by
  have:O5 (blk D (noV D n a)) 32=_:=(congrArg (λb=>O5 b 32) Y8).trans (C7M fT.len (C7w fT));exact this
 have d0:0<=dpV D n a:=by rw [hdd];exact f0
 have d5:dpV D n a<=5:=by rw [hdd];exact f5
 have fr:Fair (dpV D n a) (toV D n a):=by
  rw [<-hdd,<-htt] at fT;exact fT
 obtain ⟨x1,x2⟩:=C7D d0 d5 fr;have hL:bkV D n a=J3 (toV D n a) (C6 (dpV D n a)):=rfl;have hBB:H5 D n (W0 D n c a) (dpV D n a) (toV D n a)=W2 D n (W0 D n c a,toV D n a) (bkV D n a):=by
  unfold H5;rw [x1,x2,<-hL]
 have nz:∀ x∈bkV D n a,x≠0:=λx=>A2i
 obtain ⟨a1,a2⟩:=A9m (D:=D) (n:=n) (c:=W0 D n c a) (L:=bkV D n a) fr.len C5E nz;rw [<-hBB] at a1 a2;rw [<-htt] at a2;have hk:J4 D n (W0 D n c a) (bkV D n a)=bkV D n a:=by
  refine keptL_sub.eq_of_length (Nat.le_antisymm keptL_sub.length_le ?_);refine (C5E (t:=toV D n a) (n:=C6 (dpV D n a))).length_le_of_subset λx hx=>?_
  have hx':x∈bkV D n a:=hx;obtain ⟨j,_,hj⟩:=(C0P (nz x hx) _).1 hx;have:=a2.get j;rw [hj] at this;by_cases hq:x∈J4 D n (W0 D n c a) (bkV D n a)
  ·exact hq
  ·rw [C5 (by simp [hx',hq])] at this;exact absurd this (nz x hx)
 have hk2:J4 D n c (noV D n a::bkV D n a)=noV D n a::bkV D n a:=by
  rw [eZ];exact ⟨k4,by rw [<-A5H hit];exact hk⟩
 rw [<-hdd,<-htt,<-hL] at hp;obtain ⟨K,hK⟩:=xEq ((bodyT D n (W0 D n c a) a (dpV D n a) (toV D n a)).2);rw [<-hK] at hp;have hb:∀ b∈bkV D n a,blk D b=clB (blk D b) (V5 D (dpV D n a::toV D n a) b K):=λb hb =>
  hp (b,_) (E8V _ (E8q _ (E8N.2 ⟨b,hb,rfl⟩)))
 have Z0:∀ b∈bkV D n a,∀ s∈J2 (blk D b),V5 D (dpV D n a::toV D n a) b K s=A5:=by
  intro b hb' s hs;have e:=D8d (b:=blk D b) (p:=V5 D (dpV D n a::toV D n a) b K);rw [<-hb b hb'] at e;rw [e] at hs;exact (E8Z.1 hs).2
 have hat:∀ b∈bkV D n a,∀ s∈J2 (blk D b),atH D (dpV D n a::toV D n a) (b,s)=A5:=λb hb' s hs=>by
  have:=Z0 b hb' s hs;unfold V5 at this;rw [E8j] at this;exact this.1
 refine ⟨⟨k2,d0,d5,fr,hat,λb hb'=>?_⟩,hk2,?_⟩
 ·have e:clB (blk D b) (λ_=>A5)=clB (blk D b) (V5 D (dpV D n a::toV D n a) b K):=C2K λy hy=>(Z0 b hb' y hy).symm
  rw [e];exact (hb b hb').symm
 ·have eT2:bodyT D n (W0 D n c a) a (dpV D n a) (toV D n a)=O7 D n a ((H5 D n (W0 D n c a) (dpV D n a) (toV D n a)).1,λ_=>A7) (S9 D (dpV D n a::toV D n a) (bkV D n a)):=by
   unfold bodyT;rw [<-hdd,<-htt,<-hL]
  rw [eT2] at hK;have hpar:(H5 D n (W0 D n c a) (dpV D n a) (toV D n a)).1.par=c.par:=by
   have hs2:=bK (D:=D) (n:=n) (L:=bkV D n a) (s:=(W0 D n c a,toV D n a));rw [hBB];exact hs2.par.trans hip
  refine B8T hpar.symm (D5A (K:=λ_=>A7) B49 (λ_ _=>rfl) λe he hn=>?_);obtain ⟨m1,y,m2,m3,m4⟩:=D9y nz he;have hy:=Z0 _ m1 y m3;have hy2:=(A1c.1 hy).2;have h1:1<=y.2.2:=(C0s m2).2.2.2;rw [m4,hK,hn] at hy2;rw [m4] at h1;have:(0:Int)=e.2:=hy2;omega
def C8W{a:Int}:∀ {L:List Ent} {s:Cl × (List UInt8->Option Int)},(O7 D n a s L).1.lost=s.1.lost
 | [],_=>rfl
 | e::L,s=>by
  have h:=C8W (a:=a) (L:=L) (s:=J7 D n a s e);have h2:(J7 D n a s e).1.lost=s.1.lost:=by
   unfold J7 T7;cases R0 D n s.1 e.2 with
   | false=>rfl
   | true =>
    show (bif (s.1.par e.2).isSome then A2A s.1 e.2 else C5s (A2A s.1 e.2) a e.2).lost=_;cases (s.1.par e.2).isSome<;>rfl
  exact h.trans h2
def C67{X:List Int}{K:List UInt8->Option Int}:∀ {L:List Int} {c:Cl},(∀ b∈L,∀ s∈J2 (blk D b),V5 D X b K s=A5)->(P5 D X K c L).lost=c.lost/\(P5 D X K c L).taken=c.taken/\(P5 D X K c L).lnk=c.lnk
 | [],_,_=>⟨rfl,rfl,rfl⟩
 | b::L,c,h=>by
  have key:∀ (l:List Slt) (s:Cl × List UInt8),(∀ x∈l,V5 D X b K x=A5)->(V3 D X b K s l).1=s.1:=by
   intro l
   induction l with
   | nil=>intro s _;rfl
   | cons x l ih =>
    intro s hx;show (V3 D X b K (fN D X b K s x) l).1=s.1;rw [ih _ λy hy=>hx y (E8q _ hy)];unfold fN;rw [hx x (E8u ..)];rfl
  have e:=key _ (c,dX []) (h b (E8u ..));obtain ⟨h1,h2,h3⟩:=C67 (X:=X) (K:=K) (c:=dN D X K c b) (L:=L) λb' hb'=>h b' (E8q _ hb')
  have e2:(dN D X K c b).lost=c.lost/\(dN D X K c b).taken=c.taken/\(dN D X K c b).lnk=c.lnk:=by
   unfold dN;show (V3 D X b K (c,dX []) _).1.lost=_/\(V3 D X b K (c,dX []) _).1.taken=_/\(V3 D X b K (c,dX []) _).1.lnk=_;rw [e];exact ⟨rfl,rfl,rfl⟩
  exact ⟨h1.trans e2.1,h2.trans e2.2.1,h3.trans e2.2.2⟩
def D8R(tI:Z5 D n k dr=A5)(hb:∀ b∈J3 (O5 (blk D (dr.getD 0 0)) 32) (C6 (getD (blk D (dr.getD 0 0)))),G7 (l_ D) n b=A5) :
  T1 D n k dr=J3 (O5 (blk D (dr.getD 0 0)) 32) (C6 (getD (blk D (dr.getD 0 0)))):=by
 unfold T1;rw [tI];exact List.filter_eq_self.2 hb
def D38(hk:kdV D n a=2)(hg:Q9 (blk D (noV D n a))=A5)(hd:∀ x∈noV D n a::bkV D n a,G7 (l_ D) n x=A5) :
  Z5 D n (kdV D n a) (drV D n a)=A5/\uY D n (kdV D n a) (drV D n a)=dpV D n a::toV D n a/\T1 D n (kdV D n a) (drV D n a)=bkV D n a /\
  pO D n (kdV D n a) (drV D n a)=noV D n a::bkV D n a/\iQ D n (kdV D n a) (drV D n a)=S9 D (dpV D n a::toV D n a) (bkV D n a):=by
 have tI:Z5 D n (kdV D n a) (drV D n a)=A5:=by
  unfold Z5;have e0:(drV D n a).getD 0 0=noV D n a:=rfl;rw [hk,e0,hg,hd _ (E8u ..)];rfl
 have hX:uY D n (kdV D n a) (drV D n a)=dpV D n a::toV D n a:=by unfold uY;rw [tI];rfl
 have hB:T1 D n (kdV D n a) (drV D n a)=bkV D n a:=D8R tI λb hb=>hd b (E8q _ hb)
 refine ⟨tI,hX,hB,?_,D9z tI hX hB⟩;unfold pO;rw [C4 hk,tI,C4 rfl,hB];rfl
def E1p(hk:kdV D n a=2)(h0:noV D n a=0):Z5 D n (kdV D n a) (drV D n a)=A6/\pO D n (kdV D n a) (drV D n a)=[]/\iQ D n (kdV D n a) (drV D n a)=[]:=by
 have e0:(drV D n a).getD 0 0=noV D n a:=rfl;have tI:Z5 D n (kdV D n a) (drV D n a)=A6:=by
  unfold Z5;rw [e0,h0,bN];simp
 have hB:T1 D n (kdV D n a) (drV D n a)=[]:=by unfold T1;rw [tI];rfl
 refine ⟨tI,?_,?_⟩
 ·unfold pO;rw [C4 hk,tI,C5 (by decide),hB];rfl
 ·unfold iQ T6 sJ;rw [hB];rfl
def D8Z(hbm:c.blocks.length=c.made.length)(K:DirK D n c a) :
  (K5 D n c a).2=noV D n a/\∃ O L,Stp D n a c (oY D n c a) O L/\((noV D n a=0/\O=[]/\L=[])\/(noV D n a≠0/\O=noV D n a::bkV D n a/\L=S9 D (dpV D n a::toV D n a) (bkV D n a))):=by
 have hs:=vT (D:=D) (n:=n) (ino:=a) (c:=c);have e0:(drV D n a).getD 0 0=noV D n a:=rfl;by_cases h0:noV D n a=0
 ·have hp:(K5 D n c a).2=0:=by
   unfold K5;rw [e0,h0];cases (decide (kdV D n a=2)&&Q9 (blk D 0)) with
   | false=>rfl
   | true=>exact A9y.1
  refine ⟨by rw [hp,h0],[],[],?_,.inl ⟨h0,rfl,rfl⟩⟩;obtain ⟨_,o1,o2⟩:=E1p K.kd h0;rw [A4r hp];have hn:=C2O hp;have t1:(W0 D n c a).taken=c.taken:=by show (K5 D n c a).1.taken=_;rw [hn]
  have t2:(W0 D n c a).par=c.par:=hs.par;have t3:(W0 D n c a).lnk=c.lnk:=hs.lnk;have td:=C5S (D:=D) (n:=n) (a:=a) (L:=[]) (c:=c) (.nil _);refine ⟨rfl,λj=>by rw [t1];simp,⟨λx=>by rw [t2];exact td.par x,λx=>by rw [t3];exact td.lnk x,td.one,td.dir⟩,hs.lost,λq hq=>.inl ?_,o1,o2⟩;have:q∈(K5 D n c a).1.blocks.zip (K5 D n c a).1.made:=hq;rw [hs.blocks,hs.made] at this;exact this
 ·obtain ⟨⟨good,d0,d5,fair,hat,clr⟩,kept,seq⟩:=K.body h0;obtain ⟨k4,kL⟩:=eZ.1 kept;have B6D:∀ x∈noV D n a::bkV D n a,G7 (l_ D) n x=A5:=λx hx=>((A9W.1 kept).2 x hx).1
  obtain ⟨_,_,_,o1,o2⟩:=D38 K.kd good B6D;have hP:K5 D n c a=(J9 D n c (noV D n a),noV D n a):=by
   unfold K5;rw [e0,K.kd,good];show (J9 D n c (noV D n a),K4 D n c (noV D n a))=_;rw [zB k4]
  have hp2:(K5 D n c a).2=noV D n a:=by rw [hP]
  refine ⟨hp2,noV D n a::bkV D n a,S9 D (dpV D n a::toV D n a) (bkV D n a),?_,.inr ⟨h0,rfl,rfl⟩⟩;have hib:(W0 D n c a).blocks.length=(W0 D n c a).made.length:=by
   show (K5 D n c a).1.blocks.length=(K5 D n c a).1.made.length;rw [hs.blocks,hs.made];exact hbm
  have hit:(W0 D n c a).taken=(J9 D n c (noV D n a)).taken:=by show (K5 D n c a).1.taken=_;rw [hP]
  obtain ⟨x1,x2⟩:=C7D d0 d5 fair;have hL:bkV D n a=J3 (toV D n a) (C6 (dpV D n a)):=rfl;have nz:∀ x∈bkV D n a,x≠0:=λx=>A2i
  have hBB:H5 D n (W0 D n c a) (dpV D n a) (toV D n a)=(cY D n (W0 D n c a) (bkV D n a),toV D n a):=by
   unfold H5;rw [x1,x2,<-hL];exact A6Y nz (by rw [A5H hit];exact kL)
  obtain ⟨B,hB⟩:=xEq (cY D n (W0 D n c a) (bkV D n a));rw [<-hB] at hBB;have hsB:SameC (W0 D n c a) B:=by
   have:=bK (D:=D) (n:=n) (L:=bkV D n a) (s:=(W0 D n c a,toV D n a));rw [A6Y nz (by rw [A5H hit];exact kL),<-hB] at this;exact this
  have eT2:bodyT D n (W0 D n c a) a (dpV D n a) (toV D n a)=O7 D n a (B,λ_=>A7) (S9 D (dpV D n a::toV D n a) (bkV D n a)):=by
   unfold bodyT;rw [hBB,x1,<-hL]
  have hpar:B.par=c.par:=hsB.par.trans hs.par;have E7y:B.lnk=c.lnk:=hsB.lnk.trans hs.lnk;have seqB:=B8T hpar seq;obtain ⟨T,hT⟩:=xEq (O7 D n a (B,λ_=>A7) (S9 D (dpV D n a::toV D n a) (bkV D n a)));rw [<-hT] at eT2;have hT1:T.1=D1E D n a B (S9 D (dpV D n a::toV D n a) (bkV D n a)):=by rw [hT];exact D1M seqB
  have hT2:∀ e∈S9 D (dpV D n a::toV D n a) (bkV D n a),T.2 e.1=A4 e.2:=by rw [hT];exact D1G B49 seqB
  have tB:=C5S seqB;rw [<-hT1] at tB;have Z0:∀ b∈bkV D n a,∀ s∈J2 (blk D b),V5 D (dpV D n a::toV D n a) b T.2 s=A5:=by
   intro b hb s hs';have h1:=hat b hb s hs';have h2:=hT2 _ (D9G nz hb h1);unfold V5;rw [h1,h2];simp
  have hC:oY D n c a=bE D n (W0 D n c a) a (noV D n a) (dpV D n a) (toV D n a):=by
   rw [A06 (by rw [hp2];exact h0),hp2];rfl
  have hbl:B.blocks.length=B.made.length:=by rw [hsB.blocks,hsB.made];exact hib
  have C9Q:=(A9l (D:=D) (n:=n) (c:=W0 D n c a) (a:=a) (no:=noV D n a) (d:=dpV D n a) (t:=toV D n a) hib).1;rw [<-hC,hBB,eT2,x1,<-hL] at C9Q;have A9O:oY D n c a=P5 D (dpV D n a::toV D n a) T.2 (dY T.1 (noV D n a) (bif okX (dpV D n a) (toV D n a) then pH (dpV D n a) (toV D n a) else zeros 256)) (bkV D n a):=by
   rw [hC];unfold bE;rw [hBB,eT2,x1,<-hL]
  obtain ⟨c1,c2,c3⟩:=C67 (X:=dpV D n a::toV D n a) (K:=T.2) (c:=dY T.1 (noV D n a) (bif okX (dpV D n a) (toV D n a) then pH (dpV D n a) (toV D n a) else zeros 256)) (L:=bkV D n a) Z0;rw [<-A9O] at c1 c2 c3;have c4:(oY D n c a).par=T.1.par:=by rw [A9O];exact oV.2
  have eTt:T.1.taken=B.taken:=by rw [hT];exact B5x
  refine ⟨kept,λj=>?_,⟨λx=>?_,λx=>?_,tB.one,λe he hk=>?_⟩,?_,λq hq=>?_,o1,o2⟩
  ·rw [c2];show T.1.taken.getD j A5=A5↔_;rw [eTt,hB,<-B8z kept j];have:(cY D n (W0 D n c a) (bkV D n a)).taken=(cY D n c (noV D n a::bkV D n a)).taken:=D2g hit;rw [this]
  ·rw [c4,tB.par,hpar]
  ·rw [c3];show (T.1.lnk x).getD 0=_;rw [tB.lnk,E7y]
  ·have:=tB.dir e he hk;rw [hpar] at this;exact this
  ·rw [c1];show T.1.lost=_;have:T.1.lost=B.lost:=by rw [hT];exact C8W
   rw [this,hsB.lost];show (K5 D n c a).1.lost=_;exact hs.lost
  ·rw [C9Q] at hq;rcases E8U.1 hq with h | h
   ·left
    have:q∈(K5 D n c a).1.blocks.zip (K5 D n c a).1.made:=h;rw [hs.blocks,hs.made] at this;exact this
   ·right
    have hmk:mkV D n a=noV D n a::bkV D n a:=by unfold mkV;rw [C4 K.kd,o1]
    refine ⟨?_,by
     rw [hmk];rcases E8J.1 h with rfl | h
     ·exact E8u ..
     ·obtain ⟨b,hb,rfl⟩:=E8N.1 h;exact E8q _ hb⟩
    rcases E8J.1 h with rfl | h
    ·unfold Q9 at good;rw [E8j,E8j] at good;have g1:okX (dpV D n a) (toV D n a)=A5:=good.1;have g2:pH (dpV D n a) (toV D n a)=blk D (noV D n a):=of_decide_eq_true good.2.1;show blk D (noV D n a)=bif okX (dpV D n a) (toV D n a) then pH (dpV D n a) (toV D n a) else zeros 256
     rw [g1,g2];rfl
    ·obtain ⟨b,hb,rfl⟩:=E8N.1 h;show blk D b=clB (blk D b) (V5 D (dpV D n a::toV D n a) b T.2);have:clB (blk D b) (V5 D (dpV D n a::toV D n a) b T.2)=clB (blk D b) (λ_=>A5):=C2K λy hy=>Z0 b hb y hy
     rw [this,clr b hb]
end
def nzL(L:List Int):List Int:=L.filter λx=>!decide (x=0)
def E36{M:List Int}:nzL (L++M)=nzL L++nzL M:=by unfold nzL;rw [E9x]
def C04:nzL ((0:Int)::L)=nzL L:=by unfold nzL;rw [E9k (by simp)]
def A5L(h:x≠0):nzL (x::L)=x::nzL L:=by unfold nzL;rw [E9l (by simpa using h)]
def C8t(h:∀ x∈L,x=0):nzL L=[]:=by
 unfold nzL;exact List.filter_eq_nil_iff.2 λx hx=>by simpa using h x hx
def W9(f:Nat->Int)(k e:Nat):List Int:=nzL ((E8Q k e).map f)
def A1g{k:Nat}:W9 f k (e+1)=if f k=0 then W9 f (k+1) e else f k::W9 f (k+1) e:=by
 unfold W9;rw [List.range'_succ,E9c];by_cases h:f k=0
 ·rw [h,C04,C4 rfl]
 ·rw [A5L h,C5 h]
def D4V(hm:m<=e)(h:∀ j,m<=j->j<e->f j=0):W9 f 0 e=W9 f 0 m:=by
 have:E8Q 0 e=E8Q 0 m++E8Q m (e-m):=by
  rw [show e=m+(e-m) by omega,<-List.range'_append];simp
 unfold W9;rw [this,E9e,E36];rw [C8t (L:=(E8Q m (e-m)).map f),E8C];intro x hx;obtain ⟨j,hj,rfl⟩:=E8N.1 hx;rw [E9s] at hj;exact h j hj.1 (by omega)
def B8M{g:Nat->Int}{k:Nat}(h:∀ j,k<=j->j<k+e->f j=g j):W9 f k e=W9 g k e:=by
 unfold W9
 congr 1
 exact List.map_congr_left λj hj=>by
  rw [E9s] at hj;exact h j hj.1 hj.2
def C0X{k:Nat}:x∈W9 f k e↔x≠0/\∃ j,k<=j/\j<k+e/\f j=x:=by
 unfold W9 nzL;rw [E8Z,E8N];simp only [E9s,E9b,decide_eq_false_iff_not];constructor
 ·rintro ⟨⟨j,hj,h⟩,h0⟩;exact ⟨h0,j,hj.1,hj.2,h⟩
 ·rintro ⟨h0,j,h1,h2,h⟩;exact ⟨⟨j,⟨h1,h2⟩,h⟩,h0⟩
def C8n{s:Nat}:∀ {e k:Nat},W9 f (s+k) e=W9 (λj=>f (s+j)) k e
 | 0,_=>rfl
 | e+1,k=>by
  rw [A1g,A1g,show s+k+1=s+(k+1) by omega,C8n]
def C2P{at':Int->Int}{f:Nat->Int}:∀ {e k:Nat},(∀ j,k<=j->j<k+e->at' (j:Int)=f j)->(bT at' e k).map (·.2)=W9 f k e
 | 0,_,_=>rfl
 | e+1,k,h=>by
  have h0:=h k (E8m _) (by omega);have ih:=C2P (at':=at') (f:=f) (e:=e) (k:=k+1) λj h1 h2=>h j (by omega) (by omega)
  rw [A1g,bT,h0];by_cases c:f k=0
  ·rw [C4 c,C4 c,ih]
  ·rw [C5 c,C5 c,E9c,ih]
section
variable {D:Dev} {n a:Int}
def B5T:cY D n c (x::L)=cY D n (J9 D n c x) L:=rfl
def D31{M:List Int}:cY D n c (L++M)=cY D n (cY D n c L) M:=by unfold cY;rw [List.foldl_append]
def C0f:J9 D n c 0=c:=A9y.2
def C7l{d:List Int}:∀ {e k:Nat} {s:Cl × List Int},k+e<=s.2.length->(∀ j,k<=j->j<k+e->(dW D n d e k s).2.getD j 0=d.getD j 0) ->
  (dW D n d e k s).1=cY D n s.1 (W9 (λj=>d.getD j 0) k e)/\J4 D n s.1 (W9 (λj=>d.getD j 0) k e)=W9 (λj=>d.getD j 0) k e
 | 0,_,_,_,_=>⟨rfl,rfl⟩
 | e+1,k,s,hl,h=>by
  have e1:(dW D n d (e+1) k s).2.getD k 0=K4 D n s.1 (d.getD k 0):=by
   show (dW D n d e (k+1) (J9 D n s.1 (d.getD k 0),s.2.set k (K4 D n s.1 (d.getD k 0)))).2.getD k 0=_;rw [gL (by omega)];show (s.2.set k _).getD k 0=_;rw [E8k,E9n,C4 rfl,C4 (by omega)];rfl
  have h0:=h k (E8m _) (by omega);rw [e1] at h0;obtain ⟨i1,i2⟩:=C7l (d:=d) (e:=e) (k:=k+1) (s:=(J9 D n s.1 (d.getD k 0),s.2.set k (K4 D n s.1 (d.getD k 0)))) (by show k+1+e<=(s.2.set k _).length;rw [E80];omega) (λj h1 h2=>h j (by omega) (by omega));have i1:(dW D n d (e+1) k s).1=cY D n (J9 D n s.1 (d.getD k 0)) (W9 (λj=>d.getD j 0) (k+1) e):=i1;have i2:J4 D n (J9 D n s.1 (d.getD k 0)) (W9 (λj=>d.getD j 0) (k+1) e)=W9 (λj=>d.getD j 0) (k+1) e:=i2;rw [A1g];by_cases c:d.getD k 0=0
  ·rw [C4 c];rw [c,C0f] at i1 i2;exact ⟨i1,i2⟩
  ·rw [C5 c,B5T,eZ];exact ⟨i1,(B5U (by rw [h0];exact c)).2,i2⟩
def D36{d:List Int}:∀ {e k:Nat} {s:Cl × List Int},k+e<=s.2.length->J4 D n s.1 (W9 (λj=>d.getD j 0) k e)=W9 (λj=>d.getD j 0) k e ->
  (dW D n d e k s).1=cY D n s.1 (W9 (λj=>d.getD j 0) k e)/\∀ j,k<=j->j<k+e->(dW D n d e k s).2.getD j 0=d.getD j 0
 | 0,_,_,_,_=>⟨rfl,λj h1 h2=>by omega⟩
 | e+1,k,s,hl,h=>by
  have e1:(dW D n d (e+1) k s).2.getD k 0=K4 D n s.1 (d.getD k 0):=by
   show (dW D n d e (k+1) (J9 D n s.1 (d.getD k 0),s.2.set k (K4 D n s.1 (d.getD k 0)))).2.getD k 0=_;rw [gL (by omega)];show (s.2.set k _).getD k 0=_;rw [E8k,E9n,C4 rfl,C4 (by omega)];rfl
  rw [A1g] at h ⊢;have key:K4 D n s.1 (d.getD k 0)=d.getD k 0/\J4 D n (J9 D n s.1 (d.getD k 0)) (W9 (λj=>d.getD j 0) (k+1) e)=W9 (λj=>d.getD j 0) (k+1) e:=by
   by_cases c:d.getD k 0=0
   ·rw [C4 c] at h;rw [c,C0f];exact ⟨A9y.1,h⟩
   ·rw [C5 c,eZ] at h;exact ⟨zB h.1,h.2⟩
  obtain ⟨i1,i2⟩:=D36 (d:=d) (e:=e) (k:=k+1) (s:=(J9 D n s.1 (d.getD k 0),s.2.set k (K4 D n s.1 (d.getD k 0)))) (by show k+1+e<=(s.2.set k _).length;rw [E80];omega) key.2;refine ⟨?_,λj h1 h2=>?_⟩
  ·have i1:(dW D n d (e+1) k s).1=cY D n (J9 D n s.1 (d.getD k 0)) (W9 (λj=>d.getD j 0) (k+1) e):=i1;rw [i1];by_cases c:d.getD k 0=0
   ·rw [C4 c,c,C0f]
   ·rw [C5 c,B5T]
  ·by_cases c:j=k
   ·subst c;rw [e1,key.1]
   ·exact i2 j (by omega) (by omega)
def B4E(hb:l_ b=256):∀ {e k:Nat} {c:Cl},k+e<=128->(∀ j,k<=j->j<k+e->ptP (M4 D n many e k (c,b)).2 j=ptP b j) ->
  (M4 D n many e k (c,b)).1=cY D n c (W9 (ptP b) k e)/\J4 D n c (W9 (ptP b) k e)=W9 (ptP b) k e/\∀ j,k<=j->j<k+e->ptP b j≠0->(j:Int)+6<many
 | 0,_,_,_,_=>⟨rfl,rfl,λj h1 h2=>by omega⟩
 | e+1,k,c,hl,h=>by
  have hf:ptP (M4 D n many (e+1) k (c,b)).2 k=if ptP b k≠0/\(k:Int)+6<many/\K4 D n c (ptP b k)≠0 then ptP b k else 0:=by
   show ptP (M4 D n many e (k+1) (R7 D n many (c,b) k)).2 k=_;rw [A65 (by omega) (by rw [A4t];exact hb;omega) (by omega) (.inl (by omega)),C0o hb (by omega) (by omega),C4 rfl]
  have h0:=h k (E8m _) (by omega);rw [hf] at h0;rw [A1g];by_cases z:ptP b k=0
  ·have e1:R7 D n many (c,b) k=(c,b):=by unfold R7;rw [C4 z]
   have e2:M4 D n many (e+1) k (c,b)=M4 D n many e (k+1) (c,b):=by
    show M4 D n many e (k+1) (R7 D n many (c,b) k)=_;rw [e1]
   rw [e2] at h ⊢;obtain ⟨i1,i2,i3⟩:=B4E hb (e:=e) (k:=k+1) (c:=c) (by omega) λj h1 h2=>h j (by omega) (by omega)
   rw [C4 z];refine ⟨i1,i2,λj h1 h2 h3=>?_⟩;by_cases c1:j=k
   ·subst c1;exact absurd z h3
   ·exact i3 j (by omega) (by omega) h3
  ·by_cases hc:ptP b k≠0/\(k:Int)+6<many/\K4 D n c (ptP b k)≠0
   ·have e1:R7 D n many (c,b) k=(J9 D n c (ptP b k),b):=by
     unfold R7;rw [C5 z,C4 hc.2.1,O4 hc.2.1,W3 hc.2.2];rfl
    have e2:M4 D n many (e+1) k (c,b)=M4 D n many e (k+1) (J9 D n c (ptP b k),b):=by
     show M4 D n many e (k+1) (R7 D n many (c,b) k)=_;rw [e1]
    rw [e2] at h ⊢;obtain ⟨i1,i2,i3⟩:=B4E hb (e:=e) (k:=k+1) (c:=J9 D n c (ptP b k)) (by omega) λj h1 h2=>h j (by omega) (by omega)
    rw [C5 z,B5T,eZ];refine ⟨i1,⟨(B5U hc.2.2).2,i2⟩,λj h1 h2 h3=>?_⟩;by_cases c1:j=k
    ·subst c1;exact hc.2.1
    ·exact i3 j (by omega) (by omega) h3
   ·rw [C5 hc] at h0;exact absurd h0.symm z
def C2S:∀ {e k:Nat} {c:Cl},J4 D n c (W9 (ptP b) k e)=W9 (ptP b) k e->(∀ j,k<=j->j<k+e->ptP b j≠0->(j:Int)+6<many) ->
  M4 D n many e k (c,b)=(cY D n c (W9 (ptP b) k e),b)
 | 0,_,_,_,_=>rfl
 | e+1,k,c,h,hm=>by
  rw [A1g] at h ⊢;show M4 D n many e (k+1) (R7 D n many (c,b) k)=_;by_cases z:ptP b k=0
  ·have e1:R7 D n many (c,b) k=(c,b):=by unfold R7;rw [C4 z]
   rw [C4 z] at h ⊢;rw [e1,C2S h λj h1 h2=>hm j (by omega) (by omega)]
  ·rw [C5 z,eZ] at h;have hk:=hm k (E8m _) (by omega) z;have e1:R7 D n many (c,b) k=(J9 D n c (ptP b k),b):=by
    unfold R7;have:K4 D n c (ptP b k)≠0:=by rw [zB h.1];exact z
    rw [C5 z,C4 hk,O4 hk,W3 this];rfl
   rw [e1,C5 z,B5T,C2S h.2 λj h1 h2=>hm j (by omega) (by omega)]
def Y1(D:Dev)(n a:Int):Int:=(drV D n a).getD 6 0
def A4f(D:Dev)(n a:Int)(j:Nat):Int:=if Y1 D n a=0 then 0 else ptP (blk D (Y1 D n a)) j
def flV(D:Dev)(n a:Int):List Int:=W9 (λj=>(drV D n a).getD j 0) 0 6++nzL [Y1 D n a]++W9 (A4f D n a) 0 128
structure FilS(D:Dev)(n a:Int):Prop where
 num:∀ j:Nat,j<6->(drV D n a).getD j 0≠0->(j:Int)<T9 (szV D n a)
 ind:Y1 D n a≠0->6<T9 (szV D n a)
 pts:∀ j:Nat,j<128->A4f D n a j≠0->(j:Int)+6<T9 (szV D n a)
def D7Y(h1:∀ j:Nat,j<6->(I6 D n c a).2.getD j 0=(drV D n a).getD j 0)(h6:(I6 D n c a).2.getD 6 0=Y1 D n a) :
  (∀ j:Nat,j<6->(drV D n a).getD j 0≠0->(j:Int)<T9 (szV D n a))/\(Y1 D n a≠0->6<T9 (szV D n a)) /\
  (I6 D n c a).1=cY D n c (W9 (λj=>(drV D n a).getD j 0) 0 6++nzL [Y1 D n a])/\J4 D n c (W9 (λj=>(drV D n a).getD j 0) 0 6++nzL [Y1 D n a])=W9 (λj=>(drV D n a).getD j 0) 0 6++nzL [Y1 D n a]:=by
 rw [A5w] at h1 h6 ⊢;obtain ⟨m,hm⟩:=xEq ((min (T9 (szV D n a)) 6).toNat);have m6:m<=6:=by omega
 unfold A3p at h1 h6 ⊢;rw [<-hm] at h1 h6 ⊢;obtain ⟨s,hs⟩:=xEq (dW D n (drV D n a) m 0 (c,zI 7));have sl:s.2.length=7:=by rw [hs,A07.2];simp [zI]
 have eI:∀ j,j<6->(A2w D n (drV D n a) (T9 (szV D n a)) s).2.getD j 0=s.2.getD j 0:=by
  intro j hj;unfold A2w;split
  ·show (s.2.set 6 _).getD j 0=_;rw [E8k,E9r (by omega),<-E8k]
  ·rfl
 rw [<-hs] at h1 h6 ⊢;have h1':∀ j,j<6->s.2.getD j 0=(drV D n a).getD j 0:=λj hj=>(eI j hj).symm.trans (h1 j hj)
 have hz:∀ j,m<=j->j<6->(drV D n a).getD j 0=0:=by
  intro j h2 h3;rw [<-h1' j h3,hs,gL (by omega)];show (zI 7).getD j 0=0;unfold zI;rw [E8k,List.getElem?_replicate];split<;>rfl
 obtain ⟨k1,k2⟩:=C7l (D:=D) (n:=n) (d:=drV D n a) (e:=m) (k:=0) (s:=(c,zI 7)) (by simp [zI];omega) λj _ h2=>by rw [<-hs];exact h1' j (by omega)
 rw [<-hs] at k1;have e6:=D4V (f:=λj=>(drV D n a).getD j 0) m6 hz;rw [e6];have k1:s.1=cY D n c (W9 (λj=>(drV D n a).getD j 0) 0 m):=k1;have k2:J4 D n c (W9 (λj=>(drV D n a).getD j 0) 0 m)=W9 (λj=>(drV D n a).getD j 0) 0 m:=k2;have ei:(drV D n a).getD 6 0=Y1 D n a:=rfl;refine ⟨λj hj h0=>?_,λh0=>?_,?_⟩
 ·rcases Nat.lt_or_ge j m with h | h
  ·omega
  ·exact absurd (hz j h hj) h0
 ·by_cases h:6<T9 (szV D n a)
  ·exact h
  ·exfalso;unfold A2w at h6;rw [C5 h,hs,gL (by omega)] at h6;exact h0 h6.symm
 ·unfold A2w at h6 ⊢;by_cases h:6<T9 (szV D n a)
  ·rw [C4 h] at h6 ⊢;have h6:(s.2.set 6 (K4 D n s.1 ((drV D n a).getD 6 0))).getD 6 0=Y1 D n a:=h6;rw [E8k,E9n,C4 rfl,C4 (by omega),ei] at h6;have h6:K4 D n s.1 (Y1 D n a)=Y1 D n a:=h6;show J9 D n s.1 ((drV D n a).getD 6 0)=_/\_;rw [ei,B44 (c:=c),D31,<-k1];by_cases z:Y1 D n a=0
   ·rw [z,C04,C0f];exact ⟨rfl,k2,rfl⟩
   ·rw [A5L z];refine ⟨rfl,k2,?_⟩;exact eZ.2 ⟨(B5U (by rw [h6];exact z)).2,rfl⟩
  ·rw [C5 h] at h6 ⊢;have z:Y1 D n a=0:=by
    rw [hs,gL (by omega)] at h6;exact h6.symm
   rw [z,C04];show s.1=cY D n c (_++[])/\J4 D n c (_++[])=_++[];rw [E8C];exact ⟨k1,k2⟩
def E1x(hD:okD D)(hd:(I6 D n c a).2=drV D n a)(hp:Y1 D n a≠0->(M4 D n (T9 (szV D n a)) 128 0 (L9 D n c a,blk D (Y1 D n a))).2=blk D (Y1 D n a)) :
  FilS D n a/\J4 D n c (flV D n a)=flV D n a:=by
 obtain ⟨s1,s2,s3,s4⟩:=D7Y (D:=D) (n:=n) (a:=a) (c:=c) (λj _=>by rw [hd]) (by rw [hd];rfl);have ht:(L9 D n c a).taken=(cY D n c (W9 (λj=>(drV D n a).getD j 0) 0 6++nzL [Y1 D n a])).taken:=by
  show (I6 D n c a).1.taken=_;rw [s3]
 unfold flV;rw [B44 (c:=c)];by_cases z:Y1 D n a=0
 ·have e:W9 (A4f D n a) 0 128=[]:=by
   unfold W9;exact C8t λx hx=>by
    obtain ⟨j,_,rfl⟩:=E8N.1 hx;unfold A4f;rw [C4 z]
  refine ⟨⟨s1,s2,λj _ h=>?_⟩,s4,by rw [e];rfl⟩;unfold A4f at h;rw [C4 z] at h;exact absurd rfl h
 ·obtain ⟨f1,f2,f3⟩:=B4E (D:=D) (n:=n) (many:=T9 (szV D n a)) (b:=blk D (Y1 D n a)) (J6 hD) (e:=128) (k:=0) (c:=L9 D n c a) (by omega) λj _ _=>by rw [hp z]
  have e:W9 (A4f D n a) 0 128=W9 (ptP (blk D (Y1 D n a))) 0 128:=B8M λj _ _=>by unfold A4f;rw [C5 z]
  refine ⟨⟨s1,s2,λj hj h=>?_⟩,s4,?_⟩
  ·unfold A4f at h;rw [C5 z] at h;exact f3 j (by omega) (by omega) h
  ·rw [e,<-A5H ht];exact f2
def D88(hk:kdV D n a=1)(hd:∀ x∈flV D n a,G7 (l_ D) n x=A5):pO D n (kdV D n a) (drV D n a)=flV D n a/\iQ D n (kdV D n a) (drV D n a)=[]:=by
 constructor
 ·rw [hk];have n12:¬ (1:Int)=2:=by decide
  unfold pO;rw [C5 n12];have ei:(drV D n a).getD 6 0=Y1 D n a:=rfl;have eI:(if (1:Int)=1/\G7 (l_ D) n ((drV D n a).getD 6 0)=A5 then [(drV D n a).getD 6 0] else [])=nzL [Y1 D n a]:=by
   rw [ei];by_cases z:Y1 D n a=0
   ·rw [z,C04,C5 (by rw [bN];simp)];rfl
   ·rw [A5L z,C4 ⟨rfl,hd _ (E8W _ (E8V _ (by rw [A5L z];exact E8u ..)))⟩];rfl
  have e1:(bT (atF D n 1 (drV D n a)) 6 0).map (·.2)=W9 (λj=>(drV D n a).getD j 0) 0 6:=by
   refine C2P λj _ hj=>?_
   unfold atF vS D25;rw [C4 ⟨rfl,by omega,by omega⟩,E8D,C4 (by omega)];by_cases z:(drV D n a).getD j 0=0
   ·rw [z,bN];rfl
   ·rw [hd _ (E8W _ (E8W _ (C0X.2 ⟨z,j,by omega,by omega,rfl⟩)))];rfl
  have e2:(bT (atF D n 1 (drV D n a)) 128 6).map (·.2)=W9 (A4f D n a) 0 128:=by
   have:=C8n (f:=λj=>A4f D n a (j-6)) (s:=6) (e:=128) (k:=0);have h2:W9 (λj=>A4f D n a (6+j-6)) 0 128=W9 (A4f D n a) 0 128:=B8M λj _ _=>by rw [Nat.add_sub_cancel_left]
   rw [<-h2,<-this];refine C2P λj h6 hj=>?_
   unfold atF vS D25;rw [C4 ⟨rfl,by omega,by omega⟩,E8D,C5 (by omega),ei];by_cases z:Y1 D n a=0
   ·have:A4f D n a (j-6)=0:=by unfold A4f;rw [C4 z]
    rw [this,z,bN];show (bif G7 (l_ D) n 0 then (0:Int) else 0)=0;rw [bN];rfl
   ·have hi:G7 (l_ D) n (Y1 D n a)=A5:=hd _ (E8W _ (E8V _ (by rw [A5L z];exact E8u ..)));have hp:A4f D n a (j-6)=ptP (blk D (Y1 D n a)) (j-6):=by unfold A4f;rw [C5 z]
    rw [hi,S8,<-hp];by_cases z2:A4f D n a (j-6)=0
    ·rw [z2,bN];rfl
    ·rw [hd _ (E8V _ (C0X.2 ⟨z2,j-6,by omega,by omega,rfl⟩))];rfl
  rw [eI,e1,e2];rfl
 ·have tI:Z5 D n (kdV D n a) (drV D n a)=A6:=by unfold Z5;rw [hk];rfl
  have hB:T1 D n (kdV D n a) (drV D n a)=[]:=by unfold T1;rw [tI];rfl
  unfold iQ T6 sJ;rw [hB];rfl
def D6C(hD:okD D)(hbm:c.blocks.length=c.made.length)(hk:kdV D n a=1)(S:FilS D n a)(kept:J4 D n c (flV D n a)=flV D n a) :
  (I6 D n c a).2=drV D n a/\Stp D n a c (V4 D n c a) (flV D n a) []:=by
 have B6D:∀ x∈flV D n a,G7 (l_ D) n x=A5:=λx hx=>((A9W.1 kept).2 x hx).1
 obtain ⟨o1,o2⟩:=D88 hk B6D;have kept0:=kept;unfold flV at kept;rw [B44 (c:=c)] at kept;obtain ⟨ka,kp⟩:=kept;rw [B44 (c:=c)] at ka;obtain ⟨kn,ki⟩:=ka;have hL7:=O0 (D:=D) (n:=n) (i:=a);have hfd:(I6 D n c a).2=drV D n a:=by
  rw [A5w];obtain ⟨m,hm⟩:=xEq ((min (T9 (szV D n a)) 6).toNat);have m6:m<=6:=by omega
  unfold A3p;rw [<-hm];have hz:∀ j,m<=j->j<6->(drV D n a).getD j 0=0:=by
   intro j h2 h3;by_cases z:(drV D n a).getD j 0=0
   ·exact z
   ·have:=S.num j h3 z;omega
  have e6:=D4V (f:=λj=>(drV D n a).getD j 0) m6 hz;rw [e6] at kn ki;obtain ⟨d1,d2⟩:=D36 (D:=D) (n:=n) (d:=drV D n a) (e:=m) (k:=0) (s:=(c,zI 7)) (by simp [zI];omega) kn;obtain ⟨s,hs⟩:=xEq (dW D n (drV D n a) m 0 (c,zI 7));rw [<-hs] at d1 d2 ⊢;have d1:s.1=cY D n c (W9 (λj=>(drV D n a).getD j 0) 0 m):=d1;have sl:s.2.length=7:=by rw [hs,A07.2];simp [zI]
  have hzz:∀ j,(zI 7).getD j (0:Int)=0:=by
   intro j;unfold zI;rw [E8k,List.getElem?_replicate];split<;>rfl
  have s6:∀ j,j<6->s.2.getD j 0=(drV D n a).getD j 0:=by
   intro j hj;rcases Nat.lt_or_ge j m with h | h
   ·exact d2 j (by omega) (by omega)
   ·rw [hz j h hj,hs,gL (by omega)];exact hzz j
  have s66:s.2.getD 6 0=0:=by rw [hs,gL (by omega)];exact hzz 6
  have ei:(drV D n a).getD 6 0=Y1 D n a:=rfl;have key:∀ l:List Int,l_ l=7->(∀ j,j<6->l.getD j 0=(drV D n a).getD j 0)->l.getD 6 0=Y1 D n a->l=drV D n a:=by
   intro l hl h1 h2;refine List.ext_getElem (by rw [hl,hL7]) λj h3 h4=>?_
   have e:l.getD j 0=(drV D n a).getD j 0:=by
    rcases Nat.lt_or_ge j 6 with h | h
    ·exact h1 j h
    ·have:j=6:=by omega
     subst this;exact h2
   rw [E8k,E8h h3,E8k,E8h h4] at e;exact e
  unfold A2w;by_cases h:6<T9 (szV D n a)
  ·rw [C4 h];refine key _ (by simp [sl]) (λj hj=>?_) ?_
   ·show (s.2.set 6 _).getD j 0=_;rw [E8k,E9r (by omega),<-E8k];exact s6 j hj
   ·show (s.2.set 6 (K4 D n s.1 ((drV D n a).getD 6 0))).getD 6 0=_;rw [E8k,E9n,C4 rfl,C4 (by omega),ei];show K4 D n s.1 (Y1 D n a)=_;by_cases z:Y1 D n a=0
    ·rw [z];exact A9y.1
    ·rw [A5L z,<-d1] at ki;exact zB (eZ.1 ki).1
  ·rw [C5 h];have z:Y1 D n a=0:=by
    by_cases z:Y1 D n a=0
    ·exact z
    ·exact absurd (S.ind z) h
   exact key _ sl s6 (by rw [s66,z])
 refine ⟨hfd,?_⟩;obtain ⟨_,_,s3,s4⟩:=D7Y (D:=D) (n:=n) (a:=a) (c:=c) (λj _=>by rw [hfd]) (by rw [hfd];rfl);have ht:(L9 D n c a).taken=(cY D n c (W9 (λj=>(drV D n a).getD j 0) 0 6++nzL [Y1 D n a])).taken:=by
  show (I6 D n c a).1.taken=_;rw [s3]
 obtain ⟨r1,r2,r3,r4,_,_,_⟩:=A08 (D:=D) (n:=n) (ino:=a) (c:=c);have td:=C5S (D:=D) (n:=n) (a:=a) (L:=[]) (c:=c) (.nil _);have e6:(I6 D n c a).2.getD 6 0=Y1 D n a:=by rw [hfd];rfl
 have hs:=pA (D:=D) (n:=n) (ino:=a) (c:=c);have core:(V4 D n c a).taken=(cY D n c (flV D n a)).taken/\∀ q∈iZ (V4 D n c a),q∈iZ c\/(blk D q.1=q.2/\q.1∈mkV D n a):=by
  by_cases z:Y1 D n a=0
  ·have e:W9 (A4f D n a) 0 128=[]:=by
    unfold W9;exact C8t λx hx=>by
     obtain ⟨j,_,rfl⟩:=E8N.1 hx;unfold A4f;rw [C4 z]
   have eC:V4 D n c a=L9 D n c a:=by unfold V4;rw [e6,C4 z]
   unfold flV;rw [eC,e,E8C];refine ⟨ht,λq hq=>.inl ?_⟩;have:q∈(I6 D n c a).1.blocks.zip (I6 D n c a).1.made:=hq;rw [hs.1.blocks,hs.1.made] at this;exact this
  ·have e:W9 (A4f D n a) 0 128=W9 (ptP (blk D (Y1 D n a))) 0 128:=B8M λj _ _=>by unfold A4f;rw [C5 z]
   rw [e] at kp;have hR:=C2S (D:=D) (n:=n) (many:=T9 (szV D n a)) (b:=blk D (Y1 D n a)) (e:=128) (k:=0) (c:=L9 D n c a) (by rw [A5H ht];exact kp) λj _ h2 h3=>S.pts j (by omega) (by unfold A4f;rw [C5 z];exact h3)
   have eC:V4 D n c a=dY (cY D n (L9 D n c a) (W9 (ptP (blk D (Y1 D n a))) 0 128)) (Y1 D n a) (blk D (Y1 D n a)):=by
    unfold V4;rw [e6,C5 z,hR]
   have hf:=kC (D:=D) (n:=n) (many:=T9 (szV D n a)) (e:=128) (k:=0) (s:=(L9 D n c a,blk D (Y1 D n a)));rw [hR] at hf;have hbb:(cY D n (L9 D n c a) (W9 (ptP (blk D (Y1 D n a))) 0 128)).blocks.length=(cY D n (L9 D n c a) (W9 (ptP (blk D (Y1 D n a))) 0 128)).made.length:=by
    rw [hf.blocks,hf.made];show (I6 D n c a).1.blocks.length=(I6 D n c a).1.made.length;rw [hs.1.blocks,hs.1.made];exact hbm
   unfold flV;rw [eC,e,D31];refine ⟨D2g ht,λq hq=>?_⟩;rw [A1i hbb] at hq;rcases E8U.1 hq with h | h
   ·left
    have h:q∈(cY D n (L9 D n c a) (W9 (ptP (blk D (Y1 D n a))) 0 128)).blocks.zip (cY D n (L9 D n c a) (W9 (ptP (blk D (Y1 D n a))) 0 128)).made:=h;rw [hf.blocks,hf.made] at h;have h:q∈(I6 D n c a).1.blocks.zip (I6 D n c a).1.made:=h;rw [hs.1.blocks,hs.1.made] at h;exact h
   ·right
    rw [E82.1 h];refine ⟨rfl,?_⟩;unfold mkV;have z':¬ (drV D n a).getD 6 0=0:=z;rw [C5 (by rw [hk];decide),C5 z'];exact E82.2 rfl
 refine ⟨kept0,λj=>?_,⟨λx=>by rw [r2];exact td.par x,λx=>by rw [r3];exact td.lnk x,td.one,td.dir⟩,r4,core.2,o1,o2⟩;rw [core.1];exact B8z kept0 j
end
section
variable {D:Dev} {n a:Int}
def owV(D:Dev)(n a:Int):List Int:=pO D n (kdV D n a) (drV D n a)
def nmV(D:Dev)(n a:Int):List Ent:=iQ D n (kdV D n a) (drV D n a)
abbrev C22(D:Dev)(n a:Int):Prop:=a≠1/\kdV D n a=1
structure Sta(D:Dev)(n a:Int):Prop where
 fil:C22 D n a->FilS D n a/\∀ x∈flV D n a,G7 (l_ D) n x=A5
 dir:¬ C22 D n a->kdV D n a=2/\drV D n a=noV D n a::zI 6/\(noV D n a≠0->DirS D n a/\∀ x∈noV D n a::bkV D n a,G7 (l_ D) n x=A5)
def Kp(D:Dev)(n:Int)(c:Cl)(a:Int):Prop:=(C22 D n a/\FilS D n a/\J4 D n c (flV D n a)=flV D n a)\/(¬ C22 D n a/\DirK D n c a)
def C5o(D:Dev)(n:Int)(c:Cl)(a:Int):List Int:=if C22 D n a then 1::1::szV D n a::0::drV D n a else 2::1::0::(c.par a).getD 0::drV D n a
def Kp.step(hD:okD D)(hbm:c.blocks.length=c.made.length)(hal:a.toNat<c.ino.length)(K:Kp D n c a) :
  Sta D n a/\Stp D n a c (U4 D n c a) (owV D n a) (nmV D n a)/\(U4 D n c a).ino.getD a.toNat []=C5o D n c a:=by
 rcases K with ⟨hf,S,kept⟩ | ⟨hf,K⟩
 ·have e:U4 D n c a=V4 D n c a:=by unfold U4;rw [C4 hf]
  obtain ⟨h1,h2⟩:=D6C hD hbm hf.2 S kept;refine ⟨⟨λ_=>⟨S,λx hx=>((A9W.1 kept).2 x hx).1⟩,λh=>absurd hf h⟩,?_,?_⟩
  ·rw [e];have o:=h2.own;have l:=h2.list;unfold owV nmV;rw [o,l];exact h2
  ·rw [e,(A9G hbm).2 hal,h1];unfold C5o;rw [C4 hf]
 ·have e:U4 D n c a=oY D n c a:=by unfold U4;rw [C5 hf]
  obtain ⟨h1,O,L,h2,_⟩:=D8Z hbm K;refine ⟨⟨λh=>absurd h hf,λ_=>⟨K.kd,K.dr,λh0=>⟨(K.body h0).s,λx hx=>((A9W.1 (K.body h0).kept).2 x hx).1⟩⟩⟩,?_,?_⟩
  ·rw [e];have o:=h2.own;have l:=h2.list;unfold owV nmV;rw [o,l];exact h2
  ·rw [e,(A9A hbm).2 hal,h1];unfold C5o;rw [C5 hf,<-K.dr]
structure Inv(D:Dev)(n:Int)(i:Nat)(c:Cl):Prop where
 w:RowW n c
 hd:c.row[0]?=A4 1
 bm:c.blocks.length=c.made.length
 il:c.ino.length=(n+1).toNat
 tak:∀ j:Nat,c.taken.getD j A5=A5↔(j<(aR (l_ D) n).toNat\/(l_ D)<=j)\/∃ a∈c.row.take i,(j:Int)∈owV D n a
 nd:((c.row.take i).flatMap (owV D n)).Nodup
 dt:∀ a∈c.row.take i,∀ x∈owV D n a,G7 (l_ D) n x=A5
 lnk:∀ x,(c.lnk x).getD 0=(((c.row.take i).map λa=>B4y (nmV D n a) x).sum:Nat)
 dir:∀ x∈c.row,x≠1->kdV D n x=2->(c.lnk x).getD 0=1
 par:∀ x∈c.row,x≠1->∃ p∈c.row.take i,c.par x=A4 p/\∃ e∈nmV D n p,e.2=x
 par1:c.par 1=A4 1
 one:∀ a∈c.row.take i,∀ e∈nmV D n a,e.2≠1/\kdV D n e.2≠0/\e.2∈c.row
 put:∀ q∈iZ c,blk D q.1=q.2
 ino:∀ a∈c.row.take i,c.ino.getD a.toNat []=C5o D n c a
 lost:c.lost=0
 sta:∀ a∈c.row.take i,Sta D n a
 sub:∀ x∈c.row,x∈C3j D n
 mks:∀ q∈iZ c,∃ a∈c.row.take i,q.1∈mkV D n a
def Inv.lnk0{i:Nat}(I:Inv D n i c)(hx:x ∉ c.row):(c.lnk x).getD 0=0:=by
 rw [I.lnk x];have:((c.row.take i).map λa=>B4y (nmV D n a) x).sum=0:=by
  have h:∀ k∈(c.row.take i).map λa=>B4y (nmV D n a) x,k=0:=by
   intro k hk;obtain ⟨b,hb,rfl⟩:=E8N.1 hk;exact B5X λe he h=>hx (by rw [<-h];exact (I.one b hb e he).2.2)
  generalize (c.row.take i).map (λa=>B4y (nmV D n a) x)=L at h
  clear hx I
  induction L with
  | nil=>rfl
  | cons k L ih =>
   rw [List.sum_cons,h k (E8u ..),ih λy hy=>h y (E8q _ hy)]
 rw [this];rfl
def Inv.step{i:Nat}(hD:okD D)(I:Inv D n i c)(hi:c.row[i]?=A4 a)(K:Kp D n c a):Inv D n (i+1) (U4 D n c a):=by
 have ham:=E8H hi;have hra:=I.w.rg a ham;have hal:a.toNat<c.ino.length:=by rw [I.il];omega
 obtain ⟨S,T,D9i⟩:=K.step hD I.bm hal;have g:=A2F (D:=D) (n:=n) (a:=a) I.bm;have w':RowW n (U4 D n c a):=iX I.w;generalize U4 D n c a=c' at *;have K6:i<c.row.length:=(E8p.1 hi).1;have tk0:c'.row.take i=c.row.take i:=E21 g.row (by omega);have tk:c'.row.take (i+1)=c.row.take i++[a]:=by
  rw [List.take_succ,tk0,A1h g.row hi];rfl
 have hin:∀ {b},b∈c.row.take i->b∈c.row:=λh=>List.mem_of_mem_take h
 have aZ:∀ b∈c.row.take i,b≠a:=by
  intro b hb e;obtain ⟨j,hj⟩:=E9g.1 hb;have hjl:=(E8p.1 hj).1;rw [List.length_take] at hjl;rw [E86 (by omega)] at hj;have:=(List.getElem?_inj (by omega) I.w.nd).1 (hj.trans ((congrArg A4 e).trans hi.symm));omega
 have D75:∀ x∈c.row,c'.par x=c.par x:=by
  intro x hx;rw [T.told.par,C4 ((I.w.par x).2 hx)]
 have hnr:∀ x,x ∉ c.row->c.par x=A7:=by
  intro x hx;cases hp:c.par x with
  | none=>rfl
  | some v=>exact absurd ((I.w.par x).1 (by rw [hp];rfl)) hx
 have E1V:∀ x∈c'.row,x∈c.row\/(x ∉ c.row/\x∈(nmV D n a).map (·.2)):=by
  intro x hx;by_cases h:x∈c.row
  ·exact .inl h
  ·refine .inr ⟨h,?_⟩;have:=(w'.par x).2 hx;rw [T.told.par,hnr x h] at this;by_cases h2:x∈(nmV D n a).map (·.2)
   ·exact h2
   ·rw [C5 h2] at this;simp at this
 have kept:=A9W.1 T.kept;refine ⟨w',A1h g.row I.hd,g.bm,g.il.trans I.il,λj=>?_,?_,λb hb x hx=>?_,λx=>?_,λx hx h1 hk=>?_,λx hx h1=>?_,?_,λb hb e he=>?_,λq hq=>?_,λb hb=>?_,T.lost.trans I.lost,λb hb=>?_,λx hx=>?_,λq hq=>?_⟩
 ·rw [T.taken,I.tak,tk];constructor
  ·rintro ((h | ⟨b,hb,h⟩) | h)
   ·exact .inl h
   ·exact .inr ⟨b,E8W _ hb,h⟩
   ·exact .inr ⟨a,E8V _ (E82.2 rfl),h⟩
  ·rintro (h | ⟨b,hb,h⟩)
   ·exact .inl (.inl h)
   ·rcases E8U.1 hb with hb | hb
    ·exact .inl (.inr ⟨b,hb,h⟩)
    ·rw [E82.1 hb] at h;exact .inr h
 ·rw [tk,List.flatMap_append,List.nodup_append];refine ⟨I.nd,by simpa using kept.1,λx hx y hy e=>?_⟩;subst e;obtain ⟨b,hb,hx⟩:=List.mem_flatMap.1 hx;have hy:x∈owV D n a:=by simpa using hy
  have h1:=(kept.2 x hy).2;have h0:=A9V (kept.2 x hy).1;have h2:=(I.tak x.toNat).2 (.inr ⟨b,hb,by rw [Int.toNat_of_nonneg h0.1];exact hx⟩);rw [h1] at h2;cases h2
 ·rw [tk] at hb;rcases E8U.1 hb with hb | hb
  ·exact I.dt b hb x hx
  ·rw [E82.1 hb] at hx;exact (kept.2 x hx).1
 ·rw [T.told.lnk,I.lnk,tk,E9e,List.sum_append];simp
 ·rcases E1V x hx with h | ⟨h,hm⟩
  ·rw [T.told.lnk,I.dir x h h1 hk];have:B4y (nmV D n a) x=0:=B5X λe he h2=>by
    have:=(T.told.dir e he (by rw [h2];exact hk)).1;rw [h2] at this;have h3:=(I.w.par x).2 h;rw [this] at h3;cases h3
   rw [this];rfl
  ·obtain ⟨e,he,rfl⟩:=E8N.1 hm;rw [T.told.lnk,I.lnk0 h,(T.told.dir e he hk).2];rfl
 ·rcases E1V x hx with h | ⟨h,hm⟩
  ·obtain ⟨p,hp,h2,h3⟩:=I.par x h h1;exact ⟨p,by rw [tk];exact E8W _ hp,(D75 x h).trans h2,h3⟩
  ·obtain ⟨e,he,rfl⟩:=E8N.1 hm;refine ⟨a,by rw [tk];exact E8V _ (E82.2 rfl),?_,e,he,rfl⟩;rw [T.told.par,hnr _ h,C5 (by simp),C4 hm]
 ·rw [D75 1 (E8H I.hd)];exact I.par1
 ·rw [tk] at hb;rcases E8U.1 hb with hb | hb
  ·obtain ⟨h1,h2,h3⟩:=I.one b hb e he;exact ⟨h1,h2,g.row.subset h3⟩
  ·rw [E82.1 hb] at he;obtain ⟨h1,h2⟩:=T.told.one e he;refine ⟨h1,h2,(w'.par e.2).1 ?_⟩;rw [T.told.par];by_cases h:(c.par e.2).isSome=A5
   ·rw [C4 h];exact h
   ·rw [C5 h,C4 (E8N.2 ⟨e,he,rfl⟩)];rfl
 ·rcases T.put q hq with h | h
  ·exact I.put q h
  ·exact h.1
 ·rw [tk] at hb;rcases E8U.1 hb with hb | hb
  ·have hrb:=I.w.rg b (hin hb);have hn:=aZ b hb;rw [g.ino _ (by omega),I.ino b hb];unfold C5o;rw [D75 b (hin hb)]
  ·rw [E82.1 hb,D9i];unfold C5o;rw [D75 a ham]
 ·rw [tk] at hb;rcases E8U.1 hb with hb | hb
  ·exact I.sta b hb
  ·rw [E82.1 hb];exact S
 ·rcases E1V x hx with h | ⟨h,hm⟩
  ·exact I.sub x h
  ·obtain ⟨e,he,rfl⟩:=E8N.1 hm;refine E4f (I.sub a ham) e (E8Z.2 ⟨he,?_⟩);unfold C9S;rcases D2A (D:=D) (n:=n) (i:=e.2) with h0 | h0 | h0
   ·exact absurd h0 (T.told.one e he).2
   ·rw [h0];rfl
   ·rw [h0];rfl
 ·rcases T.put q hq with h | h
  ·obtain ⟨b,hb,h2⟩:=I.mks q h;exact ⟨b,by rw [tk];exact E8W _ hb,h2⟩
  ·exact ⟨a,by rw [tk];exact E8V _ (E82.2 rfl),h.2⟩
structure Ext(D:Dev)(n:Int)(c F:Cl)(a:Int):Prop where
 row:∀ x∈(U4 D n c a).row,x∈F.row
 put:∀ q∈iZ (U4 D n c a),q∈iZ F
 ino:F.ino.getD a.toNat []=(U4 D n c a).ino.getD a.toNat []
def D8q(hD:okD D)(n128:n<=128){F:Cl}(hk:∀ i c a,Inv D n i c->c.row[i]?=A4 a->Ext D n c F a->Kp D n c a) :
  ∀ {e i:Nat} {c:Cl},i+e=129->Inv D n i c->ofR D n e i c=F->Inv D n F.row.length F
 | 0,i,c,hi,I,hF=>by
  have hF:c=F:=hF;subst hF;have hl:=A7j I.w.nd λb hb=>⟨(I.w.rg b hb).1,by have:=(I.w.rg b hb).2;omega⟩
  have e1:c.row.take i=c.row:=E8B (by omega);have e2:c.row.take c.row.length=c.row:=E8B (E8m _);have:=I;obtain ⟨a1,a2,a3,a4,a5,a6,a7,a8,a9,a10,a11,a12,a13,a14,a15,a16,a17,a18⟩:=this;rw [e1,<-e2] at a6;simp only [e1] at a5 a7 a8 a10 a12 a14 a16 a18;refine ⟨a1,a2,a3,a4,?_,a6,?_,?_,a9,?_,a11,?_,a13,?_,a15,?_,a17,?_⟩<;>simp only [e2]<;>assumption
 | e+1,i,c,hi,I,hF=>by
  unfold ofR at hF;cases hc:c.row[i]? with
  | none =>
   rw [hc] at hF;have hF:c=F:=hF;subst hF;have:=List.getElem?_eq_none_iff.1 hc;have e1:c.row.take i=c.row:=E8B (by omega);have e2:c.row.take c.row.length=c.row:=E8B (E8m _);have:=I;obtain ⟨a1,a2,a3,a4,a5,a6,a7,a8,a9,a10,a11,a12,a13,a14,a15,a16,a17,a18⟩:=this;rw [e1,<-e2] at a6;simp only [e1] at a5 a7 a8 a10 a12 a14 a16 a18;refine ⟨a1,a2,a3,a4,?_,a6,?_,?_,a9,?_,a11,?_,a13,?_,a15,?_,a17,?_⟩<;>simp only [e2]<;>assumption
  | some a =>
   rw [hc] at hF;have hF:ofR D n e (i+1) (U4 D n c a)=F:=hF;have g:=A2F (D:=D) (n:=n) (a:=a) I.bm;obtain ⟨h1,h2,h3,h4⟩:=C05 (D:=D) (n:=n) (e:=e) (i:=i+1) g.bm;have hrg:=I.w.rg a (E8H hc);have hat:=A1h (g.row.trans h1) hc;have wF:=A96 (D:=D) (n:=n) (e:=e) (i:=i+1) (iX (D:=D) (ino:=a) I.w);have D9i:=B56 (D:=D) (n:=n) hrg.1 (e:=e) (i:=i+1) (iX (D:=D) (ino:=a) I.w) g.bm λj hj he=>by
    have:=(List.getElem?_inj (E8p.1 hat).1 wF.nd).1 (hat.trans he.symm);omega
   rw [hF] at h1 h3 D9i;exact D8q hD n128 hk (by omega) (I.step hD hc (hk i c a I hc ⟨λx hx=>h1.subset hx,h3,D9i⟩)) hF
def C8v:∀ {k:Nat} (j:Nat),(wM c k).taken.getD j A5=A5↔c.taken.getD j A5=A5\/j<k
 | 0,j=>by show c.taken.getD j A5=A5↔_;simp
 | k+1,j=>by
  show ((wM c k).taken.set k A5).getD j A5=A5↔_;rw [B5s,C8v];constructor
  ·rintro ((h | h) | h)
   ·exact .inl h
   ·exact .inr (by omega)
   ·exact .inr (by omega)
  ·rintro (h | h)
   ·exact .inl (.inl h)
   ·by_cases e:j=k
    ·exact .inr e
    ·exact .inl (.inr (by omega))
def D9p(hm:P6 (l_ D) n=A5):Inv D n 0 (wM (I5 D n) (aR (l_ D) n).toNat):=by
 have B:=A9j hm;have hs:=ownR_same (c:=I5 D n) (k:=(aR (l_ D) n).toNat);have hr:(wM (I5 D n) (aR (l_ D) n).toNat).row=[1]:=hs.row;have hx:∀ x∈(wM (I5 D n) (aR (l_ D) n).toNat).row,x=1:=λx hx=>by rw [hr] at hx;exact E82.1 hx
 refine ⟨B.w,by rw [hr];rfl,B.bm,B.il,λj=>?_,by rw [E9i];exact List.nodup_nil,λa ha=>(by rw [E9i] at ha;cases ha),λx=>?_,λx h h1=>absurd (hx x h) h1,λx h h1=>absurd (hx x h) h1,by rw [hs.par];rfl,λa ha=>(by rw [E9i] at ha;cases ha),λq hq=>?_,λa ha=>(by rw [E9i] at ha;cases ha),hs.lost,λa ha=>(by rw [E9i] at ha;cases ha),λx h=>(by obtain ⟨j,_,hi⟩:=C1i (D:=D) (n:=n);rw [hx x h];exact hi.hd),λq hq=>?_⟩
 ·rw [C8v,E9i];have e:(I5 D n).taken=E8l (l_ D) A6:=rfl;rw [e,E8k,List.getElem?_replicate];by_cases h:j<(l_ D)
  ·rw [C4 h];simp;omega
  ·rw [C5 h];simp;omega
 ·rw [hs.lnk,E9i];rfl
 ·have hq:q∈(wM (I5 D n) (aR (l_ D) n).toNat).blocks.zip (wM (I5 D n) (aR (l_ D) n).toNat).made:=hq;rw [hs.blocks] at hq;cases hq
 ·have hq:q∈(wM (I5 D n) (aR (l_ D) n).toNat).blocks.zip (wM (I5 D n) (aR (l_ D) n).toNat).made:=hq;rw [hs.blocks] at hq;cases hq
def D8W(hD:okD D)(hm:P6 (l_ D) n=A5)(hk:∀ i c a,Inv D n i c->c.row[i]?=A4 a->Ext D n c (F5 D n) a->Kp D n c a):Inv D n (F5 D n).row.length (F5 D n) :=
 D8q hD (D4N hm) hk (e:=129) (i:=0) rfl (D9p hm) rfl
structure Stil(D:Dev)(n:Int)(F:Cl):Prop where
 ino:∀ a∈F.row,kdV D n a=(F.ino.getD a.toNat []).getD 0 0/\szV D n a=(F.ino.getD a.toNat []).getD 2 0/\drV D n a=(F.ino.getD a.toNat []).drop 4
 put:∀ q∈iZ F,blk D q.1=q.2
def Stil.kp{F:Cl}{i:Nat}(hD:okD D)(H:Stil D n F)(I:Inv D n i c)(hi:c.row[i]?=A4 a)(X:Ext D n c F a):Kp D n c a:=by
 have ham:=E8H hi;have hra:=I.w.rg a ham;have hal:a.toNat<c.ino.length:=by rw [I.il];omega
 have g:=A2F (D:=D) (n:=n) (a:=a) I.bm;obtain ⟨y1,y2,y3⟩:=H.ino a (X.row a (g.row.subset ham));rw [X.ino] at y1 y2 y3;by_cases hf:C22 D n a
 ·have e:U4 D n c a=V4 D n c a:=by unfold U4;rw [C4 hf]
  rw [e,(A9G I.bm).2 hal] at y3;have hd:(I6 D n c a).2=drV D n a:=y3.symm;have e6:(I6 D n c a).2.getD 6 0=Y1 D n a:=by rw [hd];rfl
  obtain ⟨s1,s2⟩:=E1x hD hd λz=>by
   have hs:=pA (D:=D) (n:=n) (ino:=a) (c:=c);have hfr:=kC (D:=D) (n:=n) (many:=T9 (szV D n a)) (e:=128) (k:=0) (s:=(L9 D n c a,blk D (Y1 D n a)));dsimp only at hfr;have C9Q:=λq hq=>H.put q (X.put q hq)
   rw [e] at C9Q;have eC:V4 D n c a=dY (M4 D n (T9 (szV D n a)) 128 0 (L9 D n c a,blk D (Y1 D n a))).1 (Y1 D n a) (M4 D n (T9 (szV D n a)) 128 0 (L9 D n c a,blk D (Y1 D n a))).2:=by
    unfold V4;rw [e6,C5 z]
   generalize M4 D n (T9 (szV D n a)) 128 0 (L9 D n c a,blk D (Y1 D n a))=s at hfr eC ⊢;have hfb:s.1.blocks.length=s.1.made.length:=by
    rw [hfr.blocks,hfr.made];show (I6 D n c a).1.blocks.length=(I6 D n c a).1.made.length;rw [hs.1.blocks,hs.1.made];exact I.bm
   rw [eC] at C9Q;exact (C9Q (Y1 D n a,s.2) (by rw [A1i hfb];exact E8V _ (E82.2 rfl))).symm
  exact .inl ⟨hf,s1,s2⟩
 ·have e:U4 D n c a=oY D n c a:=by unfold U4;rw [C5 hf]
  rw [e,(A9A I.bm).2 hal] at y1 y3;have y3:drV D n a=(K5 D n c a).2::zI 6:=y3;have Y8:(K5 D n c a).2=noV D n a:=by unfold noV;rw [y3];rfl
  refine .inr ⟨hf,y1,by rw [y3,Y8],λh0=>?_⟩;exact E3F I.bm h0 Y8 λq hq=>H.put q (X.put q (by rw [e];exact hq))
def Stil.inv(hD:okD D)(hm:P6 (l_ D) n=A5)(H:Stil D n (F5 D n)):Inv D n (F5 D n).row.length (F5 D n) :=
 D8W hD hm λi c a I hi X=>H.kp hD I hi X
end
def D4G:(aV c a).ino.getD j []=if j=a.toNat/\(c.ino.getD j []).getD 0 0=1 then (c.ino.getD j []).set 1 ((c.lnk a).getD 0) else c.ino.getD j []:=by
 unfold aV;by_cases h:(c.ino.getD a.toNat []).getD 0 0=1
 ·rw [C4 h];by_cases e:j=a.toNat
  ·subst e;rw [C4 ⟨rfl,h⟩];by_cases hl:a.toNat<c.ino.length
   ·show (c.ino.set a.toNat _).getD a.toNat []=_;rw [A68 hl]
   ·have:c.ino.getD a.toNat []=[]:=by rw [E8k,E8P (by omega)];rfl
    rw [this] at h;exact absurd h (by decide)
  ·rw [C5 (λh=>e h.1)];show (c.ino.set a.toNat _).getD j []=_;rw [getD_set_ne e]
 ·rw [C5 h];by_cases e:j=a.toNat
  ·subst e;rw [C5 (λh2=>h h2.2)]
  ·rw [C5 (λh=>e h.1)]
def D1c(ha:0<=a):∀ {L:List Int} {c:Cl},L.Nodup->(∀ x∈L,0<=x)->(cE c L).ino.getD a.toNat []=if a∈L/\(c.ino.getD a.toNat []).getD 0 0=1 then (c.ino.getD a.toNat []).set 1 ((c.lnk a).getD 0) else c.ino.getD a.toNat []
 | [],c,_,_=>by rw [C5 (by simp)];rfl
 | b::L,c,hn,h0=>by
  obtain ⟨n1,n2⟩:=List.nodup_cons.1 hn;have hb:=h0 b (E8u ..);have ih:=D1c ha (L:=L) (c:=aV c b) n2 λx hx=>h0 x (E8q _ hx)
  have el:(aV c b).lnk=c.lnk:=by unfold aV;split<;>rfl
  show (cE (aV c b) L).ino.getD a.toNat []=_;rw [ih,el];by_cases e:a=b
  ·subst e;have hk:((aV c a).ino.getD a.toNat []).getD 0 0=(c.ino.getD a.toNat []).getD 0 0:=C7L.1;rw [C5 (λh=>n1 h.1),D4G];by_cases h1:(c.ino.getD a.toNat []).getD 0 0=1
   ·rw [C4 ⟨rfl,h1⟩,C4 ⟨E8u ..,h1⟩]
   ·rw [C5 (λh=>h1 h.2),C5 (λh=>h1 h.2)]
  ·have e2:(aV c b).ino.getD a.toNat []=c.ino.getD a.toNat []:=by rw [D4G,C5 (λh=>e (by omega))]
   rw [e2];by_cases hL:a∈L
   ·by_cases h1:(c.ino.getD a.toNat []).getD 0 0=1
    ·rw [C4 ⟨hL,h1⟩,C4 ⟨E8q _ hL,h1⟩]
    ·rw [C5 (λh=>h1 h.2),C5 (λh=>h1 h.2)]
   ·rw [C5 (λh=>hL h.1),C5 (λh=>(E8J.1 h.1).elim e hL)]
section
variable {D:Dev} {n:Int}
def D5T{E:Dev}{n:Int}{y:List Int}(hi:Q2 (l_ E) n i=A5)(hy:D2J y)(h:uZ E n i=B2W y):cD (uZ E n i)=A5/\kdV E n i=y.getD 0 0/\lnV E n i=y.getD 1 0/\szV E n i=y.getD 2 0/\paV E n i=y.getD 3 0/\drV E n i=y.drop 4:=by
 obtain ⟨hl,hm⟩:=hy;have hd:(y.drop 4).length=7:=by rw [E9u,hl]
 obtain ⟨g1,g2,g3,g4,g5⟩:=D2n hd hm;obtain ⟨hc,_⟩:=D0O hd hm;unfold kdV szV drV lnV paV B4x;rw [hi,h];unfold B2W;rw [hc,g1,g2,g3,g4,g5];exact ⟨rfl,rfl,rfl,rfl,rfl,rfl⟩
structure Wb(D:Dev)(n:Int)(F:Cl):Prop where
 okD:okD D
 may:P6 (l_ D) n=A5
 I:Inv D n F.row.length F
 tl:F.taken.length=(l_ D)
 root:kdV D n 1=2
structure Wh(D:Dev)(n:Int)(F:Cl):Prop extends Wb D n F where
 out:∀ i,Q2 (l_ D) n i=A5->i ∉ F.row->kdV D n i=0
 lnk:∀ a∈F.row,C22 D n a->lnV D n a=(F.lnk a).getD 0/\paV D n a=0
 dirl:∀ a∈F.row,¬ C22 D n a->lnV D n a=1/\paV D n a=(F.par a).getD 0/\szV D n a=0
 clean:∀ i,Q2 (l_ D) n i=A5->cD (uZ D n i)=A5
 map:blk D 1=cQ (tM 0 F.taken)
def E3X(I:Inv D n (F5 D n).row.length (F5 D n))(ha:a∈(F5 D n).row):(E7 D n).ino.getD a.toNat []=if C22 D n a then 1::((F5 D n).lnk a).getD 0::szV D n a::0::drV D n a else C5o D n (F5 D n) a:=by
 have tk:(F5 D n).row.take (F5 D n).row.length=(F5 D n).row:=List.take_length ..;have hr:=I.w.rg a ha;have h1:=I.ino a (by rw [tk];exact ha);have h2:=D1c (a:=a) (by omega) (L:=(F5 D n).row) (c:=F5 D n) I.w.nd λx hx=>by have:=I.w.rg x hx;omega
 have h2:(E7 D n).ino.getD a.toNat []=_:=h2;rw [h2,h1];by_cases hf:C22 D n a
 ·have e:C5o D n (F5 D n) a=1::1::szV D n a::0::drV D n a:=by unfold C5o;rw [C4 hf]
  rw [C4 hf,e,C4 ⟨ha,rfl⟩];rfl
 ·have e:C5o D n (F5 D n) a=2::1::0::((F5 D n).par a).getD 0::drV D n a:=by unfold C5o;rw [C5 hf]
  rw [C5 hf,e,C5 (λh=>absurd (show (2:Int)=1 from h.2) (by decide))]
def E40(hD:okD D)(hm:P6 (l_ D) n=A5)(hS:gQ D n (E7 D n)=D):Wh D n (F5 D n):=by
 obtain ⟨b16,b512,n8,n128,nm8,nb⟩:=H8.1 hm;have B:=A9j hm;have ok:=qT hD hm;obtain ⟨_,_,_,K6,_⟩:=Z8 hD hm;obtain ⟨s1,s2,s3,s4,s5,s6,s7⟩:=jN (L:=(F5 D n).row) (c:=F5 D n);have w:RowW n (F5 D n):=by unfold F5;exact A96 B.w
 have P:Pend D n (F5 D n) []:=by unfold F5;exact C06 hD (by omega) B.pend
 have hb:(E7 D n).blocks=(F5 D n).blocks:=s3;have hmd:(E7 D n).made=(F5 D n).made:=s4;have hlk:∀ j,((E7 D n).ino.getD j []).getD 0 0=((F5 D n).ino.getD j []).getD 0 0/\((E7 D n).ino.getD j []).getD 2 0=((F5 D n).ino.getD j []).getD 2 0/\((E7 D n).ino.getD j []).drop 4=((F5 D n).ino.getD j []).drop 4:=λj=>A67
 have hV:∀ i,Q2 (l_ D) n i=A5->cD (uZ D n i)=A5/\kdV D n i=((E7 D n).ino.getD i.toNat []).getD 0 0/\lnV D n i=((E7 D n).ino.getD i.toNat []).getD 1 0/\szV D n i=((E7 D n).ino.getD i.toNat []).getD 2 0/\paV D n i=((E7 D n).ino.getD i.toNat []).getD 3 0/\drV D n i=((E7 D n).ino.getD i.toNat []).drop 4:=by
  intro i hi;obtain ⟨_,i1,i2⟩:=M8.1 hi;have h:=C5M hD hm ok K6 hi;rw [hS] at h;refine D5T hi ?_ h;rw [E8k,E8h (by omega)];exact ok.ino _ (E8M _)
 have H:Stil D n (F5 D n):=by
  refine ⟨λa ha=>?_,λq hq=>?_⟩
  ·have hr:=w.rg a ha;obtain ⟨_,v1,_,v3,_,v5⟩:=hV a (M8.2 ⟨hm,hr.1,hr.2⟩);obtain ⟨k1,k2,k3⟩:=hlk a.toNat;exact ⟨v1.trans k1,v3.trans k2,v5.trans k3⟩
  ·have hd:G7 (l_ D) n q.1=A5:=(P.dat q.1 (E8W _ (List.of_mem_zip hq).1)).1;have h:=D2t hD hm ok K6 hd;rw [hS,hb,hmd] at h;rw [h];exact P.pick hq
 have I:=H.inv hD hm;have hin:=λa ha=>E3X (a:=a) I ha
 refine ⟨⟨hD,hm,I,?_,?_⟩,λi hi hn=>?_,λa ha hf=>?_,λa ha hf=>?_,λi hi=>(hV i hi).1,?_⟩
 ·have:=ok.tak;rw [<-s2];exact this
 ·have:=E1Y hD hm;rw [hS] at this;exact this
 ·obtain ⟨_,i1,i2⟩:=M8.1 hi;have h1:(F5 D n).ino.getD i.toNat []=zI 11:=by
   unfold F5 at hn ⊢;rw [B56 i1 B.w B.bm (λj _ hj=>hn (E8H hj))];exact B.zero i i1 i2
  rw [(hV i hi).2.1,(hlk i.toNat).1,h1];rfl
 ·have hr:=w.rg a ha;have hv:=hV a (M8.2 ⟨hm,hr.1,hr.2⟩);rw [hin a ha,C4 hf] at hv;exact ⟨hv.2.2.1,hv.2.2.2.2.1⟩
 ·have hr:=w.rg a ha;have hv:=hV a (M8.2 ⟨hm,hr.1,hr.2⟩);rw [hin a ha,C5 hf] at hv;unfold C5o at hv;rw [C5 hf] at hv;exact ⟨hv.2.2.1,hv.2.2.2.2.1,hv.2.2.2.1⟩
 ·have h:=C5L hD hm ok K6 (i:=1) (by omega);rw [hS,C4 rfl] at h;have s2:(E7 D n).taken=(F5 D n).taken:=s2;rw [s2] at h;exact h
end
def D5S{t:List Nd}(ht:IsTree h v t){i:Nat}(hi:i<l_ t) :
  ∃ id o cs,F0 7 v (iV (i:Int))=A4 (pV id o)/\C9 h 7 (pV id o)=A4 (.a cs)/\(∀ k c,cs[k]?=A4 c->B9 h (pV id (o+k))=A4 (.c c))/\IsNd h cs t[i]:=by
 obtain ⟨cs,h1,h2⟩:=ht;have hcs:=h2.noX;obtain ⟨id,off,rfl,hid,hA,hB⟩:=h1.sl (by omega);refine ⟨id,off+i*7,_,E4 hi,hB (i*7) 7 (by rw [hcs.2];omega),λk c hk=>?_,h2.at (E8h hi)⟩;have hk7:k<7:=by
  have:=(E8p.1 hk).1;simp at this;omega
 rw [E86 hk7,List.getElem?_drop] at hk;have:=hA _ _ hk
 rwa [<-Nat.add_assoc] at this
def E6M(x y:Nd):Prop:=x.ino=y.ino/\x.kind=y.kind/\x.size=y.size/\x.data=y.data/\x.names=y.names
instance (x y:Nd):Decidable (E6M x y):=inferInstanceAs (Decidable (_/\_))
def D95(h2:kdV D n 1=2)(ha:a∈C3j D n):kdV D n a=1\/kdV D n a=2:=by
 obtain ⟨j,_,hi⟩:=C1i (D:=D) (n:=n);by_cases c:a=1
 ·subst c;exact .inr h2
 ·obtain ⟨b,_,e,he,rfl⟩:=hi.by_ a ha c;exact D8i e he
def C81{x:Nd}(hx:x∈E6 D n):kdV D n 1=2/\x.ino∈C3j D n/\(x.kind=1\/x.kind=2)/\x.names=A4e D n x.ino/\x.data=A2Y D n x.ino/\x.kind=kdV D n x.ino:=by
 obtain ⟨h1,h2,h3⟩:=B6d.1 hx;refine ⟨h1,h2,?_,by rw [h3];rfl,by rw [h3];rfl,by rw [h3];rfl⟩;have:=D95 h1 h2;rw [h3];exact this
def C3r:(E6 D n).length<=129:=by
 unfold E6;split
 ·have:=List.length_filter_le (λ(i:Nat)=>decide ((i:Int)∈C3j D n)) (E8T 129);simpa using this
 ·simp
def E1c:(A2Y D n i).length<=34304:=by
 unfold A2Y;rw [D26];unfold iR;split<;>omega
def D5R{x:Nd}(hx:x∈E6 D n):x.names.length<=224/\∀ e∈x.names,e.1.length<=24:=by
 obtain ⟨_,_,_,hn,_⟩:=C81 hx;rw [hn];exact ⟨D4T,λe he=>(bL (D6V (E8Z.1 he).1)).2⟩
def gB:small (E6 D n):=by
 refine ⟨by have:=C3r (D:=D) (n:=n);omega,λx hx=>?_⟩;obtain ⟨_,_,_,hn,hd,_⟩:=C81 hx;have h1:=(D5R hx).1;have h2:=E1c (D:=D) (n:=n) (i:=x.ino);rw [hd];omega
section
variable (n m m2:Nat) (a0 a1 a2 a3 x0 x1 x2 x3 x4 x5 x6 x9 x10 x11 x12 x13 x14 x15 x16 x17 x18 x19 x21 x22 x23 x28 x29 x30 x33 x37 x38 x39 x40 x41 x42:Val) (h:A9)
def A3M:FD A8:=⟨px 0X17f2003a0383010364184418301900532b103a2342,[.c .np],[.build ([o0,o0,.i .u64 0,.nf,.ns]) [(0,4,(.t 3)),(4,1,(.t 5))]],[.tmp 2],[gG eY A2P]⟩
def B9v:=A3M.R
def C40:=mR B9v A3M (tT []) n [a0] h
def B9h:=A3M.K Tryz.func39
def B1h:=A3M.Q
def C5f:OfT B9v B1h:=B9h.of
def W7:FD A8:=⟨px 0X13201022ef505002482d0318011b2015000002722403f0123042135c1041800503d72f0187d4215413070240181204023c13c12e2805594203006051ff50381f021b0212820000331ef11df301282801e1d2c1cf600103031800500503d7701b1971823201042,[],[],[.tmp 2],[D8 qO xI,D8 D9 E5,D8 A8a B6V]⟩
def A2d:=W7.R
def A0H:AtH:=W7.lj 0 n [m] [x0,x3,x4,x5]
def A2h:=tT [⟨2,4,A0H⟩]
def A8S:=mR A2d W7 A2h n [a0] h
def tR:=mL W7 A2h 0 n [m] [x0,x3,x4,x5] h
def A12:=W7.K Tryz.func40
def oF:=W7.S
def A55:G0 A2d oF:=A12.flat
def mX:FD A8:=⟨px 0X12df2001b18195034a1a04a1e33e4a1f0101b1819503381a0381e12c381f01190320401c192b1e205218f21b63b31b50203041800503d740770523201042,[],[],[.tmp 2],[D8 F9 J5]⟩
def xT:=mX.R
def B3M:=mR xT mX (tT []) n [a0] h
def A6v:=mX.K Tryz.func41
def yO:=mX.S
def B1g:G0 xT yO:=A6v.flat
def mW:FD A8:=⟨px 0X128f402c280240521ff11ef2763c51b1282801e1e2c1df70042032e10440503d71801c1d0062340130182,[],[],[.tmp 4],[D8 oE A6q]⟩
def xS:=mW.R
def B3L:=mR xS mW (tT []) n [a0,a1] h
def xJ:=mW.K Tryz.func86
def nD:=mW.S
def B1f:G0 xS nD:=xJ.flat
def bC:FD A8:=⟨px 0X13201022bf1b052802b49218011b2015000002722403f0421338171f044d1521ef400441811d3284215030702441340121394200605110290103041800503d75072f2d2b42820133201042,[],[],[.tmp 2],[D8 jX A4C,D8 nD xJ]⟩
def A6D:=bC.R
def A5Y:AtH:=bC.lj 0 n [m] [x0,x9,x10,x11]
def A6T:=tT [⟨2,4,A5Y⟩]
def B3K:=mR A6D bC A6T n [a0] h
def A0F:=mL bC A6T 0 n [m] [x0,x9,x10,x11] h
def A6u:=bC.K Tryz.func42
def yN:=bC.S
def B1e:G0 A6D yN:=A6u.flat
def Z1:FD A8:=⟨px 0X13601023ff2f052803f49218011b60168000002722404226e10414a3b2b47d1523af226291a1b021841821d43c4215030702441340121694200605110290463a2c2b45f5d5b528200232bf12af2763c71b1282801e2a2c29f1b0042033e10440503d71c01c1f006236015301c2,[],[],[.tmp 6],[D8 oE A6q]⟩
def A40:=Z1.R
def A3x:AtH:=Z1.lj 0 n [m] [x2,x21,x22,x23]
def A5h:=tT [⟨2,4,A3x⟩]
def B2H:=mR A40 Z1 A5h n [a0,a1,a2] h
def zU:=mL Z1 A5h 0 n [m] [x2,x21,x22,x23] h
def A4H:=Z1.K Tryz.func88
def uN:=Z1.S
def A9b:G0 A40 uN:=A4H.flat
def N9:FD A8:=⟨px 0X13201027af1b051be07a49218011b2015000002722479f59030381901b281bb7b01c84d061a311c82f01c81e04f1c81f01c81e34f1c81f71c8701bb75031bb1a5f1bb701190220414f5a2b291ab2f2d2b402d211b201500000004722458f3c03018191031991a01991e34f1991f0150220417a492b191802448f3c004326c10426a3d2b502792f2d2b1b19403d21a011b2015000002722410325a3a026f4110722439f2e050220404e2f2b45d42252df500620320403e50440503d71f060191b431ef2763c41b071841871d4284215011a0702441340121394200605110290440503d76062f2d2b42820133201042,[],[],[.tmp 2],[D8 B1a B9g,D8 uN A4H]⟩
def A4Y:=N9.R
def A3w:AtH:=N9.lj 0 n [m] [x0,x9,x10,x11]
def A3v:AtH:=N9.lj 1 n [m] [x0,x9,x10,x11]
def B6I:AtH:=N9.lj 2 n [m] [x0,x4,x5,x9,x10,x11,x28]
def jY:=tT [⟨2,4,A3w⟩,⟨2,4,A3v⟩,⟨2,7,B6I⟩]
def B2F:=mR A4Y N9 jY n [a0] h
def zT:=mL N9 jY 0 n [m] [x0,x9,x10,x11] h
def B1X:=mJ N9 jY 1 n [m] [x0,x9,x10,x11] h
def Q8:=mJ N9 jY 2 n [m] [x0,x4,x5,x9,x10,x11,x28] h
def A4F:=N9.K Tryz.func43
def uL:=N9.S
def A89:G0 A4Y uL:=A4F.flat
def W6:FD A8:=⟨px 0X135010238f1f052a03849218011b5014c000002722403f062130413a54a2b5955f1522af2262971b021841821d42a421503070244134012149420060501102904203281b18041800503d1c1859180193f3d3b6283002331642e2195182,[],[],[.tmp 5],[D8 yA B0m,D8 nD xJ]⟩
def A2c:=W6.R
def A0G:AtH:=W6.lj 0 n [m] [x2,x13,x14,x15]
def A2g:=tT [⟨2,4,A0G⟩]
def A8R:=mR A2c W6 A2g n [a0,a1,a2] h
def tQ:=mL W6 A2g 0 n [m] [x2,x13,x14,x15] h
def A11:=W6.K Tryz.func90
def fK:=W6.S
def A54:G0 A2c fK:=A11.flat
def L7:FD A8:=⟨px 0X13601024bf1e055a04b49218011b6017800000004722430381902822c5d6e206205d2f05d1e05c5d1f045d3c005d1f05d6c75d705d1e0485d1f5a5d70104224e10412c2a2b1f01918d35329f2763c181b071841871d41e42150307024613401213f4200605110290440503d719063d3b3953138200003336015301c2,[],[],[.tmp 6],[D8 F9 J5,D8 fK A11]⟩
def nW:=L7.R
def dB:K7:=L7.E
def cG:AtH:=L7.lj 0 n [m] [x0,x1,x2,x12,x13,x14]
def oJ:TT:=⟨dB,[⟨2,6,cG⟩]⟩
def A2a:=mR nW L7 oJ n [a0,a1,a2] h
def A1r:=mL L7 oJ 0 n [m] [x0,x1,x2,x12,x13,x14] h
def nS:=L7.K Tryz.func89
def dD:=L7.S
def zY:G0 nW dD:=nS.flat
def jR:FD A8:=⟨px 0X15f200194303611ba5e44400523103a2342,[],[],[.tmp 2],[D8 dD nS]⟩
def A4Z:=jR.R
def B2G:=mR A4Z jR (tT []) n [a0] h
def A4G:=jR.K Tryz.func44
def uM:=jR.S
def A9a:G0 A4Z uM:=A4G.flat
def cV:FD A8:=⟨px 0X1340102188f5a055c018849218011b40119000002722401b2a1901dc4d0161dc2f04251dc2f1ce1dc7041dc3c001dc1f01dc6c71dc70103f042431ae1031800500503d75e02a1ff1525df1800441811d32942150307024413401211af42006051102901335f494f1c41ad1ab1a91282013011b401190000722401b2a191057a1a07a4b04227a2f47e1b7a3c047a3c007a1f07a6c77a70101b18190684d011682f5849683c0103f482e01d01919d4321232df1102cf24961f055a1282801e2c2c2bf1d0042033e1b18041800503d71e01a11b1d1b210293013401280000722410220410162d41c192b439420331432e270182,[],[],[.tmp 4],[D8 jW xH,D8 A1O B6M,D8 sW A7t,D8 kM tY,D8 X1 Z7,D8 D9 E5,D8 xV B2Y]⟩
def A0T:=cV.R
def A7q:AtH:=cV.lj 0 n [m] [x0,x40,x41,x42]
def A9f:=tT [⟨2,4,A7q⟩]
def B6m:=mR A0T cV A9f n [a0,a1] h
def A2L:=mL cV A9f 0 n [m] [x0,x40,x41,x42] h
def A8J:=cV.K Tryz.func93
def A0Y:=cV.S
def B2Q:G0 A0T A0Y:=A8J.flat
def gU:FD A8:=⟨px 0X13cf5001b18190420682f5c1b683c5e681e0101b18191034e1a04e1e2484e1f0101b18191033c1a03c1e1a2e3c1f010380383b061841852c18000072122a10162d44182b3027f21b63b61b61b71c31d4231642e2195182,[],[.eqA A5 ([.i .i64,.i .i64,.i .i64,.i .i64,.i .i64,.i .i64]) (.t 11) (.t 12)],[.tmp 5],[D8 A0Y A8J]⟩
def sA:=gU.R
def B0U:=mR sA gU (tT []) n [a0,a1,a2] h
def A3b:=gU.K Tryz.func92
def gX:=gU.S
def A8d:G0 sA gX:=A3b.flat
def N1:FD A8:=⟨px 0X13601024bf1e055a04b49218011b6017800000004722430381902822c5d6e206205d2f05d1e05c5d1f045d3c005d1f05d6c75d705d1e0485d1f5a5d70104224e10412c2a2b1f01918d35329f2763c181b071841871d41e42150307024613401213f4200605110290440503d719063d3b3953138200003336015301c2,[],[],[.tmp 6],[D8 F9 J5,D8 gX A3b]⟩
def rP:=N1.R
def eH:K7:=N1.E
def dS:AtH:=N1.lj 0 n [m] [x0,x1,x2,x12,x13,x14]
def rQ:TT:=⟨eH,[⟨2,6,dS⟩]⟩
def A2T:=mR rP N1 rQ n [a0,a1,a2] h
def A2M:=mL N1 rQ 0 n [m] [x0,x1,x2,x12,x13,x14] h
def rM:=N1.K Tryz.func89
def eJ:=N1.S
def A0Z:G0 rP eJ:=rM.flat
def mV:FD A8:=⟨px 0X15f200194303611bc5e44400523103a2342,[],[],[.tmp 2],[D8 eJ rM]⟩
def A6C:=mV.R
def B3J:=mR A6C mV (tT []) n [a0] h
def A6t:=mV.K Tryz.func45
def yM:=mV.S
def B1d:G0 A6C yM:=A6t.flat
def jS:FD A8:=⟨px 0X139f180303c1901b182f7b044581a4e5875858702f702f4d04202f2f3e2f7032f3c002f1f002f1f02f6c72f70110321e12a00000172318017530282,[],[],[.tmp 8],[D8 X1 Z7]⟩
def A42:=jS.R
def B2J:=mR A42 jS (tT []) n [a0,a1,a2,a3] h
def A4J:=jS.K Tryz.func95
def uP:=jS.S
def A9d:G0 A42 uP:=A4J.flat
def Q4:FD A8:=⟨px 0X13501026af49054a06a49218011b5011b0000027224042e3a41316f10423319a106223041a4f5041800503d2f4039027812f4c591d0191cb3534bf1904126a423503270244131889012118d42016251490118b1d262820130135016e0000172241022041a6c3e2b3189421d2601d3011b501680000172240439184135c1041a5c55e395957b422a2e501d338f1f052a03849218011b5014c00000037224046184134813a13a14a2b5955f33622af129f7061867a414282a18215030702451339012149420060511061842a1d2b33f3d182031cf6001030421c1a2b41d4231642e2195182,[],[],[.tmp 5],[D8 yF A4A,D8 uP A4J,D8 D9 E5,D8 qP A3P]⟩
def A2b:=Q4.R
def A0D:AtH:=Q4.lj 0 n [m] [x2,x4,x6,x14,x15]
def A0E:AtH:=Q4.lj 1 n [m] [x2,x4,x6,x33]
def oK:=tT [⟨2,5,A0D⟩,⟨2,4,A0E⟩]
def A8Q:=mR A2b Q4 oK n [a0,a1,a2] h
def tO:=mL Q4 oK 0 n [m] [x2,x4,x6,x14,x15] h
def tP:=mL Q4 oK 1 n [m] [x2,x4,x6,x33] h
def A10:=Q4.K Tryz.func94
def fJ:=Q4.S
def A53:G0 A2b fJ:=A10.flat
def L6:FD A8:=⟨px 0X13601024bf1e055a04b49218011b6017800000004722430381902822c5d6e206205d2f05d1e05c5d1f045d3c005d1f05d6c75d705d1e0485d1f5a5d70104224e10412c2a2b1f01918d35329f2763c181b071841871d41e42150307024613401213f4200605110290440503d719063d3b3953138200003336015301c2,[],[],[.tmp 6],[D8 F9 J5,D8 fJ A10]⟩
def nV:=L6.R
def dA:K7:=L6.E
def cF:AtH:=L6.lj 0 n [m] [x0,x1,x2,x12,x13,x14]
def oI:TT:=⟨dA,[⟨2,6,cF⟩]⟩
def A19:=mR nV L6 oI n [a0,a1,a2] h
def A1q:=mL L6 oI 0 n [m] [x0,x1,x2,x12,x13,x14] h
def nR:=L6.K Tryz.func89
def dC:=L6.S
def zX:G0 nV dC:=nR.flat
def jQ:FD A8:=⟨px 0X15f20054303611be5e44400523103a2342,[],[],[.tmp 2],[D8 dC nR]⟩
def A4X:=jQ.R
def B2E:=mR A4X jQ (tT []) n [a0] h
def A4E:=jQ.K Tryz.func46
def uK:=jQ.S
def A88:G0 A4X uK:=A4E.flat
def aI:FD A8:=⟨px 0X15af203f5a02500000000067259f2b055c0594921858f3e052c02218022a181a11d5002040411d7817e4a071849f700441811d368423503270241813401217f420162501102901a233062230405855e4185c42f1c180197d7b7921d32ef2763c51b071841871d43e42150307024513401215942006051102901133e4281c44f4d4b42820131ff3000116b0400502e1c2b57201920112481500622410320103031801e182b42f420314a03a2342,[],[],[.tmp 2],[D8 cL gD,gG eY A2P,D8 F9 J5,D8 Y0 rZ]⟩
def B3I:=aI.R
def A25:AtH:=aI.lj 0 n [m] [x1,x3,x17,x18,x19]
def B2A:AtH:=aI.lj 1 n [m,m2] [x1,x3,x17,x18,x19,x28,x29,x30]
def A5g:=tT [⟨2,5,A25⟩,⟨3,8,B2A⟩]
def B9u:=mR B3I aI A5g n [a0] h
def A5W:=mL aI A5g 0 n [m] [x1,x3,x17,x18,x19] h
def A5X:=mL aI A5g 1 n [m,m2] [x1,x3,x17,x18,x19,x28,x29,x30] h
def A4D:=aI.K Tryz.func97
def yL:=aI.S
def B8j:A3Q B3I yL:=A4D.out
def Z2:FD A8:=⟨px 0X132010229f1b051c02949218011b201500001722450522e1f02490521ef400441811d3284215030702431340121394200605110290103041800503d75072f2d2b1c20133201042,[],[],[.tmp 2],[D8 yL A4D]⟩
def A41:=Z2.R
def A3y:AtH:=Z2.lj 0 n [m] [x9,x10,x11]
def A5i:=tT [⟨2,3,A3y⟩]
def B2I:=mR A41 Z2 A5i n [a0] h
def zV:=mL Z2 A5i 0 n [m] [x9,x10,x11] h
def A4I:=Z2.K Tryz.func47
def uO:=Z2.S
def A9c:G0 A41 uO:=A4I.flat
def R5:FD A8:=⟨px 0X14ef20038042433033041800503d7101236e3e07019500000004733df2a052e03d4921803cf300613901011113e5c15c15182410524c2f02693522ef12cf400461a11d4153c3e18215011a07024513401214f4200605110290113041800503d71c074d4b491c2031bf300103031800500503d76077423201042,[],[.eqA A5 (E8l 256 (.i .u8)) (.t 31) (.t 37)],[.tmp 2],[D8 A5a B0p,D8 yL A4D,D8 qK A3O,D8 oD A0N,D8 D9 E5]⟩
def A3i:=R5.R
def A2N:AtH:=R5.lj 0 n [m] [x0,x3,x16,x17,x18]
def B5C:AtH:=R5.lj 1 n [m] [x0,x3,x16,x17,x18]
def sI:=tT [⟨2,5,A2N⟩,⟨2,5,B5C⟩]
def B0V:=mR A3i R5 sI n [a0] h
def wJ:=mL R5 sI 0 n [m] [x0,x3,x16,x17,x18] h
def wH:=mJ R5 sI 1 n [m] [x0,x3,x16,x17,x18] h
def A3c:=R5.K Tryz.func48
def sF:=R5.S
def A8e:G0 A3i sF:=A3c.flat
def O9:FD A8:=⟨px 0X16cf206f6c0250000003726bf4f053806b4921806af6001813901011113e190027f16f161824005f1985c021bb2525bf159f700461a11d415291f18215011a07024413401211a9420060511029193818387c17387816386c15386814385c13385812384c11384810383c2b02d19f19d19b1c201314a11d422af5001133c4291c31b0520128f2051011113e2500622410322c1e023f421131df11cf2462e31b11828061c2c1bf190010371a018197019212481042,[],[.mkb 40 (.t 19),.mkb 41 (.t 21),.mkb 42 (.t 23),.mkb 43 (.t 25),.mkb 44 (.t 27),.mkb 45 (.t 29),.mkb 46 (.t 31),.mkb 47 (.t 33),.mkb 48 (.t 35),.buildSl 1 9 (E8l 9 (.nf)) [(0,1,(.t 20)),(1,1,(.t 22)),(2,1,(.t 24)),(3,1,(.t 26)),(4,1,(.t 28)),(5,1,(.t 30)),(6,1,(.t 32)),(7,1,(.t 34)),(8,1,(.t 36))]],[.tmp 2],[gG vO B5J,gG B1h B9h,D8 oF A12,D8 yO A6v,D8 yN A6u,D8 uL A4F,D8 uM A4G,D8 yM A6t,D8 uK A4E,D8 uO A4I,D8 sF A3c]⟩
def A3h:=O9.R
def rY:K7:=O9.E
def A2K:AtH:=O9.lj 0 n [m] [x6,x37,x38,x39]
def B5B:AtH:=O9.lj 1 n [m] [x6,x37,x38,x39]
def sH:TT:=⟨rY,[⟨2,4,A2K⟩,⟨2,4,B5B⟩]⟩
def B0T:=mR A3h O9 sH n [a0] h
def wG:=mL O9 sH 0 n [m] [x6,x37,x38,x39] h
def wE:=mJ O9 sH 1 n [m] [x6,x37,x38,x39] h
def A3a:=O9.K Tryz.func11
def sE:=O9.S
def A87:A3Q A3h sE:=A3a.out
def A1J:FD A8:=⟨px 0X16f201022029010361500523201042,[],[],[.tmp 2],[D8 sE A3a]⟩
def B62:=A1J.R
def C15:=mR B62 A1J (tT []) n [a0] h
def B6X:=A1J.K Tryz.func12
def A8c:=A1J.S
def B8k:G0 B62 A8c:=B6X.flat
end
structure IsLook(D:Dev)(n m:Int)(f:Cell)(h:A9)(r:Nat):Prop where
 view:IsView h f D
 row:∃ x w,rd h r=A4 ⟨vwC (l_ D) n m f++[x],w⟩/\IsTree h (.c x) (E6 D n)
def E1M{sz n:Nat}{cs:List Cell}(hv:Has h v sz n cs):∃ x,v=.c x:=by
 rcases hv with ⟨rfl,_⟩ | ⟨id,off,r,rfl,_⟩
 ·exact ⟨_,rfl⟩
 ·exact ⟨_,rfl⟩
section
variable {D:Dev} {n m:Int} {f:Cell} {h:A9} {r:Nat}
def IsLook.noX{x:Cell}{w:Bool}{f':Cell}(hv:IsView h f' D)(ht:IsTree h (.c x) (E6 D n)):Esc.noX (vwC (l_ D) n m f'++[x])=A5:=by
 obtain ⟨id,cs,rfl⟩:=hv.get;obtain ⟨_,hx,_⟩:=ht;have hn:=A9N hx;unfold Esc.noX;rw [List.all_append];have e1:(vwC (l_ D) n m (.f id cs)).all (λc=>!c.isX)=A5:=rfl;rw [e1];show (A5&&(!x.isX&&A5))=A5;rw [hn];rfl
def IsLook.ro(k:IsLook D n m f h r):IsLook D n m f (Esc.ro h) r:=by
 obtain ⟨x,w,h1,h2⟩:=k.row;exact ⟨k.view.ro,x,A6,uD h1 (IsLook.noX (w:=w) k.view h2),h2.ro⟩
def IsLook.more(k:IsLook D n m f h r)(t:A9):IsLook D n m f (h++t) r:=by
 obtain ⟨x,w,h1,h2⟩:=k.row;exact ⟨k.view.more t,x,w,B6 h1,h2.more t⟩
def IsLook.v4(k:IsLook D n m f h r):C9 h 4 (pV r 0)=A4 (.a (vwC (l_ D) n m f)):=by
 obtain ⟨x,w,h1,h2⟩:=k.row;have hx:=IsLook.noX (n:=n) (m:=m) (w:=w) k.view h2;rw [S7 h1 (by simp [vwC]) (by
  have:Esc.noX (((vwC (l_ D) n m f++[x]).drop 0).take 4)=A5:=by
   rw [Esc.noX] at hx ⊢;exact E8O.2 λc hc=>E8O.1 hx c (by rw [E8y] at hc;exact List.mem_of_mem_take hc)
  rw [this];simp)]
 rfl
def IsLook.v3(k:IsLook D n m f h r):C9 h 3 (pV r 0)=A4 (.a (L5 (l_ D) n m)):=by
 obtain ⟨x,w,h1,h2⟩:=k.row;have hx:=IsLook.noX (n:=n) (m:=m) (w:=w) k.view h2;rw [S7 h1 (by simp [vwC]) (by
  have:Esc.noX (((vwC (l_ D) n m f++[x]).drop 0).take 3)=A5:=by
   rw [Esc.noX] at hx ⊢;exact E8O.2 λc hc=>E8O.1 hx c (by rw [E8y] at hc;exact List.mem_of_mem_take hc)
  rw [this];simp)]
 rfl
def IsLook.tree(k:IsLook D n m f h r):∃ x,B9 h (pV r 4)=A4 (.c x)/\IsTree h (.c x) (E6 D n):=by
 obtain ⟨x,w,h1,h2⟩:=k.row;obtain ⟨_,hx,_⟩:=id h2;have hn:=A9N hx;exact ⟨x,B8 h1 rfl (by rw [hn];simp),h2⟩
def D0c(hD:okD D)(hv:IsView h f D):∃ rr H,B1h [.a (vwC (l_ D) n m f)] h=A4 (pV rr 0,H)/\Grows h H/\IsLook D n m f H rr:=by
 obtain ⟨V,hV⟩:=xEq (vwC (l_ D) n m f);have hVl:l_ V=4:=by rw [hV];rfl
 obtain ⟨G,hG⟩:=xEq (h++[rT V]);obtain ⟨v,H,o1,o2,o3⟩:=C96 (n:=n) (m:=m) (h:=G) hD (by rw [hG];exact hv.more _);obtain ⟨_,hx,_⟩:=id o2;obtain ⟨x,rfl⟩:=E1M hx;have o1q:quiet G (eY [.a (vwC (l_ D) n m f)] G)=A4 (.c x,H):=by rw [o1];exact U9 o3
 have l4:C9 G 4 (pV (l_ h) 0)=A4 (.a V):=by rw [hG,H6];exact K9 hVl
 have ef:F6 [o0,o0,.i .u64 0,.nf,.ns] [(0,4,.a V),(4,1,.c x)]=A4 (V++[x]):=by rw [hV];rfl
 have G1:Grows h G:=by rw [hG];exact Grows.rfl'.new _
 have lH:Low (l_ G) G H:=by
  refine ⟨E8m _,o3.len,λid hid=>?_⟩;obtain ⟨tt,rfl⟩:=o3.1;exact D5 hid
 refine ⟨l_ H,H++[rT (V++[x])],C5f (n:=0) ?_,(G1.trans' o3).new _,⟨?_,x,A5,?_,o2.more _⟩⟩
 ·rw [C40,<-hV];rw [<-hV] at o1q;simp only [esc,<-hG,l4,o1q,ef]
 ·exact ((by rw [hG];exact hv.more _:IsView G f D).since lH).more _
 ·rw [G3,hV];rfl
def B5y(D:Dev)(n:Int):Bool:=!((E8T (nN (l_ D) n).toNat).all λk=>A5u (blk D (bO (l_ D) n+(k:Nat))) 8 0)
def D3f(hD:okD D)(k:IsLook D n m f h r):∀ (e i M:Nat),i+e=(nN (l_ D) n).toNat->e<M ->
  ∃ g',A0H q M (pV r 0) (iV (bO (l_ D) n)) (iV (nN (l_ D) n)) (iV (bO (l_ D) n+(i:Nat))) h=A4 (bV (!((E8Q i e).all λk=>A5u (blk D (bO (l_ D) n+(k:Nat))) 8 0)),g'):=by
 intro e;obtain ⟨t0,t2,n0,n16⟩:=C3p (b:=l_ D) (n:=n)
 induction e with
 | zero =>
  intro i M hi hM;obtain ⟨M,rfl⟩:=X0 M (by omega);have c0:¬ bO (l_ D) n+(i:Nat)<bO (l_ D) n+nN (l_ D) n:=by omega
  have w0:E8r .i64 (bO (l_ D) n+nN (l_ D) n)=bO (l_ D) n+nN (l_ D) n:=wrap_i64 (by omega) (by omega);rw [tR];exact ⟨_,by simp only [esc,w0,c0]<;>rfl⟩
 | succ e ih =>
  intro i M hi hM;obtain ⟨M,rfl⟩:=X0 M (by omega);have c0:bO (l_ D) n+(i:Nat)<bO (l_ D) n+nN (l_ D) n:=by omega
  have w0:E8r .i64 (bO (l_ D) n+nN (l_ D) n)=bO (l_ D) n+nN (l_ D) n:=wrap_i64 (by omega) (by omega);have w1:E8r .i64 (bO (l_ D) n+(i:Nat)+1)=bO (l_ D) n+((i+1:Nat):Int):=by rw [wrap_i64 (by omega) (by omega)];omega
  have l4:=k.v4;have hB:=K8 (n:=n) (m:=m) (no:=bO (l_ D) n+(i:Nat)) hD k.view;have hC:=C8S (b:=blk D (bO (l_ D) n+(i:Nat))) (h:=h) (J6 hD);obtain ⟨g',f1⟩:=ih (i+1) M (by omega) (by omega);rw [tR,List.range'_succ,E9p];generalize vwC (l_ D) n m f=V at *;generalize B4 (blk D (bO (l_ D) n+(i:Nat)))=X at *;cases hc:A5u (blk D (bO (l_ D) n+(i:Nat))) 8 0 with
  | false =>
   rw [hc] at hC;exact ⟨h,by simp only [esc,w0,c0,l4,hB,hC,E8E]⟩
  | true =>
   rw [hc] at hC;refine ⟨g',?_⟩;simp only [esc,w0,c0,l4,hB,hC,w1,E8K];exact f1
def C3u(hD:okD D)(k:IsLook D n m f h r):oF [pV r 0] h=A4 (bV (B5y D n),h):=by
 obtain ⟨g',f1⟩:=D3f (q:=100) hD k.ro (nN (l_ D) n).toNat 0 100 (by omega) (by have:=(C3p (b:=l_ D) (n:=n)).2.2.2;omega);have l3:=k.ro.v3;have hT:=A1R (b:=l_ D) (n:=n) (m:=m) (h:=ro h);refine A55 (n:=100) (h2:=g') ?_ rfl;rw [A8S];have z0:bO (l_ D) n+((0:Nat):Int)=bO (l_ D) n:=by omega
 rw [z0] at f1;unfold B5y;rw [List.range_eq_range'];generalize L5 (l_ D) n m=L at *;simp only [esc,l3,hT];exact f1
def D1s(D:Dev)(n:Int):Bool:=!decide (kdV D n 1=2/\lnV D n 1=1/\paV D n 1=1)
end
section
variable {D:Dev} {n m:Int} {f:Cell} {h:A9} {r:Nat}
def D0d(hD:okD D)(k:IsLook D n m f h r):yO [pV r 0] h=A4 (bV (D1s D n),h):=by
 have key:∀ g,IsLook D n m f g r->∃ g',xT 0 [pV r 0] g=A4 (bV (D1s D n),g'):=λg k=>by
  have l4:=k.v4;have hI:=T8 (n:=n) (m:=m) (i:=1) hD k.view;rw [nK] at hI;obtain ⟨I,hIe⟩:=xEq (D1 (kdV D n 1) (lnV D n 1) (szV D n 1) (paV D n 1) (drV D n 1));have hIl:l_ I=11:=by rw [hIe];simp [D1,C1,O0]
  have i0:I[0]?=A4 (cI (kdV D n 1)):=by rw [hIe];rfl
  have i1:I[1]?=A4 (cI (lnV D n 1)):=by rw [hIe];rfl
  have i3:I[3]?=A4 (cI (paV D n 1)):=by rw [hIe];rfl
  rw [<-hIe] at hI;obtain ⟨G,hG⟩:=xEq (g++[rT I]);have st:F7 (g++[rT [o0,o0,o0,o0,o0,o0,o0,o0,o0,o0,o0]]) 11 (pV (l_ g) 0) (.a I)=A4 G:=by
   rw [storeAll (n:=11) (cs:=[o0,o0,o0,o0,o0,o0,o0,o0,o0,o0,o0]) (by rw [G3];rfl) rfl hIl,fX,hG];rfl
  have rG:rd G (l_ g)=rT I:=by rw [hG,G3];rfl
  have a0:B9 G (pV (l_ g) 0)=A4 (iV (kdV D n 1)):=B8 rG i0 rfl;have a1:B9 G (pV (l_ g) 1)=A4 (iV (lnV D n 1)):=B8 rG i1 rfl;have a3:B9 G (pV (l_ g) 3)=A4 (iV (paV D n 1)):=B8 rG i3 rfl;refine ⟨G,?_⟩;rw [B3M];unfold D1s;generalize vwC (l_ D) n m f=V at *;by_cases c0:kdV D n 1=2
  ·by_cases c1:lnV D n 1=1
   ·by_cases c3:paV D n 1=1
    ·rw [O4 ⟨c0,c1,c3⟩];simp only [esc,l4,hI,st,a0,a1,a3,c0,c1,c3,eq_self]
    ·rw [W3 (λh=>c3 h.2.2)];simp only [esc,l4,hI,st,a0,a1,a3,c0,c1,c3,eq_self]
   ·rw [W3 (λh=>c1 h.2.1)];simp only [esc,l4,hI,st,a0,a1,a3,c0,c1,eq_self]
  ·rw [W3 (λh=>c0 h.1)];simp only [esc,l4,hI,st,a0,a1,a3,c0,eq_self]
 obtain ⟨g',e⟩:=key _ k.ro;exact B1g e rfl
def B7K(k:IsLook D n m f h r):nD [pV r 0,iV a] h=A4 (bV (iO (E6 D n) a).isSome,h):=by
 have key:∀ g,IsLook D n m f g r->∃ g',xS 0 [pV r 0,iV a] g=A4 (bV (iO (E6 D n) a).isSome,g'):=λg k=>by
  obtain ⟨x,l1,ht⟩:=k.tree;obtain ⟨cs,l,hF,hN⟩:=C1t (a:=a) ht gB;obtain ⟨G,hG⟩:=xEq (g++l);rw [<-hG] at hF;have st:F7 (G++[rT [o0,o0,o0,o0,o0,.ns,.ns]]) 7 (pV (l_ G) 0) (.a cs)=A4 (G++[rT cs]):=B5v hN.length;refine ⟨G++[rT cs],?_⟩;rw [B3L];simp only [C7,A6W,R1,E8A,l1,hF,uS,E84,E8F,E85,dP,dQ,st]
 obtain ⟨g',e⟩:=key _ k.ro;exact B1f e rfl
def D4J(D:Dev)(n:Int):Bool:=!((vW (kdV D n) 128 0).all λi=>(iO (E6 D n) i).isSome)
def D9B{id:Nat}(k:IsLook D n m f h r)(hr:rd h id=rT (encI L))(hL:l_ L<=1000):∀ (e i M:Nat),i+e=l_ L->e<M ->
  ∃ g',A5Y q M (pV r 0) (sV id 0 (l_ L) 1) (iV (l_ L:Nat)) (iV (i:Int)) h=A4 (bV (!((L.drop i).all λi=>(iO (E6 D n) i).isSome)),g'):=by
 intro e
 induction e with
 | zero =>
  intro i M hi hM;obtain ⟨M,rfl⟩:=X0 M (by omega);have c0:¬ (i:Int)<(l_ L:Nat):=by omega
  rw [A0F,E8x (by omega)];exact ⟨_,by simp only [esc,c0]<;>rfl⟩
 | succ e ih =>
  intro i M hi hM;obtain ⟨M,rfl⟩:=X0 M (by omega);have K6:i<(l_ L):=by omega
  have c0:(i:Int)<(l_ L:Nat):=by omega
  have w1:=E2 (a:=i) (by omega);have ad:F0 1 (sV id 0 (l_ L) 1) (iV (i:Int))=A4 (pV id i):=by rw [E4 K6];simp
  have la:B9 h (pV id i)=A4 (iV L[i]):=B8 hr (by rw [G6,E8h K6];rfl) rfl;have hN:=B7K (a:=L[i]) k;obtain ⟨g',f1⟩:=ih (i+1) M (by omega) (by omega);rw [A0F,E8s K6,E9p];cases hc:(iO (E6 D n) L[i]).isSome with
  | false =>
   rw [hc] at hN;exact ⟨h,by simp only [esc,c0,ad,la,hN,E8E]⟩
  | true =>
   rw [hc] at hN;refine ⟨g',?_⟩;simp only [esc,c0,ad,la,hN,w1,E8K];exact f1
def D0b(hD:okD D)(k:IsLook D n m f h r):yN [pV r 0] h=A4 (bV (D4J D n),h):=by
 have l4:=k.ro.v4;have hV:=C88 (n:=n) (m:=m) hD k.ro.view;have hl:=C0I (kdV D n) 128 0;obtain ⟨L,hL⟩:=xEq (vW (kdV D n) 128 0);rw [<-hL] at hV hl;obtain ⟨g',f1⟩:=D9B (q:=200) (id:=(ro h).length) (k.ro.more [rT (encI L)]) (by rw [G3];rfl) (by omega) (l_ L) 0 200 (by omega) (by omega);have z0:((0:Nat):Int)=0:=rfl;rw [z0,E8y] at f1;refine B1e (n:=200) (h2:=g') ?_ rfl;rw [B3K];unfold D4J;rw [<-hL];generalize vwC (l_ D) n m f=V at *;simp only [esc,l4,hV];exact f1
end
def B8X(t:List Nd)(dir a:Int):Bool:=((iO t dir).getD ⟨0,0,0,0,0,[],[]⟩).names.any λe=>decide (e.2=a)
def vZ(t:List Nd)(x:Nd):Bool :=
 if x.ino=1 then decide ((oW t x.ino:Int)≠0) else
  (decide (x.links≠oW t x.ino)||(decide (x.kind=1)&&decide (x.parent≠0)))||(decide (x.kind=2)&&(decide ((oW t x.ino:Int)≠1) || !(B8X t x.parent x.ino)))
def D2D(D:Dev)(n:Int):Bool:=(E6 D n).any (vZ (E6 D n))
section
variable {D:Dev} {n m:Int} {f:Cell} {h:A9} {r:Nat}
def D7C{y:Cell}{L:List Ent}(hL:l_ L<=1000000):∀ (e i M:Nat) (h:A9),i+e=l_ L->e<M->Has h (.c y) 2 (l_ L) (K0 L) ->
  ∃ g',A3x q M (.c (cI a)) (.c y) (.c (cI (l_ L:Nat))) (.c (cI (i:Int))) h=A4 (.c (.b ((L.drop i).any λe=>decide (e.2=a))),g'):=by
 intro e
 induction e with
 | zero =>
  intro i M h hi hM hy;obtain ⟨M,rfl⟩:=X0 M (by omega);have c0:¬ (i:Int)<(l_ L:Nat):=by omega
  rw [zU,E8x (by omega)];exact ⟨_,by simp only [esc,c0]<;>rfl⟩
 | succ e ih =>
  intro i M h hi hM hy;obtain ⟨M,rfl⟩:=X0 M (by omega);have K6:i<(l_ L):=by omega
  have c0:(i:Int)<(l_ L:Nat):=by omega
  have w1:=E2 (a:=i) (by omega);obtain ⟨ad,a1,a2⟩:=A4s hy K6;obtain ⟨x,hx⟩:=xEq (L[i]);rw [<-hx] at a2;obtain ⟨g',f1⟩:=ih (i+1) M (h++[rT (W8 (A4 x))]) (by omega) (by omega) (hy.more _);rw [zU,E8s K6,<-hx,List.any_cons];by_cases c:x.2=a
  ·rw [O4 c];exact ⟨h++[rT (W8 (A4 x))],by simp only [C7,G4,c0,decide_true,X6,a1,a2,B5u,R1,E8A,C7u,dG,c,decide_true,E9d]⟩
  ·rw [W3 c,E9h];refine ⟨g',?_⟩;simp only [C7,G4,c0,decide_true,X6,a1,a2,B5u,R1,E8A,C7u,dG,c,decide_false,Y6,L8,w1];exact f1
def D4k{t:List Nd}(hs:small t):((iO t a).getD ⟨0,0,0,0,0,[],[]⟩).names.length<=1000000:=by
 cases hf:iO t a with
 | none=>exact Nat.zero_le _
 | some x=>exact (hs.2 x (List.mem_of_find?_eq_some hf)).2
def C9f{dir:Int}(k:IsLook D n m f h r):uN [.c (.p r 0),.c (cI dir),.c (cI a)] h=A4 (.c (.b (B8X (E6 D n) dir a)),h):=by
 obtain ⟨x,l1,ht⟩:=k.ro.tree;obtain ⟨cs,l,hF,hN⟩:=C1t (a:=dir) ht gB;have hs:=D4k (a:=dir) (gB (D:=D) (n:=n));unfold B8X;generalize (iO (E6 D n) dir).getD ⟨0,0,0,0,0,[],[]⟩=nd at *;obtain ⟨G,hG⟩:=xEq (ro h++l);rw [<-hG] at hF hN;have st:F7 (G++[rT [o0,o0,o0,o0,o0,.ns,.ns]]) 7 (.c (.p (l_ G) 0)) (.a cs)=A4 (G++[rT cs]):=B5v hN.length;obtain ⟨x1,y,rfl,h1,h2⟩:=hN;obtain ⟨K,hK⟩:=xEq (G++[rT (ndC nd.ino nd.kind nd.links nd.parent nd.size x1 y)]);rw [<-hK] at st;have hny:=A9N h2;have l6:B9 K (.c (.p (l_ G) 6))=A4 (.c y):=B8 (by rw [hK,G3];rfl) rfl rfl;have hyK:Has K (.c y) 2 nd.names.length (K0 nd.names):=by rw [hK];exact h2.more _
 have hyl:=hyK.len;obtain ⟨g',f1⟩:=D7C (q:=nd.names.length+1) (a:=a) hs nd.names.length 0 (nd.names.length+1) K (by omega) (by omega) hyK;have z0:((0:Nat):Int)=0:=rfl;rw [z0,E8y] at f1;refine A9b (n:=nd.names.length+1) (h2:=g') ?_ rfl;rw [B2H];generalize ndC nd.ino nd.kind nd.links nd.parent nd.size x1 y=N at *;simp only [C7,A6W,R1,E8A,l1,hF,uS,E84,E8F,E85,dP,dQ,st,l6,hyl];exact f1
def D6U:∀ (e i M:Nat) (h:A9) (x:Cell),i+e=(E6 D n).length->e<M->IsLook D n m f h r->B9 h (pV r 4)=A4 (.c x)->IsTree h (.c x) (E6 D n) ->
  ∃ g',A3w q M (pV r 0) (.c x) (iV ((E6 D n).length:Nat)) (iV (i:Int)) h=A4 (bV (((E6 D n).drop i).any (vZ (E6 D n))),g'):=by
 have hsm:=gB (D:=D) (n:=n);have hlen:=hsm.1;intro e
 induction e with
 | zero =>
  intro i M h x hi hM k l1 ht;obtain ⟨M,rfl⟩:=X0 M (by omega);have c0:¬ (i:Int)<((E6 D n).length:Nat):=by omega
  rw [zT,E8x (by omega)];exact ⟨_,by simp only [esc,c0]<;>rfl⟩
 | succ e ih =>
  intro i M h x hi hM k l1 ht;obtain ⟨M,rfl⟩:=X0 M (by omega);have K6:i<(E6 D n).length:=by omega
  have c0:(i:Int)<((E6 D n).length:Nat):=by omega
  have w1:=E2 (a:=i) (by omega);obtain ⟨id,o,cs,a1,a2,_,hN⟩:=D5S ht K6;have st:F7 (h++[rT [o0,o0,o0,o0,o0,.ns,.ns]]) 7 (pV (l_ h) 0) (.a cs)=A4 (h++[rT cs]):=B5v hN.length;obtain ⟨K,hK⟩:=xEq (h++[rT cs]);have rK:rd K (l_ h)=rT cs:=by rw [hK,G3];rfl
  rw [<-hK] at st;have kK:IsLook D n m f K r:=by rw [hK];exact k.more _
  have htK:IsTree K (.c x) (E6 D n):=by rw [hK];exact ht.more _
  have lK:B9 K (pV r 4)=A4 (.c x):=by
   obtain ⟨x',l',_⟩:=kK.tree;obtain ⟨xx,w,r1,r2⟩:=k.row;have e1:rd K r=A4 ⟨vwC (l_ D) n m f++[xx],w⟩:=by rw [hK];exact B6 r1
   have hn:=A9N r2.choose_spec.1;have e2:B9 h (pV r 4)=A4 (.c xx):=B8 r1 rfl (by rw [hn];simp);rw [e2] at l1;cases l1;exact B8 e1 rfl (by rw [hn];simp)
  obtain ⟨nd,hnd⟩:=xEq ((E6 D n)[i]);rw [<-hnd] at hN;have hC:=C94 (a:=nd.ino) htK hsm;have hT:=C9f (dir:=nd.parent) (a:=nd.ino) kK;obtain ⟨g',f1⟩:=ih (i+1) M K x (by omega) (by omega) kK lK htK;obtain ⟨x1,y1,ecs,_,_⟩:=hN;have g0:B9 K (pV (l_ h) 0)=A4 (iV nd.ino):=B8 rK (by rw [ecs];rfl) rfl;have g1:B9 K (pV (l_ h) 1)=A4 (iV nd.kind):=B8 rK (by rw [ecs];rfl) rfl;have g2:B9 K (pV (l_ h) 2)=A4 (iV nd.links):=B8 rK (by rw [ecs];rfl) rfl;have g3:B9 K (pV (l_ h) 3)=A4 (iV nd.parent):=B8 rK (by rw [ecs];rfl) rfl;rw [zT,E8s K6,<-hnd,List.any_cons];have back:vZ (E6 D n) nd=A6->A3v q M (pV r 0) (.c x) (iV ((E6 D n).length:Nat)) (iV (i:Int)) K=A4 (bV (vZ (E6 D n) nd||((E6 D n).drop (i+1)).any (vZ (E6 D n))),g'):=by
   intro hb;rw [B1X,hb,E9h];simp only [C7,L8,w1];exact f1
  have pre:∀ {R:Option (Val × A9)},True:=λ{_}=>trivial
  by_cases c1:nd.ino=1
  ·by_cases c2:(oW (E6 D n) nd.ino:Int)=0
   ·have hb:vZ (E6 D n) nd=A6:=by unfold vZ;rw [C4 c1,W3 (λh=>h c2)]
    refine ⟨g',?_⟩;rw [<-back hb];rw [c1] at g0 hC c2;simp only [esc,c0,a1,a2,st,lK,g0,hC,c2,eq_self]
   ·have hb:vZ (E6 D n) nd=A5:=by unfold vZ;rw [C4 c1,O4 c2]
    rw [hb];refine ⟨K,?_⟩;rw [c1] at g0 hC c2;simp only [esc,c0,a1,a2,st,lK,g0,hC,c2,eq_self,E9d]
  ·have hl:vZ (E6 D n) nd=((decide (nd.links≠oW (E6 D n) nd.ino)||(decide (nd.kind=1)&&decide (nd.parent≠0)))||(decide (nd.kind=2)&&(decide ((oW (E6 D n) nd.ino:Int)≠1) || !(B8X (E6 D n) nd.parent nd.ino)))):=by unfold vZ;rw [C5 c1]
   generalize (oW (E6 D n) nd.ino:Int)=N at *;by_cases c2:nd.links=N
   ·by_cases c3:nd.kind=1
    ·by_cases c4:nd.parent=0
     ·have hb:vZ (E6 D n) nd=A6:=by rw [hl,c2,c3,c4];simp
      refine ⟨g',?_⟩;rw [<-back hb];simp only [esc,c0,a1,a2,st,lK,g0,hC,c1,g1,g2,g3,c2,c3,c4,eq_self,Q8];simp
     ·have hb:vZ (E6 D n) nd=A5:=by rw [hl,O4 c3,O4 c4];simp
      rw [hb];refine ⟨K,?_⟩;simp only [esc,c0,a1,a2,st,lK,g0,hC,c1,g1,g2,g3,c2,c3,c4,eq_self,Q8,E9d]
    ·have n21:¬ (2:Int)=1:=by decide
     by_cases c4:nd.kind=2
     ·by_cases c5:N=1
      ·cases hb2:B8X (E6 D n) nd.parent nd.ino with
       | true =>
        rw [hb2] at hT;have hb:vZ (E6 D n) nd=A6:=by rw [hl,c2,hb2,W3 c3,c5];simp
        refine ⟨g',?_⟩;rw [<-back hb];simp only [esc,c0,a1,a2,st,lK,g0,hC,c1,g1,g2,g3,c2,c3,c4,n21,c5,hT,eq_self,Q8]
       | false =>
        rw [hb2] at hT;have hb:vZ (E6 D n) nd=A5:=by rw [hl,hb2,O4 c4];simp
        rw [hb];refine ⟨K,?_⟩;simp only [esc,c0,a1,a2,st,lK,g0,hC,c1,g1,g2,g3,c2,c3,c4,n21,c5,hT,eq_self,Q8,E9d]
      ·have hb:vZ (E6 D n) nd=A5:=by rw [hl,O4 c4,O4 c5];simp
       rw [hb];refine ⟨K,?_⟩;simp only [esc,c0,a1,a2,st,lK,g0,hC,c1,g1,g2,g3,c2,c3,c4,n21,c5,eq_self,Q8,E9d]
     ·have hb:vZ (E6 D n) nd=A6:=by rw [hl,c2,W3 c3,W3 c4];simp
      refine ⟨g',?_⟩;rw [<-back hb];simp only [esc,c0,a1,a2,st,lK,g0,hC,c1,g1,g2,g3,c2,c3,c4,eq_self,Q8]
   ·have hb:vZ (E6 D n) nd=A5:=by rw [hl,O4 c2];simp
    rw [hb];refine ⟨K,?_⟩;simp only [esc,c0,a1,a2,st,lK,g0,hC,c1,g1,g2,c2,eq_self,Q8,E9d]
def C9c(k:IsLook D n m f h r):uL [pV r 0] h=A4 (bV (D2D D n),h):=by
 obtain ⟨x,l1,ht⟩:=k.ro.tree;have hlen:=(gB (D:=D) (n:=n)).1;obtain ⟨g',f1⟩:=D6U (q:=(E6 D n).length+1) (E6 D n).length 0 ((E6 D n).length+1) _ x (by omega) (by omega) k.ro l1 ht;have z0:((0:Nat):Int)=0:=rfl;rw [z0,E8y] at f1;have al:=ht.len;refine A89 (n:=(E6 D n).length+1) (h2:=g') ?_ rfl;rw [B2F];simp only [C7,A6W,R1,E8A,l1,al];exact f1
end
def C28(D:Dev)(n i:Int):Bool:=(iQ D n (kdV D n i) (drV D n i)).any λe=>!(iO (E6 D n) e.2).isSome
def C8h(D:Dev)(n:Int):Bool:=(E6 D n).any λx=>decide (x.kind=2)&&C28 D n x.ino
section
variable {D:Dev} {n m:Int} {f:Cell} {h:A9} {r:Nat}
def D4Q{y:Cell}{L:List Ent}(hL:l_ L<=1000000):∀ (e i M:Nat) (h:A9),i+e=l_ L->e<M->IsLook D n m f h r->(∃ w,rd h pp=A4 ⟨[.p r 0],w⟩)->Has h (.c y) 2 (l_ L) (K0 L) ->
  ∃ g',A0G q M (.c (.p pp 0)) (.c y) (.c (cI (l_ L:Nat))) (.c (cI (i:Int))) h=A4 (.c (.b ((L.drop i).any λe=>!(iO (E6 D n) e.2).isSome)),g'):=by
 intro e
 induction e with
 | zero =>
  intro i M h hi hM k hp hy;obtain ⟨M,rfl⟩:=X0 M (by omega);have c0:¬ (i:Int)<(l_ L:Nat):=by omega
  rw [tQ,E8x (by omega)];exact ⟨_,by simp only [esc,c0]<;>rfl⟩
 | succ e ih =>
  intro i M h hi hM k hp hy;obtain ⟨M,rfl⟩:=X0 M (by omega);have K6:i<(l_ L):=by omega
  have c0:(i:Int)<(l_ L:Nat):=by omega
  have w1:=E2 (a:=i) (by omega);obtain ⟨ad,a1,a2⟩:=A4s hy K6;obtain ⟨x,hx⟩:=xEq (L[i]);rw [<-hx] at a2;obtain ⟨G,hG⟩:=xEq (h++[rT (W8 (A4 x))]);have st:F7 (h++[rT [.s [],o0]]) 2 (.c (.p (l_ h) 0)) (.a (W8 (A4 x)))=A4 G:=by rw [hG];exact B5u
  have e1:B9 G (.c (.p (l_ h) 1))=A4 (.c (cI x.2)):=by rw [hG];exact C7u
  have kG:IsLook D n m f G r:=by rw [hG];exact k.more _
  obtain ⟨w,hp1⟩:=hp;have hpG:rd G pp=A4 ⟨[.p r 0],w⟩:=by rw [hG];exact B6 hp1
  have lp:B9 G (.c (.p pp 0))=A4 (.c (.p r 0)):=B8 hpG rfl (by simp [Cell.isX]);have hN:=B7K (a:=x.2) kG;obtain ⟨g',f1⟩:=ih (i+1) M G (by omega) (by omega) kG ⟨w,hpG⟩ (by rw [hG];exact hy.more _);rw [tQ,E8s K6,<-hx,List.any_cons];cases hc:(iO (E6 D n) x.2).isSome with
  | false =>
   rw [hc] at hN;exact ⟨G,by simp only [C7,G4,c0,decide_true,X6,a1,a2,st,lp,R1,E8A,e1,hN,yT,Bool.not_false,E9d]⟩
  | true =>
   rw [hc] at hN;refine ⟨g',?_⟩;simp only [C7,G4,c0,decide_true,X6,a1,a2,st,lp,R1,E8A,e1,hN,yT,Bool.not_true,Y6,L8,w1,E9h];exact f1
def D9I{w:Bool}(hD:okD D)(k:IsLook D n m f h r)(hp:rd h pp=A4 ⟨[.p r 0],w⟩) :
  fK [.c (cI i),.a (A9R D n i),.c (.p pp 0)] h=A4 (.c (.b (C28 D n i)),h):=by
 obtain ⟨I,hI⟩:=xEq (D1 (kdV D n i) (lnV D n i) (szV D n i) (paV D n i) (drV D n i));have hIl:l_ I=11:=by rw [hI];simp [D1,C1,O0]
 rw [nK,<-hI];obtain ⟨G,hG⟩:=xEq (ro h++[rT I]);have kG:IsLook D n m f G r:=by rw [hG];exact k.ro.more _
 have hpG:rd G pp=A4 ⟨[.p r 0],A6⟩:=by rw [hG];exact B6 (uD hp rfl)
 have lp:B9 G (.c (.p pp 0))=A4 (.c (.p r 0)):=B8 hpG rfl rfl;have l4:=kG.v4;have l11:C9 G 11 (.c (.p (ro h).length 0))=A4 (.a I):=C8 (by rw [hG,G3];rfl) hIl;have hLi:=B7h (n:=n) (m:=m) (k:=kdV D n i) (l:=lnV D n i) (s:=szV D n i) (p:=paV D n i) (d:=drV D n i) (h:=G) hD O0 kG.view;rw [<-hI] at hLi;have E7d:=C23 (D:=D) (n:=n) (k:=kdV D n i) (d:=drV D n i);unfold C28;obtain ⟨L,hL⟩:=xEq (iQ D n (kdV D n i) (drV D n i));rw [<-hL] at hLi E7d ⊢;have hLq:quiet G (yA [.a (vwC (l_ D) n m f),.a I] G)=A4 (.c (.sl (l_ G) 0 (l_ L) 2),G++[rT (K0 L)]):=by rw [hLi];exact U9 (Grows.rfl'.new _)
 obtain ⟨g',f1⟩:=D4Q (q:=1000) (pp:=pp) (y:=.sl (l_ G) 0 (l_ L) 2) (L:=L) (by omega) (l_ L) 0 1000 (G++[rT (K0 L)]) (by omega) (by omega) (kG.more _) ⟨A6,B6 hpG⟩ (Has.row (by rw [G3];rfl) iN A9F);have z0:((0:Nat):Int)=0:=rfl;rw [z0,E8y] at f1;refine A54 (n:=1000) (h2:=g') ?_ rfl;rw [A8R];generalize vwC (l_ D) n m f=V at *;simp only [esc,<-hG,lp,l4,l11,hLq];exact f1
def C3b{kd:Int}{B:Int->Bool}{fc:Val}{C:Val->List Val->A9->zW}{L1:Nat->Cell->Val->A9->zW}(hD:okD D)
  (hL:∀ M y x h,L1 (M+1) y x h=bnd (N4 .lss x (iV ((E6 D n).length:Nat))) λv5=>cnd v5 (bnd (F0 7 (.c y) x) λv6=>bnd (C9 h 7 v6) λv7=>bnd (F7 (h++[rT ([o0,o0,o0,o0,o0,.ns,.ns])]) 7 (pV (l_ h) 0) v7) λh8=>bnd (U2 (pV (l_ h) 0) 1) λv9=>bnd (B9 h8 v9) λv10=>bnd (N4 .eql v10 (iV kd)) λv11=>bnd (gd v11 A5 (A4 (fc,(h8++[]))) (A4 (.no,(h8++[])))) λp12=>bnd (gd v11 A5 (bnd (U2 (pV (l_ h) 0) 0) λv13=>A4 (v13,p12.2)) (A4 (.no,p12.2))) λp14=>bnd (gd v11 A5 (bnd (B9 h8 p14.1) λv15=>A4 (v15,p14.2)) (A4 (.no,p14.2))) λp16=>bnd (gd v11 A5 (A4 ((pV r 0),p16.2)) (A4 (.no,p16.2))) λp17=>bnd (gd v11 A5 (bnd (A6V p17.1) λv18=>A4 (v18,p17.2)) (A4 (.no,p17.2))) λp19=>bnd (gd v11 A5 (bnd (U2 p19.1 0) λv20=>A4 (v20,p19.2)) (A4 (.no,p19.2))) λp21=>bnd (gd v11 A5 (bnd (C9 h8 4 p21.1) λv22=>A4 (v22,p21.2)) (A4 (.no,p21.2))) λp23=>bnd (gd v11 A5 (bnd (U2 (pV (l_ h) 0) 0) λv24=>A4 (v24,p23.2)) (A4 (.no,p23.2))) λp25=>bnd (gd v11 A5 (bnd (B9 h8 p25.1) λv26=>A4 (v26,p25.2)) (A4 (.no,p25.2))) λp27=>bnd (gd v11 A5 (bnd (quiet p27.2 (F9 [p23.1,p27.1] p27.2)) λp28=>A4 (p28.1,p28.2)) (A4 (.no,p27.2))) λp29=>bnd (gd v11 A5 (bnd (C p12.1 [p16.1,p29.1] p29.2) λp30=>A4 (p30.1,p30.2)) (A4 (.no,p29.2))) λp31=>bnd (D0A v11 p31.1 (bV A6)) λv32=>cnd v32 (A4 ((bV A5),p31.2)) (bnd (N4 .add x (iV 1)) λv33=>L1 M y v33 p31.2)) (A4 ((bV A6),h)))
  (hC:∀ a K,IsLook D n m f K r->(∃ w,rd K pp=A4 ⟨[.p r 0],w⟩)->C fc [iV a,.a (A9R D n a)] K=A4 (bV (B a),K)):∀ (e i M:Nat) (h:A9) (x:Cell),i+e=(E6 D n).length->e<M->IsLook D n m f h r->(∃ w,rd h pp=A4 ⟨[.p r 0],w⟩)->IsTree h (.c x) (E6 D n) ->
  ∃ g',L1 M x (iV (i:Int)) h=A4 (bV (((E6 D n).drop i).any λx=>decide (x.kind=kd)&&B x.ino),g'):=by
 have hlen:=(gB (D:=D) (n:=n)).1;intro e
 induction e with
 | zero =>
  intro i M h x hi hM k hp ht;obtain ⟨M,rfl⟩:=X0 M (by omega);have c0:¬ (i:Int)<((E6 D n).length:Nat):=by omega
  rw [hL,E8x (by omega)];exact ⟨_,by simp only [esc,c0]<;>rfl⟩
 | succ e ih =>
  intro i M h x hi hM k hp ht;obtain ⟨M,rfl⟩:=X0 M (by omega);have K6:i<(E6 D n).length:=by omega
  have c0:(i:Int)<((E6 D n).length:Nat):=by omega
  have w1:=E2 (a:=i) (by omega);obtain ⟨id,o,cs,a1,a2,_,hN⟩:=D5S ht K6;have st:F7 (h++[rT [o0,o0,o0,o0,o0,.ns,.ns]]) 7 (pV (l_ h) 0) (.a cs)=A4 (h++[rT cs]):=B5v hN.length;obtain ⟨K,hK⟩:=xEq (h++[rT cs]);have rK:rd K (l_ h)=rT cs:=by rw [hK,G3];rfl
  rw [<-hK] at st;have kK:IsLook D n m f K r:=by rw [hK];exact k.more _
  have htK:IsTree K (.c x) (E6 D n):=by rw [hK];exact ht.more _
  obtain ⟨w,hp1⟩:=hp;have hpK:∃ w,rd K pp=A4 ⟨[.p r 0],w⟩:=⟨w,by rw [hK];exact B6 hp1⟩;obtain ⟨nd,hnd⟩:=xEq ((E6 D n)[i]);rw [<-hnd] at hN;have l4:=kK.v4;have hI:=T8 (n:=n) (m:=m) (i:=nd.ino) hD kK.view;have hIq:quiet K (F9 [.a (vwC (l_ D) n m f),iV nd.ino] K)=A4 (.a (A9R D n nd.ino),K):=by rw [hI];exact dR
  have hB:=hC nd.ino K kK hpK;obtain ⟨g',f1⟩:=ih (i+1) M K x (by omega) (by omega) kK hpK htK;obtain ⟨x1,y1,ecs,_,_⟩:=hN;have g0:B9 K (pV (l_ h) 0)=A4 (iV nd.ino):=B8 rK (by rw [ecs];rfl) rfl;have g1:B9 K (pV (l_ h) 1)=A4 (iV nd.kind):=B8 rK (by rw [ecs];rfl) rfl;rw [hL,E8s K6,<-hnd,List.any_cons];generalize vwC (l_ D) n m f=V at *;generalize A9R D n nd.ino=I at *;by_cases c1:nd.kind=kd
  ·rw [O4 c1,E8K];cases hb:B nd.ino with
   | true =>
    rw [hb] at hB;exact ⟨K,by simp only [esc,c0,a1,a2,st,g0,g1,c1,l4,hIq,hB,E9d]⟩
   | false =>
    rw [hb] at hB;refine ⟨g',?_⟩;simp only [esc,c0,a1,a2,st,g0,g1,c1,l4,hIq,hB,w1,E9h];exact f1
  ·rw [W3 c1,E8E,E9h];refine ⟨g',?_⟩;simp only [esc,c0,a1,a2,st,g0,g1,c1,w1];exact f1
def D6w(hD:okD D):∀ (e i M:Nat) (h:A9) (x:Cell),i+e=(E6 D n).length->e<M->IsLook D n m f h r->(∃ w,rd h pp=A4 ⟨[.p r 0],w⟩)->IsTree h (.c x) (E6 D n) ->
  ∃ g',cG q M (pV r 0) (iV 2) (.c (.f 90 [(pp,0)])) (.c x) (iV ((E6 D n).length:Nat)) (iV (i:Int)) h=A4 (bV (((E6 D n).drop i).any λx=>decide (x.kind=2)&&C28 D n x.ino),g') :=
 C3b (C:=aQ dB) (L1:=λM y x h=>cG q M (pV r 0) (iV 2) (.c (.f 90 [(pp,0)])) (.c y) (iV ((E6 D n).length:Nat)) x h) hD (λM y x h=>A1r ..) λa K k hp=>by
  obtain ⟨w,hp⟩:=hp;have hcv:∀ a b h',aQ dB (.c (.f 90 [(pp,0)])) [a,b] h'=fK [a,b,pV pp 0] h':=λ_ _ _=>Eq.trans rfl rfl
  rw [hcv];exact D9I hD k hp
def C9e(hD:okD D)(k:IsLook D n m f h r):uM [pV r 0] h=A4 (bV (C8h D n),h):=by
 have hlen:=(gB (D:=D) (n:=n)).1;have hE:∀ g pp w,IsLook D n m f g r->rd g pp=A4 ⟨[.p r 0],w⟩->dD [pV r 0,iV 2,.c (.f 90 [(pp,0)])] g=A4 (bV (C8h D n),g):=by
  intro g pp w k hp;obtain ⟨x,l1,ht⟩:=k.ro.tree;obtain ⟨g',f1⟩:=D6w (q:=(E6 D n).length+1) (pp:=pp) hD (E6 D n).length 0 ((E6 D n).length+1) _ x (by omega) (by omega) k.ro ⟨A6,uD hp rfl⟩ ht;have z0:((0:Nat):Int)=0:=rfl;rw [z0,E8y] at f1;have al:=ht.len;refine zY (n:=(E6 D n).length+1) (h2:=g') ?_ rfl;rw [A2a];simp only [C7,A6W,R1,E8A,l1,al];exact f1
 have e1:=hE (ro h++[rT [.p r 0]]) (ro h).length A5 (k.ro.more _) (by rw [G3];rfl);have lp:B9 (ro h++[rT [.p r 0]]) (pV (ro h).length 0)=A4 (pV r 0):=by rw [J0];rfl
 have mk:A32 90 [pV (ro h).length 0]=A4 (.c (.f 90 [((ro h).length,0)])):=rfl;have cc:cells? (pV r 0)=A4 [.p r 0]:=rfl;refine A9a (n:=0) (h2:=ro h++[rT [.p r 0]]) ?_ rfl;rw [B2G];simp only [C7,cc,lp,mk,e1]
end
def sM(D:Dev)(n k no keep:Int):Bool:=decide (no≠0)&&(!(G7 (l_ D) n no)||decide (keep<=k))
section
variable {D:Dev} {n m:Int} {f:Cell} {h:A9} {r:Nat}
def A5Z{keep:Int}(L:IsLook D n m f h r):uP [pV r 0,iV k,iV no,iV keep] h=A4 (bV (sM D n k no keep),h):=by
 have l3:=L.ro.v3;have hD:=X8 (b:=l_ D) (n:=n) (m:=m) (i:=no) (h:=ro h);refine A9d (n:=0) (h2:=ro h) ?_ rfl;rw [B2J];unfold sM;generalize L5 (l_ D) n m=V at *;by_cases c0:no=0
 ·rw [W3 (λh=>h c0)];simp only [esc,c0,E8E]
 ·rw [O4 c0,E8K];cases hd:G7 (l_ D) n no with
  | false =>
   rw [hd] at hD;simp only [esc,c0,l3,hD,E9d]
  | true =>
   rw [hd] at hD;by_cases c1:keep<=k
   ·have c1':k>=keep:=c1;simp only [esc,c0,l3,hD,c1',E9h,c1]
   ·have c1':¬ k>=keep:=c1;simp only [esc,c0,l3,hD,c1',E9h,c1]
def E1A{pi:Nat}{kd ln sz pa keep:Int}(hD:okD D)(hd:l_ d=7)(L:IsLook D n m f h r)(hp:∃ w,rd h pp=A4 ⟨[.p r 0],w⟩)(hi:rd h pi=rT (D1 kd ln sz pa d)):∀ (e i M:Nat),i+e=128->e<M ->
  ∃ g',A0E q M (pV pp 0) (pV pi 0) (iV keep) (iV (i:Int)) h=A4 (bV ((E8Q i e).any λk=>sM D n (6+(k:Int)) (ptP (blk D (d.getD 6 0)) k) keep),g'):=by
 obtain ⟨w,hp⟩:=hp;have lp:B9 h (pV pp 0)=A4 (pV r 0):=B8 hp rfl (by simp [Cell.isX]);have l4:=L.v4;have l10:B9 h (pV pi 10)=A4 (iV (d.getD 6 0)):=by
  refine B8 hi ?_ rfl;simp only [D1,E8F];rw [G6,E8k,E8h (by omega)];rfl
 intro e
 induction e with
 | zero =>
  intro i M hi hM;obtain ⟨M,rfl⟩:=X0 M (by omega);have c0:¬ (i:Int)<128:=by omega
  rw [tP];exact ⟨_,by simp only [esc,c0]<;>rfl⟩
 | succ e ih =>
  intro i M hi hM;obtain ⟨M,rfl⟩:=X0 M (by omega);have c0:(i:Int)<128:=by omega
  have w1:=E2 (a:=i) (by omega);have w6:E8r .i64 (6+(i:Int))=6+(i:Int):=wrap_i64 (by omega) (by omega);have hB:=K8 (n:=n) (m:=m) (no:=d.getD 6 0) hD L.view;have hBq:quiet h (D9 [.a (vwC (l_ D) n m f),iV (d.getD 6 0)] h)=A4 (.a (B4 (blk D (d.getD 6 0))),h):=by rw [hB];exact dR
  have hG:=A8v (b:=blk D (d.getD 6 0)) (k:=i) (h:=h) (J6 hD) (by omega);have hGq:quiet h (qP [.a (B4 (blk D (d.getD 6 0))),iV i] h)=A4 (iV (ptP (blk D (d.getD 6 0)) i),h):=by rw [hG];exact dR
  have hW:=A5Z (k:=6+(i:Int)) (no:=ptP (blk D (d.getD 6 0)) i) (keep:=keep) L;obtain ⟨g',f1⟩:=ih (i+1) M (by omega) (by omega);rw [tP,List.range'_succ,List.any_cons];generalize vwC (l_ D) n m f=V at *;generalize B4 (blk D (d.getD 6 0))=X at *;cases hb:sM D n (6+(i:Int)) (ptP (blk D (d.getD 6 0)) i) keep with
  | true =>
   rw [hb] at hW;exact ⟨h,by simp only [esc,c0,lp,w6,l4,l10,hBq,hGq,hW,E9d]⟩
  | false =>
   rw [hb] at hW;refine ⟨g',?_⟩;simp only [esc,c0,lp,w6,l4,l10,hBq,hGq,hW,w1,E9h];exact f1
def D8B(D:Dev)(n keep:Int)(d:List Int):Bool:=sM D n 6 (d.getD 6 0) keep||(decide (d.getD 6 0≠0)&&(E8Q 0 128).any λk=>sM D n (6+(k:Int)) (ptP (blk D (d.getD 6 0)) k) keep)
def C2U(D:Dev)(n i:Int):Bool:=((E8Q 0 6).any λk=>sM D n (k:Int) ((drV D n i).getD k 0) (T9 (szV D n i)))||D8B D n (T9 (szV D n i)) (drV D n i)
def E1z{pi:Nat}{kd ln sz pa keep:Int}(hq:200<q)(hD:okD D)(hd:l_ d=7)(L:IsLook D n m f h r)(hp:∃ w,rd h pp=A4 ⟨[.p r 0],w⟩)(hi:rd h pi=rT (D1 kd ln sz pa d)):∀ (e i M:Nat),i+e=6->e<M ->
  ∃ g',A0D q M (pV pp 0) (pV pi 0) (iV keep) (.a (encI (d.take 6))) (iV (i:Int)) h=A4 (bV (((E8Q i e).any λk=>sM D n (k:Int) (d.getD k 0) keep)||D8B D n keep d),g'):=by
 have hp':=hp;obtain ⟨w,hp'⟩:=hp';have lp:B9 h (pV pp 0)=A4 (pV r 0):=B8 hp' rfl (by simp [Cell.isX]);have l10:B9 h (pV pi 10)=A4 (iV (d.getD 6 0)):=by
  refine B8 hi ?_ rfl;simp only [D1,E8F];rw [G6,E8k,E8h (by omega)];rfl
 intro e
 induction e with
 | zero =>
  intro i M hi' hM;obtain ⟨M,rfl⟩:=X0 M (by omega);have c0:¬ (i:Int)<6:=by omega
  have hW:=A5Z (k:=6) (no:=d.getD 6 0) (keep:=keep) L;rw [tO];have e0:((E8Q i 0).any λk=>sM D n (k:Int) (d.getD k 0) keep)=A6:=rfl;rw [e0,E9h];unfold D8B;cases hb:sM D n 6 (d.getD 6 0) keep with
  | true =>
   rw [hb] at hW;exact ⟨h,by simp only [esc,c0,lp,l10,hW,E9d]⟩
  | false =>
   rw [hb] at hW;rw [E9h];by_cases c1:d.getD 6 0=0
   ·rw [W3 (λh=>h c1),E8E];rw [c1] at hW l10;exact ⟨h,by simp only [esc,c0,lp,l10,hW]⟩
   ·rw [O4 c1,E8K];obtain ⟨g',f1⟩:=E1A (q:=q) (keep:=keep) hD hd L hp hi 128 0 q (by omega) (by omega);have z0:((0:Nat):Int)=0:=rfl;rw [z0] at f1;refine ⟨g',?_⟩;simp only [esc,c0,lp,l10,hW,c1];exact f1
 | succ e ih =>
  intro i M hi' hM;obtain ⟨M,rfl⟩:=X0 M (by omega);have hi6:i<6:=by omega
  have c0:(i:Int)<6:=by omega
  have w1:=E2 (a:=i) (by omega);have ad:A5j 6 (.a (encI (d.take 6))) (iV (i:Int))=A4 (iV (d.getD i 0)):=by
   rw [B4S hi6,G6,E86 hi6,E8k,E8h (by omega)];rfl
  have hW:=A5Z (k:=(i:Int)) (no:=d.getD i 0) (keep:=keep) L;obtain ⟨g',f1⟩:=ih (i+1) M (by omega) (by omega);rw [tO,List.range'_succ,List.any_cons];generalize encI (d.take 6)=X at *;cases hb:sM D n (i:Int) (d.getD i 0) keep with
  | true =>
   rw [hb] at hW;exact ⟨h,by simp only [esc,c0,lp,ad,hW,E9d]⟩
  | false =>
   rw [hb] at hW;refine ⟨g',?_⟩;simp only [esc,c0,lp,ad,hW,w1,E9h];exact f1
def D89{w:Bool}(hD:okD D)(k:IsLook D n m f h r)(hp:rd h pp=A4 ⟨[.p r 0],w⟩) :
  fJ [iV i,.a (A9R D n i),pV pp 0] h=A4 (bV (C2U D n i),h):=by
 rw [nK];obtain ⟨I,hI⟩:=xEq (D1 (kdV D n i) (lnV D n i) (szV D n i) (paV D n i) (drV D n i));have hIl:l_ I=11:=by rw [hI];simp [D1,C1,O0]
 obtain ⟨G,hG⟩:=xEq (ro h++[rT I]);have kG:IsLook D n m f G r:=by rw [hG];exact k.ro.more _
 have hpG:rd G pp=A4 ⟨[.p r 0],A6⟩:=by rw [hG];exact B6 (uD hp rfl)
 have rI:rd G (ro h).length=rT I:=by rw [hG,G3];rfl
 have l2:B9 G (pV (ro h).length 2)=A4 (iV (szV D n i)):=B8 rI (by rw [hI];rfl) rfl;have hBl:=B2l (n:=szV D n i) (h:=G);have eB:(if szV D n i<1 then (0:Int) else if 34304<szV D n i then 134 else (szV D n i+255)/256)=T9 (szV D n i):=rfl;rw [eB] at hBl;have l6:C9 G 6 (pV (ro h).length 4)=A4 (.a (encI ((drV D n i).take 6))):=by
  rw [S7 rI (by omega) rfl,hI];show A4 (Val.a ((encI (drV D n i)).take 6))=_;unfold encI;rw [List.map_take]
 obtain ⟨g',f1⟩:=E1z (q:=300) (pp:=pp) (pi:=(ro h).length) (keep:=T9 (szV D n i)) (by omega) hD O0 kG ⟨A6,hpG⟩ (by rw [<-hI];exact rI) 6 0 300 (by omega) (by omega);have z0:((0:Nat):Int)=0:=rfl;rw [z0] at f1;refine A53 (n:=300) (h2:=g') ?_ rfl;rw [A8Q,<-hI];unfold C2U;generalize encI ((drV D n i).take 6)=X at *;simp only [esc,<-hG,l2,hBl,l6];exact f1
end
def C7z(D:Dev)(n:Int):Bool:=(E6 D n).any λx=>decide (x.kind=1)&&C2U D n x.ino
section
variable {D:Dev} {n m:Int} {f:Cell} {h:A9} {r:Nat}
def D6v(hD:okD D):∀ (e i M:Nat) (h:A9) (x:Cell),i+e=(E6 D n).length->e<M->IsLook D n m f h r->(∃ w,rd h pp=A4 ⟨[.p r 0],w⟩)->IsTree h (.c x) (E6 D n) ->
  ∃ g',cF q M (pV r 0) (iV 1) (.c (.f 94 [(pp,0)])) (.c x) (iV ((E6 D n).length:Nat)) (iV (i:Int)) h=A4 (bV (((E6 D n).drop i).any λx=>decide (x.kind=1)&&C2U D n x.ino),g') :=
 C3b (C:=aQ dA) (L1:=λM y x h=>cF q M (pV r 0) (iV 1) (.c (.f 94 [(pp,0)])) (.c y) (iV ((E6 D n).length:Nat)) x h) hD (λM y x h=>A1q ..) λa K k hp=>by
  obtain ⟨w,hp⟩:=hp;have hcv:∀ a b h',aQ dA (.c (.f 94 [(pp,0)])) [a,b] h'=fJ [a,b,pV pp 0] h':=λ_ _ _=>Eq.trans rfl rfl
  rw [hcv];exact D89 hD k hp
def C9b(hD:okD D)(k:IsLook D n m f h r):uK [pV r 0] h=A4 (bV (C7z D n),h):=by
 have hlen:=(gB (D:=D) (n:=n)).1;have hE:∀ g pp w,IsLook D n m f g r->rd g pp=A4 ⟨[.p r 0],w⟩->dC [pV r 0,iV 1,.c (.f 94 [(pp,0)])] g=A4 (bV (C7z D n),g):=by
  intro g pp w k hp;obtain ⟨x,l1,ht⟩:=k.ro.tree;obtain ⟨g',f1⟩:=D6v (q:=(E6 D n).length+1) (pp:=pp) hD (E6 D n).length 0 ((E6 D n).length+1) _ x (by omega) (by omega) k.ro ⟨A6,uD hp rfl⟩ ht;have z0:((0:Nat):Int)=0:=rfl;rw [z0,E8y] at f1;have al:=ht.len;refine zX (n:=(E6 D n).length+1) (h2:=g') ?_ rfl;rw [A19];simp only [C7,A6W,R1,E8A,l1,al];exact f1
 have e1:=hE (ro h++[rT [.p r 0]]) (ro h).length A5 (k.ro.more _) (by rw [G3];rfl);have lp:B9 (ro h++[rT [.p r 0]]) (pV (ro h).length 0)=A4 (pV r 0):=by rw [J0];rfl
 have mk:A32 94 [pV (ro h).length 0]=A4 (.c (.f 94 [((ro h).length,0)])):=rfl;have cc:cells? (pV r 0)=A4 [.p r 0]:=rfl;refine A88 (n:=0) (h2:=ro h++[rT [.p r 0]]) ?_ rfl;rw [B2E];simp only [C7,cc,lp,mk,e1]
end
def E00(D:Dev)(n no:Int):Bool:=!(G7 (l_ D) n no) || !(A5N (blk D no))
section
variable {D:Dev} {n m:Int} {f:Cell} {h:A9} {r:Nat}
def E0V{id:Nat}(hD:okD D)(k:IsLook D n m f h r)(hr:rd h id=rT (encI L))(hL:l_ L<=1000):∀ (e i M:Nat),i+e=l_ L->e<M ->
  ∃ g',A7q q M (pV r 0) (sV id 0 (l_ L) 1) (iV (l_ L:Nat)) (iV (i:Int)) h=A4 (bV ((L.drop i).any (E00 D n)),g'):=by
 intro e
 induction e with
 | zero =>
  intro i M hi hM;obtain ⟨M,rfl⟩:=X0 M (by omega);have c0:¬ (i:Int)<(l_ L:Nat):=by omega
  rw [A2L,E8x (by omega)];exact ⟨_,by simp only [esc,c0]<;>rfl⟩
 | succ e ih =>
  intro i M hi hM;obtain ⟨M,rfl⟩:=X0 M (by omega);have K6:i<(l_ L):=by omega
  have c0:(i:Int)<(l_ L:Nat):=by omega
  have w1:=E2 (a:=i) (by omega);have ad:F0 1 (sV id 0 (l_ L) 1) (iV (i:Int))=A4 (pV id i):=by rw [E4 K6];simp
  obtain ⟨no,Y8⟩:=xEq (L[i]);have la:B9 h (pV id i)=A4 (iV no):=B8 hr (by rw [G6,E8h K6,Y8];rfl) rfl;have l3:=k.v3;have l4:=k.v4;have hI:=X8 (b:=l_ D) (n:=n) (m:=m) (i:=no) (h:=h);have hB:=K8 (n:=n) (m:=m) (no:=no) hD k.view;have hBq:quiet h (D9 [.a (vwC (l_ D) n m f),iV no] h)=A4 (.a (B4 (blk D no)),h):=by rw [hB];exact dR
  have hR:=C5k (b:=blk D no) (h:=h) (J6 hD);have hRq:quiet h (xV [.a (B4 (blk D no))] h)=A4 (bV (A5N (blk D no)),h):=by rw [hR];exact dR
  obtain ⟨g',f1⟩:=ih (i+1) M (by omega) (by omega);rw [A2L,E8s K6,<-Y8,List.any_cons];unfold E00 at f1 ⊢;generalize vwC (l_ D) n m f=V at *;generalize L5 (l_ D) n m=Ly at *;generalize B4 (blk D no)=X at *;cases hd:G7 (l_ D) n no with
  | false =>
   rw [hd] at hI;exact ⟨h,by simp only [esc,c0,ad,la,l3,hI,E9d]⟩
  | true =>
   rw [hd] at hI;cases hb:A5N (blk D no) with
   | false =>
    rw [hb] at hR hRq;exact ⟨h,by simp only [esc,c0,ad,la,l3,l4,hI,hB,hR,hBq,hRq,E9d,E9h]⟩
   | true =>
    rw [hb] at hR hRq;refine ⟨g',?_⟩;simp only [esc,c0,ad,la,l3,l4,hI,hB,hR,hBq,hRq,w1,E9h];exact f1
end
def D8N(D:Dev)(n i:Int):Bool:=decide ((drV D n i).getD 0 0≠0)&&(!(Z5 D n (kdV D n i) (drV D n i))||(!(A1j (getD (blk D ((drV D n i).getD 0 0))) (O5 (blk D ((drV D n i).getD 0 0)) 32)) ||
 (decide (0<(eR D n (kdV D n i) (drV D n i) (sJ D n (kdV D n i) (drV D n i))).length)||(J3 (O5 (blk D ((drV D n i).getD 0 0)) 32) (C6 (getD (blk D ((drV D n i).getD 0 0))))).any (E00 D n))))
def C7n(D:Dev)(n i:Int):Bool:=!(decide (((drV D n i).take 6).set 0 0=zI 6))||(decide ((drV D n i).getD 6 0≠0)||(decide (szV D n i≠0)||D8N D n i))
def D39(D:Dev)(n:Int):Bool:=(E6 D n).any λx=>decide (x.kind=2)&&C7n D n x.ino
section
variable {D:Dev} {n m:Int} {f:Cell} {h:A9} {r:Nat}
def D3i(hD:okD D)(k:IsLook D n m f h r):A0Y [pV r 0,.a (A9R D n i)] h=A4 (bV (D8N D n i),h):=by
 rw [nK];obtain ⟨I,hI⟩:=xEq (D1 (kdV D n i) (lnV D n i) (szV D n i) (paV D n i) (drV D n i));have hIl:l_ I=11:=by rw [hI];simp [D1,C1,O0]
 rw [<-hI];obtain ⟨g,hg⟩:=xEq (ro h);have kg:IsLook D n m f g r:=by rw [hg];exact k.ro
 suffices key:∃ g',A0T 1000 [pV r 0,.a I] g=A4 (bV (D8N D n i),g') by
  obtain ⟨g',e⟩:=key;rw [hg] at e;exact B2Q e rfl
 obtain ⟨G,hG⟩:=xEq (g++[rT I]);have kG:IsLook D n m f G r:=by rw [hG];exact kg.more _
 have rI:rd G (l_ g)=rT I:=by rw [hG,G3];rfl
 have hd7:=O0 (D:=D) (n:=n) (i:=i);have ad:K2 6 1 (pV (l_ g) 4) (iV 0)=A4 (pV (l_ g) 4):=rfl;have l4i:B9 G (pV (l_ g) 4)=A4 (iV ((drV D n i).getD 0 0)):=by
  refine B8 rI ?_ rfl;rw [hI];simp only [D1,E8F];rw [G6,E8k,E8h (by omega)];rfl
 have l4:=kG.v4;have l11:C9 G 11 (pV (l_ g) 0)=A4 (.a I):=C8 rI hIl;have cc:cells? (.a I)=A4 I:=rfl;rw [B6m];simp only [cc,C7];rw [<-hG];unfold D8N;by_cases c0:(drV D n i).getD 0 0=0
 ·rw [W3 (λh=>h c0),E8E];rw [c0] at l4i;exact ⟨G,by simp only [esc,ad,l4i]⟩
 ·rw [O4 c0,E8K];have hX:=A1Q (n:=n) (m:=m) (k:=kdV D n i) (l:=lnV D n i) (s:=szV D n i) (p:=paV D n i) (d:=drV D n i) (h:=G++[A7]) hD hd7 (kG.view.more _);rw [<-hI] at hX;have hXq:quiet (G++[A7]) (jW [.a (vwC (l_ D) n m f),.a I] (G++[A7]))=A4 (.t [.a (encI (uY D n (kdV D n i) (drV D n i))),.c (.b (Z5 D n (kdV D n i) (drV D n i)))],G++[A7]):=by rw [hX];exact dR
  obtain ⟨X,hXe⟩:=xEq (encI (uY D n (kdV D n i) (drV D n i)));have hXl:l_ X=33:=by rw [hXe];exact A7b ..
  rw [<-hXe] at hXq;obtain ⟨K,hK⟩:=xEq (G++[rT X]);have st:F7 (G++[rT (o0::E8l 32 o0)]) 33 (pV (l_ G) 0) (.a X)=A4 K:=by
   rw [storeAll (n:=33) (cs:=o0::E8l 32 o0) (by rw [G3];rfl) (by simp) hXl,fX,hK];rfl
  have kK:IsLook D n m f K r:=by rw [hK];exact kG.more _
  have rIK:rd K (l_ g)=rT I:=by rw [hK];exact B6 rI
  have rXK:rd K (l_ G)=rT X:=by rw [hK,G3];rfl
  have l33:C9 K 33 (pV (l_ G) 0)=A4 (.a X):=C8 rXK hXl;have l4K:=kK.v4;have l11K:C9 K 11 (pV (l_ g) 0)=A4 (.a I):=C8 rIK hIl;cases tI:Z5 D n (kdV D n i) (drV D n i) with
  | false =>
   rw [tI] at hXq;refine ⟨K,?_⟩;generalize vwC (l_ D) n m f=V at *;simp only [esc,ad,l4i,c0,l4,l11,hXq,st,E9d]
  | true =>
   rw [tI] at hXq;have hXX:X=encI (getD (blk D ((drV D n i).getD 0 0))::O5 (blk D ((drV D n i).getD 0 0)) 32):=by
    rw [hXe];unfold uY;rw [tI];rfl
   obtain ⟨dd,hdd⟩:=xEq (getD (blk D ((drV D n i).getD 0 0)));obtain ⟨tt,htt⟩:=xEq (O5 (blk D ((drV D n i).getD 0 0)) 32);have htl:tt.length=32:=by rw [htt];exact A2s (by omega)
   rw [<-hdd,<-htt] at hXX ⊢;have hR:=C7U (d:=dd) (t:=tt) (h:=K) htl;rw [<-hXX] at hR;have hRq:quiet K (A1O [.a X] K)=A4 (bV (A1j dd tt),K):=by rw [hR];exact dR
   obtain ⟨v,t,s1,s2,_⟩:=C7p (n:=n) (m:=m) (k:=kdV D n i) (l:=lnV D n i) (s:=szV D n i) (p:=paV D n i) (d:=drV D n i) (h:=K) hD hd7 kK.view;rw [<-hI] at s1;obtain ⟨N,hN⟩:=xEq ((eR D n (kdV D n i) (drV D n i) (sJ D n (kdV D n i) (drV D n i))).length);rw [<-hN] at s2 ⊢;have sl:=s2.len;obtain ⟨T,hT⟩:=xEq (K++t);rw [<-hT] at s1;have kT:IsLook D n m f T r:=by rw [hT];exact kK.more t
   have l33T:C9 T 33 (pV (l_ G) 0)=A4 (.a X):=C8 (by rw [hT];exact B6 rXK) hXl;have hBk:=iP (d:=dd) (t:=tt) (h:=T) htl;rw [<-hXX] at hBk;have hbl:=jL tt (C6 dd);have D9j:=T5 dd;obtain ⟨g',f1⟩:=E0V (q:=1000) (id:=l_ T) (L:=J3 tt (C6 dd)) hD (kT.more [rT (encI (J3 tt (C6 dd)))]) (by rw [G3];rfl) (by omega) (J3 tt (C6 dd)).length 0 1000 (by omega) (by omega);have z0:((0:Nat):Int)=0:=rfl;rw [z0,E8y] at f1;cases hr:A1j dd tt with
   | false =>
    rw [hr] at hRq;refine ⟨K,?_⟩;generalize vwC (l_ D) n m f=V at *;simp only [esc,ad,l4i,c0,l4,l11,hXq,st,l33,hRq,E9d,E9h]
   | true =>
    rw [hr] at hRq;by_cases cn:0<N
    ·have cn':(N:Int) > 0:=by omega
     rw [O4 cn];refine ⟨T,?_⟩;generalize vwC (l_ D) n m f=V at *;simp only [esc,ad,l4i,c0,l4,l11,hXq,st,l33,hRq,l4K,l11K,s1,sl,cn',E9d,E9h]
    ·have cn':¬ (N:Int) > 0:=by omega
     rw [W3 cn];refine ⟨g',?_⟩;generalize vwC (l_ D) n m f=V at *;simp only [esc,ad,l4i,c0,l4,l11,hXq,st,l33,hRq,l4K,l11K,s1,sl,cn',l33T,hBk,E9d,E9h];exact f1
def E1r{w:Bool}(hD:okD D)(k:IsLook D n m f h r)(hp:rd h pp=A4 ⟨[.p r 0],w⟩) :
  gX [iV i,.a (A9R D n i),pV pp 0] h=A4 (bV (C7n D n i),h):=by
 obtain ⟨g,hg⟩:=xEq (ro h);have kg:IsLook D n m f g r:=by rw [hg];exact k.ro
 have hpg:rd g pp=A4 ⟨[.p r 0],A6⟩:=by rw [hg];exact uD hp rfl
 suffices key:∃ g',sA 1000 [iV i,.a (A9R D n i),pV pp 0] g=A4 (bV (C7n D n i),g') by
  obtain ⟨g',e⟩:=key;rw [hg] at e;exact A8d e rfl
 have E5m:=λh (kk:IsLook D n m f h r)=>D3i (i:=i) hD kk
 rw [nK] at E5m ⊢;obtain ⟨I,hI⟩:=xEq (D1 (kdV D n i) (lnV D n i) (szV D n i) (paV D n i) (drV D n i));obtain ⟨J,hJ⟩:=xEq (D1 (kdV D n i) (lnV D n i) (szV D n i) (paV D n i) ((drV D n i).set 0 0));have hIl:l_ I=11:=by rw [hI];simp [D1,C1,O0]
 have hJI:I.set 4 o0=J:=by rw [hI,hJ];exact C7Y (i:=0)
 rw [<-hI] at E5m ⊢;obtain ⟨G,hG⟩:=xEq (g++[rT I]);have rI:rd G (l_ g)=rT I:=by rw [hG,G3];rfl
 have l11:C9 G 11 (pV (l_ g) 0)=A4 (.a I):=C8 rI hIl;obtain ⟨K,hK⟩:=xEq (G++[rT I]);have st:F7 (G++[rT [o0,o0,o0,o0,o0,o0,o0,o0,o0,o0,o0]]) 11 (pV (l_ G) 0) (.a I)=A4 K:=by
  rw [storeAll (n:=11) (cs:=[o0,o0,o0,o0,o0,o0,o0,o0,o0,o0,o0]) (by rw [G3];rfl) rfl hIl,fX,hK];rfl
 obtain ⟨Q,hQ⟩:=xEq (G++[rT J]);have s1:I8 K (pV (l_ G) 4) (iV 0)=A4 Q:=by
  rw [I9 (cs:=I) (by rw [hK,G3];rfl) (by omega),hJI,hK,hQ,fX];rfl
 have ad:K2 6 1 (pV (l_ G) 4) (iV 0)=A4 (pV (l_ G) 4):=rfl;have hd7:=O0 (D:=D) (n:=n) (i:=i);have l6:C9 Q 6 (pV (l_ G) 4)=A4 (.a (encI (((drV D n i).take 6).set 0 0))):=by
  rw [S7 (cs:=J) (by rw [hQ,G3];rfl) (by rw [hJ];simp [D1,C1,O0]) rfl,hJ];show A4 (Val.a ((encI ((drV D n i).set 0 0)).take 6))=_;unfold encI;rw [<-List.map_take,<-List.take_set]
 have rIQ:rd Q (l_ g)=rT I:=by rw [hQ];exact B6 rI
 have l10:B9 Q (pV (l_ g) 10)=A4 (iV ((drV D n i).getD 6 0)):=by
  refine B8 rIQ ?_ rfl;rw [hI];simp only [D1,E8F];rw [G6,E8k,E8h (by omega)];rfl
 have l2:B9 Q (pV (l_ g) 2)=A4 (iV (szV D n i)):=B8 rIQ (by rw [hI];rfl) rfl;have l11Q:C9 Q 11 (pV (l_ g) 0)=A4 (.a I):=C8 rIQ hIl;have kQ:IsLook D n m f Q r:=by rw [hQ,hG];exact (kg.more _).more _
 have lpQ:B9 Q (pV pp 0)=A4 (pV r 0):=B8 (by rw [hQ,hG];exact B6 (B6 hpg)) rfl rfl;have hB:=E5m Q kQ;have z6:F6 [o0,o0,o0,o0,o0,o0] []=A4 (encI (zI 6)):=rfl;have eq:aeq A5 [Sh.i .i64,.i .i64,.i .i64,.i .i64,.i .i64,.i .i64] (.a (encI (((drV D n i).take 6).set 0 0))) (.a (encI (zI 6)))=A4 (bV (!(decide (((drV D n i).take 6).set 0 0=zI 6)))):=by
  have:=D55 (l:=((drV D n i).take 6).set 0 0) (m:=zI 6) (n:=6) (by simp [hd7]) (by simp [zI]);exact this
 refine ⟨Q,?_⟩;have cc:cells? (.a I)=A4 I:=rfl;rw [B0U];simp only [cc,C7];rw [<-hG];unfold C7n;generalize encI (((drV D n i).take 6).set 0 0)=Y at *;generalize encI (zI 6)=Z at *;cases ca:decide (((drV D n i).take 6).set 0 0=zI 6) with
 | false =>
  rw [ca] at eq;simp only [esc,l11,st,ad,s1,l6,z6,eq,E9d]
 | true =>
  rw [ca] at eq;by_cases c6:(drV D n i).getD 6 0=0
  ·by_cases c2:szV D n i=0
   ·rw [W3 (λh=>h c6),W3 (λh=>h c2)];rw [c6] at l10;rw [c2] at l2;simp only [esc,l11,st,ad,s1,l6,z6,eq,l10,l2,lpQ,l11Q,hB,E9d,E9h]
   ·rw [W3 (λh=>h c6),O4 c2];rw [c6] at l10;simp only [esc,l11,st,ad,s1,l6,z6,eq,l10,l2,c2,E9d,E9h]
  ·rw [O4 c6];simp only [esc,l11,st,ad,s1,l6,z6,eq,l10,c6,E9d,E9h]
def D6u(hD:okD D):∀ (e i M:Nat) (h:A9) (x:Cell),i+e=(E6 D n).length->e<M->IsLook D n m f h r->(∃ w,rd h pp=A4 ⟨[.p r 0],w⟩)->IsTree h (.c x) (E6 D n) ->
  ∃ g',dS q M (pV r 0) (iV 2) (.c (.f 92 [(pp,0)])) (.c x) (iV ((E6 D n).length:Nat)) (iV (i:Int)) h=A4 (bV (((E6 D n).drop i).any λx=>decide (x.kind=2)&&C7n D n x.ino),g') :=
 C3b (C:=aQ eH) (L1:=λM y x h=>dS q M (pV r 0) (iV 2) (.c (.f 92 [(pp,0)])) (.c y) (iV ((E6 D n).length:Nat)) x h) hD (λM y x h=>A2M ..) λa K k hp=>by
  obtain ⟨w,hp⟩:=hp;have hcv:∀ a b h',aQ eH (.c (.f 92 [(pp,0)])) [a,b] h'=gX [a,b,pV pp 0] h':=λ_ _ _=>Eq.trans rfl rfl
  rw [hcv];exact E1r hD k hp
def D0a(hD:okD D)(k:IsLook D n m f h r):yM [pV r 0] h=A4 (bV (D39 D n),h):=by
 have hlen:=(gB (D:=D) (n:=n)).1;have hE:∀ g pp w,IsLook D n m f g r->rd g pp=A4 ⟨[.p r 0],w⟩->eJ [pV r 0,iV 2,.c (.f 92 [(pp,0)])] g=A4 (bV (D39 D n),g):=by
  intro g pp w k hp;obtain ⟨x,l1,ht⟩:=k.ro.tree;obtain ⟨g',f1⟩:=D6u (q:=(E6 D n).length+1) (pp:=pp) hD (E6 D n).length 0 ((E6 D n).length+1) _ x (by omega) (by omega) k.ro ⟨A6,uD hp rfl⟩ ht;have z0:((0:Nat):Int)=0:=rfl;rw [z0,E8y] at f1;have al:=ht.len;refine A0Z (n:=(E6 D n).length+1) (h2:=g') ?_ rfl;rw [A2T];simp only [C7,A6W,R1,E8A,l1,al];exact f1
 have e1:=hE (ro h++[rT [.p r 0]]) (ro h).length A5 (k.ro.more _) (by rw [G3];rfl);have lp:B9 (ro h++[rT [.p r 0]]) (pV (ro h).length 0)=A4 (pV r 0):=by rw [J0];rfl
 have mk:A32 92 [pV (ro h).length 0]=A4 (.c (.f 92 [((ro h).length,0)])):=rfl;have cc:cells? (pV r 0)=A4 [.p r 0]:=rfl;refine B1d (n:=0) (h2:=ro h++[rT [.p r 0]]) ?_ rfl;rw [B3J];simp only [C7,cc,lp,mk,e1]
end
def E0M{o:zW}{l:List Int}(ha:E41 h o l):∃ v t,o=A4 (v,h++t)/\quiet h (A4 (v,h++t))=A4 (v,h++t)/\(t=[]/\v=.c .ns/\l=[]\/t=[rT (encI l)]/\v=sV (l_ h) 0 (l_ l) 1):=by
 obtain ⟨v,t,e,hh,ht⟩:=ha;refine ⟨v,t,e,?_,ht⟩;rcases ht with ⟨rfl,_,_⟩ | ⟨rfl,_⟩
 ·rw [E8C];exact U9 Grows.rfl'
 ·exact U9 (Grows.rfl'.new _)
def E3s{j:Int}(h:atF D n k d j≠0):G7 (l_ D) n (atF D n k d j)=A5:=by
 unfold atF at h ⊢;split at h
 ·rename_i c;rw [C4 c];unfold vS at h ⊢;cases e:G7 (l_ D) n (D25 D n d j.toNat) with
  | true=>rw [S8];exact e
  | false=>rw [e,bZ] at h;exact absurd rfl h
 ·exact absurd rfl h
def D9U:∀ x∈pO D n k d,G7 (l_ D) n x=A5:=by
 intro x hx;unfold pO at hx;have he:∀ e j,x∈(bT (atF D n k d) e j).map (·.2)->G7 (l_ D) n x=A5:=λe j h=>by
  obtain ⟨q,hq,rfl⟩:=E8N.1 h;have:=A9D e j q hq;rw [this.2.2.1];exact E3s (by rw [<-this.2.2.1];exact this.2.2.2)
 split at hx
 ·rcases E8U.1 hx with hx | hx
  ·split at hx
   ·rename_i c;rw [E82.1 hx];unfold Z5 at c;rw [E8j,E8j] at c;exact c.1.2
   ·simp at hx
  ·unfold T1 at hx;cases c:Z5 D n k d with
   | true=>rw [c,S8] at hx;exact (E8Z.1 hx).2
   | false=>rw [c,bZ] at hx;simp at hx
 ·rcases E8U.1 hx with hx | hx
  ·rcases E8U.1 hx with hx | hx
   ·exact he _ _ hx
   ·split at hx
    ·rename_i c;rw [E82.1 hx];exact c.2
    ·simp at hx
  ·exact he _ _ hx
def D65:(pO D n k d).length<=1000:=by
 unfold pO;split
 ·have hbl:(T1 D n k d).length<=32:=A60;rw [E8o];split
  ·simp;omega
  ·simp;omega
 ·have h1:=B1r (atF D n k d) 6 0;have h2:=B1r (atF D n k d) 128 6;simp only [E8o,List.length_map];split
  ·simp;omega
  ·simp;omega
def B8m(l:List Int)(no:Int):List Int:=l.set no.toNat (l.getD no.toNat 0+1)
def D48(D:Dev)(n:Int)(l:List Int)(x:Nd):List Int:=(pO D n (kdV D n x.ino) (drV D n x.ino)).foldl B8m l
def B1I(D:Dev)(n:Int):List Int:=(E6 D n).foldl (D48 D n) (zI (l_ D))
structure OwI(g H0:A9)(oid:Nat)(D:Dev)(l:List Int)(B:Nat)(h:A9):Prop where
 low:Low (l_ g) g h
 keep:∀ id r,id≠oid->rd H0 id=A4 r->rd h id=A4 r
 out:rd h oid=rT (encI l)
 len:l_ l=(l_ D)
 bnd:∀ x∈l,0<=x/\x<=(B:Int)
section
variable {D:Dev} {n m:Int} {f:Cell} {g H0 h:A9} {r oid:Nat} {l:List Int} {B:Nat}
def OwI.more(P:OwI g H0 oid D l B h)(t:A9):OwI g H0 oid D l B (h++t) :=
 ⟨P.low.new t,λid r hn hr=>B6 (P.keep id r hn hr),B6 P.out,P.len,P.bnd⟩
def OwI.wide{B':Nat}(P:OwI g H0 oid D l B h)(hB:B<=B'):OwI g H0 oid D l B' h :=
 ⟨P.low,P.keep,P.out,P.len,λx hx=>⟨(P.bnd x hx).1,by have:=(P.bnd x hx).2;omega⟩⟩
def OwI.put(P:OwI g H0 oid D l B h)(hg:l_ g<=oid)(hB:B<1000000000)(h0:0<=no)(h1:no<l_ D) :
  ∃ a,F0 1 (sV oid 0 (l_ D) 1) (iV no)=A4 a/\B9 h a=A4 (iV (l.getD no.toNat 0))/\E8r .i64 (l.getD no.toNat 0+1)=l.getD no.toNat 0+1 /\
   I8 h a (iV (l.getD no.toNat 0+1))=A4 (h.set oid (rT (encI (B8m l no))))/\OwI g H0 oid D (B8m l no) (B+1) (h.set oid (rT (encI (B8m l no)))):=by
 obtain ⟨k,rfl⟩:=Int.eq_ofNat_of_zero_le h0;have hk:k<(l_ D):=by omega
 have hkl:k<(l_ l):=by rw [P.len];exact hk
 have W4:=E1 P.out;have hb:0<=l.getD k 0/\l.getD k 0<=(B:Int):=by
  rw [E8k,E8h hkl];exact P.bnd _ (E8M hkl)
 refine ⟨pV oid k,by rw [E4 hk];simp,?_,?_,?_,?_⟩
 ·refine B8 P.out ?_ rfl;rw [G6,E8D,E8k,E8h hkl];rfl
 ·rw [E8D];exact wrap_i64 (by omega) (by omega)
 ·rw [I9 P.out (by rw [C1];exact hkl)];unfold B8m;rw [E8D];show A4 (h.set oid (rT ((encI l).set k _)))=_;unfold encI;rw [List.map_set]
 ·refine ⟨P.low.set hg _,λid r hn hr=>?_,D3 W4,by unfold B8m;rw [E80];exact P.len,λx hx=>?_⟩
  ·rw [B7 (λe=>hn e.symm)];exact P.keep id r hn hr
  ·unfold B8m at hx;rw [E8D] at hx;rcases List.mem_or_eq_of_mem_set hx with h | rfl
   ·have:=P.bnd x h;omega
   ·omega
def D9T{x1 x17 x18 x19:Val}{sid M0:Nat}{C:Nat}(hg:l_ g<=oid)(hL:∀ x∈L,G7 (l_ D) n x=A5)(hs:sid≠oid)(E7Z:l_ L<=1000) :
  ∀ (e i M:Nat) (l:List Int) (B:Nat) (h:A9),i+e=l_ L->e<M->B+e<=C->C<1000000000->OwI g H0 oid D l B h->(L=[]\/(v=sV sid 0 (l_ L) 1/\rd h sid=rT (encI L))) ->
  ∃ h',B2A q M0 M x1 (sV oid 0 (l_ D) 1) x17 x18 x19 v (iV (l_ L:Nat)) (iV (i:Int)) h=bnd (N4 .add x19 (iV 1)) (λv33=>A25 q M0 x1 (sV oid 0 (l_ D) 1) x17 x18 v33 h')/\OwI g H0 oid D ((L.drop i).foldl B8m l) C h':=by
 intro e
 induction e with
 | zero =>
  intro i M l B h hi hM hB hC P hv;obtain ⟨M,rfl⟩:=X0 M (by omega);have c0:¬ (i:Int)<(l_ L:Nat):=by omega
  rw [A5X,E8x (by omega)];exact ⟨h,by simp only [C7,G4,c0,decide_false,Y6],P.wide (by omega)⟩
 | succ e ih =>
  intro i M l B h hi hM hB hC P hv;obtain ⟨M,rfl⟩:=X0 M (by omega);have K6:i<(l_ L):=by omega
  rcases hv with hv | ⟨rfl,hr⟩
  ·rw [hv] at K6;simp at K6
  ·have c0:(i:Int)<(l_ L:Nat):=by omega
   have w1:=E2 (a:=i) (by omega);have ad:F0 1 (sV sid 0 (l_ L) 1) (iV (i:Int))=A4 (pV sid i):=by rw [E4 K6];simp
   have la:B9 h (pV sid i)=A4 (iV L[i]):=B8 hr (by rw [G6,E8h K6];rfl) rfl;obtain ⟨_,h0,h1⟩:=vX.1 (hL _ (E8M K6));have h0:0<=L[i]:=by have:=(oX (b:=l_ D) (n:=n)).1;omega
   obtain ⟨a,a1,a2,a3,a4,a5⟩:=P.put hg (by omega) h0 h1;obtain ⟨h',f1,f2⟩:=ih (i+1) M _ (B+1) _ (by omega) (by omega) (by omega) hC a5 (.inr ⟨rfl,by rw [B7 (λe=>hs e.symm)];exact hr⟩);refine ⟨h',?_,by rw [E8s K6,E9q];exact f2⟩;rw [A5X];simp only [C7,G4,c0,decide_true,X6,ad,la,a1,a2,L8,a3,a4,w1];exact f1
def D9S{pv:Nat}{x:Val}(hD:okD D)(hq:1000<q)(hg:l_ g<=oid)(hv:IsView g f D)(hpv:pv≠oid)(hr0:rd H0 pv=rT (vwC (l_ D) n m f))(ho:oid<H0.length)(hT:E45 (oid+1) H0 x (E6 D n)) :
  ∀ (e i M:Nat) (l:List Int) (h:A9),i+e=(E6 D n).length->e<M->OwI g H0 oid D l (i*1000) h ->
  ∃ h',A25 q M (pV pv 0) (sV oid 0 (l_ D) 1) x (iV ((E6 D n).length:Nat)) (iV (i:Int)) h=A4 (sV oid 0 (l_ D) 1,h')/\OwI g H0 oid D (((E6 D n).drop i).foldl (D48 D n) l) ((E6 D n).length*1000) h':=by
 have hlen:=C3r (D:=D) (n:=n);intro e
 induction e with
 | zero =>
  intro i M l h hi hM P;obtain ⟨M,rfl⟩:=X0 M (by omega);have c0:¬ (i:Int)<((E6 D n).length:Nat):=by omega
  rw [A5W,E8x (by omega)];exact ⟨h,by simp only [C7,G4,c0,decide_false,Y6],P.wide (by omega)⟩
 | succ e ih =>
  intro i M l h hi hM P;obtain ⟨M,rfl⟩:=X0 M (by omega);have K6:i<(E6 D n).length:=by omega
  have c0:(i:Int)<((E6 D n).length:Nat):=by omega
  have w1:=E2 (a:=i) (by omega);have ht:IsTree h x (E6 D n):=hT h λid r hid hr=>P.keep id r (by omega) hr
  obtain ⟨id,cs,a1,a2,hN⟩:=ht.at K6;have st:F7 (h++[rT [o0,o0,o0,o0,o0,.ns,.ns]]) 7 (pV (l_ h) 0) (.a cs)=A4 (h++[rT cs]):=B5v hN.length;obtain ⟨K,hK⟩:=xEq (h++[rT cs]);have rK:rd K (l_ h)=rT cs:=by rw [hK,G3];rfl
  rw [<-hK] at st;have PK:OwI g H0 oid D l (i*1000) K:=by rw [hK];exact P.more _
  obtain ⟨nd,hnd⟩:=xEq ((E6 D n)[i]);rw [<-hnd] at hN;have hvK:IsView K f D:=hv.since PK.low;have l4:C9 K 4 (pV pv 0)=A4 (.a (vwC (l_ D) n m f)):=C8 (PK.keep pv _ hpv hr0) rfl;have hI:=T8 (n:=n) (m:=m) (i:=nd.ino) hD hvK;have hIq:quiet K (F9 [.a (vwC (l_ D) n m f),iV nd.ino] K)=A4 (.a (A9R D n nd.ino),K):=by rw [hI];exact dR
  rw [nK] at hIq;obtain ⟨v,t,o1,o2,o3⟩:=E0M (D2j (n:=n) (m:=m) (k:=kdV D n nd.ino) (l:=lnV D n nd.ino) (s:=szV D n nd.ino) (p:=paV D n nd.ino) (d:=drV D n nd.ino) hD O0 hvK);rw [<-o1] at o2;rw [o1] at o2;have oq:quiet K (Y0 [.a (vwC (l_ D) n m f),.a (D1 (kdV D n nd.ino) (lnV D n nd.ino) (szV D n nd.ino) (paV D n nd.ino) (drV D n nd.ino))] K)=A4 (v,K++t):=by rw [o1];exact o2
  obtain ⟨x1,y1,ecs,_,_⟩:=hN;have g0:B9 K (pV (l_ h) 0)=A4 (iV nd.ino):=B8 rK (by rw [ecs];rfl) rfl;have E4Q:=D65 (D:=D) (n:=n) (k:=kdV D n nd.ino) (d:=drV D n nd.ino);have B6D:=D9U (D:=D) (n:=n) (k:=kdV D n nd.ino) (d:=drV D n nd.ino);obtain ⟨L,hL⟩:=xEq (pO D n (kdV D n nd.ino) (drV D n nd.ino));rw [<-hL] at E4Q B6D o3;have al:B6y v=A4 (iV (l_ L:Nat)):=by
   rcases o3 with ⟨_,rfl,rfl⟩ | ⟨_,rfl⟩<;>rfl
  have hoK:oid<(l_ K):=E1 PK.out;obtain ⟨h',f1,f2⟩:=D9T (q:=q) (v:=v) (x1:=pV pv 0) (x17:=x) (x18:=iV ((E6 D n).length:Nat)) (x19:=iV (i:Int)) (L:=L) (sid:=l_ K) (M0:=M) (C:=(i+1)*1000) (D:=D) (n:=n) hg B6D (by omega) E4Q (l_ L) 0 q l (i*1000) (K++t) (by omega) (by omega) (by omega) (by omega) (PK.more t) (by
   rcases o3 with ⟨_,_,h⟩ | ⟨rfl,rfl⟩
   ·exact .inl h
   ·exact .inr ⟨rfl,by rw [G3];rfl⟩)
  obtain ⟨h2,f3,f4⟩:=ih (i+1) M _ h' (by omega) (by omega) f2;refine ⟨h2,?_,by rw [E8s K6,E9q,<-hnd];unfold D48 at f4 ⊢;rw [<-hL];exact f4⟩;have z0:((0:Nat):Int)=0:=rfl;rw [z0] at f1;rw [A5W];generalize vwC (l_ D) n m f=V at *;generalize D1 (kdV D n nd.ino) (lnV D n nd.ino) (szV D n nd.ino) (paV D n nd.ino) (drV D n nd.ino)=I at *;simp only [C7,G4,c0,decide_true,X6,a1,a2,st,l4,R1,E8A,g0,E8C,hIq,oq,al,f1,L8,w1];exact f3
def B2z(hD:okD D)(hm:P6 (l_ D) n=A5)(hv:IsView h f D):yL [.a (vwC (l_ D) n m f)] h=A4 (sV (l_ h) 0 (l_ D) 1,h++[rT (encI (B1I D n))]):=by
 obtain ⟨g,hg⟩:=xEq (ro h);have hvg:IsView g f D:=by rw [hg];exact hv.ro
 obtain ⟨b16,b512,_⟩:=H8.1 hm;have hlen:=C3r (D:=D) (n:=n);have hCk:=λh=>aX (b:=l_ D) (n:=n) (m:=m) (h:=h)
 rw [hm,S8] at hCk;obtain ⟨V,hV⟩:=xEq (vwC (l_ D) n m f);obtain ⟨G,hG⟩:=xEq (g++[rT V,rT []]);have rV:rd G (l_ g)=rT V:=by rw [hG,G3];rfl
 have lG:l_ G=l_ g+2:=by rw [hG];simp
 have l3:C9 G 3 (pV (l_ g) 0)=A4 (.a (L5 (l_ D) n m)):=by
  rw [S7 rV (by rw [hV];simp [vwC]) (by simp),hV];rfl
 have l1:B9 G (pV (l_ g) 0)=A4 (iV (l_ D:Nat)):=B8 rV (by rw [hV];rfl) rfl;have mk:=D6a (N:=l_ D) (by omega);have rz:rows [o0] (l_ D)=encI (zI (l_ D)):=by simp [rows,encI,zI,List.map_replicate,List.flatten_replicate_singleton]
 obtain ⟨K,hK⟩:=xEq (G++[rT (encI (zI (l_ D)))]);have rVK:rd K (l_ g)=rT V:=by rw [hK];exact B6 rV
 have l4:C9 K 4 (pV (l_ g) 0)=A4 (.a V):=C8 rVK (by rw [hV];rfl);have hvK:IsView K f D:=by rw [hK,hG];exact (hvg.more _).more _
 obtain ⟨x,H0,t1,t2,t3,_,t5⟩:=C84 (n:=n) (m:=m) hD hvK;rw [<-hV] at t1;have al:=t2.len;have lK:l_ K=l_ g+3:=by rw [hK];simp [lG]
 have rVH:rd H0 (l_ g)=rT V:=by rw [t3.2.2 _ (by omega)];exact rVK
 have rOH:rd H0 (l_ G)=rT (encI (zI (l_ D))):=by rw [t3.2.2 _ (by omega),hK,G3];rfl
 have lowH:Low (l_ g) g H0:=by
  refine Low.trans (h':=K) ?_ ⟨by omega,t3.2.1,λid hid=>t3.2.2 id (by omega)⟩;rw [hK,hG];exact ((Low.refl (E8m _)).new _).new _
 have P0:OwI g H0 (l_ G) D (zI (l_ D)) (0*1000) H0:=⟨lowH,λid r _ hr=>hr,rOH,by simp [zI],λy hy=>by
  have:y=0:=List.eq_of_mem_replicate hy;omega⟩
 rw [lK] at t5;obtain ⟨h',f1,f2⟩:=D9S (q:=2000) (pv:=l_ g) (x:=x) (n:=n) (m:=m) hD (by omega) (by omega) hvg (by omega) (by rw [<-hV];exact rVH) (by have:=E1 rOH;omega) (by rw [lG];exact t5) (E6 D n).length 0 2000 (zI (l_ D)) H0 (by omega) (by omega) P0;have z0:((0:Nat):Int)=0:=rfl;rw [z0,E8y] at *;refine B8j (n:=2000) (h2:=h') ?_ ⟨by rw [C1,Nat.mul_one];exact f2.len,l_ G,rfl,?_,f2.out⟩ B8D
 ·rw [B9u,<-hV,<-hg];have cc:cells? (.a V)=A4 V:=rfl;have ap:(g++[rT V])++[rT []]=G:=by rw [hG];simp
  simp only [cc,C7];rw [ap];simp only [C7,R1,E8A,l3,hCk,A9g,ne_eq,not_true_eq_false,decide_false,Y6,l1,mk,rz];rw [<-hK];simp only [C7,l4,t1,al];exact f1
 ·rw [lG,hg,G8];omega
end
def C86(D:Dev)(n:Int):Bool:=(B1I D n).any λx=>decide (1<x)
def C87(D:Dev)(n:Int)(i e:Nat):List Nat:=(E8Q i e).filter λk=>decide (0<(B1I D n).getD k 0)
def E33(D:Dev)(n:Int):List Nat:=E8T (aR (l_ D) n).toNat++C87 D n 0 (l_ D)
def C0O(D:Dev)(n:Int):Bool:=!(decide (cQ (E33 D n)=blk D 1))
section
variable {D:Dev} {n m:Int} {f:Cell} {h:A9} {r:Nat}
def D3x{l:List Int}:(B8m l no).length=(l_ l):=by unfold B8m;rw [E80]
def D0Z:∀ {L l:List Int},(L.foldl B8m l).length=(l_ l)
 | [],_=>rfl
 | x::L,l=>by rw [E9q,D0Z,D3x]
def D1l:∀ {t:List Nd} {l:List Int},(t.foldl (D48 D n) l).length=(l_ l)
 | [],_=>rfl
 | x::t,l=>by rw [E9q,D1l];unfold D48;rw [D0Z]
def D45:(B1I D n).length=(l_ D):=by unfold B1I;rw [D1l];simp [zI]
def D7E{id:Nat}(hr:rd h id=rT (encI L))(hL:l_ L<=1000):∀ (e i M:Nat),i+e=l_ L->e<M ->
  A3y q M (sV id 0 (l_ L) 1) (iV (l_ L:Nat)) (iV (i:Int)) h=A4 (bV ((L.drop i).any λx=>decide (1<x)),h):=by
 intro e
 induction e with
 | zero =>
  intro i M hi hM;obtain ⟨M,rfl⟩:=X0 M (by omega);have c0:¬ (i:Int)<(l_ L:Nat):=by omega
  rw [zV,E8x (by omega)];simp only [esc,c0]<;>rfl
 | succ e ih =>
  intro i M hi hM;obtain ⟨M,rfl⟩:=X0 M (by omega);have K6:i<(l_ L):=by omega
  have c0:(i:Int)<(l_ L:Nat):=by omega
  have w1:=E2 (a:=i) (by omega);have ad:F0 1 (sV id 0 (l_ L) 1) (iV (i:Int))=A4 (pV id i):=by rw [E4 K6];simp
  obtain ⟨no,Y8⟩:=xEq (L[i]);have la:B9 h (pV id i)=A4 (iV no):=B8 hr (by rw [G6,E8h K6,Y8];rfl) rfl;have f1:=ih (i+1) M (by omega) (by omega);rw [zV,E8s K6,<-Y8,List.any_cons];by_cases c:1<no
  ·have c':no > 1:=c;rw [O4 c];simp only [esc,c0,ad,la,c',E9d]
  ·have c':¬ no > 1:=c;rw [W3 c,E9h];simp only [esc,c0,ad,la,c',w1];exact f1
def C9g(hD:okD D)(hm:P6 (l_ D) n=A5)(k:IsLook D n m f h r):uO [pV r 0] h=A4 (bV (C86 D n),h):=by
 obtain ⟨b16,b512,_⟩:=H8.1 hm;have l4:=k.ro.v4;have hO:=B2z (m:=m) hD hm k.ro.view;have hl:=D45 (D:=D) (n:=n);have f1:=D7E (q:=1000) (id:=(ro h).length) (h:=ro h++[rT (encI (B1I D n))]) (L:=B1I D n) (by rw [G3];rfl) (by omega) (B1I D n).length 0 1000 (by omega) (by omega);have z0:((0:Nat):Int)=0:=rfl;rw [z0,E8y,hl] at f1;refine A9c (n:=1000) (h2:=ro h++[rT (encI (B1I D n))]) ?_ rfl;rw [B2I];unfold C86;generalize vwC (l_ D) n m f=V at *;simp only [esc,l4,hO];exact f1
def D4L{cid:Nat}(hD:okD D)(b512:l_ D<=512)(hc:cid<(g++[A7]).length)(hcg:cid=l_ g) :
  ∀ (e i M id:Nat) (S:List Nat) (h:A9),i+e=l_ D->e<M->IsLook D n m f h r->(∀ x∈S,x<2048)->l_ S<=600+i->rd h id=rT (encI (S.map λx:Nat=>(x:Int)))->id≠cid->r<id->rd h cid=rT (encI (B1I D n))->r<cid ->
  (∀ h',(∀ j x,j≠id->rd h j=A4 x->rd h' j=A4 x)->IsLook D n m f h' r) ->
  ∃ h',A2N q M (pV r 0) (sV id 0 (l_ S) 1) (sV cid 0 (l_ D) 1) (iV (l_ D:Nat)) (iV (i:Int)) h=A4 (bV (!(decide (cQ (S++C87 D n i (l_ D-i))=blk D 1))),h'):=by
 have hl:=D45 (D:=D) (n:=n);intro e
 induction e with
 | zero =>
  intro i M id S h hi hM k hS hlen hr hid E6I hcr hrc nJ;obtain ⟨M,rfl⟩:=X0 M (by omega);have c0:¬ (i:Int)<(l_ D:Nat):=by omega
  have eU:C87 D n i (l_ D-i)=[]:=by
   rw [show (l_ D)-i=0 by omega];rfl
  have hC:=A8k (v:=sV id 0 (l_ S) 1) (nv:=l_ S) (l:=S) (h:=h) hS (by omega) (Has.row hr (by simp [C1]) (A5K _));have hCq:quiet h (qK [sV id 0 (l_ S) 1] h)=A4 (.a (B4 (cQ S)),h):=by rw [hC];exact dR
  have l4:=k.v4;have hB:=K8 (n:=n) (m:=m) (no:=1) hD k.view;have hM1:∀ h,quiet h (oD [] h)=A4 (iV 1,h):=λh=>by rw [pC];exact dR
  have q1:=D0r (l:=cQ S) (m:=blk D 1) (n:=256) (by unfold cQ;rw [fU,zeros_length]) (J6 hD);rw [wJ,eU,E8C];refine ⟨h,?_⟩;generalize vwC (l_ D) n m f=V at *;generalize B4 (cQ S)=X at *;generalize B4 (blk D 1)=Y at *;generalize E8l 256 (Sh.i .u8)=Z at *;simp only [esc,c0,hCq,l4,hM1,hB,q1]
 | succ e ih =>
  intro i M id S h hi hM k hS hlen hr hid E6I hcr hrc nJ;obtain ⟨M,rfl⟩:=X0 M (by omega);have K6:i<(B1I D n).length:=by omega
  have E7q:i<(l_ D):=by omega
  have c0:(i:Int)<(l_ D:Nat):=by omega
  have w1:=E2 (a:=i) (by omega);have ad:F0 1 (sV cid 0 (l_ D) 1) (iV (i:Int))=A4 (pV cid i):=by rw [E4 E7q];simp
  obtain ⟨no,Y8⟩:=xEq ((B1I D n).getD i 0);have la:B9 h (pV cid i)=A4 (iV no):=B8 hcr (by rw [G6,Y8,E8k,E8h K6];rfl) rfl;have eU:C87 D n i (l_ D-i)=(if 0<no then [i] else [])++C87 D n (i+1) (l_ D-(i+1)):=by
   unfold C87;rw [show (l_ D)-i=(l_ D-(i+1))+1 by omega,List.range'_succ];by_cases c:0<no
   ·rw [C4 c,E9l (by rw [<-Y8];simpa using c)];rfl
   ·rw [C5 c,E9k (by rw [<-Y8];simpa using c)];rfl
  rw [wJ,eU];by_cases c:0<no
  ·have c':no > 0:=c;rw [C4 c,<-E8t];have hlS:(encI (S.map λx:Nat=>(x:Int))).length=l_ S*1:=by simp [C1]
   obtain ⟨h2,p1,p2,p3,p4⟩:=B5j (h:=h) (n:=l_ S) (sz:=1) (ys:=[cI (i:Int)]) hr hlS rfl (by omega) (by omega);have E7r:=E1 hr;have e2:encI (S.map λx:Nat=>(x:Int))++[cI (i:Int)]=encI ((S++[i]).map λx:Nat=>(x:Int)):=by simp [encI]
   rw [e2] at p2;have pE:=E1 hcr;obtain ⟨h',f1⟩:=ih (i+1) M (l_ h+1) (S++[i]) h2 (by omega) (by omega) (nJ h2 p3) (λx hx=>by
    rcases E8U.1 hx with hx | hx
    ·exact hS x hx
    ·rw [E82.1 hx];omega) (by rw [E8o];simp;omega) p2 (by omega) (by omega) (p3 cid _ (λe=>hid e.symm) hcr) hrc (λh3 hk=>nJ h3 λj x hj hx=>by
     by_cases hje:j=l_ h+1
     ·have:=E1 hx;omega
     ·exact hk j x hje (p3 j x hj hx))
   have el:(S++[i]).length=l_ S+1:=by simp
   rw [el] at f1;have ef:F6 [o0] [(0,1,iV (i:Int))]=A4 [cI (i:Int)]:=rfl;refine ⟨h',?_⟩;simp only [C7,G4,c0,decide_true,X6,ad,la,C6H,c',ef,p1,wH,L8,w1];exact f1
  ·have c':¬ no > 0:=c;rw [C5 c,E8I];obtain ⟨h',f1⟩:=ih (i+1) M id S h (by omega) (by omega) k hS (by omega) hr hid E6I hcr hrc nJ;refine ⟨h',?_⟩;simp only [C7,G4,c0,decide_true,X6,ad,la,C6H,c',decide_false,Y6,wH,L8,w1];exact f1
def IsLook.stay{b:Nat}(k:IsLook D n m f g r)(hb:b=l_ g)(hk:∀ j x,j<b->rd g j=A4 x->rd h' j=A4 x)(mI:l_ g<=l_ h'):IsLook D n m f h' r:=by
 subst hb;have low:∀ j x,rd g j=A4 x->rd h' j=A4 x:=λj x hx=>hk j x (E1 hx) hx
 obtain ⟨x,w,h1,⟨cs,h2,h3⟩⟩:=k.row;obtain ⟨a,q,rw1,rw2,e1,e2,e3⟩:=k.view;refine ⟨⟨a,q,rw1,rw2,e1,low _ _ e2,low _ _ e3⟩,x,w,low _ _ h1,cs,?_,?_⟩
 ·rcases h2 with hv | ⟨id,off,r,e,hr,h2⟩
  ·exact .inl hv
  ·exact .inr ⟨id,off,r,e,low _ _ hr,h2⟩
 ·clear h1 h2 k e1
  have:∀ (t:List Nd) (cs:List Cell),IsNds g cs t->IsNds h' cs t:=by
   intro t
   induction t with
   | nil=>intro cs h;exact h
   | cons y t ih =>
    rintro cs ⟨c1,c2,e,⟨u,v,ev,hu,hv⟩,h2⟩;have st:∀ {x:Cell} {sz n:Nat} {cs:List Cell},Has g (.c x) sz n cs->Has h' (.c x) sz n cs:=λhv=>by
     rcases hv with hv | ⟨id,off,r,e,hr,h2⟩
     ·exact .inl hv
     ·exact .inr ⟨id,off,r,e,low _ _ hr,h2⟩
    exact ⟨c1,c2,e,⟨u,v,ev,st hu,st hv⟩,ih _ h2⟩
  exact this _ _ h3
def C5B(hD:okD D)(hm:P6 (l_ D) n=A5)(k:IsLook D n m f h r):sF [pV r 0] h=A4 (bV (C0O D n),h):=by
 obtain ⟨b16,b512,_⟩:=H8.1 hm;obtain ⟨g,hg⟩:=xEq (ro h);have kg:IsLook D n m f g r:=by rw [hg];exact k.ro
 have hrl:r<(l_ g):=by
  obtain ⟨x,w,h1,_⟩:=kg.row;exact E1 h1
 have hdr:=oX (b:=l_ D) (n:=n);obtain ⟨d,hd⟩:=xEq ((aR (l_ D) n).toNat);have l3:=kg.v3;have hO:=B4K (b:=l_ D) (n:=n) (m:=m) (h:=g);rw [<-hd] at hO;obtain ⟨G,hG⟩:=xEq (g++[rT (encI (upto d))]);rw [<-hG] at hO;have lG:l_ G=l_ g+1:=by rw [hG];simp
 have kG:IsLook D n m f G r:=by rw [hG];exact kg.more _
 have l4:=kG.v4;have hW:=B2z (m:=m) hD hm kG.view;obtain ⟨K,hK⟩:=xEq (G++[rT (encI (B1I D n))]);rw [<-hK] at hW;have kK:IsLook D n m f K r:=by rw [hK];exact kG.more _
 have rO:rd K (l_ g)=rT (encI (upto d)):=by rw [hK];exact B6 (by rw [hG,G3];rfl)
 have rC:rd K (l_ G)=rT (encI (B1I D n)):=by rw [hK,G3];rfl
 obtain ⟨h',f1⟩:=D4L (g:=G) (q:=1000) (cid:=l_ G) (n:=n) (m:=m) (f:=f) (r:=r) hD (by omega) (by simp) rfl (l_ D) 0 1000 (l_ g) (E8T d) K (by omega) (by omega) kK (λx hx=>by rw [List.mem_range] at hx;omega) (by rw [List.length_range];omega) rO (by omega) hrl rC (by omega)
  (λh3 hk=>kg.stay rfl (λj x hj hx=>hk j x (by omega) (by rw [hK,hG];exact B6 (B6 hx))) (by have:=E1 (hk (l_ G) _ (by omega) rC);omega))
 rw [List.length_range] at f1;have z0:((0:Nat):Int)=0:=rfl;rw [z0,Nat.sub_zero] at f1;refine A8e (n:=1000) (h2:=h') ?_ rfl;rw [B0V,<-hg];unfold C0O E33;rw [<-hd];generalize vwC (l_ D) n m f=V at *;generalize L5 (l_ D) n m=Y at *;simp only [C7,A6W,R1,Nat.add_zero,l3,hO,l4,hW,B6y];exact f1
end
def A36(D:Dev)(n:Int):List Bool:=[B5y D n,D1s D n,D4J D n,D2D D n,C8h D n,D39 D n,C7z D n,C86 D n,C0O D n]
def C9J(l:List Nat):List Int:=l.map λ(k:Nat)=>(k:Int)+2
def D1f(r:Nat):List Cell:=[.fb 40 r 0,.fb 41 r 0,.fb 42 r 0,.fb 43 r 0,.fb 44 r 0,.fb 45 r 0,.fb 46 r 0,.fb 47 r 0,.fb 48 r 0]
section
variable {D:Dev} {n m:Int} {f:Cell} {h:A9} {r:Nat}
def D9H(hD:okD D)(hm:P6 (l_ D) n=A5):∀ (i:Nat) (c:Cell) (b:Bool),(D1f r)[i]?=A4 c->(A36 D n)[i]?=A4 b->∀ h,IsLook D n m f h r->aQ rY (.c c) [] h=A4 (bV b,h)
 | 0,c,b,hc,hb,h,k=>by cases hc;cases hb;exact Eq.trans (Eq.trans rfl rfl) (C3u hD k)
 | 1,c,b,hc,hb,h,k=>by cases hc;cases hb;exact Eq.trans (Eq.trans rfl rfl) (D0d hD k)
 | 2,c,b,hc,hb,h,k=>by cases hc;cases hb;exact Eq.trans (Eq.trans rfl rfl) (D0b hD k)
 | 3,c,b,hc,hb,h,k=>by cases hc;cases hb;exact Eq.trans (Eq.trans rfl rfl) (C9c k)
 | 4,c,b,hc,hb,h,k=>by cases hc;cases hb;exact Eq.trans (Eq.trans rfl rfl) (C9e hD k)
 | 5,c,b,hc,hb,h,k=>by cases hc;cases hb;exact Eq.trans (Eq.trans rfl rfl) (D0a hD k)
 | 6,c,b,hc,hb,h,k=>by cases hc;cases hb;exact Eq.trans (Eq.trans rfl rfl) (C9b hD k)
 | 7,c,b,hc,hb,h,k=>by cases hc;cases hb;exact Eq.trans (Eq.trans rfl rfl) (C9g hD hm k)
 | 8,c,b,hc,hb,h,k=>by cases hc;cases hb;exact Eq.trans (Eq.trans rfl rfl) (C5B hD hm k)
 | i+9,c,b,hc,_,_,_=>by cases hc
def D4g{cid:Nat}{C:List Cell}{F:List Bool}(hC:l_ C=9)(hF:F.length=9)(hnx:noX C=A5)
  (D4t:∀ (i:Nat) (c:Cell) (b:Bool),C[i]?=A4 c->F[i]?=A4 b->∀ h,IsLook D n m f h r->aQ rY (.c c) [] h=A4 (bV b,h)) :
  ∀ (e i M id:Nat) (S:List Nat) (h:A9),i+e=9->e<M->IsLook D n m f h r->l_ S<=i->rd h id=rT (encI (C9J S))->id≠cid->rd h cid=rT C ->
  (∀ h',(∀ j x,j≠id->rd h j=A4 x->rd h' j=A4 x)->IsLook D n m f h' r) ->
  ∃ h' cP,A2K q M (sV id 0 (l_ S) 1) (sV cid 0 9 1) (iV 9) (iV (i:Int)) h=A4 (sV cP 0 (S++tM i (F.drop i)).length 1,h')/\rd h' cP=rT (encI (C9J (S++tM i (F.drop i))))/\(cP=id\/(l_ h)<=cP):=by
 intro e
 induction e with
 | zero =>
  intro i M id S h hi hM k hlen hr hid hcr nJ;obtain ⟨M,rfl⟩:=X0 M (by omega);have e9:i=9:=by omega
  subst e9;rw [E8x (by omega)];have e0:tM 9 []=[]:=rfl;rw [e0,E8C,wG];have c0:¬ ((9:Nat):Int)<9:=by omega
  exact ⟨h,id,by simp only [C7,G4,c0,decide_false,Y6],hr,.inl rfl⟩
 | succ e ih =>
  intro i M id S h hi hM k hlen hr hid hcr nJ;obtain ⟨M,rfl⟩:=X0 M (by omega);have K6:i<(l_ C):=by omega
  have hiF:i<F.length:=by omega
  have c0:(i:Int)<9:=by omega
  have w1:=E2 (a:=i) (by omega);have w2:E8r .i64 ((i:Int)+2)=(i:Int)+2:=wrap_i64 (by omega) (by omega);have ad:F0 1 (sV cid 0 9 1) (iV (i:Int))=A4 (pV cid i):=by rw [E4 (show i<9 by omega)];simp
  have la:B9 h (pV cid i)=A4 (.c C[i]):=B8 hcr (E8h K6) rfl;have hc:=D4t i C[i] F[i] (E8h K6) (E8h hiF) h k;rw [E8s hiF,wG];cases hb:F[i] with
  | false =>
   rw [hb] at hc;have e1:tM i (A6::F.drop (i+1))=tM (i+1) (F.drop (i+1)):=rfl;rw [e1];obtain ⟨h',cP,f1,f2,f3⟩:=ih (i+1) M id S h (by omega) (by omega) k (by omega) hr hid hcr nJ;refine ⟨h',cP,?_,f2,f3⟩;simp only [C7,G4,c0,decide_true,X6,ad,la,hc,Y6,wE,L8,w1];exact f1
  | true =>
   rw [hb] at hc;have e1:tM i (A5::F.drop (i+1))=i::tM (i+1) (F.drop (i+1)):=rfl;rw [e1];have ea:S++i::tM (i+1) (F.drop (i+1))=(S++[i])++tM (i+1) (F.drop (i+1)):=by simp
   rw [ea];have hlS:(encI (C9J S)).length=l_ S*1:=by simp [C1,C9J]
   obtain ⟨h2,p1,p2,p3,p4⟩:=B5j (h:=h) (n:=l_ S) (sz:=1) (ys:=[cI ((i:Int)+2)]) hr hlS rfl (by omega) (by omega);have e2:encI (C9J S)++[cI ((i:Int)+2)]=encI (C9J (S++[i])):=by simp [encI,C9J]
   rw [e2] at p2;have pE:=E1 hcr;have E7r:=E1 hr;have hl2:=E1 p2;obtain ⟨h',cP,f1,f2,f3⟩:=ih (i+1) M (l_ h+1) (S++[i]) h2 (by omega) (by omega) (nJ h2 p3) (by rw [E8o];simp;omega) p2 (by omega) (p3 cid _ (λe=>hid e.symm) hcr) (λh3 hk=>nJ h3 λj x hj hx=>by
     by_cases hje:j=l_ h+1
     ·have:=E1 hx;omega
     ·exact hk j x hje (p3 j x hj hx))
   have el:(S++[i]).length=l_ S+1:=by simp
   rw [el] at f1;have ef:F6 [o0] [(0,1,iV ((i:Int)+2))]=A4 [cI ((i:Int)+2)]:=rfl;refine ⟨h',cP,?_,f2,.inr (by omega)⟩;simp only [C7,G4,c0,decide_true,X6,ad,la,hc,L8,w2,ef,p1,wE,w1];exact f1
def C5A(hD:okD D)(hv:Has h v 256 (l_ D) (E3 D))(hn:A9z D=A5)(hm:P6 (l_ D) (uW D)=A5) :
  sE [v] h=A4 (sV (l_ h) 0 (tM 0 (A36 D (uW D))).length 1,h++[rT (encI (C9J (tM 0 (A36 D (uW D)))))]):=by
 obtain ⟨b16,b512,_⟩:=H8.1 hm;obtain ⟨g,hg⟩:=xEq (ro h);have hvg:Has g v 256 (l_ D) (E3 D):=by rw [hg];exact hv.ro
 obtain ⟨G,hG⟩:=xEq (g++[rT []]);obtain ⟨f,t,o1,o2⟩:=B8Y (v:=v) (h:=G) (by rw [hG];exact hvg.more _) hD hn (by omega);obtain ⟨V,hV⟩:=xEq (vwC (l_ D) (uW D) (C7j D) f);rw [<-hV] at o1;have hVl:l_ V=4:=by rw [hV];rfl
 obtain ⟨G1,hG1⟩:=xEq (G++t);rw [<-hG1] at o1 o2;obtain ⟨K,hK⟩:=xEq (G1++[rT V]);have st:F7 (G1++[rT [o0,o0,.i .u64 0,.nf]]) 4 (pV G1.length 0) (.a V)=A4 K:=by
  rw [storeAll (n:=4) (cs:=[o0,o0,.i .u64 0,.nf]) (by rw [G3];rfl) rfl hVl,fX,hK];rfl
 have l4:C9 K 4 (pV G1.length 0)=A4 (.a V):=C8 (by rw [hK,G3];rfl) hVl;obtain ⟨r,H,p1,p2,p3⟩:=D0c (n:=uW D) (m:=C7j D) (h:=K) hD (by rw [hK];exact o2.more _);rw [<-hV] at p1;have hgl:l_ g<=(l_ H):=by
  have h1:=p2.len;rw [hK,hG1,hG] at h1;simp at h1;omega
 obtain ⟨Q,hQ⟩:=xEq (H++[rT [],rT (D1f r)]);have k:IsLook D (uW D) (C7j D) f Q r:=by rw [hQ];exact p3.more _
 have hrl:r<(l_ H):=by
  obtain ⟨x,w,h1,_⟩:=p3.row;exact E1 h1
 have nx:noX (D1f r)=A5:=rfl;obtain ⟨h',cP,f1,f2,f3⟩:=D4g (q:=100) (cid:=l_ H+1) (C:=D1f r) (F:=A36 D (uW D)) rfl rfl nx (D9H (m:=C7j D) (f:=f) hD hm) 9 0 100 (l_ H) [] Q (by omega) (by omega) k (by simp) (by rw [hQ,G3];rfl) (by omega) (by rw [hQ,gP];rfl)
  (λh3 hk=>p3.stay rfl (λj x hj hx=>hk j x (by omega) (by rw [hQ];exact B6 hx)) (by have:=E1 (hk (l_ H+1) _ (by omega) (by rw [hQ,gP];rfl));omega))
 rw [E8y,E8I] at f1 f2;have z0:((0:Nat):Int)=0:=rfl;rw [z0,E8X] at f1;refine A87 (n:=100) (h2:=h') ?_ ⟨by simp [C1,C9J],cP,rfl,?_,f2⟩ B8D
 ·rw [B0T,<-hg];have b1:∀ k:Nat,E3l k (pV r 0)=A4 (.c (.fb k r 0)):=λ_=>rfl
  have ef:F6 (E8l 9 Cell.nf) [(0,1,.c (.fb 40 r 0)),(1,1,.c (.fb 41 r 0)),(2,1,.c (.fb 42 r 0)),(3,1,.c (.fb 43 r 0)),(4,1,.c (.fb 44 r 0)),(5,1,.c (.fb 45 r 0)),(6,1,.c (.fb 46 r 0)),(7,1,.c (.fb 47 r 0)),(8,1,.c (.fb 48 r 0))]=A4 (D1f r):=rfl;have ln:(H++[rT []]).length=l_ H+1:=by simp
  have ap:(H++[rT []])++[rT (D1f r)]=Q:=by rw [hQ];simp
  have al:B6y (sV (l_ H+1) 0 9 1)=A4 (iV 9):=rfl;rw [<-hG];simp only [C7,o1,uS,E84,E8F,E85,dP,dQ,st,A9g,ne_eq,not_true_eq_false,decide_false,Y6,l4,p1,b1,ef,ln,al];rw [ap];exact f1
 ·have e1:(ro h).length=(l_ h):=G8;have e2:l_ Q=l_ H+2:=by rw [hQ];simp
  rw [<-e1,<-hg];rcases f3 with rfl | h1<;>omega
def C9a(hD:okD D)(hv:Has h v 256 (l_ D) (E3 D))(hn:A9z D=A5)(hm:P6 (l_ D) (uW D)=A5) :
  A8c [v] h=A4 (bV (decide (tM 0 (A36 D (uW D))=[])),h):=by
 have hF:=C5A (h:=ro h) hD hv.ro hn hm;refine B8k (n:=0) (h2:=(ro h)++[rT (encI (C9J (tM 0 (A36 D (uW D)))))]) ?_ rfl;rw [C15];generalize tM 0 (A36 D (uW D))=S at *;cases S with
 | nil=>simp only [C7,hF,B6y,E8X,dG]<;>rfl
 | cons x S =>
  have:¬ ((x::S).length:Int)=0:=by rw [E8w];omega
  simp only [C7,hF,B6y,dG,this]<;>rfl
end
def D5Y{N:Int->List Ent}{S:Int->Prop}(hS:∀ a,S a->∀ e∈N a,S e.2)(h1:S 1):∀ (e i:Nat) (R:List Int),(∀ x∈R,S x)->∀ x∈B0f N e i R,S x
 | 0,_,_,h=>h
 | e+1,i,R,h=>by
  unfold B0f;by_cases hl:i<(1::R).length
  ·rw [dif_pos hl];refine D5Y hS h1 e (i+1) _ λx hx=>?_
   rcases B5o.1 hx with h2 | ⟨f,hf,rfl⟩
   ·exact h x h2
   ·refine hS _ ?_ f hf;have:=E8M hl;rcases E8J.1 this with h3 | h3
    ·rw [h3];exact h1
    ·exact h _ h3
  ·rw [dif_neg hl];exact h
section
variable {D:Dev} {n:Int} {F:Cl}
def Wb.tk(W:Wb D n F):F.row.take F.row.length=F.row:=List.take_length ..
def Wb.nms(W:Wb D n F)(ha:a∈F.row):A4e D n a=nmV D n a:=by
 unfold A4e;show (nmV D n a).filter _=_;refine List.filter_eq_self.2 λe he=>?_
 have h:=(W.I.one a (by rw [W.tk];exact ha) e he).2.1;unfold C9S;rcases D2A (D:=D) (n:=n) (i:=e.2) with h0 | h0 | h0
 ·exact absurd h0 h
 ·rw [h0];rfl
 ·rw [h0];rfl
def Wb.row(W:Wb D n F):a∈C3j D n↔a∈F.row:=by
 constructor
 ·have h1:(1:Int)∈F.row:=E8H W.I.hd;refine D5Y (S:=λa=>a∈F.row) (λb hb e he=>?_) h1 130 0 [1] (λx hx=>by rw [E82.1 hx];exact h1) a;rw [W.nms hb] at he;exact (W.I.one b (by rw [W.tk];exact hb) e he).2.2
 ·exact W.I.sub a
def Wb.node(W:Wb D n F){x:Nd}:x∈E6 D n↔x.ino∈F.row/\x=tK D n x.ino:=by
 rw [B6d,W.row];exact ⟨λh=>h.2,λh=>⟨W.root,h⟩⟩
def Wb.find(W:Wb D n F)(ha:a∈F.row):iO (E6 D n) a=A4 (tK D n a):=D6D W.root (W.row.2 ha)
def Wb.kind(W:Wb D n F)(ha:a∈F.row):(C22 D n a/\kdV D n a=1)\/(¬ C22 D n a/\kdV D n a=2):=by
 by_cases hf:C22 D n a
 ·exact .inl ⟨hf,hf.2⟩
 ·exact .inr ⟨hf,((W.I.sta a (by rw [W.tk];exact ha)).dir hf).1⟩
def Wb.perm(W:Wb D n F):List.Perm ((E6 D n).map (·.ino)) F.row:=by
 have nd:((E6 D n).map (·.ino)).Nodup:=by
  rw [List.Nodup,List.pairwise_map];exact treeV_up.imp λ{a b} h=>by omega
 refine (List.perm_ext_iff_of_nodup nd W.I.w.nd).2 λa=>?_
 rw [E8N];constructor
 ·rintro ⟨x,hx,rfl⟩;exact (W.node.1 hx).1
 ·intro ha;exact ⟨tK D n a,W.node.2 ⟨ha,rfl⟩,rfl⟩
def E2r{l m:List Nat}(h:l.Perm m):l.sum=m.sum:=by
 induction h with
 | nil=>rfl
 | cons x _ ih=>rw [List.sum_cons,List.sum_cons,ih]
 | swap x y l=>rw [List.sum_cons,List.sum_cons,List.sum_cons,List.sum_cons];omega
 | trans _ _ h1 h2=>exact h1.trans h2
def Wb.count(W:Wb D n F)(a:Int):(oW (E6 D n) a:Int)=(F.lnk a).getD 0:=by
 rw [W.I.lnk a,W.tk];have e1:oW (E6 D n) a=(((E6 D n).map (·.ino)).map λb=>B4y (nmV D n b) a).sum:=by
  unfold oW;rw [List.map_map]
  congr 1
  refine List.map_congr_left λx hx=>?_
  obtain ⟨h1,h2⟩:=W.node.1 hx;show (x.names.filter _).length=B4y (nmV D n x.ino) a;rw [<-W.nms h1];rw [h2];rfl
 rw [e1,E2r (W.perm.map _)]
def Wh.clean_no(W:Wh D n F):B5y D n=A6:=by
 obtain ⟨b16,b512,n8,n128,nm8,nb⟩:=H8.1 W.may;unfold B5y;rw [Bool.not_eq_false',E8O];intro k hk;rw [List.mem_range] at hk;have hT:nN (l_ D) n=n/8:=by unfold nN;rw [W.may];rfl
 have hF:bO (l_ D) n=2:=by unfold bO;rw [W.may];rfl
 rw [hT] at hk;rw [hF];have key:∀ (e j:Nat),j+e=8->A5u (blk D (2+(k:Nat))) e j=A5:=by
  intro e
  induction e with
  | zero=>intro j _;rfl
  | succ e ih =>
   intro j hj;show (cD (jD (blk D (2+(k:Nat))) j)&&A5u (blk D (2+(k:Nat))) e (j+1))=A5;rw [ih (j+1) (by omega),Bool.and_true];have hi:Q2 (l_ D) n (8*(k:Int)+j+1)=A5:=M8.2 ⟨W.may,by omega,by omega⟩;have h:=W.clean _ hi;unfold uZ aY kI at h;rw [hi,S8,S8] at h;have e1:2+(8*(k:Int)+j+1-1)/8=2+(k:Nat):=by omega
   have e2:((8*(k:Int)+j+1-1)%8).toNat=j:=by omega
   rw [e1,e2] at h;exact h
 exact key 8 0 rfl
def Wh.root_no(W:Wh D n F):D1s D n=A6:=by
 have h1:(1:Int)∈F.row:=E8H W.I.hd;obtain ⟨l1,l2,_⟩:=W.dirl 1 h1 λh=>h.1 rfl
 unfold D1s;rw [Bool.not_eq_false',decide_eq_true_iff];exact ⟨W.root,l1,by rw [l2,W.I.par1];rfl⟩
def C71{kd:Int->Int}:∀ {e k:Nat} {i:Int},i∈vW kd e k->kd i≠0
 | 0,_,_,h=>by simp [vW] at h
 | e+1,k,i,h=>by
  unfold vW at h;split at h
  ·exact C71 h
  ·rcases E8J.1 h with rfl | h
   ·assumption
   ·exact C71 h
def Wh.lost_no(W:Wh D n F):D4J D n=A6:=by
 unfold D4J;rw [Bool.not_eq_false',E8O];intro i hi;have hk:=C71 hi;have hin:=D6R hk;have hr:i∈F.row:=by
  by_cases h:i∈F.row
  ·exact h
  ·exact absurd (W.out i (M8.2 ⟨hin.1,hin.2.1,hin.2.2⟩) h) hk
 rw [W.find hr];rfl
def Wh.links_no(W:Wh D n F):D2D D n=A6:=by
 unfold D2D;rw [List.any_eq_false];intro x hx;obtain ⟨ha,hxe⟩:=W.node.1 hx;have hc:=W.count x.ino;have hk:x.kind=kdV D n x.ino:=by rw [hxe];rfl
 have hl:x.links=lnV D n x.ino:=by rw [hxe];rfl
 have hp:x.parent=paV D n x.ino:=by rw [hxe];rfl
 have key:vZ (E6 D n) x=A6:=by
  unfold vZ;rw [hk,hl,hp];by_cases h1:x.ino=1
  ·rw [C4 h1];have:oW (E6 D n) x.ino=0:=by
    rw [h1];have h0:=W.count 1;rw [W.I.lnk 1,W.tk] at h0;have:(F.row.map λb=>B4y (nmV D n b) 1).sum=0:=by
     have h2:∀ k∈F.row.map λb=>B4y (nmV D n b) 1,k=0:=by
      intro k hk;obtain ⟨b,hb,rfl⟩:=E8N.1 hk;exact B5X λe he=>(W.I.one b (by rw [W.tk];exact hb) e he).1
     generalize F.row.map (λb=>B4y (nmV D n b) 1)=L at h2
     clear h0
     induction L with
     | nil=>rfl
     | cons k L ih=>rw [List.sum_cons,h2 k (E8u ..),ih λy hy=>h2 y (E8q _ hy)]
    omega
   rw [this];rfl
  ·rw [C5 h1];rcases W.kind ha with ⟨hf,k1⟩ | ⟨hf,k2⟩
   ·obtain ⟨l1,l2⟩:=W.lnk _ ha hf;rw [k1,l1,l2,hc];simp
   ·obtain ⟨l1,l2,_⟩:=W.dirl _ ha hf;have hd:=W.I.dir _ ha h1 k2;rw [hd] at hc;obtain ⟨p,hpm,hp2,e,he,hee⟩:=W.I.par _ ha h1;rw [W.tk] at hpm;have ht:B8X (E6 D n) (paV D n x.ino) x.ino=A5:=by
     unfold B8X;rw [l2,hp2];show (((iO (E6 D n) p).getD _).names.any _)=A5;rw [W.find hpm];show (A4e D n p).any _=A5;rw [W.nms hpm];exact List.any_eq_true.2 ⟨e,he,by simpa using hee⟩
    rw [k2,l1,hc,ht];rfl
 rw [key];decide
def Wh.names_no(W:Wh D n F):C8h D n=A6:=by
 unfold C8h;rw [List.any_eq_false];intro x hx;obtain ⟨ha,_⟩:=W.node.1 hx;have key:C28 D n x.ino=A6:=by
  unfold C28;rw [List.any_eq_false];intro e he;have he:e∈nmV D n x.ino:=he;rw [W.find (W.I.one _ (by rw [W.tk];exact ha) e he).2.2];exact Bool.false_ne_true
 rw [key,Bool.and_false];decide
def E2A(hk:∀ s∈J2 b,U3 b s.2.1=A4 s)(hc:clB b (λ_=>A5)=b):A5N b=A5:=by
 unfold A5N;rw [decide_eq_true_iff];refine Eq.trans ?_ hc;have key:∀ (e k:Nat) (cur:List UInt8),(∀ s∈Q5 b e k,U3 b s.2.1=A4 s)->fixF b e k cur=A0z (λ_=>A5) cur (Q5 b e k):=by
  intro e
  induction e with
  | zero=>intro k cur _;rfl
  | succ e ih =>
   intro k cur h;show fixF b e (k+1) (C2W b k cur)=_;cases hr:O3 b k with
   | none =>
    rw [Z9 hr] at h ⊢;have:C2W b k cur=cur:=by unfold C2W;rw [hr]
    rw [this];exact ih (k+1) cur h
   | some x =>
    rw [aA hr] at h ⊢;have hx:=h (k,x) (E8u ..);have hx:U3 b x.1=A4 (k,x):=hx;have:C2W b k cur=H7 cur (I1 k) (U0 x.1 x.2):=by
     unfold C2W;rw [hr];show (bif B1D b k x then _ else _)=_;have:B1D b k x=A5:=by unfold B1D;rw [hx];simp
     rw [this];rfl
    rw [this,ih (k+1) _ λs hs=>h s (E8q _ hs)];rfl
 exact key 7 0 hdB hk
def Wh.dirs_no(W:Wh D n F):D39 D n=A6:=by
 unfold D39;rw [List.any_eq_false];intro x hx;obtain ⟨ha,hxe⟩:=W.node.1 hx;have hk:x.kind=kdV D n x.ino:=by rw [hxe];rfl
 rw [hk];rcases W.kind ha with ⟨hf,k1⟩ | ⟨hf,k2⟩
 ·rw [k1];simp
 ·obtain ⟨_,hdr,A9O⟩:=(W.I.sta _ (by rw [W.tk];exact ha)).dir hf;obtain ⟨_,_,hsz⟩:=W.dirl _ ha hf;have key:C7n D n x.ino=A6:=by
   have e0:(drV D n x.ino).getD 0 0=noV D n x.ino:=rfl;have e1:((drV D n x.ino).take 6).set 0 0=zI 6:=by rw [hdr];rfl
   have e6:(drV D n x.ino).getD 6 0=0:=by rw [hdr];rfl
   unfold C7n;rw [e1,e6,hsz];have hb:D8N D n x.ino=A6:=by
    unfold D8N;rw [e0];by_cases h0:noV D n x.ino=0
    ·rw [h0];rfl
    ·obtain ⟨S,B6D⟩:=A9O h0;obtain ⟨ok,hX,hB,_,_⟩:=D38 k2 S.good B6D;have hs:=(D7w ok hX hB).2 S.at_;have hr:=D5p S.d0 S.d5 S.fair;have hr:A1j (getD (blk D (noV D n x.ino))) (O5 (blk D (noV D n x.ino)) 32)=A5:=hr;rw [ok,hr,hs];have hbk:(J3 (O5 (blk D (noV D n x.ino)) 32) (C6 (getD (blk D (noV D n x.ino))))).any (E00 D n)=A6:=by
      rw [List.any_eq_false];intro b hb;have hb:b∈bkV D n x.ino:=hb;have hz:=A2i hb;have hR:A5N (blk D b)=A5:=E2A (λs hs=>by
       obtain ⟨a1,a2⟩:=B5O.1 (S.at_ b hb s hs);rw [zL a1 hz] at a2;exact a2) (S.clr b hb)
      unfold E00;rw [B6D b (E8q _ hb),hR];decide
     rw [hbk];simp
   rw [hb];simp
  rw [key];simp
def Wh.files_no(W:Wh D n F):C7z D n=A6:=by
 unfold C7z;rw [List.any_eq_false];intro x hx;obtain ⟨ha,hxe⟩:=W.node.1 hx;have hk:x.kind=kdV D n x.ino:=by rw [hxe];rfl
 rw [hk];rcases W.kind ha with ⟨hf,k1⟩ | ⟨hf,k2⟩
 ·obtain ⟨S,B6D⟩:=(W.I.sta _ (by rw [W.tk];exact ha)).fil hf;have wr:∀ (k no:Int),(no≠0->G7 (l_ D) n no=A5/\k<T9 (szV D n x.ino))->sM D n k no (T9 (szV D n x.ino))=A6:=by
   intro k no h;unfold sM;by_cases h0:no=0
   ·rw [h0];rfl
   ·obtain ⟨h1,h2⟩:=h h0;rw [h1,W3 (show ¬ T9 (szV D n x.ino)<=k by omega)];simp
  have ei:(drV D n x.ino).getD 6 0=Y1 D n x.ino:=rfl;have key:C2U D n x.ino=A6:=by
   unfold C2U D8B;have h1:((E8Q 0 6).any λk=>sM D n (k:Int) ((drV D n x.ino).getD k 0) (T9 (szV D n x.ino)))=A6:=by
    rw [List.any_eq_false];intro k hk;rw [E9s] at hk;rw [wr _ _ λh0=>⟨B6D _ (E8W _ (E8W _ (C0X.2 ⟨h0,k,by omega,by omega,rfl⟩))),S.num k (by omega) h0⟩];decide
   have h2:sM D n 6 ((drV D n x.ino).getD 6 0) (T9 (szV D n x.ino))=A6:=by
    rw [ei];exact wr _ _ λh0=>⟨B6D _ (E8W _ (E8V _ (by rw [A5L h0];exact E8u ..))),S.ind h0⟩
   rw [h1,h2,ei];by_cases z:Y1 D n x.ino=0
   ·rw [z];rfl
   ·have h3:((E8Q 0 128).any λk=>sM D n (6+(k:Int)) (ptP (blk D (Y1 D n x.ino)) k) (T9 (szV D n x.ino)))=A6:=by
     rw [List.any_eq_false];intro k hk;rw [E9s] at hk;have ep:A4f D n x.ino k=ptP (blk D (Y1 D n x.ino)) k:=by unfold A4f;rw [C5 z]
     rw [<-ep,wr _ _ λh0=>⟨B6D _ (E8V _ (C0X.2 ⟨h0,k,by omega,by omega,rfl⟩)),by have:=S.pts k (by omega) h0;omega⟩];decide
    rw [h3];simp
  rw [key];simp
 ·rw [k2];simp
def E0F{l:List Int}(h0:0<=no)(h1:no<l_ l):(B8m l no).getD j 0=l.getD j 0+(if no=(j:Int) then 1 else 0):=by
 unfold B8m;rw [E8k,E9n];by_cases e:no.toNat=j
 ·subst e;rw [C4 rfl,C4 (by omega),C4 (by omega)];rfl
 ·rw [C5 e,C5 (by omega),<-E8k];omega
def D0Y:∀ {L l:List Int},(∀ x∈L,0<=x/\x<l_ l)->(L.foldl B8m l).getD j 0=l.getD j 0+((L.filter λx=>decide (x=(j:Int))).length:Int)
 | [],l,_=>by simp
 | x::L,l,h=>by
  have hx:=h x (E8u ..);rw [E9q,D0Y (by rw [D3x];exact λy hy=>h y (E8q _ hy)),E0F hx.1 hx.2];by_cases e:x=(j:Int)
  ·rw [C4 e,E9l (by simpa using e),E8w];omega
  ·rw [C5 e,E9k (by simpa using e)];omega
def D9R:B1I D n=((E6 D n).flatMap λx=>owV D n x.ino).foldl B8m (zI (l_ D)):=by
 unfold B1I;generalize zI (l_ D)=l
 induction E6 D n generalizing l with
 | nil=>rfl
 | cons x t ih=>rw [E9q,List.flatMap_cons,List.foldl_append,ih];rfl
def Wb.owns(W:Wb D n F):List.Perm ((E6 D n).flatMap λx=>owV D n x.ino) (F.row.flatMap (owV D n)):=by
 have e:((E6 D n).flatMap λx=>owV D n x.ino)=((E6 D n).map (·.ino)).flatMap (owV D n):=by rw [List.flatMap_map]
 rw [e];exact W.perm.flatMap_right _
def Wb.owned(W:Wb D n F)(j:Nat):(B1I D n).getD j 0=if ∃ a∈F.row,(j:Int)∈owV D n a then 1 else 0:=by
 have hdt:∀ x∈(E6 D n).flatMap λx=>owV D n x.ino,0<=x/\x<(zI (l_ D)).length:=by
  intro x hx;obtain ⟨y,hy,hx⟩:=List.mem_flatMap.1 hx;have:=A9V (W.I.dt y.ino (by rw [W.tk];exact (W.node.1 hy).1) x hx);simp [zI];omega
 have nd:((E6 D n).flatMap λx=>owV D n x.ino).Nodup:=by
  have:=W.I.nd;rw [W.tk] at this;exact W.owns.nodup_iff.2 this
 rw [D9R,D0Y hdt];have z:(zI (l_ D)).getD j (0:Int)=0:=by
  unfold zI;rw [E8k,List.getElem?_replicate];split<;>rfl
 rw [z];have mK:(j:Int)∈((E6 D n).flatMap λx=>owV D n x.ino)↔∃ a∈F.row,(j:Int)∈owV D n a:=by
  rw [W.owns.mem_iff,List.mem_flatMap]
 generalize ((E6 D n).flatMap λx=>owV D n x.ino)=L at nd mK;have key:∀ L:List Int,L.Nodup->(L.filter λx=>decide (x=(j:Int))).length=if (j:Int)∈L then 1 else 0:=by
  intro L
  induction L with
  | nil=>intro _;rfl
  | cons x L ih =>
   intro hn;obtain ⟨n1,n2⟩:=List.nodup_cons.1 hn;by_cases e:x=(j:Int)
   ·rw [E9l (by simpa using e),E8w,ih n2,C5 (by rw [<-e];exact n1),C4 (by rw [e];exact E8u ..)]
   ·rw [E9k (by simpa using e),ih n2];by_cases h:(j:Int)∈L
    ·rw [C4 h,C4 (E8q _ h)]
    ·rw [C5 h,C5 (λh2=>(E8J.1 h2).elim (λe2=>e e2.symm) h)]
 rw [key L nd];by_cases h:(j:Int)∈L
 ·rw [C4 h,C4 (mK.1 h)];rfl
 ·rw [C5 h,C5 (λh2=>h (mK.2 h2))];rfl
def Wh.twice_no(W:Wh D n F):C86 D n=A6:=by
 unfold C86;rw [List.any_eq_false];intro x hx;obtain ⟨j,hj,rfl⟩:=List.mem_iff_getElem.1 hx;have h:=W.owned j;rw [E8k,E8h hj] at h;have h:(B1I D n)[j]=_:=h;rw [h];split<;>decide
def B1Q:∀ {l:List Bool} {i:Nat},tM i l=(E8Q i (l_ l)).filter λk=>l.getD (k-i) A6
 | [],_=>rfl
 | b::l,i=>by
  rw [E8w,List.range'_succ];have e:(E8Q (i+1) (l_ l)).filter (λk=>(b::l).getD (k-i) A6)=tM (i+1) l:=by
   rw [B1Q];refine List.filter_congr λk hk=>?_
   rw [E9s] at hk;rw [show k-i=(k-(i+1))+1 by omega];rfl
  cases b with
  | true =>
   rw [E9l (by rw [E9t];rfl),e];rfl
  | false =>
   rw [E9k (by rw [E9t];exact Bool.false_ne_true),e];rfl
def Wb.map_same(W:Wb D n F):E33 D n=tM 0 F.taken:=by
 have hdr:=oX (b:=l_ D) (n:=n);obtain ⟨b16,b512,n8,n128,nm8,nb⟩:=H8.1 W.may;have hF:aR (l_ D) n=2+n/8:=by unfold aR bO nN;rw [W.may];rfl
 obtain ⟨d,hd⟩:=xEq ((aR (l_ D) n).toNat);have hdl:d<=(l_ D):=by omega
 have hsp:E8Q 0 (l_ D)=E8Q 0 d++E8Q d (l_ D-d):=by
  have h:=(List.range'_append_1 (s:=0) (m:=d) (n:=l_ D-d)).symm;rw [E8A,show d+(l_ D-d)=(l_ D) by omega] at h;exact h
 have hlow:∀ j,j<d->¬ ∃ a∈F.row,(j:Int)∈owV D n a:=by
  rintro j hj ⟨a,ha,hx⟩;have:=(vX.1 (W.I.dt a (by rw [W.tk];exact ha) _ hx)).2.1;omega
 have E6K:∀ j,j<l_ D->(F.taken.getD (j-0) A6=A5↔j<d\/∃ a∈F.row,(j:Int)∈owV D n a):=by
  intro j hj;have h:=W.I.tak j;rw [W.tk,<-hd] at h;have e:F.taken.getD (j-0) A6=F.taken.getD j A5:=by
   rw [Nat.sub_zero,E8k,E8k,E8h (by rw [W.tl];exact hj)];rfl
  rw [e,h];constructor
  ·rintro ((h | h) | h)
   ·exact .inl h
   ·omega
   ·exact .inr h
  ·rintro (h | h)
   ·exact .inl (.inl h)
   ·exact .inr h
 unfold E33 C87;rw [<-hd,B1Q,W.tl,hsp,E9x,E9x];have e1:(E8Q 0 d).filter (λk=>decide (0<(B1I D n).getD k 0))=[]:=by
  refine List.filter_eq_nil_iff.2 λk hk=>?_
  rw [E9s] at hk;rw [W.owned,C5 (hlow k (by omega))];decide
 have e2:(E8Q 0 d).filter (λk=>F.taken.getD (k-0) A6)=E8T d:=by
  rw [List.range_eq_range'];refine List.filter_eq_self.2 λk hk=>?_
  rw [E9s] at hk;exact (E6K k (by omega)).2 (.inl (by omega))
 rw [e1,e2,E8I]
 congr 1
 refine List.filter_congr λk hk=>?_
 rw [E9s] at hk;rw [Bool.eq_iff_iff,E6K k (by omega),decide_eq_true_iff,W.owned];constructor
 ·intro h;by_cases c:∃ a∈F.row,(k:Int)∈owV D n a
  ·exact .inr c
  ·rw [C5 c] at h;exact absurd h (by decide)
 ·rintro (h | h)
  ·omega
  ·rw [C4 h];decide
def Wh.mapped_no(W:Wh D n F):C0O D n=A6:=by
 unfold C0O;rw [W.map_same,W.map,O4 rfl];rfl
def Wh.right(W:Wh D n F):tM 0 (A36 D n)=[]:=by
 unfold A36;rw [W.clean_no,W.root_no,W.lost_no,W.links_no,W.names_no,W.dirs_no,W.files_no,W.twice_no,W.mapped_no];rfl
end
section
variable {h:A9} {r:Nat} {s:List Int} {B:Int}
def B5n{x:List Int}{id:Nat}(hr:rd h id=rT (encI x)){k:Nat}(hk:k<x.length):B9 h (pV id k)=A4 (iV (x.getD k 0)) :=
 B8 hr (by rw [G6,E8k,E8h hk];rfl) rfl
def C7t{x:List Int}(h:x.length=11):eX [.a (encI x)]=λh=>A4 (.a (encI (x.drop 4)),h):=by
 funext h
 rw [D0T (by assumption)];exact qU (by rw [E9u];omega)
def D9o{was now:List Int}(hw:was.length=11)(hn:now.length=11)(hr:rd h r=rT (encI s))(hB:BndR s B)(hB2:B<=900000) :
  ∃ h',sD [pV r 0,.a (encI was),.a (encI now)] h=A4 (.t [],h')/\rd h' r=rT (encI (C5v was now s))/\OnlyR r h h'/\BndR (C5v was now s) (B+9):=by
 have hrl:=E1 hr;obtain ⟨G,hG⟩:=xEq (h++[rT (encI was),rT (encI now)]);have lG:l_ G=l_ h+2:=by rw [hG];simp
 have g0:rd G (l_ h)=rT (encI was):=by rw [hG,G3];rfl
 have g1:rd G (l_ h+1)=rT (encI now):=by rw [hG,gP];rfl
 have gr:rd G r=rT (encI s):=by rw [hG];exact B6 hr
 have O1:OnlyR r h G:=by rw [hG];exact (OnlyR.refl r h).more _
 obtain ⟨s1,es1⟩:=xEq (if was.getD 1 0≠now.getD 1 0 then bump s 3 else s);obtain ⟨s2,es2⟩:=xEq (if now.getD 0 0=2/\was.getD 3 0≠now.getD 3 0 then bump s1 4 else s1);have er:C5v was now s=C9F (was.drop 4) (now.drop 4) s2:=by unfold C5v;rw [es2,es1]
 have B1:BndR s1 (B+1):=by
  rw [es1];split
  ·exact hB.bump (by omega)
  ·exact hB.mono (by omega)
 have B2:BndR s2 (B+2):=by
  rw [es2];split
  ·exact (B1.bump (by omega)).mono (by omega)
  ·exact B1.mono (by omega)
 have part3:∀ g,rd g r=rT (encI s2)->rd g (l_ h)=rT (encI was)->rd g (l_ h+1)=rT (encI now)->OnlyR r h g ->
   ∃ h',A2C 20 (pV r 0) (pV (l_ h) 0) (pV (l_ h+1) 0) g=A4 (.t [],h')/\rd h' r=rT (encI (C5v was now s))/\OnlyR r h h'/\BndR (C5v was now s) (B+9):=by
  intro g q1 q2 q3 q4;have z7:[o0,o0,o0,o0,o0,o0,o0]=encI (zI 7):=rfl;have hd1:(encI (was.drop 4)).length=7:=by rw [C1,E9u];omega
  have hd2:(encI (now.drop 4)).length=7:=by rw [C1,E9u];omega
  obtain ⟨K,hK⟩:=xEq (g++[rT (encI (was.drop 4)),rT (encI (now.drop 4))]);obtain ⟨h',f1,f2,f3,f4⟩:=E07 (r:=r) (q:=20) (ra:=l_ g) (rb:=l_ g+1) (a:=was.drop 4) (b:=now.drop 4) (by rw [E9u];omega) (by rw [E9u];omega) 7 0 20 (B+2) s2 K (by omega) (by omega) B2 (by omega) (by rw [hK];exact B6 q1) (by rw [hK,G3];rfl) (by rw [hK,gP];rfl) (by have:=E1 q1;omega) (by have:=E1 q1;omega);rw [E8y,E8y,<-er] at f2 f4;refine ⟨h',?_,f2,q4.trans (OnlyR.trans (by rw [hK];exact (OnlyR.refl r g).more _) f3),f4.mono (by omega)⟩;have l1:C9 g 11 (pV (l_ h) 0)=A4 (.a (encI was)):=C8 q2 (by rw [C1,hw]);have l2:C9 g 11 (pV (l_ h+1) 0)=A4 (.a (encI now)):=C8 q3 (by rw [C1,hn]);have n1:=congrFun (C7t hw);have n2:=congrFun (C7t hn);have st1:F7 (g++[rT (encI (zI 7)),rT (encI (zI 7))]) 7 (pV (l_ g) 0) (.a (encI (was.drop 4)))=A4 (g++[rT (encI (was.drop 4)),rT (encI (zI 7))]):=by
   rw [storeAll (by rw [G3];rfl) (by rfl) hd1,fX];rfl
  have st2:F7 (g++[rT (encI (was.drop 4)),rT (encI (zI 7))]) 7 (pV (l_ g+1) 0) (.a (encI (now.drop 4)))=A4 K:=by
   rw [storeAll (cs:=encI (zI 7)) (by rw [gP];rfl) (by rfl) hd2,B5r,hK];rfl
  have c00:((0:Nat):Int)=0:=rfl;rw [c00] at f1;rw [A9Z,z7];generalize encI was=X at *;generalize encI now=Y at *;generalize encI (was.drop 4)=X' at *;generalize encI (now.drop 4)=Y' at *;generalize encI (zI 7)=Z at *;simp only [esc,l1,l2,n1,n2,st1,st2];exact f1
 have part2:∀ g,rd g r=rT (encI s1)->rd g (l_ h)=rT (encI was)->rd g (l_ h+1)=rT (encI now)->OnlyR r h g ->
   ∃ h',A2B 20 (pV r 0) (pV (l_ h) 0) (pV (l_ h+1) 0) g=A4 (.t [],h')/\rd h' r=rT (encI (C5v was now s))/\OnlyR r h h'/\BndR (C5v was now s) (B+9):=by
  intro g q1 q2 q3 q4;have l0:=B5n q3 (k:=0) (by omega);have l3:=B5n q3 (k:=3) (by omega);have k3:=B5n q2 (k:=3) (by omega);have l4:=A99 q1 B1.1 (k:=4) (by omega);have s4:=A4v q1 B1.1 (k:=4) (by omega);have h4:=B1.at (k:=4) (by omega);have w4:E8r .i64 (s1.getD 4 0+1)=s1.getD 4 0+1:=wrap_i64 (by omega) (by omega);by_cases c1:now.getD 0 0=2
  ·by_cases c2:was.getD 3 0=now.getD 3 0
   ·rw [C5 (λh=>h.2 c2)] at es2;rw [es2] at part3;obtain ⟨h',f1,f2⟩:=part3 g q1 q2 q3 q4;refine ⟨h',?_,f2⟩;rw [iU];simp only [esc,l0,c1,k3,l3,c2];exact f1
   ·rw [C4 ⟨c1,c2⟩] at es2;have E7C:r≠(l_ h):=by omega
    have E7D:r≠(l_ h)+1:=by omega
    obtain ⟨h',f1,f2⟩:=part3 (g.set r (rT (encI s2))) (D3 (E1 q1)) (by rw [B7 E7C];exact q2) (by rw [B7 E7D];exact q3) (q4.set (.inl rfl));rw [es2] at f1;refine ⟨h',?_,f2⟩;rw [iU];simp only [esc,l0,c1,k3,l3,c2,l4,w4,s4];exact f1
  ·rw [C5 (λh=>c1 h.1)] at es2;rw [es2] at part3;obtain ⟨h',f1,f2⟩:=part3 g q1 q2 q3 q4;refine ⟨h',?_,f2⟩;rw [iU];simp only [esc,l0,c1];exact f1
 have l1:=B5n g0 (k:=1) (by omega);have l1':=B5n g1 (k:=1) (by omega);have l3:=A99 gr hB.1 (k:=3) (by omega);have s3:=A4v gr hB.1 (k:=3) (by omega);have h3:=hB.at (k:=3) (by omega);have w3:E8r .i64 (s.getD 3 0+1)=s.getD 3 0+1:=wrap_i64 (by omega) (by omega);have cl1:cells? (.a (encI was))=A4 (encI was):=rfl;have cl2:cells? (.a (encI now))=A4 (encI now):=rfl;by_cases c1:was.getD 1 0=now.getD 1 0
 ·rw [C5 (λh=>h c1)] at es1;rw [es1] at part2;obtain ⟨h',f1,f2⟩:=part2 G gr g0 g1 O1;refine ⟨h',yG (n:=20) ?_,f2⟩;rw [xP];simp only [esc,cl1,cl2,<-hG,l1,l1',c1];exact f1
 ·rw [C4 c1] at es1;obtain ⟨h',f1,f2⟩:=part2 (G.set r (rT (encI s1))) (D3 (E1 gr)) (by rw [B7 (by omega)];exact g0) (by rw [B7 (by omega)];exact g1) (O1.set (.inl rfl));rw [es1] at f1;refine ⟨h',yG (n:=20) ?_,f2⟩;rw [xP];simp only [esc,cl1,cl2,<-hG,l1,l1',c1,l3,w3,s3];exact f1
end
def C72{cs:List Cell}(hc:IsCl g cs c)(hl:Low (l_ g) g h):IsCl h cs c:=by
 obtain ⟨xr,xi,xt,xb,xm,e,h1,h2,h3,h4,h5⟩:=hc.form;exact ⟨xr,xi,xt,xb,xm,e,h1.since hl,h2.since hl,h3.since hl,h4.since hl,h5.since hl⟩
def OnlyR.low{r:Nat}(hl:Low (l_ g) g h)(ho:OnlyR r h h')(hr:l_ g<=r):Low (l_ g) g h' :=
 ⟨hl.1,E83 hl.2.1 ho.1,λj hj=>(ho.2 j (by have:=hl.2.1;omega) (by omega)).trans (hl.2.2 j hj)⟩
section
variable {D:Dev} {n m:Int} {f:Cell} {g:A9} {q p0 pv pc r:Nat} {cs:List Cell} {c:Cl}
def E09(hD:okD D)(hv:IsView g f D)(hn:n<=128)(rv:rd g pv=rT (vwC (l_ D) n m f))(rc:rd g pc=rT cs)(hc:IsCl g cs c)(hrow:c.row.length<=1000)(K6:∀ x∈c.ino,x.length=11)(hin:c.ino.length=(n+1).toNat)(hgr:l_ g<=r) :
  ∀ (e:Nat) (i:Int) (M:Nat) (B:Int) (s:List Int) (h:A9),i+e=n+1->1<=i->e<M->BndR s B->B+9*e<=900000->rd h r=rT (encI s)->Low (l_ g) g h ->
  ∃ h' M',A8s q M (pV p0 0) (pV pv 0) (pV pc 0) (pV r 0) (iV i) h=A8s q (M'+1) (pV p0 0) (pV pv 0) (pV pc 0) (pV r 0) (iV (n+1)) h' /\
   rd h' r=rT (encI (A4b D n c e i s))/\Low (l_ g) g h'/\BndR (A4b D n c e i s) (B+9*e):=by
 intro e
 induction e with
 | zero =>
  intro i M B s h hi h1 hM hB hB2 hr hl;obtain ⟨M,rfl⟩:=X0 M (by omega);have ei:i=n+1:=by omega
  subst ei;exact ⟨h,M,rfl,hr,hl,hB.mono (by omega)⟩
 | succ e ih =>
  intro i M B s h hi h1 hM hB hB2 hr hl;obtain ⟨M,rfl⟩:=X0 M (by omega);have c0:i<=n:=by omega
  have w1:E8r .i64 (i+1)=i+1:=wrap_i64 (by omega) (by omega);have lv1:B9 h (pV pv 1)=A4 (iV n):=B8 (hl.rd rv) rfl rfl;have lv4:C9 h 4 (pV pv 0)=A4 (.a (vwC (l_ D) n m f)):=C8 (hl.rd rv) rfl;have hI:=T8 (n:=n) (m:=m) (i:=i) (h:=h) hD (hv.since hl);rw [<-E2B] at hI;have hIl:(encI (B0a D n i)).length=11:=by rw [C1,B5m]
  obtain ⟨G,hG⟩:=xEq (h++[rT (encI (B0a D n i))]);have hlG:Low (l_ g) g G:=by rw [hG];exact hl.new _
  have z11:[o0,o0,o0,o0,o0,o0,o0,o0,o0,o0,o0]=encI (zI 11):=rfl;have st:F7 (h++[rT (encI (zI 11))]) 11 (pV (l_ h) 0) (.a (encI (B0a D n i)))=A4 G:=by
   rw [storeAll (by rw [G3];rfl) (by rfl) hIl,fX,hG];rfl
  have rG:rd G r=rT (encI s):=by rw [hG];exact B6 hr
  have lI:C9 G 11 (pV (l_ h) 0)=A4 (.a (encI (B0a D n i))):=C8 (by rw [hG,G3];rfl) hIl;have hcG:=C72 hc hlG;have pE:l_ cs=6:=by obtain ⟨_,_,_,_,_,rfl,_⟩:=hc.form;rfl
  have lc6:C9 G 6 (pV pc 0)=A4 (.a cs):=C8 (hlG.rd rc) pE;have hK:=C9E (a:=i) hcG hrow;have es:A4b D n c (e+1) i s=A4b D n c e (i+1) (B1A D n c s i):=rfl;rw [es];by_cases hk:i∈c.row
  ·rw [O4 hk] at hK;have e1:B1A D n c s i=C5v (B0a D n i) (c.ino.getD i.toNat []) s:=by unfold B1A;rw [C4 hk]
   rw [e1];have hit:i.toNat<c.ino.length:=by rw [hin];omega
   obtain ⟨xr,xi,xt,xb,xm,ecs,_,hxi,_⟩:=hcG.form;obtain ⟨ii,oi,ei,_,_,hC⟩:=hxi.sl (by omega);cases ei;have lc1:B9 G (pV pc 1)=A4 (sV ii oi c.ino.length 11):=B8 (hlG.rd rc) (by rw [ecs];rfl) (by rfl);have ei:(i:Int)=((i.toNat:Nat):Int):=by omega
   have ad:F0 11 (sV ii oi c.ino.length 11) (iV i)=A4 (pV ii (oi+i.toNat*11)):=by
    conv=>lhs;rw [ei]
    exact E4 hit
   have eg:c.ino.getD i.toNat []=c.ino[i.toNat]:=by rw [E8k,E8h hit];rfl
   have ln:C9 G 11 (pV ii (oi+i.toNat*11))=A4 (.a (encI (c.ino.getD i.toNat []))):=by
    rw [hC (i.toNat*11) 11 (by rw [qV K6];omega),C70 K6 hit,eg]
   obtain ⟨h1',r1,r2,r3,r4⟩:=D9o (was:=B0a D n i) (now:=c.ino.getD i.toNat []) B5m (by rw [eg];exact K6 _ (E8M hit)) rG hB (by omega);obtain ⟨h',M',f1,f2,f3,f4⟩:=ih (i+1) M (B+9) _ h1' (by omega) (by omega) (by omega) r4 (by omega) r2 (r3.low hlG hgr);refine ⟨h',M',?_,f2,f3,f4.mono (by omega)⟩;rw [qZ,z11];generalize encI (B0a D n i)=X at *;generalize encI (c.ino.getD i.toNat [])=Y at *;generalize encI (zI 11)=Z at *;generalize vwC (l_ D) n m f=V at *;simp only [esc,lv1,c0,lv4,hI,st,lc6,hK,lI,lc1,ad,ln,r1,A1f,w1];exact f1
  ·rw [W3 hk] at hK;have e1:B1A D n c s i=D02 (kdV D n i) s:=by unfold B1A;rw [C5 hk]
   rw [e1];have er:E8l 11 (Sh.i .i64)=[Sh.i .i64,.i .i64,.i .i64,.i .i64,.i .i64,.i .i64,.i .i64,.i .i64,.i .i64,.i .i64,.i .i64]:=rfl;have q1:=D55 (l:=B0a D n i) (m:=zI 11) (n:=11) B5m (by rfl);rw [er] at q1;have ef:F6 (encI (zI 11)) []=A4 (encI (zI 11)):=rfl;have l2:=A99 rG hB.1 (k:=2) (by omega);have s2:=A4v rG hB.1 (k:=2) (by omega);have b2:=hB.at (k:=2) (by omega);have w2:E8r .i64 (s.getD 2 0+1)=s.getD 2 0+1:=wrap_i64 (by omega) (by omega);by_cases hz:kdV D n i=0
   ·have e2:D02 (kdV D n i) s=s:=by unfold D02;rw [C5 (by simp [hz])]
    rw [e2];rw [O4 (D1t.2 hz)] at q1;obtain ⟨h',M',f1,f2,f3,f4⟩:=ih (i+1) M B s G (by omega) (by omega) (by omega) hB (by omega) rG hlG;refine ⟨h',M',?_,f2,f3,f4.mono (by omega)⟩;rw [qZ,z11];generalize encI (B0a D n i)=X at *;generalize encI (zI 11)=Z at *;generalize vwC (l_ D) n m f=V at *;simp only [esc,lv1,c0,lv4,hI,st,lc6,hK,lI,ef,q1,A1f,w1];exact f1
   ·have e2:D02 (kdV D n i) s=bump s 2:=by unfold D02;rw [C4 hz]
    rw [e2];rw [W3 (λh=>hz (D1t.1 h))] at q1;obtain ⟨h',M',f1,f2,f3,f4⟩:=ih (i+1) M (B+1) _ (G.set r (rT (encI (bump s 2)))) (by omega) (by omega) (by omega) (hB.bump (by omega)) (by omega) (D3 (E1 rG)) (hlG.set hgr _);refine ⟨h',M',?_,f2,f3,f4.mono (by omega)⟩;rw [qZ,z11];generalize encI (B0a D n i)=X at *;generalize encI (zI 11)=Z at *;generalize vwC (l_ D) n m f=V at *;simp only [esc,lv1,c0,lv4,hI,st,lc6,hK,lI,ef,q1,l2,w2,s2,A1f,w1];exact f1
def E1a{T:List Bool}{xt:Cell}(hD:okD D)(hv:IsView g f D)(rv:rd g pv=rT (vwC (l_ D) n m f))(hT:Has g (.c xt) 1 (l_ T) (fL T))(hTl:l_ T<=100000)(hgr:l_ g<=r)(hp0:p0<l_ g){z8:List Cell}(r0:rd g p0=rT z8)(hz8:z8.length=8) :
  ∀ (e i M:Nat) (B:Int) (s:List Int) (h:A9),i+e=l_ T->e<M->BndR s B->B+e<=10000000->rd h r=rT (encI s)->Low (l_ g) g h ->
  ∃ h',B7t q M (pV p0 0) (pV pv 0) (pV r 0) (.c xt) (iV (l_ T:Nat)) (iV (i:Int)) h=A4 (.t [.a (encI (A1T D n (T.drop i) i s)),.c o0],h')/\BndR (A1T D n (T.drop i) i s) (B+e):=by
 intro e
 induction e with
 | zero =>
  intro i M B s h hi hM hB hB2 hr hl;obtain ⟨M,rfl⟩:=X0 M (by omega);have c0:¬ (i:Int)<(l_ T:Nat):=by omega
  have e1:A1T D n (T.drop i) i s=s:=by rw [E8x (by omega)];rfl
  rw [e1];have l8:C9 h 8 (pV r 0)=A4 (.a (encI s)):=C8 hr (by rw [C1,hB.1]);have s8:F7 h 8 (pV p0 0) (.a (encI s))=A4 (h.set p0 (rT (encI s))):=storeAll (hl.rd r0) hz8 (by rw [C1,hB.1]);have k8:C9 (h.set p0 (rT (encI s))) 8 (pV p0 0)=A4 (.a (encI s)):=C8 (D3 (by have:=hl.2.1;omega)) (by rw [C1,hB.1]);refine ⟨h.set p0 (rT (encI s)),?_,hB.mono (by omega)⟩;rw [iT];simp only [esc,c0,l8,s8,k8]
 | succ e ih =>
  intro i M B s h hi hM hB hB2 hr hl;obtain ⟨M,rfl⟩:=X0 M (by omega);have K6:i<(l_ T):=by omega
  have c0:(i:Int)<(l_ T:Nat):=by omega
  have w1:=E2 (a:=i) (by omega);obtain ⟨ii,oi,ei,_,hA,_⟩:=(hT.since hl).sl (by omega);cases ei;have a1:F0 1 (sV ii oi (l_ T) 1) (iV (i:Int))=A4 (pV ii (oi+i)):=by rw [E4 K6];simp
  have a2:B9 h (pV ii (oi+i))=A4 (bV T[i]):=hA i _ (by simp [fL,K6]);have lv4:C9 h 4 (pV pv 0)=A4 (.a (vwC (l_ D) n m f)):=C8 (hl.rd rv) rfl;have hU:=D3h (n:=n) (m:=m) (i:=(i:Int)) (h:=h) hD (hv.since hl);have ed:A1T D n (T.drop i) i s=A1T D n (T.drop (i+1)) (i+1) (A1k (B7I D n (i:Int)) T[i] s):=by rw [E8s K6];rfl
  have l7:=A99 hr hB.1 (k:=7) (by omega);have s7:=A4v hr hB.1 (k:=7) (by omega);have b7:=hB.at (k:=7) (by omega);have w7:E8r .i64 (s.getD 7 0+1)=s.getD 7 0+1:=wrap_i64 (by omega) (by omega);have l6:=A99 hr hB.1 (k:=6) (by omega);have s6:=A4v hr hB.1 (k:=6) (by omega);have b6:=hB.at (k:=6) (by omega);have w6:E8r .i64 (s.getD 6 0+1)=s.getD 6 0+1:=wrap_i64 (by omega) (by omega);rw [ed];generalize B7I D n (i:Int)=u at *;cases hb:T[i] with
  | true =>
   rw [hb] at a2;cases u with
   | true =>
    have e1:A1k A5 A5 s=s:=by simp [A1k]
    rw [e1];obtain ⟨h',f1,f2⟩:=ih (i+1) M B s h (by omega) (by omega) hB (by omega) hr hl;refine ⟨h',?_,f2.mono (by omega)⟩;rw [iT];generalize vwC (l_ D) n m f=V at *;simp only [esc,c0,a1,a2,lv4,hU,qY,w1];exact f1
   | false =>
    have e1:A1k A6 A5 s=bump s 7:=by simp [A1k]
    rw [e1];obtain ⟨h',f1,f2⟩:=ih (i+1) M (B+1) _ (h.set r (rT (encI (bump s 7)))) (by omega) (by omega) (hB.bump (by omega)) (by omega) (D3 (E1 hr)) (hl.set hgr _);refine ⟨h',?_,f2.mono (by omega)⟩;rw [iT];generalize vwC (l_ D) n m f=V at *;simp only [esc,c0,a1,a2,lv4,hU,l7,w7,s7,qY,w1];exact f1
  | false =>
   rw [hb] at a2;cases u with
   | true =>
    have e1:A1k A5 A6 s=bump s 6:=by simp [A1k]
    rw [e1];obtain ⟨h',f1,f2⟩:=ih (i+1) M (B+1) _ (h.set r (rT (encI (bump s 6)))) (by omega) (by omega) (hB.bump (by omega)) (by omega) (D3 (E1 hr)) (hl.set hgr _);refine ⟨h',?_,f2.mono (by omega)⟩;rw [iT];generalize vwC (l_ D) n m f=V at *;simp only [esc,c0,a1,a2,lv4,hU,l6,w6,s6,qY,w1];exact f1
   | false =>
    have e1:A1k A6 A6 s=s:=by simp [A1k]
    rw [e1];obtain ⟨h',f1,f2⟩:=ih (i+1) M B s h (by omega) (by omega) hB (by omega) hr hl;refine ⟨h',?_,f2.mono (by omega)⟩;rw [iT];generalize vwC (l_ D) n m f=V at *;simp only [esc,c0,a1,a2,lv4,hU,qY,w1];exact f1
def B7u(hv:Has h v 256 (l_ D) (E3 D))(hD:okD D)(hn:A9z D=A5)(hl:l_ D<=1000) :
  A3X [v] h=A4 (.t [.a (encI (B4z D (uW D))),.c o0],h)/\BndR (B4z D (uW D)) 1000000:=by
 have hm:=C7i hn;obtain ⟨n,en⟩:=xEq (uW D);obtain ⟨P,hP⟩:=xEq (U1 (gQ D n (E7 D n)) D 0);rw [<-en] at hm ⊢;obtain ⟨b16,b512,n8,n128,_,_⟩:=H8.1 hm;obtain ⟨fR,fS,fil,fin,ftl⟩:=Z8 hD hm;have E74:(E7 D n).lost=(F5 D n).lost:=(jN (L:=(F5 D n).row) (c:=F5 D n)).2.2.2.2.1;have E6y:(E7 D n).row=(F5 D n).row:=(jN (L:=(F5 D n).row) (c:=F5 D n)).1;have hPl:P.length<=(l_ D):=by
  have h1:=(C1c (W:=gQ D n (E7 D n)) (D:=D) (i:=0) (C0w hD hm).1).2;rw [(C0w hD hm).2] at h1;rw [hP];exact h1
 obtain ⟨s0,hs0⟩:∃ s0:List Int,s0=[((P.length:Nat):Int),(E7 D n).lost,0,0,0,0,0,0]:=⟨_,rfl⟩;have B0:BndR s0 30000:=by
  rw [hs0];refine ⟨rfl,λa ha=>?_⟩;have:=fS.lost0;have:=fS.lost;simp only [E8J,List.not_mem_nil,or_false] at ha;rcases ha with rfl | rfl | rfl | rfl | rfl | rfl | rfl | rfl<;>omega
 have z8:[o0,o0,o0,o0,o0,o0,o0,o0]=encI (zI 8):=rfl;obtain ⟨G,hG⟩:=xEq (ro h++[rT (encI (zI 8))]);have hvG:Has G v 256 (l_ D) (E3 D):=by rw [hG];exact hv.ro.more _
 have E5o:=zO hvG hD hn (by omega);rw [<-en,<-hP] at E5o;obtain ⟨G2,hG2⟩:=xEq (G++[rT (vB P)]);rw [<-hG2] at E5o;obtain ⟨f,t,hO,hV⟩:=B8Y (h:=G2) (by rw [hG2];exact hvG.more _) hD hn (by omega);obtain ⟨H,hHe⟩:=xEq (G2++t);rw [<-hHe] at hO hV;rw [<-en] at hO;generalize C7j D=m at *;have hS5:F7 (H++[rT [o0,o0,.i .u64 0,.nf]]) 4 (pV (l_ H) 0) (.a (vwC (l_ D) n m f))=A4 (H++[rT (vwC (l_ D) n m f)]):=by rw [I3];rfl
 obtain ⟨K,hK⟩:=xEq (H++[rT (vwC (l_ D) n m f)]);rw [<-hK] at hS5;have k4:C9 K 4 (pV (l_ H) 0)=A4 (.a (vwC (l_ D) n m f)):=C8 (by rw [hK,G3];rfl) rfl;have rvK:rd K (l_ H)=rT (vwC (l_ D) n m f):=by rw [hK,G3];rfl
 have hVK:IsView K f D:=by rw [hK];exact hV.more _
 obtain ⟨cs,t2,hC,hI,_⟩:=C32 (m:=m) (h:=K) hD hVK hm;obtain ⟨L,hL⟩:=xEq (K++t2);rw [<-hL] at hC hI;have pE:l_ cs=6:=by obtain ⟨_,_,_,_,_,rfl,_⟩:=hI.form;rfl
 obtain ⟨Q,hQ⟩:=xEq (L++[rT cs]);have hS6:F7 (L++[rT [.ns,.ns,.ns,.ns,.ns,o0]]) 6 (pV (l_ L) 0) (.a cs)=A4 Q:=by
  rw [storeAll (n:=6) (cs:=[.ns,.ns,.ns,.ns,.ns,o0]) (by rw [G3];rfl) rfl pE,fX,hQ];rfl
 have rcQ:rd Q (l_ L)=rT cs:=by rw [hQ,G3];rfl
 have rvQ:rd Q (l_ H)=rT (vwC (l_ D) n m f):=by rw [hQ,hL];exact B6 (B6 rvK)
 have hVQ:IsView Q f D:=by rw [hQ,hL];exact (hVK.more _).more _
 have hIQ:IsCl Q cs (E7 D n):=C72 hI (by rw [hQ];exact (Low.refl (E8m _)).new _);obtain ⟨xr,xi,xt,xb,xm,ecs,_,_,hxt,_⟩:=hIQ.form;have lc5:B9 Q (pV (l_ L) 5)=A4 (iV (E7 D n).lost):=B8 rcQ (by rw [ecs];rfl) rfl;have ef:F6 (encI (zI 8)) [(0,1,iV (P.length:Nat)),(1,1,iV (E7 D n).lost)]=A4 (encI s0):=by rw [hs0];rfl
 have s8:F7 (Q++[rT (encI (zI 8))]) 8 (pV (l_ Q) 0) (.a (encI s0))=A4 (Q++[rT (encI s0)]):=by
  rw [storeAll (by rw [G3];rfl) (by rfl) (by rw [C1,B0.1]),fX];rfl
 have p0Q:rd Q (ro h).length=rT (encI (zI 8)):=by
  rw [hQ,hL,hK,hHe,hG2,hG];refine B6 (B6 (B6 (B6 (B6 ?_))));rw [G3];rfl
 have low0:Low (l_ Q) Q (Q++[rT (encI s0)]):=(Low.refl (E8m _)).new _;obtain ⟨h1,M1,f1,f2,f3,f4⟩:=E09 (q:=100000) (p0:=(ro h).length) hD hVQ n128 rvQ rcQ hIQ (by rw [E6y];have:=fS.row;omega) fil fin (E8m _) n.toNat 1 100000 30000 s0 (Q++[rT (encI s0)]) (by omega) (by omega) (by omega) B0 (by omega) (by rw [G3];rfl) low0;obtain ⟨h2,u1,u2⟩:=E1a (q:=100000) (p0:=(ro h).length) (r:=l_ Q) (pv:=l_ H) hD hVQ rvQ hxt (by rw [ftl];omega) (E8m _) (by have:=E1 p0Q;omega) p0Q (by rfl) (E7 D n).taken.length 0 100000 _ _ h1 (by omega) (by rw [ftl];omega) f4 (by rw [ftl];omega) f2 f3;rw [E8y] at u1 u2;have ec:A1T D n (E7 D n).taken 0 (A4b D n (E7 D n) n.toNat 1 s0)=B4z D n:=by unfold B4z;rw [hs0,hP]
 rw [ec] at u1 u2;refine ⟨?_,u2.mono (by rw [ftl];omega)⟩;have key:B0O 100000 [v] (ro h)=A4 (.t [.a (encI (B4z D n)),.c o0],h2):=by
  have lt2:B9 h1 (pV (l_ L) 2)=A4 (.c xt):=B8 (f3.rd rcQ) (by rw [ecs];rfl) rfl;have ltl:=(hxt.since f3).len;have lv1:B9 h1 (pV (l_ H) 1)=A4 (iV n):=B8 (f3.rd rvQ) rfl rfl;have cn:¬ n+1<=n:=by omega
  have c00:((0:Nat):Int)=0:=rfl;rw [c00] at u1;rw [C4U,z8];generalize encI (zI 8)=Z at *;generalize vwC (l_ D) n m f=V at *;generalize encI s0=S0 at *;simp only [esc,<-hG,E5o,hO,hS5,k4,hC,hS6,lc5,ef,s8,eq_self];refine f1.trans ?_;rw [qZ];simp only [esc,lv1,cn,lt2,ltl];exact u1
 exact B9R key (by simp [Val.flat,Cell.flat])
end
def B8R:∀ {W:Dev} {i:Nat},U1 W W i=[]
 | [],_=>rfl
 | w::W,i=>by rw [B8Q];exact B8R
def E2S{i:Nat}(hb:l_ b=256)(hi:i<2048):B6C (A4g b i) (j:Int)=(B6C b j||decide (i=j)):=by
 have key:∀ b:List UInt8,∀ j:Nat,B6C b (j:Int)=(decide (j<2048)&&(b.getD (j/8) 0).toNat.testBit (j%8)):=by
  intro b j;unfold B6C;rw [Nat.testBit_eq_decide_div_mod_eq,O4 (show (0:Int)<=(j:Int) by omega),E8K];have e1:((j:Int)/8).toNat=j/8:=by omega
  have e2:((j:Int)%8).toNat=j%8:=by omega
  have e3:decide ((j:Int)<2048)=decide (j<2048):=decide_eq_decide.2 (by omega);rw [e1,e2,e3]
 rw [key,key];unfold A4g;rw [E8k,E9n];by_cases e:i/8=j/8
 ·have W4:i/8<(l_ b):=by rw [hb];omega
  rw [C4 e,C4 W4,Option.getD_some];have hm:=B5b i;have hx:=(b.getD (i/8) 0).toNat_lt;have hor:(b.getD (i/8) 0).toNat ||| A0A i<256:=Nat.or_lt_two_pow (n:=8) hx hm
  rw [UInt8.toNat_ofNat_of_lt' (by simpa using hor),Nat.testBit_or];unfold A0A;rw [Nat.testBit_two_pow,<-e];by_cases e2:i=j
  ·subst e2;simp [hi]
  ·have:¬ i%8=j%8:=by omega
   simp [e2,this]
 ·rw [C5 e,<-E8k];have:¬ i=j:=λh=>e (by rw [h])
  simp [this]
def D0W:∀ {l:List Nat} {b:List UInt8},l_ b=256->(∀ x∈l,x<2048)->B6C (l.foldl A4g b) (j:Int)=(B6C b j||decide (j∈l))
 | [],b,_,_=>by simp
 | i::l,b,hb,h=>by
  rw [E9q,D0W (by rw [B5p];exact hb) λx hx=>h x (E8q _ hx),E2S hb (h i (E8u ..))];by_cases e:i=j
  ·subst e;simp
  ·by_cases e2:j∈l
   ·simp [e2]
   ·have:¬ j=i:=λh=>e h.symm
    simp [e,e2,this]
def D9D{l:List Nat}(h:∀ x∈l,x<2048):B6C (cQ l) (j:Int)=decide (j∈l):=by
 unfold cQ;rw [D0W zeros_length h];have:B6C (zeros 256) (j:Int)=A6:=by
  unfold B6C;have:(zeros 256).getD ((j:Int)/8).toNat 0=0:=by
   unfold zeros;rw [E8k,List.getElem?_replicate];split<;>rfl
  rw [this];have:∀ k,(0:UInt8).toNat/2 ^ k%2=1↔False:=λk=>by
   show 0/2 ^ k%2=1↔False;rw [Nat.zero_div];simp
  simp [this]
 rw [this,E9h]
def D0P:∀ {a s:List Int},C9F a a s=s
 | [],_=>rfl
 | x::a,s=>by
  show C9F a a (if x≠0/\x=0 then bump s 5 else s)=s;rw [C5 (λh=>h.1 h.2)];exact D0P
def D94{w s:List Int}:C5v w w s=s:=by
 unfold C5v;rw [D0P,C5 (λh=>h.2 rfl),C5 (λh=>h rfl)]
section
variable {D:Dev} {n:Int}
def E0k(hD:okD D)(hm:P6 (l_ D) n=A5)(hS:gQ D n (E7 D n)=D)(hi:Q2 (l_ D) n i=A5):(E7 D n).ino.getD i.toNat []=B0a D n i:=by
 have ok:=qT hD hm;obtain ⟨_,_,_,K6,_⟩:=Z8 hD hm;obtain ⟨_,i1,i2⟩:=M8.1 hi;have h:=C5M hD hm ok K6 hi;rw [hS] at h;have hy:D2J ((E7 D n).ino.getD i.toNat []):=by
  rw [E8k,E8h (by omega)];exact ok.ino _ (E8M _)
 obtain ⟨_,v0,v1,v2,v3,v4⟩:=D5T hi hy h;have hl:=hy.1;unfold B0a;rw [v0,v1,v2,v3,v4];generalize (E7 D n).ino.getD i.toNat []=y at hl
 match y,hl with
 | a::b::c::d::t,_=>rfl
def D5M(hD:okD D)(hm:P6 (l_ D) n=A5)(hS:gQ D n (E7 D n)=D):B4z D n=zI 8:=by
 have W:=E40 hD hm hS;obtain ⟨b16,b512,n8,n128,nm8,nb⟩:=H8.1 hm;obtain ⟨s1,s2,s3,s4,s5,s6,s7⟩:=jN (L:=(F5 D n).row) (c:=F5 D n);have s1:(E7 D n).row=(F5 D n).row:=s1;have s2:(E7 D n).taken=(F5 D n).taken:=s2;have s5:(E7 D n).lost=(F5 D n).lost:=s5;unfold B4z;rw [hS,B8R,s5,W.I.lost];have hz:[((([]:List Wr).length:Nat):Int),0,0,0,0,0,0,0]=zI 8:=rfl;rw [hz];have h1:∀ (e:Nat) (i:Int) (s:List Int),1<=i->i+e<=n+1->A4b D n (E7 D n) e i s=s:=by
  intro e
  induction e with
  | zero=>intro i s _ _;rfl
  | succ e ih =>
   intro i s hi hie;show A4b D n (E7 D n) e (i+1) (B1A D n (E7 D n) s i)=s;have hI:Q2 (l_ D) n i=A5:=M8.2 ⟨hm,hi,by omega⟩;have e1:B1A D n (E7 D n) s i=s:=by
    unfold B1A;rw [s1];by_cases hr:i∈(F5 D n).row
    ·rw [C4 hr,E0k hD hm hS hI,D94]
    ·rw [C5 hr,W.out i hI hr];rfl
   rw [e1];exact ih (i+1) s (by omega) (by omega)
 rw [h1 n.toNat 1 _ (by omega) (by omega),s2];have h2:∀ (l:List Bool) (i:Nat) (s:List Int),(∀ j,j<l_ l->B7I D n ((i+j:Nat):Int)=l.getD j A6)->A1T D n l i s=s:=by
  intro l
  induction l with
  | nil=>intro i s _;rfl
  | cons t l ih =>
   intro i s h;show A1T D n l (i+1) (A1k (B7I D n (i:Int)) t s)=s;have h0:=h 0 (by simp);have h0:B7I D n ((i:Nat):Int)=t:=h0;rw [h0];have e1:A1k t t s=s:=by
    unfold A1k;cases t<;>rfl
   rw [e1];refine ih (i+1) s λj hj=>?_
   have:=h (j+1) (by rw [E8w];omega);rw [show i+1+j=i+(j+1) by omega];exact this
 refine h2 _ 0 _ λj hj=>?_
 rw [W.tl] at hj;rw [E8A];unfold B7I;have W4:∀ x∈tM 0 (F5 D n).taken,x<2048:=by
  intro x hx;rw [B1Q,E8Z,E9s,W.tl] at hx;omega
 rw [hm,O4 (show (0:Int)<=(j:Int) by omega),O4 (show (j:Int)<(l_ D:Nat) by omega),W.map,D9D W4];rw [Bool.eq_iff_iff];simp only [E8K,decide_eq_true_iff];rw [B1Q,E8Z,E9s,W.tl];constructor
 ·rintro ⟨_,h⟩;exact h
 ·intro h;exact ⟨⟨by omega,by omega⟩,h⟩
end
section
variable (n m m2:Nat) (a0 a1 a2:Val) (h:A9)
def B0i:FD A8:=⟨px 0X119f2003a238004881c6b760550525f00138038614022b201042,[.c .np],[.min (.t 3) (.v (.c (cI 512))),.max (.v (.c (cI 16))) (.t 4),.build ([.ns,o0,.b A6,.b A6,o0,o0]) [(0,1,(.t 7))]],[.tmp 2],[]⟩
def C50:=B0i.R
def C9j:=mR C50 B0i (tT []) n [a0] h
def C5T:=B0i.K Tryz.func111
def B7X:=B0i.Q
def C9q:OfT C50 B7X:=C5T.of
def pW:FD A8:=⟨px 0X119f200290400503d75060201120140062240386121942031201042,[],[.eqN A6 A6 (.t 3)],[.tmp 2],[]⟩
def A0P:=pW.R
def B6i:=mR A0P pW (tT []) n [a0] h
def A0M:=pW.K Tryz.func144
def qM:=pW.S
def B2M:G0 A0P qM:=A0M.flat
def tW:FD A8:=⟨px 0X114010201194012a0522438f1d001b281901c4481a0484b0481e00481f0486c7487484870110123a1e01c3b05216940118000072241cf1800430503d71905296101d2154012000072247f5003876031b611c2050023140130182,[],[.eqN A6 A6 (.t 6)],[.tmp 4],[]⟩
def A2Q:=tW.R
def B7O:=mR A2Q tW (tT []) n [a0,a1] h
def B11:=tW.K Tryz.func166
def bJ:=tW.S
def A47:SOk A8 166 bJ:=B11.sok
def B3U:G0 A2Q bJ:=B11.flat
def gT:FD A8:=⟨px 0X422a4051a3d50020440503d6418182410224259273182,[],[],[],[]⟩
def A3e:=gT.R
def B0C:=mR A3e gT (tT []) n [a0,a1] h
def B6e:=gT.K Tryz.func167
def R6:=gT.Q
def A8X:E0y A8 167 R6:=D8c (D7W _) Tryz.func167 (by kernel_rfl)
def B05:OfT A3e R6:=B6e.of
def B81:DFn:=⟨[([1,3,5,6],(.ops [aB 3 0,aB 5 2,aO 6 (.alloc ([o0]))])),([1,3,5,6],(sO [1,3,5,6] [aL 7 3,aM 8 1,aO 9 (.call 166 [(.t 7),(.t 8)]),aN (.store1 (.t 6) (.t 9))] (sO [1,3,5,6,11] [aL 10 6,aO 11 (.bin .neq (.t 10) (.v (iV 0)))] (.cond (.t 11) (sO [6] [aL 12 6,aN (.store1 (.t 6) (.t 12))] .ret) .skip))))],[1,3,5,6],13,167,[(.t 6),(.t 3)],(.seq [1,3,5,6] (sO [1,3,5,6,24] [aL 14 3,aO 15 (.nilc (.t 14)),aF 16 15 2,aL 17 16,aM 18 17,aG 19 18 A5 (.load1 (.t 3)),aG 20 18 A5 (.nilc (.t 19)),aG 21 18 A5 (.fAddr (.t 20) 1),aG 22 18 A5 (.load1 (.t 21)),aG 23 18 A5 (.bin .eql (.t 22) (.v (iV 0))),aO 24 (.pick (.t 18) (.t 23) (.v (bV A6)))] (.cond (.t 24) (sO [6] [aL 25 3,aO 26 (.nilc (.t 25)),aF 27 26 3,aN (.store1 (.t 27) (.v (bV A5)))] (sO [6] [aN (.store1 (.t 6) (.v (iV 12)))] .ret)) .skip)) (.seq [1,3,5,6] (sO [1,3,5,6,31] [aL 28 3,aO 29 (.nilc (.t 28)),aF 30 29 2,aL 31 30] (.cond (.t 31) (.ops [aL 32 3,aO 33 (.nilc (.t 32)),aF 34 33 1,aL 35 34,aO 36 (.bin .sub (.t 35) (.v (iV 1))),aO 37 (.nilc (.t 32)),aF 38 37 1,aN (.store1 (.t 38) (.t 36))]) .skip)) (.seq [6] (.draw 0 [aL 39 3,aO 40 (.nilc (.t 39)),aF 41 40 0,aL 42 41,aM 43 1,aL' 44 256 5] [aO 45 (.iAddrL 256 (.t 42) (.t 43)),aN (.storeN 256 (.t 45) (.t 44))]) (sO [6] [aN (.store1 (.t 6) (.v (iV 0)))] .ret)))),[.cell1 6]⟩
def B82:K7:=E1s 166 bJ D4b
def xZ:Fun:=B81.run B82 R6 0
def B3T:SOk A8 145 xZ:=E1h (D7s A47 D7r) A8X Tryz.func145 (by kernel_rfl)
def B3S:xZ [a0,a1,a2] h=bnd (cells? a0) λc1=>bnd (cells? a2) λc2=>bnd (B9 (((h++[rT (c1)])++[rT (c2)])++[rT ([o0])]) (pV (l_ h) 0)) λv3=>bnd (bJ [v3,a1] (((h++[rT (c1)])++[rT (c2)])++[rT ([o0])])) λp4=>bnd (I8 p4.2 (pV ((h++[rT (c1)])++[rT (c2)]).length 0) p4.1) λh5=>bnd (B9 h5 (pV ((h++[rT (c1)])++[rT (c2)]).length 0)) λv6=>bnd (N4 .neq v6 (iV 0)) λv7=>cnd v7 (bnd (B9 h5 (pV ((h++[rT (c1)])++[rT (c2)]).length 0)) λv8=>bnd (I8 h5 (pV ((h++[rT (c1)])++[rT (c2)]).length 0) v8) λh9=>mp (B9 h9 (pV ((h++[rT (c1)])++[rT (c2)]).length 0)) λv=>(v,h9)) (bnd (A32 167 [(pV ((h++[rT (c1)])++[rT (c2)]).length 0),(pV (l_ h) 0)]) λv10=>bnd (B9 h5 (pV (l_ h) 0)) λv11=>bnd (A6V v11) λv12=>bnd (U2 v12 2) λv13=>bnd (B9 h5 v13) λv14=>bnd (gd v14 A5 (bnd (B9 h5 (pV (l_ h) 0)) λv15=>A4 (v15,h5)) (A4 (.no,h5))) λp16=>bnd (gd v14 A5 (bnd (A6V p16.1) λv17=>A4 (v17,p16.2)) (A4 (.no,p16.2))) λp18=>bnd (gd v14 A5 (bnd (U2 p18.1 1) λv19=>A4 (v19,p18.2)) (A4 (.no,p18.2))) λp20=>bnd (gd v14 A5 (bnd (B9 p20.2 p20.1) λv21=>A4 (v21,p20.2)) (A4 (.no,p20.2))) λp22=>bnd (gd v14 A5 (bnd (N4 .eql p22.1 (iV 0)) λv23=>A4 (v23,p22.2)) (A4 (.no,p22.2))) λp24=>bnd (D0A v14 p24.1 (bV A6)) λv25=>cnd v25 (bnd (B9 p24.2 (pV (l_ h) 0)) λv26=>bnd (A6V v26) λv27=>bnd (U2 v27 3) λv28=>bnd (I8 p24.2 v28 (bV A5)) λh29=>bnd (I8 h29 (pV ((h++[rT (c1)])++[rT (c2)]).length 0) (iV 12)) λh30=>bnd (C0b R6 v10 h30) λp31=>mp (B9 p31.2 (pV ((h++[rT (c1)])++[rT (c2)]).length 0)) λv=>(v,p31.2)) (bnd (B9 p24.2 (pV (l_ h) 0)) λv32=>bnd (A6V v32) λv33=>bnd (U2 v33 2) λv34=>bnd (B9 p24.2 v34) λv35=>cnd v35 (bnd (B9 p24.2 (pV (l_ h) 0)) λv36=>bnd (A6V v36) λv37=>bnd (U2 v37 1) λv38=>bnd (B9 p24.2 v38) λv39=>bnd (N4 .sub v39 (iV 1)) λv40=>bnd (A6V v36) λv41=>bnd (U2 v41 1) λv42=>bnd (I8 p24.2 v42 v40) λh43=>bnd (B9 h43 (pV (l_ h) 0)) λv44=>bnd (A6V v44) λv45=>bnd (U2 v45 0) λv46=>bnd (B9 h43 v46) λv47=>bnd (C9 h43 256 (pV (h++[rT (c1)]).length 0)) λv48=>bnd (F0 256 v47 a1) λv49=>bnd (F7 (h43++[]) 256 v49 v48) λh50=>bnd (I8 h50 (pV ((h++[rT (c1)])++[rT (c2)]).length 0) (iV 0)) λh51=>bnd (C0b R6 v10 h51) λp52=>mp (B9 p52.2 (pV ((h++[rT (c1)])++[rT (c2)]).length 0)) λv=>(v,p52.2)) (bnd (B9 p24.2 (pV (l_ h) 0)) λv53=>bnd (A6V v53) λv54=>bnd (U2 v54 0) λv55=>bnd (B9 p24.2 v55) λv56=>bnd (C9 p24.2 256 (pV (h++[rT (c1)]).length 0)) λv57=>bnd (F0 256 v56 a1) λv58=>bnd (F7 (p24.2++[]) 256 v58 v57) λh59=>bnd (I8 h59 (pV ((h++[rT (c1)])++[rT (c2)]).length 0) (iV 0)) λh60=>bnd (C0b R6 v10 h60) λp61=>mp (B9 p61.2 (pV ((h++[rT (c1)])++[rT (c2)]).length 0)) λv=>(v,p61.2)))):=by kernel_rfl
def jP:FD A8:=⟨px 0X422a5051a3d50020450503d041818,[],[],[],[]⟩
def A4O:=jP.R
def B2C:=mR A4O jP (tT []) n [a0] h
def B7M:=jP.K Tryz.func168
def Z3:=jP.Q
def B04:E0y A8 168 Z3:=D8c (D7W _) Tryz.func168 (by kernel_rfl)
def B2L:OfT A4O Z3:=B7M.of
def C1x:DFn:=⟨[([1,2,4],(.ops [aB 2 0,aO 4 (.alloc (E8l 256 (.i .u8 0))),aO 5 (.mv (.v (iV 0)))])),([1,2,4],(sO [1,2,4,5] [aL 6 2,aM 7 1,aO 8 (.call 166 [(.t 6),(.t 7)]),aM 5 8] (sO [1,2,4,5,10] [aM 9 5,aO 10 (.bin .neq (.t 9) (.v (iV 0)))] (.cond (.t 10) (sO [4,5] [aL' 11 256 4,aM 12 5,aN (.storeN 256 (.t 4) (.t 11)),aM 5 12] .ret) .skip))))],[1,2,4],13,168,[(.t 2)],(sO [4,5] [aL 14 2,aO 15 (.nilc (.t 14)),aF 16 15 0,aL 17 16,aM 18 1,aO 19 (.iAddrL 256 (.t 17) (.t 18)),aL' 20 256 19,aN (.storeN 256 (.t 4) (.t 20)),aO 5 (.mv (.v (iV 0)))] .ret),[.cellN 4 256,.tmp 5]⟩
def C1y:K7:=E1s 166 bJ D4b
def A0U:Fun:=C1x.run C1y Z3 0
def B6r:SOk A8 146 A0U:=E1h (D7s A47 D7r) B04 Tryz.func146 (by kernel_rfl)
def B6q:A0U [a0,a1] h=bnd (cells? a0) λc1=>bnd (B9 ((h++[rT (c1)])++[rT (E8l 256 (.i .u8 0))]) (pV (l_ h) 0)) λv2=>bnd (bJ [v2,a1] ((h++[rT (c1)])++[rT (E8l 256 (.i .u8 0))])) λp3=>bnd (N4 .neq p3.1 (iV 0)) λv4=>cnd v4 (bnd (C9 p3.2 256 (pV (h++[rT (c1)]).length 0)) λv5=>bnd (F7 p3.2 256 (pV (h++[rT (c1)]).length 0) v5) λh6=>C3t [C9 h6 256 (pV (h++[rT (c1)]).length 0),A4 p3.1] h6) (bnd (A32 168 [(pV (l_ h) 0)]) λv7=>bnd (B9 p3.2 (pV (l_ h) 0)) λv8=>bnd (A6V v8) λv9=>bnd (U2 v9 0) λv10=>bnd (B9 p3.2 v10) λv11=>bnd (F0 256 v11 a1) λv12=>bnd (C9 p3.2 256 v12) λv13=>bnd (F7 p3.2 256 (pV (h++[rT (c1)]).length 0) v13) λh14=>bnd (C0b Z3 v7 h14) λp15=>C3t [C9 p15.2 256 (pV (h++[rT (c1)]).length 0),A4 (iV 0)] p15.2):=by kernel_rfl
def mS:FD A8:=⟨px 0X11af2001a488390400503d7100048855d70201488248140062240386121942034882481042,[],[.eqN A6 A6 (.t 3)],[.tmp 2],[]⟩
def xM:=mS.R
def B3j:=mR xM mS (tT []) n [a0] h
def A6n:=mS.K Tryz.func61
def xY:=mS.S
def B2K:A3Q xM xY:=A6n.out
end
def dkC(q len:Nat)(w r:Int):List Cell:=[.sl q 0 len 256,o0,.b A6,.b A6,cI w,cI r]
structure IsDk(h:A9)(p q:Nat)(D:Dev)(w r:Int):Prop where
 ne:p≠q
 row:rd h p=rT (dkC q (l_ D) w r)
 blk:rd h q=rT (E3 D)
def But(p q:Nat)(h h':A9):Prop:=l_ h<=l_ h'/\∀ id,id<l_ h->id≠p->id≠q->rd h' id=rd h id
def But.refl(p q:Nat)(h:A9):But p q h h:=⟨E8m _,λ_ _ _ _=>rfl⟩
def But.trans{h'':A9}(a:But p q h h')(b:But p q h' h''):But p q h h'' :=
 ⟨E83 a.1 b.1,λid hid h1 h2=>(b.2 id (by have:=a.1;omega) h1 h2).trans (a.2 id hid h1 h2)⟩
def But.more(a:But p q h h')(t:A9):But p q h (h'++t) :=
 ⟨by have:=a.1;simp;omega,λid hid h1 h2=>by rw [D5 (by have:=a.1;omega)];exact a.2 id hid h1 h2⟩
def But.set{id:Nat}{x:Option Row}(a:But p q h h')(hid:l_ h<=id\/id=p\/id=q):But p q h (h'.set id x) :=
 ⟨by simpa using a.1,λj hj h1 h2=>by rw [B7 (by omega)];exact a.2 j hj h1 h2⟩
def IsDk.more{w r:Int}(k:IsDk h p q D w r)(t:A9):IsDk (h++t) p q D w r:=⟨k.ne,B6 k.row,B6 k.blk⟩
def IsDk.setO{id:Nat}{w r:Int}{x:Option Row}(k:IsDk h p q D w r)(h1:id≠p)(h2:id≠q):IsDk (h.set id x) p q D w r :=
 ⟨k.ne,by rw [B7 h1];exact k.row,by rw [B7 h2];exact k.blk⟩
def IsDk.ro{w r:Int}(k:IsDk h p q D w r):rd (ro h) p=A4 ⟨dkC q (l_ D) w r,A6⟩/\rd (ro h) q=A4 ⟨E3 D,A6⟩:=by
 have e1:(Row.mk (dkC q (l_ D) w r) A5).head=A6:=rfl;refine ⟨C1f k.row e1,C1f k.blk ?_⟩;cases hD:E3 D with
 | nil=>rfl
 | cons c l =>
  have:=dO D;rw [hD] at this;cases c<;>first | rfl | (simp [noX,Cell.isX] at this)
def D4a{N:Nat}(h1:16<=N)(h2:N<=512):B7X [iV (N:Int)] h=A4 (pV (l_ h+1) 0,h++[rT (E3 (E8l N (zeros 256))),rT (dkC (l_ h) N 0 0)]):=by
 refine C9q (n:=0) ?_;have m1:B6z (iV (N:Int)) (iV 512)=A4 (iV (N:Int)):=by simp only [B6z];simp;omega
 have m2:C5g (iV 16) (iV (N:Int))=A4 (iV (N:Int)):=by simp only [C5g];simp;omega
 have mk:=D6a (N:=N) (by omega);have ef:F6 [.ns,o0,.b A6,.b A6,o0,o0] [(0,1,sV (l_ h) 0 N 256)]=A4 (dkC (l_ h) N 0 0):=rfl;rw [C9j];simp only [esc,m1,m2,mk,ef,D5u]
section
variable {h:A9} {p q:Nat} {D:Dev} {w r:Int}
def C0h(k:IsDk h p q D w r):qM [pV p 0] h=A4 (iV (l_ D:Nat),h):=by
 have l0:B9 (ro h) (pV p 0)=A4 (sV q 0 (l_ D) 256):=B8 k.ro.1 rfl rfl;have key:A0P 0 [pV p 0] (ro h)=A4 (iV (l_ D:Nat),ro h):=by
  rw [B6i];simp only [esc,l0]
 exact B2M key rfl
def C39{no:Nat}(k:IsDk h p q D w r)(Y8:no<l_ D):bJ [pV p 0,iV (no:Int)] h=A4 (iV 0,h):=by
 have l0:B9 (ro h) (pV p 0)=A4 (sV q 0 (l_ D) 256):=B8 k.ro.1 rfl rfl;have l3:B9 (ro h) (pV p 3)=A4 (bV A6):=B8 k.ro.1 rfl rfl;have c0:¬ (no:Int)<0:=by omega
 have c1:¬ (no:Int)>=(l_ D:Nat):=by omega
 have key:A2Q 0 [pV p 0,iV (no:Int)] (ro h)=A4 (iV 0,ro h):=by
  rw [B7O];simp only [esc,l0,l3,c0,c1]
 exact B3U key rfl
def C5m{a b:Nat}(k:IsDk h p q D w r)(ha:rd h a=rT [o0])(hb:rd h b=rT [.p p 0])(hw:0<=w/\w<1000) :
  R6 [pV a 0,pV b 0] h=A4 (.t [],h.set p (rT (dkC q (l_ D) (w+1) r))):=by
 refine B05 (n:=0) ?_;have l1:B9 h (pV a 0)=A4 (iV 0):=B8 ha rfl rfl;have l2:B9 h (pV b 0)=A4 (pV p 0):=B8 hb rfl rfl;have l3:B9 h (pV p 4)=A4 (iV w):=B8 k.row rfl rfl;have s1:I8 h (pV p 4) (iV (w+1))=A4 (h.set p (rT (dkC q (l_ D) (w+1) r))):=by rw [I9 k.row (by simp [dkC])];rfl
 have ww:E8r .i64 (w+1)=w+1:=wrap_i64 (by omega) (by omega);rw [B0C];simp only [esc,l1,l2,l3,ww,s1];rfl
def A8m{no:Nat}(k:IsDk h p q D w r)(hD:okD D)(hb:l_ b=256)(Y8:no<l_ D)(hw:0<=w/\w<1000) :
  ∃ h',xZ [pV p 0,iV (no:Int),.a (B4 b)] h=A4 (iV 0,h')/\IsDk h' p q (D.set no b) (w+1) r/\But p q h h':=by
 have kp:=E1 k.row;have kq:=E1 k.blk;obtain ⟨G,hG⟩:=xEq (h++[rT [.p p 0],rT (B4 b),rT [o0]]);have kG:IsDk G p q D w r:=by rw [hG];exact k.more _
 have lG:l_ G=l_ h+3:=by rw [hG];simp
 have r0:rd G (l_ h)=rT [.p p 0]:=by rw [hG,G3];rfl
 have r1:rd G (l_ h+1)=rT (B4 b):=by rw [hG,gP];rfl
 have r2:rd G (l_ h+2)=rT [o0]:=by rw [hG,gP];rfl
 have hm:=C39 kG Y8;have l0:B9 G (pV (l_ h) 0)=A4 (pV p 0):=B8 r0 rfl rfl;have lb:C9 G 256 (pV (l_ h+1) 0)=A4 (.a (B4 b)):=C8 r1 (by rw [B5,hb]);have l2:B9 G (pV (l_ h+2) 0)=A4 (iV 0):=B8 r2 rfl rfl;have s2:I8 G (pV (l_ h+2) 0) (iV 0)=A4 G:=by
  rw [I9 r2 (by simp),hG];simp
 have d0:B9 G (pV p 0)=A4 (sV q 0 (l_ D) 256):=B8 kG.row rfl rfl;have d2:B9 G (pV p 2)=A4 (bV A6):=B8 kG.row rfl rfl;have ad:F0 256 (sV q 0 (l_ D) 256) (iV (no:Int))=A4 (pV q (no*256)):=by rw [E4 Y8];simp
 have sd:F7 G 256 (pV q (no*256)) (.a (B4 b))=A4 (G.set q (rT (E3 (D.set no b)))):=A4w kG.blk hD hb Y8;obtain ⟨H,hH⟩:=xEq (G.set q (rT (E3 (D.set no b))));have kH:IsDk H p q (D.set no b) w r:=by
  rw [hH];refine ⟨k.ne,?_,?_⟩
  ·rw [B7 (Ne.symm k.ne),E80];exact kG.row
  ·rw [D3 (by omega)]
 have q0:rd H (l_ h)=rT [.p p 0]:=by rw [hH,B7 (by omega)];exact r0
 have q2:rd H (l_ h+2)=rT [o0]:=by rw [hH,B7 (by omega)];exact r2
 have s3:I8 H (pV (l_ h+2) 0) (iV 0)=A4 H:=by
  rw [I9 q2 (by simp)];have:H.set (l_ h+2) (rT ([o0].set 0 o0))=H:=by
   rw [rd_some] at q2;refine E9z λi=>?_
   rw [E9n];split
   ·rename_i e;subst e;have hl:=(E8p.1 q2).1;rw [C4 hl,q2];rfl
   ·rfl
  rw [this]
 have hW:=C5m kH q2 q0 hw;have hcd:C0b R6 (.c (.f 167 [(l_ h+2,0),(l_ h,0)])) H=A4 (.t [],H.set p (rT (dkC q (D.set no b).length (w+1) r))):=hW;have l4:B9 (H.set p (rT (dkC q (D.set no b).length (w+1) r))) (pV (l_ h+2) 0)=A4 (iV 0):=B8 (by rw [B7 (by omega)];exact q2) rfl rfl;refine ⟨H.set p (rT (dkC q (D.set no b).length (w+1) r)),?_,⟨k.ne,?_,?_⟩,?_⟩
 ·rw [B3S];have e1:cells? (pV p 0)=A4 [.p p 0]:=rfl;have e2:cells? (.a (B4 b))=A4 (B4 b):=rfl;have mf:A32 167 [pV (l_ h+2) 0,pV (l_ h) 0]=A4 (.c (.f 167 [(l_ h+2,0),(l_ h,0)])):=rfl;simp only [e1,e2,C7,E8t,E89,E8I,E8o,E8w,E8X,E8A,Nat.reduceAdd,<-hG];simp only [esc,l0,hm,s2,l2,mf,d0,d2,lb,ad,sd,<-hH,s3,hcd,l4]
 ·rw [D3 (by rw [hH];simp;omega)]
 ·rw [B7 k.ne];exact kH.blk
 ·refine But.set ?_ (.inr (.inl rfl));rw [hH];refine But.set ?_ (.inr (.inr rfl));rw [hG];exact (But.refl p q h).more _
def D2h{no:Nat}(k:IsDk h p q D w r)(hD:okD D)(Y8:no<l_ D)(hr:0<=r/\r<1000) :
  ∃ h',A0U [pV p 0,iV (no:Int)] h=A4 (.t [.a (B4 D[no]),.c o0],h')/\IsDk h' p q D w (r+1)/\But p q h h':=by
 have kp:=E1 k.row;have kq:=E1 k.blk;obtain ⟨G,hG⟩:=xEq (h++[rT [.p p 0],rT (B4 (zeros 256))]);have kG:IsDk G p q D w r:=by rw [hG];exact k.more _
 have lG:l_ G=l_ h+2:=by rw [hG];simp
 have r0:rd G (l_ h)=rT [.p p 0]:=by rw [hG,G3];rfl
 have r1:rd G (l_ h+1)=rT (B4 (zeros 256)):=by rw [hG,gP];rfl
 have hm:=C39 kG Y8;have l0:B9 G (pV (l_ h) 0)=A4 (pV p 0):=B8 r0 rfl rfl;have d0:B9 G (pV p 0)=A4 (sV q 0 (l_ D) 256):=B8 kG.row rfl rfl;have ad:F0 256 (sV q 0 (l_ D) 256) (iV (no:Int))=A4 (pV q (no*256)):=by rw [E4 Y8];simp
 have ld:C9 G 256 (pV q (no*256))=A4 (.a (B4 D[no])):=by
  rw [S7 kG.blk (by rw [H9 hD];omega) rfl,qS hD Y8]
 have sb:F7 G 256 (pV (l_ h+1) 0) (.a (B4 D[no]))=A4 (G.set (l_ h+1) (rT (B4 D[no]))):=storeAll r1 (by rw [B5,zeros_length]) (by rw [B5,hD.at Y8]);obtain ⟨H,hH⟩:=xEq (G.set (l_ h+1) (rT (B4 D[no])));have kH:IsDk H p q D w r:=by rw [hH];exact kG.setO (by omega) (by omega)
 have q0:rd H (l_ h)=rT [.p p 0]:=by rw [hH,B7 (by omega)];exact r0
 have q1:rd H (l_ h+1)=rT (B4 D[no]):=by rw [hH,D3 (by omega)]
 have ww:E8r .i64 (r+1)=r+1:=wrap_i64 (by omega) (by omega);have h1:Z3 [pV (l_ h) 0] H=A4 (.t [],H.set p (rT (dkC q (l_ D) w (r+1)))):=by
  refine B2L (n:=0) ?_;have l1:B9 H (pV (l_ h) 0)=A4 (pV p 0):=B8 q0 rfl rfl;have l3:B9 H (pV p 5)=A4 (iV r):=B8 kH.row rfl rfl;have s1:I8 H (pV p 5) (iV (r+1))=A4 (H.set p (rT (dkC q (l_ D) w (r+1)))):=by rw [I9 kH.row (by simp [dkC])];rfl
  rw [B2C];simp only [esc,l1,l3,ww,s1];rfl
 have hcd:C0b Z3 (.c (.f 168 [(l_ h,0)])) H=A4 (.t [],H.set p (rT (dkC q (l_ D) w (r+1)))):=h1;have l4:C9 (H.set p (rT (dkC q (l_ D) w (r+1)))) 256 (pV (l_ h+1) 0)=A4 (.a (B4 D[no])):=C8 (by rw [B7 (by omega)];exact q1) (by rw [B5,hD.at Y8]);refine ⟨H.set p (rT (dkC q (l_ D) w (r+1))),?_,⟨k.ne,?_,?_⟩,?_⟩
 ·rw [B6q];have e1:cells? (pV p 0)=A4 [.p p 0]:=rfl;have mf:A32 168 [pV (l_ h) 0]=A4 (.c (.f 168 [(l_ h,0)])):=rfl;have ez:E8l 256 (Cell.i .u8 0)=B4 (zeros 256):=G9 256;simp only [e1,ez,C7,E8t,E89,E8I,E8o,E8w,E8X,E8A,<-hG];simp only [esc,l0,hm,mf,d0,ad,ld,sb,<-hH,hcd,l4]
 ·rw [D3 (by rw [hH];simp;omega)]
 ·rw [B7 k.ne];exact kH.blk
 ·refine But.set ?_ (.inr (.inl rfl));rw [hH];refine But.set ?_ (.inl (by omega));rw [hG];exact (But.refl p q h).more _
def C9G(k:IsDk h p q D w r)(hD:okD D)(hl:l_ D<=512):xY [pV p 0] h=A4 (sV (l_ h) 0 (l_ D) 256,h++[rT (E3 D)]):=by
 obtain ⟨G,hG⟩:=xEq (ro h++[rT [],rT []]);have d0:B9 G (pV p 0)=A4 (sV q 0 (l_ D) 256):=by rw [hG];exact B8 (B6 k.ro.1) rfl rfl
 have hQ:Has G (sV q 0 (l_ D) 256) 256 (l_ D) (E3 D):=by
  rw [hG];exact Has.row (B6 k.ro.2) (H9 hD) (dO D)
 have rI:rd G ((ro h).length+1)=rT []:=by rw [hG,gP];rfl
 have ho:Out (ro h).length G (sV ((ro h).length+1) 0 0 256) 256 0 []:=⟨rfl,(ro h).length+1,rfl,by omega,rI⟩;obtain ⟨id,v',h',e1,e2,e3,_⟩:=ho.app (m:=l_ D) (by omega) hQ.add (by rw [H9 hD]) (by omega);have key:xM 0 [pV p 0] (ro h)=A4 (v',h'):=by
  rw [B3j];have ef:F6 [] []=A4 []:=rfl;simp only [E8t,E89,E8I,E8o,E8w,E8X,E8A,ef,C7,<-hG];simp only [esc,d0,e2]
 rw [E8A,E8I] at e3;exact B2K key (by rw [G8] at e3;exact e3) fQ
end
section
variable (n m m2:Nat) (a0:Val) (h:A9)
def A6a:FD A8:=⟨px 0X118f2003a238138750502012b20140062240386121942032b201042,[.c .np],[.eqN A6 A6 (.t 3),.mkMap,.build ([.np,.nm,.ns,o0]) [(0,1,(.t 5)),(1,1,(.t 6))]],[.tmp 2],[]⟩
def C3G:=A6a.R
def C5Y:=mR C3G A6a (tT []) n [a0] h
def C3x:=A6a.K Tryz.func147
def B3O:=A6a.Q
def C6o:SOk A8 147 B3O:=C3x.ok
def C6n:OfT C3G B3O:=C3x.of
end
section
variable (n m m2:Nat) (a0 a1 x0 x3 x5 x7 x8:Val) (h:A9)
def aH:FD A8:=⟨px 0X17ff400143535f4881877d0402017cf401cc121900001722410321c87a021ef4279f1a00181a3532017301633f31802376c050192d434101934af7050026c490318016bf401ac12190000003722410321a869021cd4268f19004635319e488187f17152b446200198488611a280185b2c5af4f0014343513511191033b3b188488581c7182406225002023784b0419d42011a1c181b168421541307024061201336e3185c3d041894203006053cf705002023b5c31f421b2101d301194015c000017224063210405a5011372e040196d431b2101d30154014a00001722401b6191034c1a3a4c701038728065b423131ff11ef248861c51b11828061e2c1df1b001032a31c1c181d1b18211432e270182,[],[.eqN A6 A6 (.t 16)],[.tmp 4],[D8 A6N B3c,D8 qM A0M,D8 oD A0N,D8 vK A6o,D8 yH B0u,cal B3T,D8 A5a B0p,D8 qK A3O]⟩
def B3x:=aH.R
def C5z:AtH:=aH.lj 0 n [m] [x0,x3,x5,x7]
def C5y:AtH:=aH.lj 1 n [m] [x0,x3,x5,x7,x8]
def A5f:=tT [⟨2,4,C5z⟩,⟨2,5,C5y⟩]
def B9t:=mR B3x aH A5f n [a0,a1] h
def A5R:=mL aH A5f 0 n [m] [x0,x3,x5,x7] h
def B8W:=mJ aH A5f 1 n [m] [x0,x3,x5,x7,x8] h
def B3a:=aH.K Tryz.func112
def A5c:=aH.Q
def B9W:OfT B3x A5c:=B3a.of
def A1H:FD A8:=⟨px 0X1114cf2003a2384101986e318013373f0411903016d12b2027500001b22401b1c19063681a2012682f76870681e04e681f0110324a2e070197d431132df502cf2362a61b11828062c2c2bf29001133c4882a1c181d1b6001e20128f12b202e1375000011b22410322a1e023f01822131df11cf248861c41b11828061c2c1bf1901020371a0181b196001e201512b20275001a2240387702294203112b202042,[.c .np],[.eqN A6 A6 (.t 7),.mkMap,.build ([.np,o0,o0,.i .u64 0,o0,.nm]) [(0,1,(.t 32)),(1,3,(.t 33)),(5,1,(.t 34))]],[.tmp 2,.tmp 3],[cal B6r,D8 A6M B3b,D8 qM A0M,cal C6o]⟩
def B61:=A1H.R
def C11:=mR B61 A1H (tT []) n [a0] h
def B6U:=A1H.K Tryz.func113
def A79:=A1H.Q
def C2r:OfT B61 A79:=B6U.of
end
section
variable (n m m2:Nat) (a0:Val) (h:A9)
def A3C:FD A8:=⟨px 0X12df12cf20481482c0465001a22bf12af5011828062a2c29f1f001233828071b19001a2012b11ef202c1375001a2241032042132c3181c1a043b4201319f4001030401c72b419422b12b103a3342,[.c .np],[],[.tmp 2,.tmp 3],[gG B7X C5T,gG A5c B3a,gG A79 B6U]⟩
def B9l:=A3C.R
def C4J:=mR B9l A3C (tT []) n [a0] h
def B0n:=A3C.K Tryz.func60
def A3S:=A3C.Q
def C45:SOk A8 60 A3S:=B0n.ok
def C44:OfT B9l A3S:=B0n.of
end
section
variable (n m m2:Nat) (h:A9)
def B0j:FD A8:=⟨px 0X1203649111891022a3b2022a01b1042,[],[],[.cellN 0 3],[]⟩
def B7P:=B0j.R
def C9k:=mR B7P B0j (tT []) n [] h
def C5U:=B0j.K Tryz.func23
def B7Z:=B0j.S
def C46:G0 B7P B7Z:=C5U.flat
end
section
variable (n m m2:Nat) (a0:Val) (h:A9)
def pY:FD A8:=⟨px 0X11bf2001131e1a03405219f118f301182806182c7f5001031a361c770524884a03a2342,[],[],[.tmp 2],[gG A3S B0n,D8 xY A6n]⟩
def A0Q:=pY.R
def B6j:=mR A0Q pY (tT []) n [a0] h
def A8E:=pY.K Tryz.func22
def A0V:=pY.S
def B3V:A3Q A0Q A0V:=A8E.out
end
def map40:List UInt8:=cQ [0,1,2]
def tab40:List UInt8:=H7 (zeros 256) (32*0) (cZ 2 1 0 1 (zI 7))
def D40a:Dev:=(E8l 16 (zeros 256)).set 2 tab40
def D40b:Dev:=D40a.set 1 map40
def D40:Dev:=D40b.set 0 (wO 16 8 0)
def A4d:map40.length=256:=by unfold map40 cQ;rw [fU,zeros_length]
def A4h:tab40.length=256:=by decide +kernel
def okD40a:okD D40a:=(C3d 16).set A4h
def okD40b:okD D40b:=okD40a.set A4d
def okD40:okD D40:=okD40b.set cS
def E30:D40a.length=16:=by unfold D40a;rw [E80,List.length_replicate]
def E31:D40b.length=16:=by unfold D40b;rw [E80,E30]
def A8r:l_ D40=16:=by unfold D40;rw [E80,E31]
def D1p{t:A9}(hn:t.all B7x=A5):quiet h (A4 (v,h++t))=A4 (v,h++t):=by
 have:=D1q (g:=h) (l:=[]) (l':=t) (v:=v) (List.nil_prefix) (by simpa using hn);simpa using this
def E12(h:A9):B7Z [] h=A4 (.a (L5 16 8 0),h):=by
 have key:∀ g,∃ g',B7P 0 [] g=A4 (.a (L5 16 8 0),g'):=λg=>by
  have ef:F6 [o0,o0,.i .u64 0] [(0,1,iV 16),(1,1,iV 8)]=A4 (L5 16 8 0):=rfl;have st:F7 (g++[rT [o0,o0,.i .u64 0]]) 3 (pV (l_ g) 0) (.a (L5 16 8 0))=A4 (g++[rT (L5 16 8 0)]):=by rw [I3];rfl
  have ll:ldN (rT (L5 16 8 0)) 0 3=A4 (.a (L5 16 8 0)):=rfl;rw [C9k];generalize L5 16 8 0=L at *;exact ⟨_,by simp only [esc,ef,st,H6,ll]<;>rfl⟩
 obtain ⟨g',e⟩:=key (ro h);exact C46 e rfl
def C5x(k:IsDk h p q (E8l 16 (zeros 256)) 0 0) :
  ∃ h',A5c [pV p 0,.a (L5 16 8 0)] h=A4 (iV 0,h')/\IsDk h' p q D40 3 0/\But p q h h':=by
 have kp:=E1 k.row;have kq:=E1 k.blk;have hm:P6 16 8=A5:=by decide
 have hp:=λh=>C1n (b:=16) (n:=8) (m:=0) (h:=h) (by omega) (by omega)
 simp only [hm,S8] at hp;have B6D:∀ h,vK [.a (L5 16 8 0)] h=A4 (iV 3,h):=λh=>A38
 have A5D:=λh=>B4K (b:=16) (n:=8) (m:=0) (h:=h)
 have ed:(aR 16 8).toNat=3:=by decide
 rw [ed] at A5D;have hT:∀ h,yH [.a (B4 (zeros 256)),iV 0,.a (D1 2 1 0 1 (zI 7))] h=A4 (.t [.a (B4 tab40),.c o0],h):=λh=>B7F (j:=0) (k:=2) (l:=1) (s:=0) (p:=1) (d:=zI 7) (b:=zeros 256) (h:=h) zeros_length rfl (by omega) (by decide)
 obtain ⟨G,hG⟩:=xEq (h++[rT (L5 16 8 0),rT (B4 (wO 16 8 0))]);have lG:l_ G=l_ h+2:=by rw [hG];simp
 have kG:IsDk G p q (E8l 16 (zeros 256)) 0 0:=by rw [hG];exact k.more _
 have r0:rd G (l_ h)=rT (L5 16 8 0):=by rw [hG,G3];rfl
 have r1:rd G (l_ h+1)=rT (B4 (wO 16 8 0)):=by rw [hG,gP];rfl
 obtain ⟨h1,w1,k1,b1⟩:=A8m (no:=2) (b:=tab40) (kG.more [rT (B4 tab40)]) (C3d 16) A4h (by simp) (by omega);have x1:rd h1 (l_ h)=rT (L5 16 8 0):=by rw [b1.2 _ (by simp;omega) (by omega) (by omega)];exact B6 r0
 have y1:rd h1 (l_ h+1)=rT (B4 (wO 16 8 0)):=by rw [b1.2 _ (by simp;omega) (by omega) (by omega)];exact B6 r1
 have lh1:=b1.1;rw [E8o] at lh1;have kO:=k1.more [rT (encI (upto 3))];obtain ⟨h2,w2,k2,b2⟩:=A8m (no:=1) (b:=map40) kO okD40a A4d (by simp) (by omega);have y2:rd h2 (l_ h+1)=rT (B4 (wO 16 8 0)):=by rw [b2.2 _ (by simp;omega) (by omega) (by omega)];exact B6 y1
 have lh2:=b2.1;rw [E8o] at lh2;obtain ⟨h3,w3,k3,b3⟩:=A8m (no:=0) (b:=wO 16 8 0) k2 okD40b cS (by simp) (by omega);have hC:=A8k (v:=sV h1.length 0 3 1) (nv:=3) (l:=[0,1,2]) (h:=h1++[rT (encI (upto 3))]) (by decide) (by decide) (Has.tr (cs:=encI (upto 3)) (by simp) rfl rfl);have eC:cQ [0,1,2]=map40:=rfl;rw [eC] at hC;refine ⟨h3,?_,k3,?_⟩
 ·refine B9W (n:=9) ?_;have hSz:=C0h kG;have lR:((E8l 16 (zeros 256)).length:Int)=16:=rfl;rw [lR] at hSz;have eS:F7 (h++[rT (L5 16 8 0),rT (B4 (zeros 256))]) 256 (pV (l_ h+1) 0) (.a (B4 (wO 16 8 0)))=A4 G:=by
   rw [storeAll (cs:=B4 (zeros 256)) (by rw [gP];rfl) (by rw [B5,zeros_length]) (by rw [B5,cS]),hG,B5r];rfl
  have l3:C9 (h++[rT (L5 16 8 0)]) 3 (pV (l_ h) 0)=A4 (.a (L5 16 8 0)):=by rw [H6];rfl
  have g0:B9 G (pV (l_ h) 0)=A4 (iV 16):=B8 r0 rfl rfl;have g3:C9 G 3 (pV (l_ h) 0)=A4 (.a (L5 16 8 0)):=C8 r0 rfl;have ef:F6 [o0,o0,o0,o0,o0,o0,o0,o0,o0,o0,o0] [(0,1,iV 2),(1,1,iV 1),(3,1,iV 1)]=A4 (D1 2 1 0 1 (zI 7)):=rfl;have lz:C9 (G++[rT (B4 (zeros 256))]) 256 (pV (l_ G) 0)=A4 (.a (B4 (zeros 256))):=C8 (by rw [G3];rfl) (by rw [B5,zeros_length]);have sz:F7 (G++[rT (B4 (zeros 256))]) 256 (pV (l_ G) 0) (.a (B4 tab40))=A4 (G++[rT (B4 tab40)]):=by
   rw [storeAll (cs:=B4 (zeros 256)) (by rw [G3];rfl) (by rw [B5,zeros_length]) (by rw [B5,A4h]),fX];rfl
  have lt:C9 (G++[rT (B4 tab40)]) 256 (pV (l_ G) 0)=A4 (.a (B4 tab40)):=C8 (by rw [G3];rfl) (by rw [B5,A4h]);have h13:C9 h1 3 (pV (l_ h) 0)=A4 (.a (L5 16 8 0)):=C8 x1 rfl;have h26:C9 h2 256 (pV (l_ h+1) 0)=A4 (.a (B4 (wO 16 8 0))):=C8 y2 (by rw [B5,cS]);have cl:cells? (.a (L5 16 8 0))=A4 (L5 16 8 0):=rfl;have c2:((2:Nat):Int)=2:=rfl;have c1:((1:Nat):Int)=1:=rfl;have c0:((0:Nat):Int)=0:=rfl;rw [c2] at w1;rw [c1] at w2;rw [c0] at w3;have wr2:E8r .i64 (1+1)=2:=rfl;have wr3:E8r .i64 (2+1)=3:=rfl;have l23:(2:Int)<3:=by decide
  have l33:¬ (3:Int)<3:=by decide
  have e4:G++[rT (B4 (zeros 256))]=G++[rT (B4 (zeros 256))]:=rfl;rw [B9t,G9];generalize B4 tab40=T at *;generalize B4 map40=M at *;generalize B4 (wO 16 8 0)=S at *;generalize hZ:B4 (zeros 256)=Z at *;generalize encI (upto 3)=U at *;generalize D1 2 1 0 1 (zI 7)=I at *;generalize L5 16 8 0=L at *;simp only [esc,cl,l3,hp,eS,hSz,g0,pC,wr2];rw [A5R,G9,hZ];simp only [esc,g3,B6D,l23,pC,wr2,lz,ef,hT,sz,lt,B8W,w1,wr3];rw [A5R,G9,hZ];have hq:=D1p (h:=h1) (t:=[rT U]) (v:=sV h1.length 0 3 1) rfl;simp only [esc,h13,B6D,l33,pC,A5D,hq,hC,w2,h26,w3]
 ·refine But.trans (h':=h1) ?_ (But.trans (h':=h2) ?_ b3)
  ·refine But.trans (h':=G++[rT (B4 tab40)]) ?_ b1;rw [hG];exact ((But.refl p q h).more _).more _
  ·refine But.trans (h':=h1++[rT (encI (upto 3))]) ((But.refl p q h1).more _) b2
def E6P:okS (wO 16 8 0)=A5:=by decide +kernel
def E5Q:D2C (wO 16 8 0)=L5 16 8 0:=by decide +kernel
def C8N(k:IsDk h p q D40 3 0) :
  ∃ v h',A79 [.c (.p p 0)] h=A4 (.t [.c v,.c o0],h')/\IsDk h' p q D40 3 1:=by
 obtain ⟨h1,e1,k1,b1⟩:=D2h (no:=0) k okD40 (by rw [A8r];omega) (by omega);have kp:=E1 k1.row;have kq:=E1 k1.blk;have e0:D40[0]'(by rw [A8r];omega)=wO 16 8 0:=by unfold D40;rw [List.getElem_set_self]
 rw [e0] at e1;have hG:=λh=>B1V (b:=wO 16 8 0) (h:=h) cS
 rw [E6P,S8,E5Q] at hG;have c0:((0:Nat):Int)=0:=rfl;rw [c0] at e1;obtain ⟨T,hT⟩:∃ T:A9,T=[rT (B4 (wO 16 8 0)),rT (L5 16 8 0)]:=⟨_,rfl⟩;obtain ⟨H,hH⟩:=xEq (h1++T);have kH:IsDk H p q D40 3 (0+1):=by rw [hH];exact k1.more _
 have hS:=C0h kH;have e16:(l_ D40:Int)=16:=by rw [A8r];rfl
 rw [e16] at hS;have hN:∀ g,B3O [.c (.p p 0)] g=A4 (.c (.p (l_ g+1) 0),g++[A4 (Q1 []),rT [.p p 0,.m (l_ g),.ns,o0]]):=λg=>by
  refine C6n (n:=0) ?_;have ef:F6 [Cell.np,.nm,.ns,o0] [(0,1,.c (.p p 0)),(1,1,.c (.m (l_ g)))]=A4 [.p p 0,.m (l_ g),.ns,o0]:=rfl;rw [C5Y];simp only [esc,ef]
 have s1:F7 (h1++[rT (B4 (zeros 256))]) 256 (.c (.p h1.length 0)) (.a (B4 (wO 16 8 0)))=A4 (h1++[rT (B4 (wO 16 8 0))]):=by
  rw [storeAll (cs:=B4 (zeros 256)) (by rw [G3];rfl) (by rw [B5,zeros_length]) (by rw [B5,cS]),fX];rfl
 have l1:C9 (h1++[rT (B4 (wO 16 8 0))]) 256 (.c (.p h1.length 0))=A4 (.a (B4 (wO 16 8 0))):=C8 (by rw [G3];rfl) (by rw [B5,cS]);have s2:F7 (h1++[rT (B4 (wO 16 8 0)),rT [o0,o0,.i .u64 0]]) 3 (.c (.p (h1.length+1) 0)) (.a (L5 16 8 0))=A4 H:=by
  rw [storeAll (n:=3) (cs:=[o0,o0,.i .u64 0]) (by rw [gP];rfl) rfl rfl,B5r,hH,hT];rfl
 have l2:B9 H (.c (.p (h1.length+1) 0))=A4 (.c (cI 16)):=B8 (cs:=L5 16 8 0) (rw:=A5) (by rw [hH,hT,gP];rfl) rfl rfl;have l3:C9 H 3 (.c (.p (h1.length+1) 0))=A4 (.a (L5 16 8 0)):=C8 (by rw [hH,hT,gP];rfl) rfl;obtain ⟨H2,hH2⟩:=xEq ((H++[A4 (Q1 []),A4 (Q1 []),rT [.p p 0,.m (l_ H+1),.ns,o0]])++[rT [.p (l_ H+2) 0,cI 16,cI 8,.i .u64 0,o0,.m (l_ H)]]);refine ⟨.p (l_ H+3) 0,H2,?_,by rw [hH2];exact (kH.more _).more _⟩
 ·refine C2r (n:=0) ?_;have hNH:=hN (H++[A7]);have qs:(H++[A7]).length+1=l_ H+2:=by simp
  rw [qs] at hNH;have ef:F6 [Cell.np,o0,o0,.i .u64 0,o0,.nm] [(0,1,.c (.p (l_ H+2) 0)),(1,3,.a (L5 16 8 0)),(5,1,.c (.m (l_ H)))]=A4 [.p (l_ H+2) 0,cI 16,cI 8,.i .u64 0,o0,.m (l_ H)]:=rfl;rw [C11,G9];generalize B4 (wO 16 8 0)=S at *;generalize hZ:B4 (zeros 256)=Z at *;generalize L5 16 8 0=L at *;simp only [esc,e1,s1,l1,hG,s2,l2,hS,eq_self];have hq:=D1p (h:=H++[A7]) (t:=[A4 (Q1 []),rT [.p p 0,.m (H++[A7]).length,.ns,o0]]) (v:=.c (.p (l_ H+2) 0)) (by simp [C8i,D1g]);simp only [E8o,E8w,E8X,E8A] at hq hNH;simp only [esc] at hq hNH;simp only [esc,Nat.reduceAdd,hNH,hq,l3,ef,hH2]
def D6e:∃ p q v h',A3S [.a (L5 16 8 0)] h=A4 (.t [.c (.p p 0),.c v],h')/\IsDk h' p q D40 3 1/\(l_ h)<=q/\(l_ h)<=p:=by
 obtain ⟨G,hG⟩:=xEq (h++[rT (L5 16 8 0)]);have lG:l_ G=l_ h+1:=by rw [hG];simp
 have hN:=D4a (N:=16) (h:=G) (by omega) (by omega);obtain ⟨H,hH⟩:=xEq (G++[rT (E3 (E8l 16 (zeros 256))),rT (dkC (l_ G) 16 0 0)]);rw [<-hH] at hN;have kH:IsDk H (l_ G+1) (l_ G) (E8l 16 (zeros 256)) 0 0:=by
  refine ⟨by omega,?_,?_⟩
  ·rw [hH,gP];rfl
  ·rw [hH,G3];rfl
 obtain ⟨h1,e1,k1,b1⟩:=C5x kH;obtain ⟨v,h2,e2,k2⟩:=C8N k1;refine ⟨l_ G+1,l_ G,v,h2,?_,k2,by omega,by omega⟩;refine C44 (n:=0) ?_;have l0:B9 G (pV (l_ h) 0)=A4 (iV 16):=B8 (cs:=L5 16 8 0) (rw:=A5) (by rw [hG,G3];rfl) rfl rfl;have l3:C9 H 3 (pV (l_ h) 0)=A4 (.a (L5 16 8 0)):=C8 (by rw [hH];refine B6 ?_;rw [hG,G3];rfl) rfl;have cl:cells? (.a (L5 16 8 0))=A4 (L5 16 8 0):=rfl;have c16:((16:Nat):Int)=16:=rfl;rw [c16] at hN;rw [C4J];generalize L5 16 8 0=L at *;simp only [esc,cl,<-hG,l0,hN,l3,e1,eq_self,e2]
def D2l(h:A9):A0V [.a (L5 16 8 0)] h=A4 (sV (l_ h) 0 16 256,h++[rT (E3 D40)]):=by
 have key:∀ g,∃ v g',A0Q 0 [.a (L5 16 8 0)] g=A4 (v,g')/\Out (l_ g) g' v 256 16 (E3 D40):=λg=>by
  obtain ⟨G,hG⟩:=xEq (g++[rT (L5 16 8 0),rT []]);have lG:l_ G=l_ g+2:=by rw [hG];simp
  obtain ⟨p,q,v,h',e1,k,_,_⟩:=D6e (h:=G);have hI:=C9G k okD40 (by rw [A8r];omega);have l3:C9 G 3 (pV (l_ g) 0)=A4 (.a (L5 16 8 0)):=C8 (by rw [hG,G3];rfl) rfl;have cl:cells? (.a (L5 16 8 0))=A4 (L5 16 8 0):=rfl;have hl:l_ G<=(l_ h'):=(C45 _ _ _ _ e1).2.2;refine ⟨sV (l_ h') 0 16 256,h'++[rT (E3 D40)],?_,by rw [H9 okD40,A8r],l_ h',rfl,by omega,N8⟩;have ll:l_ D40=16:=A8r;rw [ll] at hI;rw [B6j];generalize L5 16 8 0=L at *;simp only [esc,cl,<-hG,l3,e1,hI]
 obtain ⟨v,g',e,ho⟩:=key (ro h);exact B3V e (by rw [G8] at ho;exact ho) fQ
end Go.Proofs.YtbipebfdappanaaGreat
