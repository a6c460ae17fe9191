/- What the proof of this claim leans on, part 5. -/
import Derived.Test.YtbnkgnfhgbhblaaGreatFMendCountsp4
set_option linter.all false
set_option maxRecDepth 100000
open Go Go.Esc
noncomputable section
open Bool renaming and_eq_true→E5S,false_and→E51,not_false→E6Q,not_true→E6V,true_and→E55,false→A6,true→A5
open Int renaming cast_ofNat_Int→E6r,eq_ofNat_of_zero_le→E6C,toNat_natCast→E6c
open IntKind renaming wrap→E5U
open List renaming all_cons→E6B,all_eq_true→E6M,append_assoc→E5Y,append_nil→E6m,cons_append→E6q,drop_drop→E6P,drop_eq_getElem_cons→E5X,drop_of_length_le→E56,drop_zero→E6a,getD_eq_getElem?_getD→E5Z,getElem?_append_left→E6t,getElem?_append_right→E57,getElem?_cons_succ→E6F,getElem?_drop→E6J,getElem?_eq_getElem→E5P,getElem?_eq_none→E6x,getElem?_take_of_lt→E6s,getElem_mem→E6v,length_append→E5T,length_cons→E52,length_drop→E6O,length_nil→E6h,length_replicate→E6n,length_set→E6o,length_take→E6l,map_append→E6N,map_cons→E6X,mem_cons_of_mem→E6f,mem_cons_self→E6g,mem_of_getElem?→E6j,mem_or_eq_of_mem_set→E6A,nil_append→E59,range→E6p,replicate→E5R,replicate_succ→E6k,set_append_right→E6u,set_cons_succ→E6H,set_cons_zero→E6G,take_of_length_le→E53,take_succ_eq_append_getElem→E58,take_zero→E6U
open Nat renaming add_zero→E6E,le_refl→E5V,le_trans→E6w,min_eq_left→E6R,sub_self→E6D,zero_add→E6e
open Option renaming bind_some→E54,getD_none→E6L,getD_some→E6z,isSome_none→E6i,isSome_some→E6b,none→A7,some→A4
open Option.some renaming injEq→E5W
open Go.Proofs.Tryz renaming prog→A8
namespace Go.Proofs.YtbnkgnfhgbhblaaGreat
def C74:∀ {l:List (List Int)} {i k:Nat} {v:Int} (h:∀ x∈l,x.length=11) (hi:i<l.length) (hk:k<11),(U8 l).set (i*11+k) (.i .i64 v)=U8 (l.set i ((l.getD i []).set k v))
 | x::l,0,k,v,h,_,hk=>by
  have hx:=h x (E6g ..);rw [aU,Nat.zero_mul,E6e,List.set_append_left _ _ (by rw [B7];omega),X5];rfl
 | x::l,i+1,k,v,h,hi,hk=>by
  have hx:=h x (E6g ..);have ih:=C74 (l:=l) (i:=i) (k:=k) (v:=v) (λy hy=>h y (E6f _ hy)) (by simpa using hi) hk;rw [aU,E6u _ _ (by rw [B7,hx];omega),B7,hx,show (i+1)*11+k-11=i*11+k by omega,ih];rfl
def C63:∀ {l:List (List Int)} {i k:Nat} (h:∀ x∈l,x.length=11) (hi:i<l.length) (hk:k<11),(U8 l)[i*11+k]?=A4 (.i .i64 ((l.getD i []).getD k 0))
 | x::l,0,k,h,_,hk=>by
  have hx:=h x (E6g ..);rw [aU,Nat.zero_mul,E6e,E6t (by rw [B7];omega),I1,E5P (by omega)];simp [List.getD,show k<x.length by omega]
 | x::l,i+1,k,h,hi,hk=>by
  have hx:=h x (E6g ..);have ih:=C63 (l:=l) (i:=i) (k:=k) (λy hy=>h y (E6f _ hy)) (by simpa using hi) hk;rw [aU,E57 (by rw [B7,hx];omega),B7,hx,show (i+1)*11+k-11=i*11+k by omega,ih];rfl
def bB (c:Cl) (a:Int):Cl:=if (c.ino.getD a.toNat []).getD 0 0=1 then { c with ino:=c.ino.set a.toNat ((c.ino.getD a.toNat []).set 1 ((c.lnk a).getD 0)) } else c
def T7 (c:Cl) (L:List Int):Cl:=L.foldl bB c
section
variable {D:Dev} {n m:Int} {f:Cell} {g:B5} {r:Nat} {c:Cl} {h:B5}
def WP.setLink (hv:∃ id cs,f=.f id cs) (P:WP D n m f g r c h) {k:Nat} (hk:k<c.ino.length) (v:Int) :
  ∃ id h',B8 h (pV r 5)=A4 (sV id 0 c.ino.length 11)/\rd h id=rT (U8 c.ino)/\I5 h (pV id (k*11+1)) (iV v)=A4 h'/\WP D n m f g r { c with ino:=c.ino.set k ((c.ino.getD k []).set 1 v) } h'/\Fr r h h' /\
   ∀ rid nn,rd h r≠A7->(∃ cs,rd h r=rT cs/\cs[4]?=A4 (.sl rid 0 nn 1))->rd h' r=rd h r/\rd h' rid=rd h rid:=by
 obtain ⟨xr,xi,xt,xb,xm,ml,mp,es1,es2,g1,g2,g3,g4,g5,g6,g7,g8,g9,g10,g11⟩:=id P.row;rcases g4 with ⟨e,_,_⟩ | ⟨t,rfl,t1,t2,t3⟩
 ·omega
 ·have l1:B8 h (pV r 5)=A4 (sV t 0 c.ino.length 11):=B9 g1 rfl rfl;have st:=G8 (x:=.i .i64 v) (off:=k*11+1) t1 (by rw [t2];omega);rw [C74 P.il hk (by omega)] at st;obtain ⟨q1,q2,q3,q4,q5⟩:=P.mod (off:=5) (x:=.sl t 0 c.ino.length 11) hv g1 rfl rfl (rT (U8 (c.ino.set k ((c.ino.getD k []).set 1 v))));have hkl:(c.ino.getD k []).length=11:=by
   rw [E5Z,E5P hk];exact P.il _ (E6v hk)
  have P6:∀ x∈c.ino.set k ((c.ino.getD k []).set 1 v),x.length=11:=λx hx=>by
   rcases E6A hx with h1 | h1
   ·exact P.il x h1
   ·rw [h1,E6o];exact hkl
  refine ⟨t,_,l1,t1,st,⟨q2,P.ge,λid hn=>P.low id ((Nam.same q3).1 hn),P6,by simpa using P.ilen,P.tlen,xr,_,xt,xb,xm,ml,mp,es1,es2,by rw [q3];exact g1,g2,g3.kept λid e=>q4 4 _ _ (by decide) rfl e,.inr ⟨t,by simp,q5,by rw [R6 P6],t3⟩,g5.kept λid e=>q4 6 _ _ (by decide) rfl e,g6.kept λid e=>q4 7 _ _ (by decide) rfl e,g7.kept λid e=>q4 8 _ _ (by decide) rfl e,?_,g9,?_,g11⟩,q1,λrid nn _ hc=>⟨q3,?_⟩⟩
  ·rw [q4 10 (.m ml) ml (by decide) rfl rfl];exact g8
  ·rw [q4 11 (.m mp) mp (by decide) rfl rfl];exact g10
  ·obtain ⟨cs,hc1,hc2⟩:=hc;rw [g1] at hc1;cases hc1;exact q4 4 _ rid (by decide) hc2 rfl
def D7t {pr q rid:Nat} {R:List Int} {h0:B5} (hv:IsView g f D) (hR:R.length<=1000) (hrg:∀ a∈R,1<=a/\a<=n) :
  ∀ (e i M:Nat) (c:Cl) (h:B5),i+e=R.length->e<M->WP D n m f g r c h->Fr r h0 h->(∃ z,z.length=6/\LocV h r pr z)->(∃ cs,rd h r=rT cs/\cs[4]?=A4 (.sl rid 0 R.length 1))->rd h rid=rT (encI R) ->
  ∃ M' h',B1t q M (pV pr 0) (pV r 0) (sV rid 0 R.length 1) (iV (R.length:Nat)) (iV (i:Int)) h=B1t q (M'+1) (pV pr 0) (pV r 0) (sV rid 0 R.length 1) (iV (R.length:Nat)) (iV (R.length:Nat)) h' /\
   WP D n m f g r (T7 c (R.drop i)) h'/\Fr r h0 h'/\(∃ z,z.length=6/\LocV h' r pr z):=by
 intro e
 induction e with
 | zero =>
  intro i M c h hi hM P F hz hc hr;obtain ⟨M,rfl⟩:∃ M',M=M'+1:=⟨M-1,by omega⟩;have ei:i=R.length:=by omega
  subst ei;rw [List.drop_length];exact ⟨M,h,rfl,P,F,hz⟩
 | succ e ih =>
  intro i M c h hi hM P F hz hc hr;obtain ⟨M,rfl⟩:∃ M',M=M'+1:=⟨M-1,by omega⟩;have P6:i<R.length:=by omega
  have hv2:=hv.get;have c0:((i:Int)<(R.length:Nat)):=by omega
  have w1:=D3 (show i+1<9223372036854775808 by omega);have ad:D9 1 (sV rid 0 R.length 1) (iV (i:Int))=A4 (pV rid i):=by rw [C9 P6];simp
  have la:B8 h (pV rid i)=A4 (iV R[i]):=B9 hr (by rw [I1,E5P P6];rfl) rfl;obtain ⟨ra1,ra2⟩:=hrg _ (E6v P6);rw [E5X P6];have er:∀ T,T7 c (R[i]::T)=T7 (bB c R[i]) T:=λT=>rfl
  rw [er];obtain ⟨k,hk⟩:=E6C (show 0<=R[i] by omega);rw [hk] at la ra1 ra2 ⊢;have hin:k<c.ino.length:=by rw [P.ilen];omega
  obtain ⟨id,h1,a1,a2,a3,a4,a5,a6⟩:=P.setLink hv2 hin ((c.lnk k).getD 0);obtain ⟨ml,hx,b1,b2,_⟩:=P.setLnk hv2 0 0;have b2':=b2 A6 k;have adI:D9 11 (sV id 0 c.ino.length 11) (iV (k:Int))=A4 (pV id (k*11)):=by rw [C9 hin];simp
  have lk:B8 h (pV id (k*11))=A4 (iV ((c.ino.getD k []).getD 0 0)):=B9 a2 (by have:=C63 (l:=c.ino) (i:=k) (k:=0) P.il hin (by omega);simpa using this) rfl;rw [B1u];by_cases c1:(c.ino.getD k []).getD 0 0=1
  ·have ec:bB c (k:Int)={ c with ino:=c.ino.set k ((c.ino.getD k []).set 1 ((c.lnk k).getD 0)) }:=by unfold bB;rw [E6c,if_pos c1]
   rw [ec];have T1:rd h r≠A7:=by obtain ⟨cs,h1,_⟩:=hc;rw [h1];simp
   obtain ⟨k1,k2⟩:=a6 rid R.length T1 hc;obtain ⟨z,hzl,hz⟩:=hz;obtain ⟨M',h',e1,e2⟩:=ih (i+1) M _ h1 (by omega) (by omega) a4 (F.trans a5) ⟨z,hzl,hz.fr a5⟩ (by rw [k1];exact hc) (by rw [k2];exact hr);refine ⟨M',h',?_,e2⟩;simp only [esc,Nat.reduceAdd,c0,ad,la,a1,adI,lk,c1,b1,b2',A6E,a3,B1q,w1];exact e1
  ·have ec:bB c (k:Int)=c:=by unfold bB;rw [E6c,if_neg c1]
   rw [ec];obtain ⟨M',h',e1,e2⟩:=ih (i+1) M c h (by omega) (by omega) P F hz hc hr;refine ⟨M',h',?_,e2⟩;simp only [esc,Nat.reduceAdd,c0,ad,la,a1,adI,lk,c1,B1q,w1];exact e1
def sI (c:Cl):Nat->Cl
 | 0=>c
 | k+1=>{ sI c k with taken:=(sI c k).taken.set k A5 }
def D9H {pv pr q sid K:Nat} {cv cr:List Cell} {h0:B5} (hv:IsView g f D) (hK:K<=D.length) (hK2:K<=1000) :
  ∀ (e i M:Nat) (h:B5),i+e=K->e<M->WP D n m f g r (sI c i) h->Fr r h0 h->LocV h r pv cv->LocV h r pr cr->LocV h r sid (encI (upto K)) ->
  ∃ h',C2d q M (pV pv 0) (pV pr 0) (pV r 0) (sV sid 0 K 1) (iV (K:Nat)) (iV (i:Int)) h=rQ q q (pV pv 0) (pV pr 0) (pV r 0) (iV 0) h' /\
   WP D n m f g r (sI c K) h'/\Fr r h0 h'/\LocV h' r pv cv/\LocV h' r pr cr:=by
 intro e
 induction e with
 | zero =>
  intro i M h hi hM P F hp hr hs;obtain ⟨M,rfl⟩:∃ M',M=M'+1:=⟨M-1,by omega⟩;have ei:i=K:=by omega
  subst ei;refine ⟨h,?_,P,F,hp,hr⟩;have c0:¬ ((i:Int)<(i:Nat)):=by omega
  rw [B1r];simp only [esc,c0]
 | succ e ih =>
  intro i M h hi hM P F hp hr hs;obtain ⟨M,rfl⟩:∃ M',M=M'+1:=⟨M-1,by omega⟩;have hiK:i<K:=by omega
  have c0:((i:Int)<(K:Nat)):=by omega
  have w1:=D3 (show i+1<9223372036854775808 by omega);have ad:D9 1 (sV sid 0 K 1) (iV (i:Int))=A4 (pV sid i):=by rw [C9 hiK];simp
  have la:B8 h (pV sid i)=A4 (iV (i:Int)):=B9 hs.2 (by rw [I1];simp [upto,hiK]) rfl;obtain ⟨xr,xi,xt,xb,xm,ml,mp,es1,es2,g1,_⟩:=id P.row;obtain ⟨t,rfl,t1,t2,t3⟩:=P.take (k:=i) (v:=A5) g1 (by omega);have lT:B8 h (pV r 6)=A4 (sV t 0 D.length 1):=B9 g1 rfl rfl;have hit:i<(sI c i).taken.length:=by rw [P.tlen];omega
  have adT:D9 1 (sV t 0 D.length 1) (iV (i:Int))=A4 (pV t i):=by rw [C9 (show i<D.length by omega)];simp
  have s1:I5 h (pV t i) (bV A5)=A4 (h.set t (rT (J9 ((sI c i).taken.set i A5)))):=by
   rw [G8 t1 (by simp [J9,hit])];simp [J9,List.map_set]
  obtain ⟨h',e1,e2⟩:=ih (i+1) M _ (by omega) (by omega) t2 (F.trans t3) (hp.fr t3) (hr.fr t3) (hs.fr t3);refine ⟨h',?_,e2⟩;rw [B1r];simp only [esc,Nat.reduceAdd,c0,ad,la,lT,adT,s1,w1];exact e1
end
def B50 {h2:B5} {b:Nat}:∀ (l:List Cell) (seen:List Nat),(∀ x∈l,x.flat=A5\/∃ id off n sz cs,x=.sl id off n sz/\b<=id/\rd h2 id=rT cs/\O5 cs=A5) ->
  (∀ (i j a:Nat) (x y:Cell),l[i]?=A4 x->l[j]?=A4 y->nmC x=A4 a->nmC y=A4 a->i=j)->(∀ x∈l,∀ a,nmC x=A4 a->a ∉ seen) ->
  ∃ l2 fin,S8 h2 b seen l=A4 (l2,fin)/\seen <+: fin/\l2.length=l.length/\∀ (i:Nat) (x:Cell),l[i]?=A4 x->(x.flat=A5/\l2[i]?=A4 x)\/∃ id off n sz j,x=.sl id off n sz/\l2[i]?=A4 (.sl (b+j) off n sz)/\fin[j]?=A4 id
 | [],seen,_,_,_=>⟨[],seen,rfl,List.prefix_refl _,rfl,λi x h=>by simp at h⟩
 | c::l,seen,hf,hd,hs=>by
  have hd':∀ (i j a:Nat) (x y:Cell),l[i]?=A4 x->l[j]?=A4 y->nmC x=A4 a->nmC y=A4 a->i=j:=λi j a x y h1 h2 h3 h4=>by
   have:=hd (i+1) (j+1) a x y (by simpa using h1) (by simpa using h2) h3 h4;omega
  rcases hf c (E6g ..) with hc | ⟨id,off,n,sz,cs,rfl,hb,hr,hfl⟩
  ·obtain ⟨l2,fin,e1,e2,e3,e4⟩:=B50 l seen (λx hx=>hf x (E6f _ hx)) hd' λx hx=>hs x (E6f _ hx)
   refine ⟨c::l2,fin,?_,e2,by simp [e3],λi x hi=>?_⟩
   ·unfold S8;rw [if_pos (Cell.low_of_flat hc),e1];rfl
   ·cases i with
    | zero=>simp at hi;subst hi;exact .inl ⟨hc,rfl⟩
    | succ i=>simpa using e4 i x (by simpa using hi)
  ·have hns:id ∉ seen:=hs _ (E6g ..) id rfl;obtain ⟨l2,fin,e1,e2,e3,e4⟩:=B50 l (seen++[id]) (λx hx=>hf x (E6f _ hx)) hd' λx hx a ha=>by
    rw [List.mem_append];rintro (h1 | h1)
    ·exact hs x (E6f _ hx) a ha h1
    ·simp at h1;subst h1;obtain ⟨j,hj⟩:=List.mem_iff_getElem?.1 hx;have:=hd 0 (j+1) a _ x rfl (by simpa using hj) rfl ha;omega
   have hlow:¬ (Cell.sl id off n sz).low b=A5:=by simp [Cell.low];omega
   refine ⟨.sl (b+seen.length) off n sz::l2,fin,?_,(List.prefix_append _ _).trans e2,by simp [e3],λi x hi=>?_⟩
   ·unfold S8;rw [if_neg hlow];dsimp only;rw [if_pos ⟨hb,hns,A1K hr hfl⟩,e1];rfl
   ·cases i with
    | zero =>
     simp at hi;subst hi;refine .inr ⟨id,off,n,sz,seen.length,rfl,rfl,?_⟩;obtain ⟨t,rfl⟩:=e2;simp
    | succ i=>simpa using e4 i x (by simpa using hi)
structure IsCl (h:B5) (cs:List Cell) (c:Cl):Prop where
 form:∃ xr xi xt xb xm,cs=[xr,xi,xt,xb,xm,.i .i64 c.lost]/\Has h (.c xr) 1 c.row.length (encI c.row)/\Has h (.c xi) 11 c.ino.length (U8 c.ino)/\Has h (.c xt) 1 c.taken.length (J9 c.taken)/\Has h (.c xb) 1 c.blocks.length (encI c.blocks)/\Has h (.c xm) 256 c.made.length (D5 c.made)
def I8 (D:Dev) (n:Int):Cl:=⟨[1],E5R (n+1).toNat (zI 11),E5R D.length A6,[],[],0,λ_=>A7,xY (λ_=>A7) 1 1⟩
def V1 (D:Dev) (n:Int):Cl:=ofR D n 129 0 (sI (I8 D n) (mS D.length n).toNat)
def J1 (D:Dev) (n:Int):Cl:=T7 (V1 D n) (V1 D n).row
def HeldX.canon {g h:B5} {x:Cell} {l:List Cell} {n sz r:Nat} (hx:HeldX h x l n sz r) (hf:O5 l=A5) (hlow:∀ id,nmC x=A4 id->g.length<=id):x.flat=A5\/∃ id off n sz cs,x=.sl id off n sz/\g.length<=id/\rd h id=rT cs/\O5 cs=A5:=by
 rcases hx with ⟨_,_,rfl⟩ | ⟨id,rfl,h1,h2,h3⟩
 ·exact .inl rfl
 ·exact .inr ⟨id,0,n,sz,l,rfl,hlow id rfl,h1,hf⟩
def HeldX.moved {h h2:B5} {x y:Cell} {l:List Cell} {n sz r:Nat} {fin:List Nat} (hx:HeldX h2 x l n sz r) (hn:noX l=A5) (hy:(x.flat=A5/\y=x)\/∃ id off n sz j,x=.sl id off n sz/\y=.sl (h.length+j) off n sz/\fin[j]?=A4 id):Has (h++fin.map (rd h2)) (.c y) sz n l:=by
 rcases hx with ⟨h1,h3,h4⟩ | ⟨id,rfl,h1,h3,h4⟩
 ·subst h4;rcases hy with ⟨_,rfl⟩ | ⟨_,_,_,_,_,e,_⟩
  ·exact .inl ⟨rfl,h1,h3⟩
  ·cases e
 ·rcases hy with ⟨e,_⟩ | ⟨bT,off,n',sz',j,e,rfl,hj⟩
  ·cases e
  ·cases e;refine Has.row (rw:=A5) ?_ h3 hn;unfold rd;rw [E57 (by omega),show h.length+j-h.length=j by omega,List.getElem?_map,hj];exact h1
def D2f {D:Dev} {n:Int}:∀ {e i:Nat} {c:Cl},c.row.length<=(ofR D n e i c).row.length
 | 0,_,_=>E5V _
 | e+1,i,c=>by
  unfold ofR;cases c.row[i]? with
  | none=>exact E5V _
  | some a=>exact E6w C7H D2f
def E0Q {b n:Int} (h:R7 b n=A5):mS b n<=b:=by
 obtain ⟨_,_,_,_,_,h6⟩:=J8.1 h;have:=J8.1 h;unfold mS uY A2M;rw [h];simp only [cond_true];omega
def ownR_same {c:Cl}:∀ {k:Nat},SameC c (sI c k)
 | 0=>.rfl' _
 | k+1=>by
  have h:=ownR_same (c:=c) (k:=k);exact ⟨h.row,h.ino,h.blocks,h.made,h.lost,h.lnk,h.par⟩
section
variable {D:Dev} {n m:Int} {f:Cell} {h:B5}
def D0k {g:B5} (hD:okD D) (hv:IsView g f D) (hm:R7 D.length n=A5) :
  ∃ six g',B4P 1200 [.a (vwC D.length n m f)] g=A4 (.a six,g')/\WP D n m f g (g.length+4) (J1 D n) g'/\∃ V t,rd g' (g.length+4)=rT (V++six++t)/\V.length=4/\six.length=6/\RowW n (V1 D n)/\Small (V1 D n) 128 (224*129) (33*129) (224*129):=by
 have hv2:=hv.get;obtain ⟨b16,b512,n8,n128,_,_⟩:=J8.1 hm;obtain ⟨N,hN⟩:∃ N:Nat,n+1=(N:Int):=E6C (by omega);have hCk:=λh=>cJ (b:=D.length) (n:=n) (m:=m) (h:=h)
 rw [hm,cond_true] at hCk;obtain ⟨W,hW⟩:∃ W,W=wkC D n m f (.sl (g.length+5) 0 1 1) (.sl (g.length+6) 0 N 11) (.sl (g.length+7) 0 D.length 1) .ns .ns 0 (g.length+2) (g.length+3):=⟨_,rfl⟩;obtain ⟨T,hT⟩:∃ T:B5,T=[rT (vwC D.length n m f),rT [.ns,.ns,.ns,.ns,.ns,o0],A4 (T8 []),A4 (T8 [(.i .i64 1,.c (.i .i64 1))]),rT W,rT [.i .i64 1],rT (U8 (E5R N (zI 11))),rT (J9 (E5R D.length A6))]:=⟨_,rfl⟩;have at_:∀ (k:Nat) (x:Option Row),T[k]?=A4 x->rd (g++T) (g.length+k)=x:=λk x hk=>by
  unfold rd;rw [E57 (by omega),show g.length+k-g.length=k by omega,hk];rfl
 have P6:∀ x∈E5R N (zI 11),x.length=11:=λx hx=>by rw [List.eq_of_mem_replicate hx];simp [zI]
 have P0:WP D n m f g (g.length+4) (I8 D n) (g++T):=by
  have r4:=at_ 4 (rT W) (by rw [hT];rfl);rw [hW] at r4;refine ⟨(Low.refl (E5V _)).new _,by omega,λid hn=>?_,?_,?_,?_,?_⟩
  ·obtain ⟨R,x,hR,hx,hnm⟩:=hn;rw [r4] at hR;cases hR;obtain ⟨fi,fc,rfl⟩:=hv2;simp only [wkC,List.mem_cons,List.not_mem_nil,or_false] at hx;rcases hx with rfl | rfl | rfl | rfl | rfl | rfl | rfl | rfl | rfl | rfl | rfl | rfl<;>cases hnm<;>omega
  ·intro x hx;exact P6 x (by unfold I8 at hx;dsimp only at hx;rw [hN] at hx;simpa using hx)
  ·simp [I8]
  ·simp [I8]
  ·refine ⟨_,_,_,_,_,_,_,[],[(.i .i64 1,.c (.i .i64 1))],r4,⟨λi j a x y hi hj hx hy=>?_,λx hx=>?_⟩,.inr ⟨_,rfl,at_ 5 _ (by rw [hT];rfl),rfl,by omega⟩,?_,?_,.inl ⟨rfl,rfl,rfl⟩,.inl ⟨rfl,rfl,rfl⟩,at_ 2 _ (by rw [hT];rfl),MapI.nil,at_ 3 _ (by rw [hT];rfl),MapI.nil.put 1 1⟩
   ·obtain ⟨fi,fc,rfl⟩:=hv2;have hi2:=(List.getElem?_eq_some_iff.1 hi).1;have hj2:=(List.getElem?_eq_some_iff.1 hj).1;simp only [wkC,E52,E6h] at hi2 hj2;have cases12:∀ k:Nat,k<12->k=0\/k=1\/k=2\/k=3\/k=4\/k=5\/k=6\/k=7\/k=8\/k=9\/k=10\/k=11:=λk hk=>by omega
    rcases cases12 i (by omega) with rfl | rfl | rfl | rfl | rfl | rfl | rfl | rfl | rfl | rfl | rfl | rfl<;>(cases hi;try cases hx) <;>
     (rcases cases12 j (by omega) with rfl | rfl | rfl | rfl | rfl | rfl | rfl | rfl | rfl | rfl | rfl | rfl<;>(cases hj;try simp [nmC] at hy)<;>first | rfl | omega)
   ·obtain ⟨fi,fc,rfl⟩:=hv2;simp only [wkC,List.mem_cons,List.not_mem_nil,or_false] at hx;rcases hx with rfl | rfl | rfl | rfl | rfl | rfl | rfl | rfl | rfl | rfl | rfl | rfl<;>simp [nmC]
   ·have e:(I8 D n).ino=E5R N (zI 11):=by unfold I8;rw [hN];simp
    rw [e,E6n];exact .inr ⟨_,rfl,at_ 6 _ (by rw [hT];rfl),by rw [R6 P6,E6n],by omega⟩
   ·have e:(I8 D n).taken=E5R D.length A6:=rfl;rw [e,E6n];exact .inr ⟨_,rfl,at_ 7 _ (by rw [hT];rfl),by simp [J9],by omega⟩
 have r4:=at_ 4 (rT W) (by rw [hT];rfl);have noN:∀ k:Nat,k<2->¬ Nam (g++T) (g.length+4) (g.length+k):=by
  rintro k hk ⟨R,x,hR,hx,hnm⟩;rw [r4,hW] at hR;cases hR;obtain ⟨fi,fc,rfl⟩:=hv2;simp only [wkC,List.mem_cons,List.not_mem_nil,or_false] at hx;rcases hx with rfl | rfl | rfl | rfl | rfl | rfl | rfl | rfl | rfl | rfl | rfl | rfl<;>simp [nmC] at hnm<;>omega
 have hTl:T.length=8:=by rw [hT];rfl
 have hGl:(g++T).length=g.length+8:=by rw [E5T,hTl]
 have LV:LocV (g++T) (g.length+4) g.length (vwC D.length n m f):=⟨⟨by omega,by omega,by simpa using noN 0 (by omega)⟩,by simpa using at_ 0 _ (by rw [hT];rfl)⟩;have LR:LocV (g++T) (g.length+4) (g.length+1) [.ns,.ns,.ns,.ns,.ns,o0]:=⟨⟨by omega,by omega,noN 1 (by omega)⟩,at_ 1 _ (by rw [hT];rfl)⟩;obtain ⟨K,hK⟩:∃ K,K=(mS D.length n).toNat:=⟨_,rfl⟩;have hKr:=A2q (b:=(D.length:Int)) (n:=n);have hKD:K<=D.length/\K<=1000:=by
  rw [hK];have:mS (D.length:Int) n<=D.length:=E0Q hm;omega
 have E0V:=C2y (b:=D.length) (n:=n) (m:=m) (h:=g++T);rw [<-hK] at E0V;have eu:(upto K).length=K:=by simp [upto]
 have P1:=P0.more hv2 [rT (encI (upto K))];have F1:Fr (g.length+4) (g++T) (g++T++[rT (encI (upto K))]):=Fr.low ((Low.refl (E5V _)).new _) P0.rlt;have LO:LocV (g++T++[rT (encI (upto K))]) (g.length+4) ((g++T).length+0) (encI (upto K)):=LocV.new (k:=0) hv2 P0 rfl;rw [E6E] at LO;obtain ⟨h1,e1,P2,F2,LV2,LR2⟩:=D9H (c:=I8 D n) (q:=1200) (pv:=g.length) (pr:=g.length+1) (sid:=(g++T).length) (h0:=g++T) hv hKD.1 hKD.2 K 0 1200 _ (by omega) (by omega) P1 F1 (LV.fr F1) (LR.fr F1) LO;have hsO:=ownR_same (c:=I8 D n) (k:=K);have rI:RowW n (sI (I8 D n) K):=by
  refine RowW.same (c:=I8 D n) ⟨by simp [I8],λi=>?_,λi hi=>?_⟩ hsO.row hsO.par
  ·by_cases c1:i=1
   ·subst c1;simp [I8,xY]
   ·simp [I8,xY,c1]
  ·simp [I8] at hi;omega
 have smI:Small (sI (I8 D n) K) 128 (224*0) (33*0) (224*0):=⟨by rw [hsO.row];simp [I8],λi=>by rw [hsO.lnk];simp [I8],by rw [hsO.blocks];simp [I8],by rw [hsO.made];simp [I8],by rw [hsO.lost];simp [I8],by rw [hsO.lost];simp [I8]⟩;obtain ⟨M',h2,e2,P3,F3,LV3,LR3,rO,smO⟩:=E1b (q:=1200) (pv:=g.length) (pr:=g.length+1) (h0:=g++T) hD hv n128 129 0 1200 (sI (I8 D n) K) h1 (by omega) (by omega) (by omega) rI smI P2 F2 LV2 LR2;have ecO:ofR D n 129 0 (sI (I8 D n) K)=V1 D n:=by unfold V1;rw [<-hK]
 rw [ecO] at e2 P3 rO smO;obtain ⟨c,hc⟩:∃ c,c=V1 D n:=⟨_,rfl⟩;rw [<-hc] at e2 P3 rO smO;have hcl:1<=c.row.length:=by
  have:(sI (I8 D n) K).row.length<=c.row.length:=by rw [hc,<-ecO];exact D2f
  rw [hsO.row] at this;simpa [I8] using this
 obtain ⟨xr,xi,xt,xb,xm,ml,mp,es1,es2,g1,g2,g3,g4,g5,g6,g7,g8,g9,g10,g11⟩:=id P3.row;rcases g3 with ⟨e0,_,_⟩ | ⟨rid,rfl,r1,r2,r3⟩
 ·omega
 have l4:B8 h2 (.c (.p (g.length+4) 4))=A4 (.c (.sl rid 0 c.row.length 1)):=B9 g1 rfl rfl;have c0:¬ ((c.row.length:Nat):Int)<(c.row.length:Nat):=by omega
 have r128:=B86 rO.nd λa ha=>⟨(rO.rg a ha).1,by have:=(rO.rg a ha).2;omega⟩
 obtain ⟨M2,h3,e3,P4,F4,z,hzl,LR4⟩:=D7t (q:=1200) (pr:=g.length+1) (rid:=rid) (R:=c.row) (h0:=g++T) hv (by omega) rO.rg c.row.length 0 1200 c h2 (by omega) (by omega) P3 F3 ⟨_,rfl,LR3⟩ ⟨_,g1,rfl⟩ r1;rw [E6a] at P4;have ecF:T7 c c.row=J1 D n:=by unfold J1;rw [<-hc]
 rw [ecF] at P4;obtain ⟨yr,yi,yt,yb,ym,nl,np,fs1,fs2,k1,k2,_⟩:=id P4.row;have l6:D4 h3 6 (.c (.p (g.length+4) 4))=A4 (.a [yr,yi,yt,yb,ym,.i .i64 (J1 D n).lost]):=by rw [dR k1 (by simp [wkC]) rfl];rfl
 have s6:=storeAll (n:=6) (xs:=[yr,yi,yt,yb,ym,.i .i64 (J1 D n).lost]) LR4.2 hzl rfl;have LR5:=LR4.self (cs':=[yr,yi,yt,yb,ym,.i .i64 (J1 D n).lost]);have l6':=C7 (n:=6) LR5.2 rfl;refine ⟨[yr,yi,yt,yb,ym,.i .i64 (J1 D n).lost],h3.set (g.length+1) (rT [yr,yi,yt,yb,ym,.i .i64 (J1 D n).lost]),?_,P4.set LR4.1 (by omega),vwC D.length n m f,[.m nl,.m np],?_,rfl,rfl,by rw [<-hc];exact rO,by rw [<-hc];exact smO⟩
 rotate_left
 ·rw [B6 LR4.1.2.1,k1];rfl
 rw [C8n];rw [B1s 1200 M'] at e2;rw [B1u 1200 M2] at e3;have E2M:A3O (g++[rT (vwC D.length n m f),rT [Cell.ns,.ns,.ns,.ns,.ns,o0],A4 (T8 []),A4 (T8 [])]) (A4 .i64) (.c (.m (g.length+3))) (.c (.i .i64 1)) (.c (.i .i64 1))=A4 (g++[rT (vwC D.length n m f),rT [Cell.ns,.ns,.ns,.ns,.ns,o0],A4 (T8 []),A4 (T8 [(.i .i64 1,.c (.i .i64 1))])]):=by
  rw [E3g (F:=λ_=>A7) (es:=[]) (by simp) MapI.nil];simp [A9G,B2c,mgo]
 have ef1:E6 [o0,o0,.i .u64 0,.nf,.ns,.ns,.ns,.ns,.ns,o0,.nm,.nm] [(0,4,.a (vwC D.length n m f)),(10,1,.c (.m (g.length+2))),(11,1,.c (.m (g.length+3)))]=A4 (vwC D.length n m f++[.ns,.ns,.ns,.ns,.ns,o0,.m (g.length+2),.m (g.length+3)]):=rfl;have ef2:E6 [o0] [(0,1,.c (.i .i64 1))]=A4 [.i .i64 1]:=rfl;have lv0:ld1 (rT (vwC D.length n m f)) 0=A4 (.c (.i .i64 (D.length:Int))):=rfl;have lv1:ld1 (rT (vwC D.length n m f)) 1=A4 (.c (.i .i64 n)):=rfl;have l4v:=E0m (b:=D.length) (n:=n) (m:=m) (f:=f);have l3v:=D4D (b:=D.length) (n:=n) (m:=m) (f:=f);have wn:E5U .i64 (n+1)=(N:Int):=by rw [wrap_i64 (by omega) (by omega),hN]
 have nt:∀ k:Nat,k<=1000->A6B (.c (.i .i64 (k:Int)))=A4 k:=λk hk=>by
  simp only [A6B];rw [if_pos (by omega)];simp
 have am1:A2T (.c (.i .i64 (N:Int))) (.c (.i .i64 (N:Int)))=A4 N:=by simp only [A2T,nt N (by omega),E54];rw [if_pos (E5V _)]
 have am2:A2T (.c (.i .i64 (D.length:Int))) (.c (.i .i64 (D.length:Int)))=A4 D.length:=by simp only [A2T,nt D.length (by omega),E54];rw [if_pos (E5V _)]
 have ef3:E6 [Cell.ns,.ns,.ns,.ns,.ns,o0] [(0,1,.c (.sl (g.length+5) 0 1 1)),(1,1,.c (.sl (g.length+6) 0 N 11)),(2,1,.c (.sl (g.length+7) 0 D.length 1))]=A4 [.sl (g.length+5) 0 1 1,.sl (g.length+6) 0 N 11,.sl (g.length+7) 0 D.length 1,.ns,.ns,o0]:=rfl;have sw:stN (rT (vwC D.length n m f++[.ns,.ns,.ns,.ns,.ns,o0,.m (g.length+2),.m (g.length+3)])) 4 6 [.sl (g.length+5) 0 1 1,.sl (g.length+6) 0 N 11,.sl (g.length+7) 0 D.length 1,.ns,.ns,o0]=rT W:=by rw [hW];rfl
 have rz1:rows [o0,o0,o0,o0,o0,o0,o0,o0,o0,o0,o0] N=U8 (E5R N (zI 11)):=by unfold rows U8;rw [List.map_replicate];rfl
 have rz2:rows [Cell.b A6] D.length=J9 (E5R D.length A6):=by unfold rows J9;rw [List.map_replicate,List.flatten_replicate_singleton]
 rw [hT] at e1;rw [hT] at E0V;simp only [esc,Nat.reduceAdd] at E0V;have c00:((0:Nat):Int)=0:=rfl;rw [c00] at e1 e2 e3;generalize U8 (E5R N (zI 11))=ZI at *;generalize J9 (E5R D.length A6)=ZB at *;generalize vwC D.length n m f=V at *;simp only [esc,bQ,R4,fN,U4,W2,M6,Nat.reduceAdd,l3v,l4v,hCk,E2M,ef1,ef2,lv0,lv1,wn,am1,am2,ef3,sw,rz1,rz2,Nat.add_assoc];simp only [esc,E0V];simp only [esc,Nat.reduceAdd] at e1;refine e1.trans ?_;refine e2.trans ?_;simp only [esc,l4,c0];refine e3.trans ?_;simp only [esc,Nat.reduceAdd,c0,l6,s6,l6']
end
def D3I (l:List (List Int)):O5 (U8 l)=A5:=by
 induction l with
 | nil=>rfl
 | cons x l ih =>
  rw [aU,uI,ih];simp [O5,encI,Cell.flat]
def D3H (l:List Bool):O5 (J9 l)=A5:=by simp [O5,J9,Cell.flat]
def C03 (l:List Bool):noX (J9 l)=A5:=by simp [noX,J9,Cell.isX]
def C2c {D:Dev} {n m:Int} {f:Cell} {h:B5} (hD:okD D) (hv:IsView h f D) (hm:R7 D.length n=A5) :
  ∃ cs t,A7x [.a (vwC D.length n m f)] h=A4 (.a cs,h++t)/\IsCl (h++t) cs (J1 D n)/\t.all B8G=A5:=by
 obtain ⟨six,g',e,P,V,t,hr,hV,h6,_,_⟩:=D0k (n:=n) (m:=m) hD hv.ro hm;obtain ⟨xr,xi,xt,xb,xm,ml,mp,es1,es2,g1,g2,g3,g4,g5,g6,g7,_⟩:=id P.row;obtain ⟨c,hc⟩:∃ c,c=J1 D n:=⟨_,rfl⟩;rw [<-hc] at g1 g2 g3 g4 g5 g6 g7 P ⊢;rw [g1] at hr;simp only [E5W,Row.mk.injEq,and_true] at hr;have e6:six=[xr,xi,xt,xb,xm,.i .i64 c.lost]:=by
  have h1:(wkC D n m f xr xi xt xb xm c.lost ml mp).drop 4=(six++t):=by rw [hr,E5Y,List.drop_left' hV]
  have h2:((wkC D n m f xr xi xt xb xm c.lost ml mp).drop 4).take 6=six:=by rw [h1,List.take_left' h6]
  rw [<-h2];rfl
 have low:∀ (i:Nat) (x:Cell) (id:Nat),(wkC D n m f xr xi xt xb xm c.lost ml mp)[i]?=A4 x->nmC x=A4 id->(ro h).length<=id:=λi x id hi hx=>P.low id (B6k g1 hi hx)
 obtain ⟨l2,fin,c1,_,c3,c4⟩:=B50 (h2:=g') (b:=(ro h).length) six [] (λx hx=>by
   rw [e6] at hx;simp only [List.mem_cons,List.not_mem_nil,or_false] at hx;rcases hx with rfl | rfl | rfl | rfl | rfl | rfl
   ·exact g3.canon (by simp [O5,encI,Cell.flat]) λid e=>low 4 _ _ rfl e
   ·exact g4.canon (D3I _) λid e=>low 5 _ _ rfl e
   ·exact g5.canon (D3H _) λid e=>low 6 _ _ rfl e
   ·exact g6.canon (by simp [O5,encI,Cell.flat]) λid e=>low 7 _ _ rfl e
   ·exact g7.canon iR λid e=>low 8 _ _ rfl e
   ·exact .inl rfl) (λi j a x y hi hj hx hy=>by
   have sh:∀ (i:Nat) (x:Cell),six[i]?=A4 x->(wkC D n m f xr xi xt xb xm c.lost ml mp)[4+i]?=A4 x:=λi x hi=>by
    rw [hr,E5Y,E57 (by omega),hV,show 4+i-4=i by omega,E6t (List.getElem?_eq_some_iff.1 hi).1];exact hi
   have:=g2.1 (4+i) (4+j) a x y (sh i x hi) (sh j y hj) hx hy;omega) (λx hx a ha=>by simp)
 have hgood:=(A5Y (μ:=λ_=>A7) (μ':=λ_=>A7) (λ_ _=>rfl) _ _ _ _ c1 Good.nil).1;have C9n:(fin.map (rd g')).all B8G=A5:=by
  rw [E6M];intro x hx;obtain ⟨j,hj,rfl⟩:=List.mem_map.1 hx;obtain ⟨_,r,h1,h2,_⟩:=hgood.ok j hj;rw [h1];exact Row.own_rw h2
 rw [F7] at c1 c4;have hS:=C3m e (v2:=.a l2) (ids:=fin) (by simp only [Y8,c1,Option.map_some]);refine ⟨l2,_,hS,?_⟩;rw [e6] at c3 c4;have q0:=c4 0 _ rfl;have q1:=c4 1 _ rfl;have q2:=c4 2 _ rfl;have q3:=c4 3 _ rfl;have q4:=c4 4 _ rfl;have q5:=c4 5 _ rfl;obtain ⟨y0,y1,y2,y3,y4,y5,rfl⟩:∃ y0 y1 y2 y3 y4 y5,l2=[y0,y1,y2,y3,y4,y5]:=by
  match l2,c3 with
  | [a,b,c,d,e,f],_=>exact ⟨a,b,c,d,e,f,rfl⟩
 simp only [List.getElem?_cons_zero,E6F,E5W] at q0 q1 q2 q3 q4 q5;have e5:y5=.i .i64 c.lost:=by
  rcases q5 with ⟨_,h1⟩ | ⟨_,_,_,_,_,h1,_⟩
  ·exact h1
  ·cases h1
 subst e5;exact ⟨⟨_,_,_,_,_,rfl,g3.moved (cG _) q0,g4.moved (B25 _) q1,g5.moved (C03 _) q2,g6.moved (cG _) q3,g7.moved (eZ _) q4⟩,C9n⟩
def D0E {R:List Int} {a:Int} {y:Cell} {q:Nat} {h:B5} (hy:∀ i,i<R.length->∃ ad,D9 1 (.c y) (iV (i:Int))=A4 ad/\B8 h ad=A4 (iV (R.getD i 0))) (hR:R.length<=1000):∀ (e i M:Nat),i+e=R.length->e<M ->
  B3Y q M (iV a) (.c y) (iV (R.length:Nat)) (iV (i:Int)) h=A4 (bV (decide (a∈R.drop i)),h)
 | e,i,0,_,hM=>by omega
 | 0,i,M+1,hi,_=>by
  have c0:¬ ((i:Int)<(R.length:Nat)):=by omega
  rw [A54,E56 (by omega)];simp only [esc,c0];simp
 | e+1,i,M+1,hi,hM=>by
  have P6:i<R.length:=by omega
  have c0:((i:Int)<(R.length:Nat)):=by omega
  have w1:=D3 (show i+1<9223372036854775808 by omega);obtain ⟨ad,a1,a2⟩:=hy i P6;have eg:R.getD i 0=R[i]:=by simp [List.getD,P6]
  rw [eg] at a2;rw [A54,E5X P6];by_cases c1:R[i]=a
  ·rw [c1] at a2 ⊢;simp only [esc,c0,a1,a2,eq_self];simp
  ·have ih:=D0E (q:=q) (a:=a) hy hR e (i+1) M (by omega) (by omega);simp only [esc,c0,a1,a2,c1,w1];rw [ih];have:(a∈R[i]::R.drop (i+1))↔a∈R.drop (i+1):=by
    rw [List.mem_cons];constructor
    ·rintro (h | h)
     ·exact absurd h.symm c1
     ·exact h
    ·exact .inr
   simp only [this]
def C85 {cs:List Cell} {c:Cl} {a:Int} {h:B5} (hc:IsCl h cs c) (hR:c.row.length<=1000):A7w [.a cs,iV a] h=A4 (bV (decide (a∈c.row)),h):=by
 obtain ⟨xr,xi,xt,xb,xm,rfl,h1,_⟩:=hc.form;have key:∃ g',A7e 1100 [.a [xr,xi,xt,xb,xm,.i .i64 c.lost],iV a] (ro h)=A4 (bV (decide (a∈c.row)),g'):=by
  have h2:=h1.ro.more [rT [xr,xi,xt,xb,xm,.i .i64 c.lost]];have hl:=h2.len;have k:=D0E (q:=1100) (a:=a) (R:=c.row) (y:=xr) (h:=ro h++[rT [xr,xi,xt,xb,xm,.i .i64 c.lost]]) (λi hi=>by
   obtain ⟨id,off,e,_,hA,_⟩:=h2.sl (by omega);cases e;refine ⟨pV id (off+i*1),C9 hi,?_⟩;rw [Nat.mul_one];exact hA i _ (by rw [I1,E5Z,E5P hi];rfl)) hR c.row.length 0 1100 (by omega) (by omega)
  rw [E6a] at k;refine ⟨ro h++[rT [xr,xi,xt,xb,xm,.i .i64 c.lost]],?_⟩
  ·rw [C2W];have l0:B8 (ro h++[rT [xr,xi,xt,xb,xm,.i .i64 c.lost]]) (pV (ro h).length 0)=A4 (.c xr):=by rw [U4];exact A39
   simp only [esc,l0,hl];exact k
 obtain ⟨g',e⟩:=key;exact B7j e rfl
def A1s (O:Dev) (no:Int) (b:List UInt8):Dev:=if 0<=no/\no<O.length then O.set no.toNat b else O
def dS {O:Dev} {no:Int} {b:List UInt8}:(A1s O no b).length=O.length:=by unfold A1s;split<;>simp
def okD.put {O:Dev} (h:okD O) {no:Int} {b:List UInt8} (hb:b.length=256):okD (A1s O no b):=by
 unfold A1s;split
 ·exact h.set hb
 ·exact h
structure OutD (g:B5) (p id:Nat) (O:Dev) (h:B5):Prop where
 lo:Low g.length g h
 gp:g.length<=p
 gid:g.length<=id
 ne:p≠id
 var:rd h p=rT [.sl id 0 O.length 256]
 blk:rd h id=rT (D5 O)
def OutD.more {g h:B5} {p id:Nat} {O:Dev} (k:OutD g p id O h) (t:B5):OutD g p id O (h++t) :=
 ⟨k.lo.new t,k.gp,k.gid,k.ne,C5 k.var,C5 k.blk⟩
def OutD.set {g h:B5} {p id:Nat} {O O':Dev} (k:OutD g p id O h) (hl:O'.length=O.length):OutD g p id O' (h.set id (rT (D5 O'))) :=
 ⟨k.lo.set k.gid _,k.gp,k.gid,k.ne,by rw [B6 (Ne.symm k.ne),hl];exact k.var,by rw [C6 (C8 k.blk)]⟩
def put_eq {g h:B5} {p id:Nat} {O:Dev} {no:Int} {b:List UInt8} (k:OutD g p id O h) (hO:okD O) (hb:b.length=256) :
  ∃ h',pT [iV no,.a (B4 b),pV p 0] h=A4 (.t [],h')/\OutD g p id (A1s O no b) h'/\h.length<=h'.length/\∀ j,j<h.length->j≠id->rd h' j=rd h j:=by
 obtain ⟨H,hH⟩:∃ H,H=h++[rT (B4 b)]:=⟨_,rfl⟩;have kH:OutD g p id O H:=by rw [hH];exact k.more _
 have lV:B8 H (pV p 0)=A4 (sV id 0 O.length 256):=B9 kH.var rfl rfl;have lB:D4 H 256 (pV h.length 0)=A4 (.a (B4 b)):=C7 (by rw [hH,E9];rfl) (by rw [A9,hb]);have cl:cells? (.a (B4 b))=A4 (B4 b):=rfl;have same:∀ j,j<h.length->rd H j=rd h j:=λj hj=>by rw [hH,E1 hj]
 have len:H.length=h.length+1:=by rw [hH];simp
 by_cases c0:0<=no
 ·by_cases c1:no<(O.length:Nat)
  ·obtain ⟨i,rfl⟩:=E6C c0;have hi:i<O.length:=by omega
   have ad:D9 256 (sV id 0 O.length 256) (iV (i:Int))=A4 (pV id (i*256)):=by rw [C9 hi];simp
   have sd:E5 H 256 (pV id (i*256)) (.a (B4 b))=A4 (H.set id (rT (D5 (O.set i b)))):=A6K kH.blk hO hb hi;have ep:A1s O (i:Int) b=O.set i b:=by unfold A1s;rw [if_pos ⟨c0,c1⟩];simp
   rw [ep];refine ⟨_,qG (n:=0) (p:=(.t [],H.set id (rT (D5 (O.set i b))))) ?_,kH.set (by simp),by simp;omega,λj hj T1=>by rw [B6 (Ne.symm T1)];exact same j hj⟩;rw [pZ];have c0':(i:Int)>=0:=c0;simp only [esc,cl,<-hH,c0',lV,c1,lB,ad,sd];rfl
  ·have ep:A1s O no b=O:=by unfold A1s;rw [if_neg (by omega)]
   rw [ep];refine ⟨_,qG (n:=0) (p:=(.t [],H)) ?_,kH,by omega,λj hj T1=>same j hj⟩;rw [pZ];have c0':no>=0:=c0;simp only [esc,cl,<-hH,c0',lV,c1];rfl
 ·have ep:A1s O no b=O:=by unfold A1s;rw [if_neg (by omega)]
  rw [ep];refine ⟨_,qG (n:=0) (p:=(.t [],H)) ?_,kH,by omega,λj hj T1=>same j hj⟩;rw [pZ];have c0':¬ no>=0:=c0;simp only [esc,cl,<-hH,c0'];rfl
def D7y (x:List Int):Prop:=x.length=11/\A2E (x.getD 0 0) (x.getD 1 0) (x.getD 2 0) (x.getD 3 0) (x.drop 4)=A5
def A8k (x:List Int):List UInt8:=iS (x.getD 0 0) (x.getD 1 0) (x.getD 2 0) (x.getD 3 0) (x.drop 4)
def C0P {x:List Int} (h:x.length=11):encI x=F9 (x.getD 0 0) (x.getD 1 0) (x.getD 2 0) (x.getD 3 0) (x.drop 4):=by
 match x,h with
 | [a,b,c,d,e,f,g,i,j,k,l],_=>rfl
def B11 {x:List Int} (h:x.length=11):(A8k x).length=32:=by
 unfold A8k iS;rw [E5T,E5T,gU,nA,E6O,h,zeros_length]
def C2L (O:Dev):List Int->List (List UInt8)->Dev
 | no::l,b::m=>C2L (A1s O no b) l m
 | _,_=>O
def B6y (O:Dev) (no:Int):Nat->Dev
 | 0=>O
 | e+1=>B6y (A1s O no (zeros 256)) (no+1) e
def C0Z (n:Int) (O:Dev) (i:Nat) (x:List Int):Dev :=
 if S4 O.length n i=A5 then A1s O (X3 O.length n i) (J7 (blk O (X3 O.length n i)) (32*(cZ O.length n i).toNat) (A8k x)) else O
def B8y (n:Int):Dev->Nat->List (List Int)->Dev
 | O,_,[]=>O
 | O,i,x::l=>B8y n (C0Z n O i x) (i+1) l
def V4:Nat->List Bool->List Nat
 | _,[]=>[]
 | i,b::l=>if b=A5 then i::V4 (i+1) l else V4 (i+1) l
def uV (D:Dev) (n:Int) (c:Cl):Dev :=
 A1s (B8y n (B6y (C2L D c.blocks c.made) (uY D.length n) (A2M D.length n).toNat) 0 c.ino) 1 (fW (V4 0 c.taken))
def C06 {O:Dev} {m:List (List UInt8)}:C2L O [] m=O:=by cases m<;>rfl
def B2l:∀ {l:List Int} {m:List (List UInt8)} {O:Dev},okD O->(∀ b∈m,b.length=256)->okD (C2L O l m)/\(C2L O l m).length=O.length
 | [],_,O,h,_=>by rw [C06];exact ⟨h,rfl⟩
 | _::_,[],O,h,_=>⟨h,rfl⟩
 | no::l,b::m,O,h,hm=>by
  obtain ⟨h1,h2⟩:=B2l (l:=l) (m:=m) (O:=A1s O no b) (h.put (hm b (E6g ..))) λx hx=>hm x (E6f _ hx)
  exact ⟨h1,h2.trans dS⟩
def A6M:∀ {e:Nat} {no:Int} {O:Dev},okD O->okD (B6y O no e)/\(B6y O no e).length=O.length
 | 0,_,O,h=>⟨h,rfl⟩
 | e+1,no,O,h=>by
  obtain ⟨h1,h2⟩:=A6M (e:=e) (no:=no+1) (h.put (no:=no) zeros_length);exact ⟨h1,h2.trans dS⟩
def D1Z {n:Int} {O:Dev} {i:Nat} {x:List Int} (h:okD O) (hx:x.length=11) (hn:n<=128):okD (C0Z n O i x)/\(C0Z n O i x).length=O.length:=by
 unfold C0Z;split
 ·refine ⟨h.put ?_,dS⟩;rename_i hc;have hk:(cZ O.length n i).toNat<8:=by unfold cZ;rw [hc];simp only [cond_true];omega
  rw [P9 (by rw [O9 h,B11 hx];omega),O9 h]
 ·exact ⟨h,rfl⟩
def B14 {n:Int} (hn:n<=128):∀ {l:List (List Int)} {i:Nat} {O:Dev},okD O->(∀ x∈l,x.length=11)->okD (B8y n O i l)/\(B8y n O i l).length=O.length
 | [],_,O,h,_=>⟨h,rfl⟩
 | x::l,i,O,h,hx=>by
  have h1:=D1Z (n:=n) (i:=i) h (hx x (E6g ..)) hn;have h2:=B14 (n:=n) hn (l:=l) (i:=i+1) h1.1 λy hy=>hx y (E6f _ hy)
  exact ⟨h2.1,h2.2.trans h1.2⟩
def D2z:∀ {l:List Bool} {i:Nat},(∀ x∈V4 i l,x<i+l.length)/\(V4 i l).length<=l.length
 | [],i=>⟨λx hx=>by simp [V4] at hx,by simp [V4]⟩
 | b::l,i=>by
  obtain ⟨h1,h2⟩:=D2z (l:=l) (i:=i+1);unfold V4;split
  ·refine ⟨λx hx=>?_,by simpa using h2⟩;rcases List.mem_cons.1 hx with rfl | hx
   ·simp
   ·have:=h1 x hx;simp;omega
  ·exact ⟨λx hx=>by have:=h1 x hx;simp;omega,by simp;omega⟩
section
variable {D:Dev} {n m:Int} {f:Cell} {g:B5} {p id q pv pc:Nat} {xr xi xt xb xm:Cell} {lost:Int} {c:Cl}
def C0I {a b:Val} {h:B5}:A3R sJ (.c (.f 52 [(p,0)])) [a,b] h=pT [a,b,pV p 0] h:=rfl
def E2S (hpc:rd g pc=rT [xr,xi,xt,xb,xm,.i .i64 lost]) {bl:List Int} {md:List (List UInt8)} (hb:Has g (.c xb) 1 bl.length (encI bl)) (hm:Has g (.c xm) 256 md.length (D5 md)) (hl:bl.length=md.length) (hmd:∀ b∈md,b.length=256) (hB:bl.length<=1000000) :
  ∀ (e i M:Nat) (O:Dev) (h:B5),i+e=bl.length->e<M->okD O->OutD g p id O h ->
  ∃ h' M',fO q M (pV pv 0) (pV pc 0) (pV p 0) (.c (.f 52 [(p,0)])) (.c xb) (iV (bl.length:Nat)) (iV (i:Int)) h =
   fO q (M'+1) (pV pv 0) (pV pc 0) (pV p 0) (.c (.f 52 [(p,0)])) (.c xb) (iV (bl.length:Nat)) (iV (bl.length:Nat)) h'/\OutD g p id (C2L O (bl.drop i) (md.drop i)) h':=by
 intro e
 induction e with
 | zero =>
  intro i M O h hi hM hO k;obtain ⟨M,rfl⟩:∃ M',M=M'+1:=⟨M-1,by omega⟩;have ei:i=bl.length:=by omega
  subst ei;refine ⟨h,M,rfl,?_⟩;rw [List.drop_length,C06];exact k
 | succ e ih =>
  intro i M O h hi hM hO k;obtain ⟨M,rfl⟩:∃ M',M=M'+1:=⟨M-1,by omega⟩;have P6:i<bl.length:=by omega
  have him:i<md.length:=by omega
  have c0:(i:Int)<(bl.length:Nat):=by omega
  have c1:(i:Int)<(md.length:Nat):=by omega
  have w1:=D3 (show i+1<9223372036854775808 by omega);have hb':=hb.since k.lo;have hm':=hm.since k.lo;obtain ⟨ib,ob,eb,_,hA,_⟩:=hb'.sl (by omega);cases eb;obtain ⟨im,om,em,_,_,hC⟩:=hm'.sl (by omega);cases em;have a1:D9 1 (sV ib ob bl.length 1) (iV (i:Int))=A4 (pV ib (ob+i)):=by rw [C9 P6];simp
  have a2:B8 h (pV ib (ob+i))=A4 (iV bl[i]):=hA i _ (by rw [I1,E5P P6];rfl);have a3:B8 h (pV pc 4)=A4 (sV im om md.length 256):=B9 (k.lo.rd hpc) rfl rfl;have a4:D9 256 (sV im om md.length 256) (iV (i:Int))=A4 (pV im (om+i*256)):=C9 him;have okm:okD md:=hmd;have a5:D4 h 256 (pV im (om+i*256))=A4 (.a (B4 md[i])):=by
   rw [hC (i*256) 256 (by rw [J4 okm];omega),dD okm him]
  obtain ⟨h1,b1,b2,_⟩:=put_eq (no:=bl[i]) (b:=md[i]) k hO (hmd _ (E6v him));obtain ⟨h',M',e1,e2⟩:=ih (i+1) M _ h1 (by omega) (by omega) (hO.put (hmd _ (E6v him))) b2;rw [E5X P6,E5X him];refine ⟨h',M',?_,e2⟩;rw [mO];simp only [esc,c0,a1,a2,a3,B7S,c1,a4,a5,C0I,b1,A2o,w1];exact e1
def E2T (t0 tn:Int) (h0:0<=t0/\t0<=100) (hn:0<=tn/\tn<=100) :
  ∀ (e:Nat) (i:Int) (M:Nat) (O:Dev) (h:B5),i+e=t0+tn->t0<=i->e<M->okD O->OutD g p id O h ->
  ∃ h' M',fP q M (pV pv 0) (pV pc 0) (pV p 0) (.c (.f 52 [(p,0)])) (iV t0) (iV tn) (iV i) h =
   fP q (M'+1) (pV pv 0) (pV pc 0) (pV p 0) (.c (.f 52 [(p,0)])) (iV t0) (iV tn) (iV (t0+tn)) h'/\OutD g p id (B6y O i e) h':=by
 intro e
 induction e with
 | zero =>
  intro i M O h hi hi0 hM hO k;obtain ⟨M,rfl⟩:∃ M',M=M'+1:=⟨M-1,by omega⟩;have ei:i=t0+tn:=by omega
  subst ei;exact ⟨h,M,rfl,k⟩
 | succ e ih =>
  intro i M O h hi hi0 hM hO k;obtain ⟨M,rfl⟩:∃ M',M=M'+1:=⟨M-1,by omega⟩;have w0:E5U .i64 (t0+tn)=t0+tn:=wrap_i64 (by omega) (by omega);have w1:E5U .i64 (i+1)=i+1:=wrap_i64 (by omega) (by omega);have c0:i<t0+tn:=by omega
  have ef:E6 (B4 (zeros 256)) []=A4 (B4 (zeros 256)):=rfl;obtain ⟨h1,b1,b2,_⟩:=put_eq (no:=i) (b:=zeros 256) k hO zeros_length;obtain ⟨h',M',e1,e2⟩:=ih (i+1) M _ h1 (by omega) (by omega) (by omega) (hO.put zeros_length) b2;refine ⟨h',M',?_,e2⟩;rw [mP,I9];generalize B4 (zeros 256)=Z at *;simp only [esc,w0,c0,ef,C0I,b1,w1];exact e1
end
def D8a {b n i:Int} (h:S4 b n i=A5):2<=X3 b n i/\X3 b n i<b/\0<=cZ b n i/\cZ b n i<8:=by
 obtain ⟨h1,h2,h3⟩:=nB.1 h;obtain ⟨_,_,_,_,h4,h5⟩:=J8.1 h1;unfold X3 cZ;rw [h];simp only [cond_true];omega
section
variable {D:Dev} {n m:Int} {f:Cell} {g:B5} {p id q pv pc:Nat} {xr xi xt xb xm:Cell} {lost:Int} {c:Cl}
def E2U (hpv:rd g pv=rT (vwC D.length n m f)) {R:List (List Int)} (hx:Has g (.c xi) 11 R.length (U8 R)) (hR:∀ x∈R,D7y x) (hn:n<=128) (hB:R.length<=1000000) :
  ∀ (e i M:Nat) (O:Dev) (h:B5),i+e=R.length->e<M->okD O->O.length=D.length->OutD g p id O h ->
  ∃ h' M',fQ q M (pV pv 0) (pV pc 0) (pV p 0) (.c (.f 52 [(p,0)])) (.c xi) (iV (R.length:Nat)) (iV (i:Int)) h =
   fQ q (M'+1) (pV pv 0) (pV pc 0) (pV p 0) (.c (.f 52 [(p,0)])) (.c xi) (iV (R.length:Nat)) (iV (R.length:Nat)) h'/\OutD g p id (B8y n O i (R.drop i)) h':=by
 intro e
 induction e with
 | zero =>
  intro i M O h hi hM hO hlen k;obtain ⟨M,rfl⟩:∃ M',M=M'+1:=⟨M-1,by omega⟩;have ei:i=R.length:=by omega
  subst ei;refine ⟨h,M,rfl,?_⟩;rw [List.drop_length];exact k
 | succ e ih =>
  intro i M O h hi hM hO hlen k;obtain ⟨M,rfl⟩:∃ M',M=M'+1:=⟨M-1,by omega⟩;have P6:i<R.length:=by omega
  have c0:(i:Int)<(R.length:Nat):=by omega
  have w1:=D3 (show i+1<9223372036854775808 by omega);obtain ⟨x,ex⟩:∃ x,x=R[i]:=⟨_,rfl⟩;obtain ⟨xl,xm⟩:=hR R[i] (E6v P6);have h11:∀ x∈R,x.length=11:=λx hx=>(hR x hx).1
  have hx':=hx.since k.lo;obtain ⟨ii,oi,ei,_,_,hC⟩:=hx'.sl (by omega);cases ei;have a1:D9 11 (sV ii oi R.length 11) (iV (i:Int))=A4 (pV ii (oi+i*11)):=C9 P6;have a2:D4 h 11 (pV ii (oi+i*11))=A4 (.a (encI R[i])):=by
   rw [hC (i*11) 11 (by rw [R6 h11];omega),A6t h11 P6]
  rw [<-ex] at a2 xl xm;obtain ⟨G,hG⟩:∃ G,G=h++[rT (encI x)]:=⟨_,rfl⟩;have st:E5 (h++[rT [o0,o0,o0,o0,o0,o0,o0,o0,o0,o0,o0]]) 11 (pV h.length 0) (.a (encI x))=A4 G:=by
   rw [storeAll (n:=11) (cs:=[o0,o0,o0,o0,o0,o0,o0,o0,o0,o0,o0]) (by rw [E9];rfl) rfl (by rw [B7,xl]),S3,hG];rfl
  have kG:OutD g p id O G:=by rw [hG];exact k.more _
  have lv3:D4 G 3 (pV pv 0)=A4 (.a (D7 D.length n m)):=by rw [dR (kG.lo.rd hpv) (by simp [vwC]) rfl];rfl
  have hW:=A5m (b:=D.length) (n:=n) (m:=m) (i:=(i:Int)) (h:=G);have lx:D4 G 11 (pV h.length 0)=A4 (.a (encI x)):=C7 (by rw [hG,E9];rfl) (by rw [B7,xl]);rw [E5X P6,<-ex];have es:B8y n O i (x::R.drop (i+1))=B8y n (C0Z n O i x) (i+1) (R.drop (i+1)):=rfl;rw [es];obtain ⟨okS,lenS⟩:=D1Z (n:=n) (i:=i) (x:=x) hO xl hn;have lV:B8 G (pV p 0)=A4 (sV id 0 O.length 256):=B9 kG.var rfl rfl;cases hc:S4 (D.length:Int) n (i:Int) with
  | false =>
   rw [hc] at hW;have e1:C0Z n O i x=O:=by unfold C0Z;rw [hlen,hc];simp
   rw [e1] at okS lenS ⊢;obtain ⟨h',M',b1,b2⟩:=ih (i+1) M O G (by omega) (by omega) hO hlen kG;refine ⟨h',M',?_,b2⟩;rw [cC];generalize encI x=X at *;generalize D7 D.length n m=L at *;simp only [esc,c0,a1,a2,st,lv3,hW,mM,w1];exact b1
  | true =>
   rw [hc] at hW;obtain ⟨w2,wb,k0,k8⟩:=D8a hc;obtain ⟨wB,hwB⟩:=E6C (show 0<=X3 D.length n i by omega);obtain ⟨wK,hwK⟩:=E6C k0;rw [hwB,hwK] at hW;have hwl:wB<O.length:=by omega
   have cW:(wB:Int)<(O.length:Nat):=by omega
   have hk8:wK<8:=by omega
   have ad:D9 256 (sV id 0 O.length 256) (iV (wB:Int))=A4 (pV id (wB*256)):=by rw [C9 hwl];simp
   have lb:D4 G 256 (pV id (wB*256))=A4 (.a (B4 O[wB])):=by
    rw [dR kG.blk (by rw [J4 hO];omega) rfl,dD hO hwl]
   have hT:=B4F (j:=wK) (k:=x.getD 0 0) (l:=x.getD 1 0) (s:=x.getD 2 0) (p:=x.getD 3 0) (d:=x.drop 4) (b:=O[wB]) (h:=G) (hO.at hwl) (by rw [E6O,xl]) hk8 xm;rw [<-C0P xl] at hT;have ei:iS (x.getD 0 0) (x.getD 1 0) (x.getD 2 0) (x.getD 3 0) (x.drop 4)=A8k x:=rfl;rw [ei] at hT;have hbl:(J7 O[wB] (32*wK) (A8k x)).length=256:=by
    rw [P9 (by rw [hO.at hwl,B11 xl];omega),hO.at hwl]
   have sd:E5 G 256 (pV id (wB*256)) (.a (B4 (J7 O[wB] (32*wK) (A8k x))))=A4 (G.set id (rT (D5 (O.set wB (J7 O[wB] (32*wK) (A8k x)))))):=A6K kG.blk hO hbl hwl;have e1:C0Z n O i x=O.set wB (J7 O[wB] (32*wK) (A8k x)):=by
    unfold C0Z;rw [hlen,hc,if_pos rfl,hwB,hwK,B5Z hwl];unfold A1s;rw [if_pos ⟨by omega,cW⟩];simp
   have kS:=kG.set (O':=C0Z n O i x) lenS;obtain ⟨h',M',b1,b2⟩:=ih (i+1) M _ _ (by omega) (by omega) okS (by rw [lenS,hlen]) kS;refine ⟨h',M',?_,b2⟩;rw [e1] at b1;rw [cC];generalize encI x=X at *;generalize D7 D.length n m=L at *;simp only [esc,c0,a1,a2,st,lv3,hW,lV,cW,ad,lb,lx,hT,sd,mM,w1];exact b1
def D7X {l:List Bool} {i:Nat} (hi:i<l.length):V4 i (l.drop i)=if l[i]=A5 then i::V4 (i+1) (l.drop (i+1)) else V4 (i+1) (l.drop (i+1)):=by
 rw [E5X hi];rfl
def E2V {T:List Bool} {N:Nat} (hx:Has g (.c xt) 1 T.length (J9 T)) (hT:T.length<=2048) {O:Dev} (hO:okD O) :
  ∀ (e i M:Nat) (S:List Nat) (sid:Nat) (h:B5),i+e=T.length->e<M->S.length<=i->(∀ x∈S,x<2048)->rd h sid=rT (encI (S.map λx:Nat=>(x:Int)))->g.length<=sid->sid≠p->sid≠id->OutD g p id O h ->
  ∃ h',rP q M (pV p 0) (.c (.f 52 [(p,0)])) (sV sid 0 S.length 1) (.c xt) (iV (T.length:Nat)) (iV (i:Int)) h=A4 (sV id 0 O.length 256,h') /\
   OutD g p id (A1s O 1 (fW (S++V4 i (T.drop i)))) h':=by
 intro e
 induction e with
 | zero =>
  intro i M S sid h hi hM hS hS2 hr hg n1 n2 k;obtain ⟨M,rfl⟩:∃ M',M=M'+1:=⟨M-1,by omega⟩;have ei:i=T.length:=by omega
  subst ei;have c0:¬ ((T.length:Nat):Int)<(T.length:Nat):=by omega
  have hC:=B3W (v:=sV sid 0 S.length 1) (nv:=S.length) (l:=S) (h:=h) hS2 (by omega) (Has.tr hr (by simp [encI]) (cG _));have hml:(fW S).length=256:=by unfold fW;rw [dN,zeros_length]
  obtain ⟨h1,b1,b2,_⟩:=put_eq (no:=1) (b:=fW S) k hO hml;have lV:B8 h1 (pV p 0)=A4 (sV id 0 (A1s O 1 (fW S)).length 256):=B9 b2.var rfl rfl;rw [dS] at lV;refine ⟨h1,?_,?_⟩
  ·rw [cD];simp only [esc,c0,rV,hC,C0I,b1,lV]
  ·rw [List.drop_length];have:S++V4 T.length []=S:=by simp [V4]
   rw [this];exact b2
 | succ e ih =>
  intro i M S sid h hi hM hS hS2 hr hg n1 n2 k;obtain ⟨M,rfl⟩:∃ M',M=M'+1:=⟨M-1,by omega⟩;have P6:i<T.length:=by omega
  have c0:(i:Int)<(T.length:Nat):=by omega
  have w1:=D3 (show i+1<9223372036854775808 by omega);have hx':=hx.since k.lo;obtain ⟨ii,oi,ei,_,hA,_⟩:=hx'.sl (by omega);cases ei;have a1:D9 1 (sV ii oi T.length 1) (iV (i:Int))=A4 (pV ii (oi+i)):=by rw [C9 P6];simp
  have a2:B8 h (pV ii (oi+i))=A4 (bV T[i]):=hA i _ (by simp [J9,P6]);rw [D7X P6];cases hb:T[i] with
  | false =>
   rw [hb] at a2;obtain ⟨h',b1,b2⟩:=ih (i+1) M S sid h (by omega) (by omega) (by omega) hS2 hr hg n1 n2 k;refine ⟨h',?_,by simpa using b2⟩;rw [cD];simp only [esc,c0,a1,a2,mN,w1];exact b1
  | true =>
   rw [hb] at a2;obtain ⟨h1,p1,p2,p3,p4⟩:=C7Q (n:=S.length) (sz:=1) (ys:=[Cell.i .i64 (i:Int)]) hr (by simp [encI]) rfl (by omega) (by omega);have hpl:=C8 k.var;have E4Z:=C8 k.blk;have kk:OutD g p id O h1:=⟨k.lo.trans (p4 g.length hg (by have:=k.lo.2.1;omega)),k.gp,k.gid,k.ne,p3 _ _ (Ne.symm n1) k.var,p3 _ _ (Ne.symm n2) k.blk⟩;have er:encI (S.map λx:Nat=>(x:Int))++[Cell.i .i64 (i:Int)]=encI ((S++[i]).map λx:Nat=>(x:Int)):=by simp [encI]
   rw [er] at p2;have ls:(S++[i]).length=S.length+1:=by simp
   obtain ⟨h',b1,b2⟩:=ih (i+1) M (S++[i]) (h.length+1) h1 (by omega) (by omega) (by rw [ls];omega) (λx hx=>by
    rcases List.mem_append.1 hx with hx | hx
    ·exact hS2 x hx
    ·simp at hx;omega) p2 (by have:=k.lo.2.1;omega) (by omega) (by omega) kk
   rw [ls] at b1;refine ⟨h',?_,by simpa using b2⟩;have ef:E6 [o0] [(0,1,iV (i:Int))]=A4 [.i .i64 (i:Int)]:=rfl;rw [cD];simp only [esc,c0,a1,a2,ef,p1,mN,w1];exact b1
structure ImgOk (D:Dev) (n:Int) (c:Cl):Prop where
 row:0<c.row.length
 tak:c.taken.length=D.length
 ino:∀ x∈c.ino,D7y x
 il:c.ino.length<=1000
 bm:c.blocks.length=c.made.length
 bl:c.blocks.length<=1000000
 md:∀ b∈c.made,b.length=256
def C6B {h:B5} {cs:List Cell} (hD:okD D) (hv:IsView h f D) (hm:R7 D.length n=A5) (hc:IsCl h cs c) (ok:ImgOk D n c) :
  bD [.a (vwC D.length n m f),.a cs] h=A4 (sV h.length 0 D.length 256,h++[rT (D5 (uV D n c))]):=by
 obtain ⟨b16,b512,n8,n128,_,_⟩:=J8.1 hm;obtain ⟨xr,xi,xt,xb,xm,rfl,hr,hi,ht,hb,hmd⟩:=hc.form;obtain ⟨g,hg⟩:∃ g,g=ro h++[rT (vwC D.length n m f),rT [xr,xi,xt,xb,xm,.i .i64 c.lost],rT []]:=⟨_,rfl⟩;have lg:g.length=(ro h).length+3:=by rw [hg];simp
 have rv:rd g (ro h).length=rT (vwC D.length n m f):=by rw [hg,E9];rfl
 have rc:rd g ((ro h).length+1)=rT [xr,xi,xt,xb,xm,.i .i64 c.lost]:=by rw [hg,K9];rfl
 have hvg:IsView g f D:=by rw [hg];exact hv.ro.more _
 have hr':Has g (.c xr) 1 c.row.length (encI c.row):=by rw [hg];exact hr.ro.more _
 have hi':Has g (.c xi) 11 c.ino.length (U8 c.ino):=by rw [hg];exact hi.ro.more _
 have ht':Has g (.c xt) 1 c.taken.length (J9 c.taken):=by rw [hg];exact ht.ro.more _
 have hb':Has g (.c xb) 1 c.blocks.length (encI c.blocks):=by rw [hg];exact hb.ro.more _
 have hm':Has g (.c xm) 256 c.made.length (D5 c.made):=by rw [hg];exact hmd.ro.more _
 have hI:=C9I (m:=m) hD hvg hm;obtain ⟨H,hH⟩:∃ H,H=g++[rT (D5 D),rT [.sl g.length 0 D.length 256]]:=⟨_,rfl⟩;have k0:OutD g (g.length+1) g.length D H:=by
  refine ⟨by rw [hH];exact (Low.refl (E5V _)).new _,by omega,E5V _,by omega,?_,?_⟩
  ·rw [hH,K9];rfl
  ·rw [hH,E9];rfl
 obtain ⟨h1,M1,e1,k1⟩:=E2S (q:=1000002) (pv:=(ro h).length) rc hb' hm' ok.bm ok.md ok.bl c.blocks.length 0 1000002 D H (by omega) (by have:=ok.bl;omega) hD k0;obtain ⟨ok1,len1⟩:=B2l (l:=c.blocks) (m:=c.made) hD ok.md;obtain ⟨t0,t2,tn0,tn16⟩:=D73 (b:=D.length) (n:=n);obtain ⟨tN,htN⟩:=E6C tn0;obtain ⟨h2,M2,e2,k2⟩:=E2T (q:=1000002) (pv:=(ro h).length) (pc:=(ro h).length+1) (uY D.length n) (A2M D.length n) ⟨by omega,by omega⟩ ⟨by omega,by omega⟩ tN (uY D.length n) 1000002 _ h1 (by omega) (by omega) (by omega) ok1 (by simpa using k1);obtain ⟨ok2,len2⟩:=A6M (e:=tN) (no:=uY D.length n) ok1;obtain ⟨h3,M3,e3,k3⟩:=E2U (q:=1000002) (pc:=(ro h).length+1) rv hi' ok.ino n128 (by have:=ok.il;omega) c.ino.length 0 1000002 _ h2 (by omega) (by have:=ok.il;omega) ok2 (by rw [len2,len1]) k2;obtain ⟨ok3,len3⟩:=B14 (n:=n) n128 (l:=c.ino) (i:=0) ok2 (λx hx=>(ok.ino x hx).1);have k3':=(k3.more [rT ([]:List Cell)]);obtain ⟨h4,e4,k4⟩:=E2V (q:=1000002) (N:=0) (p:=g.length+1) (id:=g.length) (g:=g) ht' (by rw [ok.tak];omega) ok3 c.taken.length 0 1000002 [] h3.length (h3++[rT ([]:List Cell)]) (by omega) (by rw [ok.tak];omega) (by simp) (by simp) (by rw [E9];rfl) (by have:=k3.lo.2.1;omega) (by have:=C8 k3.var;omega) (by have:=C8 k3.blk;omega) (by simpa using k3');have eimg:uV D n c=A1s (B8y n (B6y (C2L D c.blocks c.made) (uY D.length n) tN) 0 c.ino) 1 (fW ([]++V4 0 (c.taken.drop 0))):=by
  unfold uV;rw [htN];simp
 have lenF:(uV D n c).length=D.length:=by rw [eimg,dS,len3,len2,len1]
 have key:iD 1000002 [.a (vwC D.length n m f),.a [xr,xi,xt,xb,xm,.i .i64 c.lost]] (ro h)=A4 (sV g.length 0 D.length 256,h4):=by
  have l0:B8 g (pV ((ro h).length+1) 0)=A4 (.c xr):=B9 rc rfl (by rfl);have l2:B8 g (pV ((ro h).length+1) 2)=A4 (.c xt):=B9 rc rfl (by rfl);have lv0:B8 g (pV (ro h).length 0)=A4 (iV (D.length:Nat)):=B9 rv rfl rfl;have lv4:D4 g 4 (pV (ro h).length 0)=A4 (.a (vwC D.length n m f)):=C7 rv rfl;have s1:I5 (g++[rT (D5 D),rT [Cell.ns]]) (pV (g.length+1) 0) (sV g.length 0 D.length 256)=A4 H:=by
   rw [G8 (cs:=[Cell.ns]) (by rw [K9];rfl) (by simp),nF,hH];rfl
  have l3:B8 H (pV ((ro h).length+1) 3)=A4 (.c xb):=B9 (k0.lo.rd rc) rfl (by rfl);have mf:B5U 52 [pV (g.length+1) 0]=A4 (.c (.f 52 [(g.length+1,0)])):=rfl;have n1:B8 h2 (pV ((ro h).length+1) 1)=A4 (.c xi):=B9 (k2.lo.rd rc) rfl (by rfl);have n2:B8 (h3++[rT ([]:List Cell)]) (pV ((ro h).length+1) 2)=A4 (.c xt):=B9 ((k3.lo.new _).rd rc) rfl (by rfl);have v3:D4 h1 3 (pV (ro h).length 0)=A4 (.a (D7 D.length n m)):=by rw [dR (k1.lo.rd rv) (by simp [vwC]) rfl];rfl
  have hTb:=A5l (b:=D.length) (n:=n) (m:=m) (h:=h1);have c1:¬ ((c.row.length:Nat):Int)=0:=by have:=ok.row;omega
  have c2:((c.taken.length:Nat):Int)=(D.length:Nat):=by rw [ok.tak]
  have lr:=hr'.len;have lt:=ht'.len;have lb:=(hb'.since k0.lo).len;have lx:=(hi'.since k2.lo).len;have lt3:=(ht'.since (k3.lo.new [rT ([]:List Cell)])).len;have cl1:cells? (.a (vwC D.length n m f))=A4 (vwC D.length n m f):=rfl;rw [A2S];simp only [E5T,E52,E6h,E6e,E5Y,E6q,E59,cl1,B1j,M9,<-hg];generalize vwC D.length n m f=V at *;have c00:((0:Nat):Int)=0:=rfl;rw [c00] at e1 e3 e4;rw [lenF.symm] at e4;simp only [esc,l0,lr,c1,l2,lt,lv0,c2,lv4,hI,s1,mf,l3,lb];refine e1.trans ?_;have cB:¬ ((c.blocks.length:Nat):Int)<(c.blocks.length:Nat):=by omega
  rw [mO];simp only [esc,cB,v3,hTb];refine e2.trans ?_;have wT:E5U .i64 (uY D.length n+A2M D.length n)=uY D.length n+A2M D.length n:=wrap_i64 (by omega) (by omega);have cT:¬ uY D.length n+A2M D.length n<uY D.length n+A2M D.length n:=by omega
  rw [mP];simp only [esc,wT,cT,n1,lx];refine e3.trans ?_;have cI:¬ ((c.ino.length:Nat):Int)<(c.ino.length:Nat):=by omega
  rw [cC];simp only [esc,cI,n2,lt3];have eL:([]:List Nat).length=0:=rfl;rw [eL] at e4;rw [e4,lenF,len3,len2,len1]
 have ho:Out h.length h4 (sV g.length 0 D.length 256) 256 D.length (D5 (uV D n c)):=by
  refine ⟨?_,g.length,rfl,by rw [lg,F7];omega,?_⟩
  ·rw [J4,lenF];rw [eimg];refine okD.put ok3 ?_;unfold fW;rw [dN,zeros_length]
  ·rw [eimg];exact k4.blk
 exact A15 key ho iR
end
structure MayC (c:Cl):Prop where
 ino:∀ x∈c.ino,D7y x
 par:∀ i,0<=(c.par i).getD 0/\(c.par i).getD 0<=65535
 bm:c.blocks.length=c.made.length
 md:∀ b∈c.made,b.length=256
def B57 {D:Dev} {n:Int} {c:Cl} {no:Int} (hm:R7 D.length n=A5):O0 (U7 D n c no)=A5:=by
 rw [B2y];obtain ⟨_,b512,_⟩:=J8.1 hm;unfold U7 B56;cases hd:jW D.length n no with
 | false=>simp
 | true =>
  have:=C7i hd;cases c.taken.getD no.toNat A5 with
  | true=>simp
  | false=>simp;omega
def D50 {l:List Int} {i:Nat} {x:Int} (h:l.all O0=A5) (hx:O0 x=A5):(l.set i x).all O0=A5:=by
 rw [E6M] at h ⊢;intro y hy;rcases E6A hy with h1 | h1
 ·exact h y h1
 ·rw [h1];exact hx
def C6L {D:Dev} {n:Int} {d:List Int} (hm:R7 D.length n=A5):∀ {e k:Nat} {s:Cl × List Int},s.2.all O0=A5->(A77 D n d e k s).2.all O0=A5
 | 0,_,s,h=>h
 | e+1,k,s,h=>by
  rw [A77];exact C6L hm (D50 h (B57 hm))
def D3E {D:Dev} {n ino:Int} {c:Cl} (hm:R7 D.length n=A5):(fC D n c ino).2.all O0=A5:=by
 have h1:=C6L (d:=drV D n ino) (e:=(min (A46 (szV D n ino)) 6).toNat) (k:=0) (s:=(c,zI 7)) hm (by show (zI 7).all O0=A5;decide);unfold fC B8n;split
 ·exact D50 h1 (B57 hm)
 ·exact h1
def D72 {D:Dev} {n i:Int}:0<=szV D n i/\szV D n i<=34304:=by
 unfold szV;cases hc:C3X D n i with
 | false=>simp
 | true =>
  simp only [cond_true];unfold C3X iO A2E at hc;simp only [E5S] at hc;obtain ⟨_,h1,_⟩:=hc;split at h1
  ·unfold D1c at h1;have:=of_decide_eq_true h1;omega
  ·unfold A4c at h1;simp only [E5S,decide_eq_true_eq] at h1;exact h1.2.2.2.1
def D7z {s:Int} {d:List Int} {l:Int} (hs:0<=s/\s<=34304) (hd:d.length=7) (ha:d.all O0=A5) (hl:O0 l=A5):D7y (1::l::s::0::d):=by
 refine ⟨by simp [hd],?_⟩;show A2E 1 l s 0 d=A5;unfold A2E A4c;have h0:O0 0=A5:=by decide
 simp [hl,ha,h0,hs]
def D9w {p no:Int} (hp:O0 p=A5) (hn:O0 no=A5):D7y (2::1::0::p::no::zI 6):=by
 refine ⟨by simp [zI],?_⟩;show A2E 2 1 0 p (no::zI 6)=A5;unfold A2E A4c;have h1:O0 1=A5:=by decide
 have hz:(zI 6).all O0=A5:=by decide
 simp [E6B,hn,hz,hp,h1]
def D7A:D7y (zI 11):=⟨by simp [zI],by decide⟩
def C7t {α:Type} {l:List α} {i:Nat} {x y:α} (h:y∈l.set i x):y∈l\/y=x:=E6A h
section
variable {D:Dev} {n:Int} {c:Cl} {ino:Int}
def D7d (hm:R7 D.length n=A5) (h:MayC c):MayC (aI D n c ino):=by
 have hs:=(A2v (D:=D) (n:=n) (ino:=ino) (c:=c));refine ⟨λx hx=>?_,λi=>?_,?_,λb hb=>?_⟩
 ·rcases C7t hx with h1 | h1
  ·rw [hs.1.ino] at h1;exact h.ino x h1
  ·rw [h1];exact D7z D72 hs.2 (D3E hm) (by decide)
 ·have:(aI D n c ino).par=c.par:=hs.1.par;rw [this];exact h.par i
 ·have e1:(aI D n c ino).blocks=c.blocks:=hs.1.blocks;have e2:(aI D n c ino).made=c.made:=hs.1.made;rw [e1,e2];exact h.bm
 ·have e2:(aI D n c ino).made=c.made:=hs.1.made;rw [e2] at hb;exact h.md b hb
def MayC.same {c':Cl} (h:MayC c) (s:SameC c c'):MayC c':=⟨by rw [s.ino];exact h.ino,by rw [s.par];exact h.par,by rw [s.blocks,s.made];exact h.bm,by rw [s.made];exact h.md⟩
def MayC.md' (h:MayC c) {no:Int} {b:List UInt8} (hb:b.length=256):MayC (S9 c no b):=by
 refine ⟨h.ino,h.par,?_,λx hx=>?_⟩
 ·show (c.blocks++[no]).length=(c.made++[b]).length;simp [h.bm]
 ·rcases List.mem_append.1 (show x∈c.made++[b] from hx) with h1 | h1
  ·exact h.md x h1
  ·simp at h1;rw [h1];exact hb
def D7c (hD:okD D) (hm:R7 D.length n=A5) (h:MayC c):MayC (iZ D n c ino):=by
 have h1:=D7d (ino:=ino) hm h;unfold iZ;split
 ·exact h1
 ·exact MayC.md' (h1.same (xP (D:=D) (n:=n) (many:=A46 (szV D n ino)) (e:=128) (k:=0) (s:=(aI D n c ino,blk D ((fC D n c ino).2.getD 6 0))))) (B2X (by omega) (O9 hD))
def D8R (hm:R7 D.length n=A5) (h:MayC c):MayC (Y9 D n c ino):=by
 have hs:=A1F (D:=D) (n:=n) (ino:=ino) (c:=c);have hn:O0 (iQ D n c ino).2=A5:=by
  unfold iQ;cases (decide (kdV D n ino=2)&&V6 (blk D ((drV D n ino).getD 0 0))) with
  | true=>exact B57 hm
  | false=>show O0 0=A5;decide
 refine ⟨λx hx=>?_,λi=>?_,?_,λb hb=>?_⟩
 ·rcases C7t hx with h1 | h1
  ·rw [hs.ino] at h1;exact h.ino x h1
  ·rw [h1];exact D9w (B2y.2 (h.par ino)) hn
 ·have:(Y9 D n c ino).par=c.par:=hs.par;rw [this];exact h.par i
 ·have e1:(Y9 D n c ino).blocks=c.blocks:=hs.blocks;have e2:(Y9 D n c ino).made=c.made:=hs.made;rw [e1,e2];exact h.bm
 ·have e2:(Y9 D n c ino).made=c.made:=hs.made;rw [e2] at hb;exact h.md b hb
def D1a (hi:0<=ino/\ino<=65535):∀ {L:List Ent} {s:Cl × (List UInt8->Option Int)},MayC s.1->MayC (bC D n ino s L).1
 | [],_,h=>h
 | x::L,s,h=>by
  have h1:MayC (aK D n ino s x).1:=by
   unfold aK dU;cases jF D n s.1 x.2 with
   | false=>exact h
   | true =>
    simp only [cond_true];cases (s.1.par x.2).isSome with
    | true=>exact ⟨h.ino,h.par,h.bm,h.md⟩
    | false =>
     refine ⟨h.ino,λi=>?_,h.bm,h.md⟩;show 0<=(xY s.1.par x.2 ino i).getD 0/\(xY s.1.par x.2 ino i).getD 0<=65535;unfold xY;split
     ·exact hi
     ·exact h.par i
  exact D1a hi (L:=L) (s:=aK D n ino s x) h1
def C2g {X:List Int} {K:List UInt8->Option Int}:∀ {L:List Int} {c:Cl},MayC c->MayC (O2 D X K c L)
 | [],_,h=>h
 | no::L,c,h=>by
  have hs:=rR (D:=D) (X:=X) (no:=no) (K:=K) (l:=O6 (blk D no)) (s:=(c,bU []));have hl:=B55 (D:=D) (X:=X) (no:=no) (K:=K) (l:=O6 (blk D no)) (s:=(c,bU [])) (rX (l:=[])) λx hx=>(C75 x hx).1
  have h1:MayC (V3 D X no K (c,bU []) (O6 (blk D no))).1:=⟨by rw [hs.ino];exact h.ino,by rw [hs.par];exact h.par,by rw [hs.blocks,hs.made];exact h.bm,by rw [hs.made];exact h.md⟩;exact C2g (L:=L) (c:=xW D X K c no) (h1.md' hl)
def D8Q (hi:0<=ino/\ino<=65535) (hm:R7 D.length n=A5) (h:MayC c):MayC (sF D n c ino):=by
 have h1:=D8R (ino:=ino) hm h;unfold sF;split
 ·exact h1
 ·unfold zS;have hb:=h1.same (iI (D:=D) (n:=n) (L:=M7 (gD (getD (blk D ((drV D n ino).getD 0 0))) (O4 (blk D ((drV D n ino).getD 0 0)) 32)) (D1 (X7 (getD (blk D ((drV D n ino).getD 0 0))) (O4 (blk D ((drV D n ino).getD 0 0)) 32)))) (s:=(Y9 D n c ino,gD (getD (blk D ((drV D n ino).getD 0 0))) (O4 (blk D ((drV D n ino).getD 0 0)) 32))));refine C2g (MayC.md' (D1a (s:=(_,_)) hi hb) ?_);have hl:=B2T (D:=D) (n:=n) (L:=M7 (gD (getD (blk D ((drV D n ino).getD 0 0))) (O4 (blk D ((drV D n ino).getD 0 0)) 32)) (D1 (X7 (getD (blk D ((drV D n ino).getD 0 0))) (O4 (blk D ((drV D n ino).getD 0 0)) 32)))) (s:=(Y9 D n c ino,gD (getD (blk D ((drV D n ino).getD 0 0))) (O4 (blk D ((drV D n ino).getD 0 0)) 32)));cases okX (X7 (getD (blk D ((drV D n ino).getD 0 0))) (O4 (blk D ((drV D n ino).getD 0 0)) 32)) (V5 D n (Y9 D n c ino) (getD (blk D ((drV D n ino).getD 0 0))) (O4 (blk D ((drV D n ino).getD 0 0)) 32)).2 with
  | true=>exact mY (hl.trans A0b)
  | false=>exact zeros_length
def D9F (hi:0<=ino/\ino<=65535) (hD:okD D) (hm:R7 D.length n=A5) (h:MayC c):MayC (jD D n c ino):=by
 unfold jD;split
 ·exact D7c hD hm h
 ·exact D8Q hi hm h
def D6u (hD:okD D) (hm:R7 D.length n=A5):∀ {e i:Nat} {c:Cl},RowW n c->MayC c->MayC (ofR D n e i c)
 | 0,_,_,_,h=>h
 | e+1,i,c,hr,h=>by
  obtain ⟨_,_,_,n128,_⟩:=J8.1 hm;unfold ofR;cases hc:c.row[i]? with
  | none=>exact h
  | some a =>
   have ha:=hr.rg a (E6j hc);exact D6u hD hm (C7G hr) (D9F ⟨by omega,by omega⟩ hD hm h)
end
def D8m (D:Dev):IsView [rT (D5 D),rT [.sl 0 0 D.length 256]] (.f 41 [(1,0)]) D :=
 ⟨1,0,A5,A5,rfl,rfl,rfl⟩
section
variable {D:Dev} {n:Int}
def oE (hD:okD D) (hm:R7 D.length n=A5):RowW n (V1 D n)/\Small (V1 D n) 128 (224*129) (33*129) (224*129)/\(∀ x∈(J1 D n).ino,x.length=11)/\(J1 D n).ino.length=(n+1).toNat/\(J1 D n).taken.length=D.length:=by
 obtain ⟨_,_,_,P,_,_,_,_,_,h1,h2⟩:=D0k (n:=n) (m:=0) hD (D8m D) hm;exact ⟨h1,h2,P.il,P.ilen,P.tlen⟩
def claimI_may:MayC (I8 D n):=by
 refine ⟨λx hx=>?_,λi=>?_,rfl,λb hb=>by cases hb⟩
 ·rw [List.eq_of_mem_replicate hx];exact D7A
 ·have e:((I8 D n).par i).getD 0=if i=1 then 1 else 0:=by
   show ((xY (λ_=>A7) 1 1) i).getD 0=_;unfold xY;split<;>rfl
  rw [e];split<;>omega
def D4X (hD:okD D) (hm:R7 D.length n=A5):MayC (V1 D n):=by
 obtain ⟨_,_,_,n128,_⟩:=J8.1 hm;unfold V1;have hs:=ownR_same (c:=I8 D n) (k:=(mS D.length n).toNat);refine D6u hD hm ?_ (claimI_may.same hs);refine RowW.same (c:=I8 D n) ⟨by simp [I8],λi=>?_,λi hi=>?_⟩ hs.row hs.par
 ·by_cases c1:i=1
  ·subst c1;simp [I8,xY]
  ·simp [I8,xY,c1]
 ·obtain ⟨_,_,n8,_⟩:=J8.1 hm;simp [I8] at hi;omega
def D7s {c:Cl} {a:Int} (hl:∀ i,O0 ((c.lnk i).getD 0)=A5) (h:MayC c):MayC (bB c a):=by
 unfold bB;split
 ·rename_i h1;refine ⟨λx hx=>?_,h.par,h.bm,h.md⟩;rcases C7t hx with h2 | h2
  ·exact h.ino x h2
  ·have hin:c.ino.getD a.toNat []∈c.ino:=by
    by_cases hl:a.toNat<c.ino.length
    ·rw [E5Z,E5P hl];exact E6v hl
    ·rw [E5Z (l:=c.ino),E6x (by omega)] at h1;simp at h1
   obtain ⟨h3,h4⟩:=h.ino _ hin;generalize c.ino.getD a.toNat []=y at *;rw [h2]
   match y,h3 with
   | [y0,y1,y2,y3,y4,y5,y6,y7,y8,y9,y10],_ =>
    have e:y0=1:=h1;subst e;have h5:A4c 1 y1 y2 y3 [y4,y5,y6,y7,y8,y9,y10]=A5:=h4;refine ⟨rfl,?_⟩;show A4c 1 ((c.lnk a).getD 0) y2 y3 [y4,y5,y6,y7,y8,y9,y10]=A5;unfold A4c at h5 ⊢;simp only [E5S] at h5 ⊢;exact ⟨h5.1,hl a,h5.2.2⟩
 ·exact h
def A8o {c:Cl} {a:Int}:(bB c a).row=c.row/\(bB c a).taken=c.taken/\(bB c a).blocks=c.blocks/\(bB c a).made=c.made/\(bB c a).lost=c.lost/\(bB c a).lnk=c.lnk/\(bB c a).par=c.par:=by
 unfold bB;split<;>exact ⟨rfl,rfl,rfl,rfl,rfl,rfl,rfl⟩
def dQ:∀ {L:List Int} {c:Cl},(T7 c L).row=c.row/\(T7 c L).taken=c.taken/\(T7 c L).blocks=c.blocks/\(T7 c L).made=c.made/\(T7 c L).lost=c.lost/\(T7 c L).lnk=c.lnk/\(T7 c L).par=c.par
 | [],c=>⟨rfl,rfl,rfl,rfl,rfl,rfl,rfl⟩
 | a::L,c=>by
  obtain ⟨a1,a2,a3,a4,a5,a6,a7⟩:=dQ (L:=L) (c:=bB c a);obtain ⟨b1,b2,b3,b4,b5,b6,b7⟩:=A8o (c:=c) (a:=a);exact ⟨a1.trans b1,a2.trans b2,a3.trans b3,a4.trans b4,a5.trans b5,a6.trans b6,a7.trans b7⟩
def C7p:∀ {L:List Int} {c:Cl},(∀ i,O0 ((c.lnk i).getD 0)=A5)->MayC c->MayC (T7 c L)
 | [],_,_,h=>h
 | a::L,c,hl,h=>C7p (L:=L) (c:=bB c a) (by rw [(A8o (c:=c) (a:=a)).2.2.2.2.2.1];exact hl) (D7s hl h)
def D4W (hD:okD D) (hm:R7 D.length n=A5):MayC (J1 D n):=by
 obtain ⟨h1,h2,_⟩:=oE hD hm;refine C7p (λi=>?_) (D4X hD hm);rw [B2y];have:=h2.lnk i;omega
def D9G {c:Cl} {k:Nat}:(sI c k).row=c.row:=ownR_same.row
def C0L (hD:okD D) (hm:R7 D.length n=A5):ImgOk D n (J1 D n):=by
 obtain ⟨h1,h2,h3,h4,h5⟩:=oE hD hm;obtain ⟨_,_,_,n128,_⟩:=J8.1 hm;have hc:=D4W hD hm;obtain ⟨s1,s2,s3,s4,s5,s6,s7⟩:=dQ (L:=(V1 D n).row) (c:=V1 D n);have hr:1<=(V1 D n).row.length:=by
  have:(sI (I8 D n) (mS D.length n).toNat).row.length<=(V1 D n).row.length:=D2f;rw [D9G] at this;simpa [I8] using this
 refine ⟨?_,h5,hc.ino,by rw [h4];omega,hc.bm,?_,hc.md⟩
 ·show 0<(T7 _ _).row.length;rw [s1];omega
 ·show (T7 _ _).blocks.length<=_;rw [s3];have:=h2.blocks;omega
def C84 {m:Int} {f:Cell} {h:B5} {cs:List Cell} (hD:okD D) (hv:IsView h f D) (hm:R7 D.length n=A5) (hc:IsCl h cs (J1 D n)) :
  bD [.a (vwC D.length n m f),.a cs] h=A4 (sV h.length 0 D.length 256,h++[rT (D5 (uV D n (J1 D n)))]) :=
 C6B hD hv hm hc (C0L hD hm)
end
def B2k:List Int->List (List UInt8)->Int->List UInt8->List UInt8
 | no::l,b::m,x,a=>B2k l m x (if no=x then b else a)
 | _,_,_,a=>a
def C9G (ino:List (List Int)) (b:Nat):Nat->Nat->List UInt8->List UInt8
 | 0,_,a=>a
 | e+1,k,a=>C9G ino b e (k+1) (J7 a (32*k) (A8k (ino.getD (b+k) [])))
def B83 (D:Dev) (n:Int) (c:Cl) (i:Nat):List UInt8 :=
 if vK D.length n i=3 then C9G c.ino (8*(i-2)+1) 8 0 (zeros 256) else B2k c.blocks c.made i (D.getD i [])
def B8W {O:Dev} {no:Int} {b:List UInt8} {i:Nat} (hi:i<O.length):(A1s O no b)[i]?=if no=i then A4 b else O[i]? := by
 unfold A1s;by_cases h:0<=no/\no<O.length
 ·rw [if_pos h,List.getElem?_set];by_cases e:no=i
  ·rw [if_pos (by omega),if_pos (by omega),if_pos e]
  ·rw [if_neg (by omega),if_neg e]
 ·rw [if_neg h,if_neg (by omega)]
def D0R {i:Nat}:∀ {l:List Int} {m:List (List UInt8)} {O:Dev},i<O.length->(C2L O l m)[i]?=(O[i]?).map (B2k l m i)
 | [],_,O,hi=>by rw [C06,E5P hi];rfl
 | _::_,[],O,hi=>by rw [E5P hi];exact E5P hi
 | no::l,b::m,O,hi=>by
  have ih:=D0R (i:=i) (l:=l) (m:=m) (O:=A1s O no b) (by rw [dS];exact hi);rw [B8W hi] at ih;refine ih.trans ?_;rw [E5P hi];split<;>rename_i e
  ·show A4 _=A4 (B2k l m i (if no=i then b else O[i]));rw [if_pos e]
  ·show A4 _=A4 (B2k l m i (if no=i then b else O[i]));rw [if_neg e]
def C8m {i:Nat}:∀ {e:Nat} {no:Int} {O:Dev},i<O.length->(B6y O no e)[i]?=if no<=i/\i<no+e then A4 (zeros 256) else O[i]?
 | 0,no,O,hi=>by rw [if_neg (by omega)];rfl
 | e+1,no,O,hi=>by
  have ih:=C8m (i:=i) (e:=e) (no:=no+1) (O:=A1s O no (zeros 256)) (by rw [dS];exact hi);rw [B8W hi] at ih;refine ih.trans ?_;by_cases h1:no=i
  ·rw [if_neg (by omega),if_pos h1,if_pos (by omega)]
  ·rw [if_neg h1];by_cases h2:no+1<=i/\i<no+1+e
   ·rw [if_pos h2,if_pos (by omega)]
   ·rw [if_neg h2,if_neg (by omega)]
def stI (b n:Int) (j:Nat) (i:Nat) (x:List Int) (a:List UInt8):List UInt8 :=
 if S4 b n i=A5/\X3 b n i=j then J7 a (32*(cZ b n i).toNat) (A8k x) else a
def foldI (b n:Int) (j:Nat):Nat->List (List Int)->List UInt8->List UInt8
 | _,[],a=>a
 | i,x::l,a=>foldI b n j (i+1) l (stI b n j i x a)
def D0C {n:Int} {j:Nat} (hn:n<=128):∀ {l:List (List Int)} {i:Nat} {O:Dev},okD O->(∀ x∈l,x.length=11)->j<O.length->(B8y n O i l)[j]?=(O[j]?).map (foldI O.length n j i l)
 | [],_,O,h,_,hj=>by rw [E5P hj];exact E5P hj
 | x::l,i,O,h,hx,hj=>by
  obtain ⟨h1,h2⟩:=D1Z (n:=n) (i:=i) h (hx x (E6g ..)) hn;have ih:=D0C (n:=n) (j:=j) hn (l:=l) (i:=i+1) (O:=C0Z n O i x) h1 (λy hy=>hx y (E6f _ hy)) (by rw [h2];exact hj);rw [h2] at ih;refine ih.trans ?_;have e:(C0Z n O i x)[j]?=A4 (stI O.length n j i x O[j]):=by
   unfold C0Z stI;cases hc:S4 O.length n i with
   | false=>rw [if_neg (by decide),if_neg (λe=>by cases e.1)];exact E5P hj
   | true =>
    rw [if_pos rfl,B8W hj];by_cases e:X3 O.length n i=j
    ·rw [if_pos e,if_pos ⟨rfl,e⟩,e,B5Z hj]
    ·rw [if_neg e,if_neg (λq=>e q.2)];exact E5P hj
  rw [e,E5P hj];rfl
section
variable {b n:Int} {j:Nat}
def A8e:∀ {l m:List (List Int)} {i:Nat} {a:List UInt8},foldI b n j i (l++m) a=foldI b n j (i+l.length) m (foldI b n j i l a)
 | [],m,i,a=>rfl
 | x::l,m,i,a=>by
  show foldI b n j (i+1) (l++m) _=foldI b n j (i+(l.length+1)) m (foldI b n j (i+1) l _);rw [A8e,show i+1+l.length=i+(l.length+1) by omega]
def A8f:∀ {l:List (List Int)} {i:Nat} {a:List UInt8},(∀ k:Nat,i<=k->k<i+l.length->¬ (S4 b n k=A5/\X3 b n k=j))->foldI b n j i l a=a
 | [],i,a,_=>rfl
 | x::l,i,a,h=>by
  have e:stI b n j i x a=a:=by unfold stI;rw [if_neg (h i (E5V _) (by simp))]
  show foldI b n j (i+1) l (stI b n j i x a)=a;rw [e];exact A8f λk h1 h2=>h k (by omega) (by simp at h2 ⊢;omega)
def D0w (hm:R7 b n=A5) (hj:2<=j) (hn:8*(j-2)+8<=n.toNat) {ino:List (List Int)} :
  ∀ {e k:Nat} {a:List UInt8},k+e=8->8*(j-2)+9<=ino.length->foldI b n j (8*(j-2)+1+k) ((ino.drop (8*(j-2)+1+k)).take e) a=C9G ino (8*(j-2)+1) e k a
 | 0,k,a,_,_=>by rw [E6U];rfl
 | e+1,k,a,hk,hl=>by
  have V7:8*(j-2)+1+k<ino.length:=by omega
  rw [E5X V7,List.take_succ_cons];obtain ⟨_,_,n8,_⟩:=J8.1 hm;have hi:S4 b n ((8*(j-2)+1+k:Nat):Int)=A5:=nB.2 ⟨hm,by omega,by omega⟩;have hw:X3 b n ((8*(j-2)+1+k:Nat):Int)=j:=by unfold X3;rw [hi];simp only [cond_true];omega
  have hk2:(cZ b n ((8*(j-2)+1+k:Nat):Int)).toNat=k:=by unfold cZ;rw [hi];simp only [cond_true];omega
  have es:stI b n j (8*(j-2)+1+k) ino[8*(j-2)+1+k] a=J7 a (32*k) (A8k (ino.getD (8*(j-2)+1+k) [])):=by
   unfold stI;rw [if_pos ⟨hi,hw⟩,hk2,E5Z,E5P V7];rfl
  show foldI b n j (8*(j-2)+1+k+1) _ (stI b n j _ _ a)=C9G ino (8*(j-2)+1) e (k+1) _;rw [es];exact D0w hm hj hn (k:=k+1) (by omega) hl
end
def E3u {l:List (List Int)} {q:Nat}:l=l.take q++((l.drop q).take 8++l.drop (q+8)):=by
 have e:l.drop (q+8)=(l.drop q).drop 8:=by rw [E6P]
 rw [e,List.take_append_drop,List.take_append_drop]
def D9g {D:Dev} {n:Int} {c:Cl} {i:Nat} (hD:okD D) (hm:R7 D.length n=A5) (ok:ImgOk D n c) (P6:c.ino.length=(n+1).toNat) (hi:i<D.length) :
  (uV D n c)[i]?=A4 (if i=1 then fW (V4 0 c.taken) else B83 D n c i):=by
 obtain ⟨b16,b512,n8,n128,nm8,nb⟩:=J8.1 hm;have hx:∀ x∈c.ino,x.length=11:=λx hx=>(ok.ino x hx).1
 obtain ⟨ok1,l1⟩:=B2l (l:=c.blocks) (m:=c.made) hD ok.md;obtain ⟨ok2,l2⟩:=A6M (e:=(A2M D.length n).toNat) (no:=uY D.length n) ok1;obtain ⟨ok3,l3⟩:=B14 (n:=n) n128 (l:=c.ino) (i:=0) ok2 hx;have eF:uY D.length n=2:=by unfold uY;rw [hm];rfl
 have eN:A2M D.length n=n/8:=by unfold A2M;rw [hm];rfl
 unfold uV;rw [B8W (by rw [l3,l2,l1];exact hi)];by_cases h1:i=1
 ·rw [if_pos (by omega),if_pos h1]
 ·rw [if_neg (by omega),if_neg h1,D0C n128 ok2 hx (by rw [l2,l1];exact hi),l2,l1,C8m (by rw [l1];exact hi),D0R hi,E5P hi,eF,eN];unfold B83;have eD:D.getD i []=D[i]:=by rw [E5Z,E5P hi];rfl
  by_cases ha:vK D.length n i=3
  ·have h3:2<=i/\((i:Int)-2)*8<n:=by
    unfold vK at ha;split at ha
    ·split at ha
     ·omega
     ·split at ha<;>omega
    ·omega
   rw [if_pos ha,if_pos (by omega)];have hs:c.ino=c.ino.take (8*(i-2)+1)++((c.ino.drop (8*(i-2)+1)).take 8++c.ino.drop (8*(i-2)+1+8)):=E3u;show A4 (foldI D.length n i 0 c.ino (zeros 256))=_;rw [hs,A8e,A8e];have t1:(c.ino.take (8*(i-2)+1)).length=8*(i-2)+1:=by rw [E6l];omega
   have t2:((c.ino.drop (8*(i-2)+1)).take 8).length=8:=by rw [E6l,E6O];omega
   rw [A8f (l:=c.ino.take (8*(i-2)+1)),t1,E6e,t2]
   ·have:=D0w (b:=D.length) (n:=n) (j:=i) hm h3.1 (by omega) (ino:=c.ino) (e:=8) (k:=0) (a:=zeros 256) rfl (by omega);rw [E6E] at this;rw [this,A8f,<-hs];intro k k1 k2 q;have q2:=q.2;unfold X3 at q2;rw [q.1] at q2;simp only [cond_true] at q2;omega
   ·intro k k1 k2 q;have q2:=q.2;unfold X3 at q2;rw [q.1] at q2;simp only [cond_true] at q2;rw [t1] at k2;have:=(nB.1 q.1).2.1;omega
  ·rw [if_neg ha,if_neg (λq=>ha ?_)]
   ·show A4 (foldI D.length n i 0 c.ino _)=_;rw [A8f,eD];intro k k1 k2 q;refine ha ?_;have q2:=q.2;unfold X3 at q2;rw [q.1] at q2;simp only [cond_true] at q2;obtain ⟨_,q3,q4⟩:=nB.1 q.1;unfold vK;rw [if_pos ⟨hm,by omega,by omega⟩,if_neg (by omega),if_pos (by omega)]
   ·unfold vK;rw [if_pos ⟨hm,by omega,by omega⟩,if_neg (by omega),if_pos (by omega)]
def A7X (b:List UInt8) (i:Nat):List UInt8:=b.set (i/8) (b.getD (i/8) 0+UInt8.ofNat (2 ^ (i%8)))
def C1Y {b:List UInt8} {i:Nat}:(A7X b i).length=b.length:=by simp [A7X]
def C1Z {l:List Nat}:∀ {b:List UInt8},(l.foldl A7X b).length=b.length:=by
 induction l with
 | nil=>intro b;rfl
 | cons x l ih=>intro b;rw [List.foldl_cons,ih,C1Y]
def C73:∀ {l:List Bool} {i k:Nat},V4 i (l++E5R k A6)=V4 i l
 | [],i,0=>rfl
 | [],i,k+1=>by
  have ih:=C73 (l:=[]) (i:=i+1) (k:=k);rw [E59] at ih ⊢;rw [E6k];show (if A6=A5 then _ else V4 (i+1) (E5R k A6))=_;rw [if_neg (by decide),ih];rfl
 | b::l,i,k=>by
  have ih:=C73 (l:=l) (i:=i+1) (k:=k);show (if b=A5 then i::V4 (i+1) (l++E5R k A6) else V4 (i+1) (l++E5R k A6))=(if b=A5 then i::V4 (i+1) l else V4 (i+1) l);rw [ih]
def D07 {b:Bool}:∀ {l:List Bool} {i:Nat},V4 i (l++[b])=V4 i l++(if b=A5 then [i+l.length] else [])
 | [],i=>by cases b<;>rfl
 | x::l,i=>by
  have ih:=D07 (b:=b) (l:=l) (i:=i+1);show (if x=A5 then i::V4 (i+1) (l++[b]) else V4 (i+1) (l++[b]))=(if x=A5 then i::V4 (i+1) l else V4 (i+1) l)++_;rw [ih,E52,show i+1+l.length=i+(l.length+1) by omega];cases x<;>rfl
def C6m:∀ {l:List Bool} {A:List Bool} {i m:Nat},A.length=i->l.length<=m->(V4 i l).foldl (λb x=>b.set x A5) (A++E5R m A6)=A++l++E5R (m-l.length) A6
 | [],A,i,m,_,_=>by simp [V4]
 | b::l,A,i,m,hA,hm=>by
  obtain ⟨m,rfl⟩:∃ m',m=m'+1:=⟨m-1,by simp at hm;omega⟩;have hm':l.length<=m:=by simp at hm;omega
  have e0:A++E5R (m+1) A6=(A++[A6])++E5R m A6:=by rw [E6k,E5Y];rfl
  have e1:(A++E5R (m+1) A6).set i A5=(A++[A5])++E5R m A6:=by
   rw [E6k,<-hA,E6u _ _ (E5V _),E6D,E5Y];rfl
  have em:m+1-(b::l).length=m-l.length:=by simp
  rw [em];cases b with
  | true =>
   have ih:=C6m (l:=l) (A:=A++[A5]) (i:=i+1) (m:=m) (by simp [hA]) hm';show (V4 (i+1) l).foldl _ ((A++E5R (m+1) A6).set i A5)=_;rw [e1,ih];simp
  | false =>
   have ih:=C6m (l:=l) (A:=A++[A6]) (i:=i+1) (m:=m) (by simp [hA]) hm';show (V4 (i+1) l).foldl _ (A++E5R (m+1) A6)=_;rw [e0,ih];simp
def InvB (i:Nat) (b:List UInt8):Prop:=∀ q,(b.getD q 0).toNat<2 ^ (i-8*q)
def InvB.more {i:Nat} {b:List UInt8} (h:InvB i b):InvB (i+1) b:=λq=>Nat.lt_of_lt_of_le (h q) (Nat.pow_le_pow_right (by omega) (by omega))
def E0s {i:Nat} {b:List UInt8} (h:InvB i b):A7X b i=uX b i:=by
 unfold A7X uX
 congr 1
 have h1:=h (i/8);rw [show i-8*(i/8)=i%8 by omega] at h1;have e:=Nat.two_pow_add_eq_or_of_lt h1 1;rw [Nat.mul_one] at e;have hl:=B2a i;unfold vR at hl ⊢;refine UInt8.toNat_inj.1 ?_;rw [UInt8.toNat_add,UInt8.toNat_ofNat',UInt8.toNat_ofNat',Nat.or_comm,<-e,Nat.add_mod_mod,Nat.add_comm]
def InvB.set {i:Nat} {b:List UInt8} (h:InvB i b):InvB (i+1) (uX b i):=by
 intro q;unfold uX;rw [E5Z,List.getElem?_set];by_cases e:i/8=q
 ·rw [if_pos e];by_cases hl:i/8<b.length
  ·rw [if_pos hl,E6z,UInt8.toNat_ofNat'];have h1:=h (i/8);rw [show i-8*(i/8)=i%8 by omega] at h1;have e2:=Nat.two_pow_add_eq_or_of_lt h1 1;rw [Nat.mul_one] at e2;have hm:vR i=2 ^ (i%8):=rfl;rw [hm,Nat.or_comm,<-e2];have e3:2 ^ (i+1-8*q)=2 ^ (i%8)*2:=by rw [<-Nat.pow_succ];congr 1;omega
   rw [e3];exact Nat.lt_of_le_of_lt (Nat.mod_le _ _) (by omega)
  ·rw [if_neg hl];exact Nat.pow_pos (by omega)
 ·rw [if_neg e,<-E5Z];exact h.more q
def D1B:∀ {l:List Bool} {i:Nat} {b:List UInt8},InvB i b->(V4 i l).foldl A7X b=(V4 i l).foldl uX b
 | [],i,b,_=>rfl
 | true::l,i,b,h=>by
  show (V4 (i+1) l).foldl A7X (A7X b i)=(V4 (i+1) l).foldl uX (uX b i);rw [E0s h];exact D1B h.set
 | false::l,i,b,h=>D1B (l:=l) (i:=i+1) h.more
def A8U (S:List Nat):List Bool:=S.foldl (λb x=>b.set x A5) (E5R 2048 A6)
def A7Z {S:List Nat}:(A8U S).length=2048:=by
 have:∀ (S:List Nat) (b:List Bool),(S.foldl (λb x=>b.set x A5) b).length=b.length:=by
  intro S
  induction S with
  | nil=>intro b;rfl
  | cons x S ih=>intro b;rw [List.foldl_cons,ih,E6o]
 unfold A8U;rw [this,E6n]
def D9t {l:List Bool} (hl:l.length<=2048):(V4 0 (A8U (V4 0 l))).foldl A7X (zeros 256)=fW (V4 0 l):=by
 have e:=C6m (l:=l) (A:=[]) (i:=0) (m:=2048) rfl hl;rw [E59,E59] at e;unfold A8U fW;rw [e,C73];refine D1B λq=>?_
 have:((zeros 256).getD q 0)=0:=by
  rw [E5Z];unfold zeros;rw [List.getElem?_replicate];split<;>rfl
 rw [this];exact Nat.pow_pos (by omega)
section
variable {g:B5} {x0:Val} {l:List Bool} {q:Nat}
def D4b {i k:Nat} (h:k<=i%8):2 ^ k<256:=by
 have:(2:Nat) ^ k<=2 ^ 7:=Nat.pow_le_pow_right (by omega) (by omega);omega
def E1i {b:List UInt8} {i m:Nat} (hb:b.length=256) (hi:i<2048):∀ e k M:Nat,k+e=i%8->e<M ->
  B34 q m M x0 (sV (g.length+1) 0 256 1) (iV (i:Int)) (iV ((2 ^ k:Nat):Int)) (iV (k:Int)) (g++[rT [],rT (B4 b)]) =
   B32 q m x0 (sV (g.length+1) 0 256 1) (iV (i:Int)) (g++[rT [],rT (B4 (A7X b i))]):=by
 intro e
 induction e with
 | zero =>
  intro k M hk hM;obtain ⟨M,rfl⟩:∃ M',M=M'+1:=⟨M-1,by omega⟩;have ek:k=i%8:=by omega
  subst ek;have r1:N4 .rem (iV (i:Int)) (iV 8)=A4 (iV ((i%8:Nat):Int)):=by
   rw [A2G (by omega) (by omega)];congr 3
  have q1:N4 .quo (iV (i:Int)) (iV 8)=A4 (iV ((i/8:Nat):Int)):=by
   rw [uQ (by omega) (by omega) (by omega)];congr 3
  have V7:i/8<b.length:=by omega
  have ad:D9 1 (sV (g.length+1) 0 256 1) (iV ((i/8:Nat):Int))=A4 (pV (g.length+1) (i/8)):=by rw [C9 (by omega)];simp
  have l1:(B4 b)[i/8]?=A4 (.i .u8 b[i/8].toNat):=by rw [Z0,E5P V7];rfl
  have hp:=D4b (i:=i) (E5V _);have w1:E5U .u8 ((2 ^ (i%8):Nat):Int)=((2 ^ (i%8):Nat):Int):=by
   generalize 2 ^ (i%8)=y at *;exact wrap_u8 (by omega) (by omega)
  have eb:b.getD (i/8) 0=b[i/8]:=by rw [E5Z,E5P V7];rfl
  have w2:E5U .u8 ((b[i/8].toNat:Int)+((2 ^ (i%8):Nat):Int))=(((b.getD (i/8) 0+UInt8.ofNat (2 ^ (i%8))).toNat:Nat):Int):=by
   rw [eb,sE,UInt8.toNat_add,UInt8.toNat_ofNat',Nat.add_mod_mod];generalize 2 ^ (i%8)=y at *;simp
  have es:(B4 b).set (i/8) (.i .u8 (((b.getD (i/8) 0+UInt8.ofNat (2 ^ (i%8))).toNat:Nat):Int))=B4 (A7X b i):=by rw [iY];rfl
  have s1:=C4n (cs:=B4 b) (off:=i/8) (x:=.i .u8 (((b.getD (i/8) 0+UInt8.ofNat (2 ^ (i%8))).toNat:Nat):Int)) (by rw [A9];omega);rw [es] at s1;have c0:¬ ((i%8:Nat):Int)<((i%8:Nat):Int):=by omega
  rw [A6a];generalize (b.getD (i/8) 0+UInt8.ofNat (2 ^ (i%8))).toNat=z at *;generalize ((2 ^ (i%8):Nat):Int)=y at *;generalize B4 b=B at *;generalize B4 (A7X b i)=B' at *;simp only [esc,fN,xD,A39,r1,c0,q1,ad,l1,w1,w2,s1]
 | succ e ih =>
  intro k M hk hM;obtain ⟨M,rfl⟩:∃ M',M=M'+1:=⟨M-1,by omega⟩;have r1:N4 .rem (iV (i:Int)) (iV 8)=A4 (iV ((i%8:Nat):Int)):=by
   rw [A2G (by omega) (by omega)];congr 3
  have c0:(k:Int)<((i%8:Nat):Int):=by omega
  have hp:=D4b (i:=i) (k:=k) (by omega);have w2:E5U .i64 (((2 ^ k:Nat):Int)*2)=((2 ^ (k+1):Nat):Int):=by
   rw [Nat.pow_succ];generalize 2 ^ k=y at *;rw [wrap_i64 (by omega) (by omega)];omega
  have w1:=D3 (show k+1<9223372036854775808 by omega);rw [A6a];simp only [esc,r1,c0,w2,w1];exact ih (k+1) M (by omega) (by omega)
def E1h (hx:Has g x0 1 2048 (J9 l)) (hl:l.length=2048):∀ (e i M:Nat) (b:List UInt8),i+e=2048->e<M->b.length=256->8<q ->
  B33 q M x0 (sV (g.length+1) 0 256 1) (iV (i:Int)) (g++[rT [],rT (B4 b)]) =
   A4 (sV (g.length+1) 0 256 1,g++[rT [],rT (B4 ((V4 i (l.drop i)).foldl A7X b))]):=by
 intro e
 induction e with
 | zero =>
  intro i M b hi hM hb hq;obtain ⟨M,rfl⟩:∃ M',M=M'+1:=⟨M-1,by omega⟩;have ei:i=2048:=by omega
  subst ei;have hlen:=hx.len;have c0:¬ ((2048:Nat):Int)<((2048:Nat):Int):=by omega
  have ed:l.drop 2048=[]:=E56 (by omega);rw [xH,ed];simp only [esc,hlen,c0];rfl
 | succ e ih =>
  intro i M b hi hM hb hq;obtain ⟨M,rfl⟩:∃ M',M=M'+1:=⟨M-1,by omega⟩;have hlen:=hx.len;have c0:((i:Nat):Int)<((2048:Nat):Int):=by omega
  have P6:i<l.length:=by omega
  obtain ⟨id,off,rfl,hid,hA,_⟩:=(hx.more [rT [],rT (B4 b)]).sl (by omega);have ad:D9 1 (sV id off 2048 1) (iV (i:Int))=A4 (pV id (off+i)):=by rw [C9 (by omega)];simp
  have h1:=hA i (.b l[i]) (by simp [J9,P6]);have w1:=D3 (show i+1<9223372036854775808 by omega);rw [E5X P6];cases hb2:l[i] with
  | true =>
   rw [hb2] at h1;have e1:=E1i (g:=g) (x0:=sV id off 2048 1) (q:=q) (m:=M) hb (show i<2048 by omega) (i%8) 0 q (by omega) (by omega);rw [Nat.pow_zero] at e1;rw [xH];simp only [esc,hlen,c0,ad,h1];refine e1.trans ?_;rw [A59];simp only [esc,w1];exact ih (i+1) M (A7X b i) (by omega) (by omega) (by rw [C1Y,hb]) hq
  | false =>
   rw [hb2] at h1;rw [xH];simp only [esc,hlen,c0,ad,h1];rw [A59];simp only [esc,w1];exact ih (i+1) M b (by omega) (by omega) hb hq
def C7U {h:B5} (hx:Has h x0 1 2048 (J9 l)) (hl:l.length=2048):A7G [x0] h=A4 (sV h.length 0 256 1,h++[rT (B4 ((V4 0 l).foldl A7X (zeros 256)))]):=by
 have e:=E1h (q:=2049) hx.ro hl 2048 0 2049 (zeros 256) (by omega) (by omega) zeros_length (by omega);have q1:N4 .quo (iV ((2048:Nat):Int)) (iV 8)=A4 (iV 256):=by
  rw [uQ (by omega) (by omega) (by omega)];congr 3
 have a1:A2T (iV 256) (iV 256)=A4 256:=rfl;have hlen:=hx.len;refine B9X (n:=2049) (h2:=ro h++[rT [],rT (B4 ((V4 0 l).foldl A7X (zeros 256)))]) (v:=sV ((ro h).length+1) 0 256 1) ?_ ⟨?_,(ro h).length+1,rfl,by rw [F7];omega,?_⟩ (by simp)
 ·rw [C21];simp only [esc,hlen,q1,a1,oT];exact e
 ·rw [A9,C1Z,zeros_length]
 ·rw [K9];rfl
def E3n {S:List Nat} {nv:Nat} (hS:∀ x∈S,x<2048) (hl:S.length<=2048) (hx:Has g x0 1 nv (encI (S.map λx:Nat=>(x:Int)))):∀ (e i M:Nat),i+e=S.length->e<M ->
  ∃ H',B8f q M x0 (sV (g.length+1) 0 2048 1) (iV (i:Int)) (g++[rT [],rT (J9 ((S.take i).foldl (λb x=>b.set x A5) (E5R 2048 A6)))]) =
   A4 (sV (g.length+2) 0 256 1,H')/\rd H' (g.length+2)=rT (B4 ((V4 0 (A8U S)).foldl A7X (zeros 256))):=by
 intro e;have hnv:S.length=nv:=by
  have:=hx.length;rw [B7,List.length_map] at this;omega
 subst hnv
 induction e with
 | zero =>
  intro i M hi hM;obtain ⟨M,rfl⟩:∃ M',M=M'+1:=⟨M-1,by omega⟩;have ei:i=S.length:=by omega
  subst ei;have hlen:=hx.len;have c0:¬ ((S.length:Nat):Int)<((S.length:Nat):Int):=by omega
  rw [List.take_length];have eb:S.foldl (λb x=>b.set x A5) (E5R 2048 A6)=A8U S:=rfl;rw [eb];have hB:=C7U (x0:=sV (g.length+1) 0 2048 1) (l:=A8U S) (h:=g++[rT [],rT (J9 (A8U S))]) (Has.row (rw:=A5) (by rw [K9];rfl) (by rw [J9,List.length_map,A7Z]) (C03 _)) A7Z;rw [A81];generalize B4 ((V4 0 (A8U S)).foldl A7X (zeros 256))=Y at *;generalize J9 (A8U S)=B at *;simp only [E5T,E52,E6h,E6e,Nat.reduceAdd,E5Y,E6q,E59] at hB;simp only [esc,hlen,c0,hB];exact ⟨_,rfl,by rw [K9];rfl⟩
 | succ e ih =>
  intro i M hi hM;obtain ⟨M,rfl⟩:∃ M',M=M'+1:=⟨M-1,by omega⟩;have P6:i<S.length:=by omega
  have hlen:=hx.len;have c0:((i:Nat):Int)<((S.length:Nat):Int):=by omega
  obtain ⟨B,eB⟩:∃ B,B=(S.take i).foldl (λb x=>b.set x A5) (E5R 2048 A6):=⟨_,rfl⟩;have eN:(S.take (i+1)).foldl (λb x=>b.set x A5) (E5R 2048 A6)=B.set S[i] A5:=by
   rw [E58 P6,List.foldl_append,<-eB];rfl
  have lB:B.length=2048:=by
   have:=A7Z (S:=S.take i);unfold A8U at this;rw [eB];exact this
  obtain ⟨id,off,rfl,hid,hA,_⟩:=(hx.more [rT [],rT (J9 B)]).sl (by omega);have ad:D9 1 (sV id off S.length 1) (iV (i:Int))=A4 (pV id (off+i)):=by rw [C9 (by omega)];simp
  have h1:=hA i (.i .i64 (S[i]:Int)) (by simp [encI,P6]);have hs:=hS _ (E6v P6);obtain ⟨s,es⟩:∃ s,s=S[i]:=⟨_,rfl⟩;rw [<-es] at h1 hs eN;have w1:=D3 (show i+1<9223372036854775808 by omega);have c1:(s:Int)>=0:=by omega
  have c2:(s:Int)<2048:=by omega
  have a2:D9 1 (sV (g.length+1) 0 2048 1) (iV (s:Int))=A4 (pV (g.length+1) s):=by rw [C9 hs];simp
  have s1:=C4n (cs:=J9 B) (off:=s) (x:=.b A5) (by simp [J9,lB];omega);have e1:(J9 B).set s (.b A5)=J9 (B.set s A5):=by simp [J9,List.map_set]
  rw [e1] at s1;obtain ⟨H',f1,f2⟩:=ih (i+1) M (by omega) (by omega);refine ⟨H',?_,f2⟩;rw [<-eB];rw [eN] at f1;rw [A81];generalize J9 B=Y at *;generalize J9 (B.set s A5)=Y' at *;simp only [esc,xD,hlen,c0,ad,h1,c1,c2,a2,s1,C31,w1];exact f1
def C9B {h:B5} {S:List Nat} {nv:Nat} (hS:∀ x∈S,x<2048) (hl:S.length<=2048) (hx:Has h x0 1 nv (encI (S.map λx:Nat=>(x:Int)))) :
  B0N [x0] h=A4 (sV h.length 0 256 1,h++[rT (B4 ((V4 0 (A8U S)).foldl A7X (zeros 256)))]):=by
 obtain ⟨H',e1,e2⟩:=E3n (q:=2049) hS hl hx.ro S.length 0 2049 (by omega) (by omega);have a1:A2T (iV 2048) (iV 2048)=A4 2048:=rfl;have rz:rows [Cell.b A6] 2048=J9 (E5R 2048 A6):=by unfold rows J9;rw [List.map_replicate,List.flatten_replicate_singleton]
 refine C3v (n:=2049) (h2:=H') (v:=sV ((ro h).length+2) 0 256 1) ?_ ⟨?_,(ro h).length+2,rfl,by rw [F7];omega,e2⟩ (by simp)
 ·rw [C4S];generalize E5R 2048 A6=Z at *;simp only [esc,a1,rz];exact e1
 ·rw [A9,C1Z,zeros_length]
end
def C71 (s:List UInt8) (hs:s.length<9223372036854775807) (n:Nat) (h:B5):∀ d i m:Nat,i+d=s.length->d<m ->
  B31 n m (.c (.s s)) (iV i) h=A4 (bV ((s.drop i).all cE),h)
 | d,i,0,_,hm=>by omega
 | 0,i,m+1,hi,hm=>by
  have c0:¬ ((i:Int)<s.length):=by omega
  rw [A58,show s.drop i=[] from E56 (by omega)];simp only [esc,c0,List.all_nil]
 | d+1,i,m+1,hi,hm=>by
  have h1:(i:Int)<s.length:=by omega
  have h2:i<s.length:=by omega
  have ih:=C71 s hs n h d (i+1) m (by omega) (by omega);rw [A58,E5X h2,E6B];by_cases c1:(s[i].toNat:Int)=0
  ·have f:cE s[i]=A6:=by unfold cE;rw [decide_eq_true c1];rfl
   simp only [esc,h1,kR h2,c1,f,E51]
  ·by_cases c2:(s[i].toNat:Int)=47
   ·have f:cE s[i]=A6:=by unfold cE;rw [decide_eq_true c2];simp
    simp only [esc,h1,kR h2,c2,f,E51,Int.reduceEq]
   ·have f:cE s[i]=A5:=by unfold cE;rw [decide_eq_false c1,decide_eq_false c2];rfl
    simp only [esc,h1,kR h2,c1,c2,f,E55,D3 (show i+1<9223372036854775808 by omega)];exact ih
def right_eq {s:List UInt8} (hs:s.length<9223372036854775807) (h:B5):A09 [.c (.s s)] h=A4 (bV (W4 s),h):=by
 refine B7l (n:=s.length+1) (h2:=ro h) ?_ rfl;rw [C20];have hl:=C71 s hs (s.length+1) (ro h) s.length 0 (s.length+1) (by omega) (by omega);rw [E6a] at hl;unfold W4;by_cases c1:(s.length:Int)<1
 ·simp only [esc,c1,Bool.true_or,E51]
 ·by_cases c2:(24:Int)<s.length
  ·simp only [esc,c1,c2,Bool.true_or,E51,Bool.or_true]
  ·by_cases c3:s=[46]
   ·subst c3;simp only [esc];rfl
   ·by_cases c4:s=[46,46]
    ·subst c4;simp only [esc];rfl
    ·simp only [esc,c1,c2,c3,c4,Bool.or_self,E55];exact hl
def D5t {s:List UInt8} (hs:s.length<=24):jE s s.length=UInt8.ofNat s.length::(s++zeros 24).take 24:=by
 unfold jE;refine congrArg (UInt8.ofNat s.length :: ·) ?_;rw [List.take_append,E53 (E5V _),E53 hs];unfold zeros;rw [List.take_replicate,E6R (by omega)]
def B84 {g:B5} (s:List UInt8) (hs:s.length<=24) (k:Nat):∀ d i m h id,i+d=24->d<m->Low g.length g h->g.length<=id->rd h id=rT (B4 (UInt8.ofNat s.length::(s++zeros 24).take i)) ->
  ∃ v' h',B8d k m (.c (.s s)) (sV id 0 (i+1) 1) (iV i) h=A4 (v',h')/\Out g.length h' v' 1 25 (B4 (jE s s.length))
 | d,i,0,h,id,_,hm,_,_,_=>by omega
 | 0,i,m+1,h,id,hi,hm,hlow,hb,hr=>by
  have e:i=24:=by omega
  subst e;have h1':¬ ((24:Nat):Int)<24:=by omega
  rw [<-D5t hs] at hr;rw [A8Z];exact ⟨_,_,by simp only [esc,h1']<;>rfl,by rw [A9,oQ (E5V _) hs],id,rfl,hb,hr⟩
 | d+1,i,m+1,h,id,hi,hm,hlow,hb,hr=>by
  have hlen:(s++zeros 24).length=s.length+24:=by rw [E5T,zeros_length]
  have E4W:i<(s++zeros 24).length:=by omega
  have c1:(i:Int)<24:=by omega
  have step:∀ x:UInt8,(s++zeros 24)[i]=x->∃ v' h',bnd (kV (h++[rT [.i .u8 x.toNat]]) 1 (sV id 0 (i+1) 1) (sV h.length 0 1 1)) (λp=>B8c k m (.c (.s s)) p.1 (iV i) p.2)=A4 (v',h')/\Out g.length h' v' 1 25 (B4 (jE s s.length)):=by
   intro x hx;obtain ⟨h',a1,a2,a3,a4,a5⟩:=push (ys:=[.i .u8 x.toNat]) (sz:=1) (n:=i+1) hlow hr (by rw [A9,E52,E6l];omega) hb rfl (by omega) (by omega);have e4:B4 (UInt8.ofNat s.length::(s++zeros 24).take i)++[Cell.i .u8 x.toNat]=B4 (UInt8.ofNat s.length::(s++zeros 24).take (i+1)):=by
    rw [E58 E4W,hx,<-E6q,N1];rfl
   rw [e4] at a2;obtain ⟨v',h'',b1,b2⟩:=B84 s hs k d (i+1) m h' (h.length+1) (by omega) (by omega) a3 a4 a2;refine ⟨v',h'',?_,b2⟩;simp only [esc,a1];rw [C3Z];simp only [esc,D3 (show i+1<9223372036854775808 by omega)];exact b1
  rw [A8Z];by_cases c2:i<s.length
  ·have c2':(i:Int)<s.length:=by omega
   obtain ⟨v',h',b1,b2⟩:=step s[i] (by rw [List.getElem_append_left c2]);have e5:E6 [Cell.i .u8 0] [(0,1,.c (.i .u8 s[i].toNat))]=A4 [.i .u8 s[i].toNat]:=rfl;exact ⟨v',h',by simp only [esc,c1,c2',kR c2,e5];exact b1,b2⟩
  ·have c2':¬ (i:Int)<s.length:=by omega
   obtain ⟨v',h',b1,b2⟩:=step 0 (by rw [List.getElem_append_right (by omega)];exact List.getElem_replicate _);have e5:E6 [Cell.i .u8 0] [(0,1,.c (.i .u8 0))]=A4 [.i .u8 (0:UInt8).toNat]:=rfl;exact ⟨v',h',by simp only [esc,c1,c2',e5];exact b1,b2⟩
def C70 {s:List UInt8} (hs:s.length<=24) (h:B5):A3u [.c (.s s)] h=A4 (sV h.length 0 25 1,h++[rT (B4 (jE s s.length))]):=by
 obtain ⟨v',h',e,ho⟩:=B84 (g:=ro h) s hs 25 24 0 25 (ro h++[rT [],rT (B4 [UInt8.ofNat s.length])]) ((ro h).length+1) (by omega) (by omega) ((Low.refl (E5V _)).new _) (by omega) (by simp);refine C3s (n:=25) (v:=v') (h2:=h') ?_ (by simpa [F7] using ho) (by simp);have e1:E5U .u8 (s.length:Int)=((UInt8.ofNat s.length).toNat:Int):=by rw [wrap_u8 (by omega) (by omega),UInt8.toNat_ofNat'];omega
 have e5:E6 [Cell.i .u8 0] [(0,1,.c (.i .u8 (UInt8.ofNat s.length).toNat))]=A4 (B4 [UInt8.ofNat s.length]):=rfl;rw [C4Q];simp only [esc,e1,e5];exact e
def D2w {v:Val} {nv:Nat} {l:List UInt8} {h:B5} (hv:Has h v 1 nv (B4 l)) (hl:l.length=25) :
  A4O [v] h=A4 (.t [.c (.s ((dV l).getD [])),.c (.b (dV l).isSome)],h):=by
 have key:∀ g,Has g v 1 nv (B4 l)->∃ g',A4t 0 [v] g=A4 (.t [.c (.s ((dV l).getD [])),.c (.b (dV l).isSome)],g'):=by
  intro g hv;have hnv:nv=25:=by
   have:l.length=nv:=by simpa [A9] using hv.length
   omega
  subst hnv;have hvl:=hv.len;have hv0:=hv;obtain ⟨id,off,rfl,hid,h1,h2⟩:=hv.sl (by omega);obtain ⟨x,r,rfl⟩:∃ x r,l=x::r:=by
   cases l with
   | nil=>simp at hl
   | cons x r=>exact ⟨x,r,rfl⟩
  have hx:=x.toNat_lt;have a0:D9 1 (sV id off 25 1) (iV 0)=A4 (pV id (off+0)):=rfl;have l0:=h1 0 (.i .u8 x.toNat) rfl;rw [E6E] at l0;have e1:E5U .i64 (x.toNat:Int)=x.toNat:=wrap_i64 (by omega) (by omega);rw [B9r];unfold dV;simp only [List.headD_cons,List.drop_succ_cons,E6a];by_cases c1:x.toNat<=24
  ·rw [if_pos c1];have c1':¬ (24:Int)<x.toNat:=by omega
   have e2:E5U .i64 (1+(x.toNat:Int))=((1+x.toNat:Nat):Int):=by rw [wrap_i64 (by omega) (by omega)];omega
   have e3:=E3t (id:=id) (off:=off) (n:=25) (sz:=1) (a:=1) (b:=1+x.toNat) (by omega) (by omega);rw [show 1+x.toNat-1=x.toNat by omega,Nat.mul_one,show ((1:Nat):Int)=1 from rfl] at e3;have hh:Has g (sV id (off+1) x.toNat 1) 1 x.toNat (B4 (r.take x.toNat)):=by
    rcases hv0 with ⟨e,_⟩ | ⟨bT,off',row,e,hr,g1,g2,g3,g4⟩
    ·cases e
    ·cases e;refine Has.part hr (by omega) ?_ (G9 _);have:(row.cells.drop (off+1)).take (x.toNat*1)=((B4 (x::r)).drop 1).take x.toNat:=by
      rw [<-g3,List.drop_take,E6P,List.take_take]
      congr 1
      omega
     rw [this,D0p,D0q];rfl
   have hs:(r.take x.toNat).length<9223372036854775807:=by simp;omega
   have oL:(r.take x.toNat).length<=24:=by simp;omega
   cases hf:W4 (r.take x.toNat) with
   | false =>
    rw [if_neg (by simp)];exact ⟨_,by simp only [esc,hvl,a0,l0,e1,c1',e2,E6r,e3,hh.str,right_eq hs,hf,E6L,E6i]<;>rfl⟩
   | true =>
    have hp:=C70 oL g;have hS:=jO (h:=g++[rT (B4 (jE (r.take x.toNat) (r.take x.toNat).length))]) (v:=sV g.length 0 25 1) (nv:=25) (l:=jE (r.take x.toNat) (r.take x.toNat).length) (Has.tr (by simp) (by rw [A9,oQ (E5V _) oL]) (G9 _))
     (hv0.more [rT (B4 (jE (r.take x.toNat) (r.take x.toNat).length))]) (by rw [oQ (E5V _) oL];omega)
    have epk:X9 (r.take x.toNat)=jE (r.take x.toNat) (r.take x.toNat).length:=by unfold X9;rw [hf];rfl
    rw [epk];by_cases c2:jE (r.take x.toNat) (r.take x.toNat).length=x::r
    ·rw [if_pos ⟨rfl,c2⟩];rw [decide_eq_true c2] at hS;exact ⟨_,by simp only [esc,hvl,a0,l0,e1,c1',e2,E6r,e3,hh.str,right_eq hs,hf,hp,hS,E6z,E6b]<;>rfl⟩
    ·rw [if_neg (λh=>c2 h.2)];rw [decide_eq_false c2] at hS;exact ⟨_,by simp only [esc,hvl,a0,l0,e1,c1',e2,E6r,e3,hh.str,right_eq hs,hf,hp,hS,E6L,E6i]<;>rfl⟩
  ·rw [if_neg c1];have c1':(24:Int)<x.toNat:=by omega
   exact ⟨_,by simp only [esc,hvl,a0,l0,e1,c1',E6r,E6L,E6i]<;>rfl⟩
 obtain ⟨g',e⟩:=key (ro h) hv.ro;exact B5h e (by simp)
section
variable (n m m2:Nat) (a0 a1 x0 x1 x5:Val) (h:B5)
def A6U:FD A8:=⟨px 0X11ff2030181918890192f1a02f1e12e2f1f013018195041d1a01d1e11c1d1f010103040451e00523103a2342,[],[],[.tmp 2],[E3 A09 A60]⟩
def B41:=A6U.R
def C8C:=mR B41 A6U (tT []) n [a0] h
def C4y:=A6U.K Tryz.func224
def B5q:=A6U.S
def C3F:F6 B41 B5q:=C4y.flat
def A0T:FD A8:=⟨px 0X11ef20041392b142b132b122b112b1051a513e2a1c0420521bf30018139011330401e5019203058041642b6019705314a03a2342,[.c (.i .u8 0)],[],[.tmp 2],[E3 dK nY,E3 A3u A9I]⟩
def A7j:=A0T.R
def C24:=mR A7j A0T (tT []) n [a0] h
def A62:=A0T.K Tryz.func188
def A1a:=A0T.S
def C3D:SOk A8 188 A1a:=A62.sok
def B91:pY A7j A1a:=A62.out
def A22:FD A8:=⟨px 0X11b5024f2619825c1c3020135024f260293b31b11622401b2c1901884d01c251882f289018301882f028901881a028961881a1f1887718870141882f6a21883c0101b181906e4d0136e2f5826e3c0103f4c3902a1ad4210003338f22629181b0111c102293b190183230289020289624e171382a0192935229f128f601282801e282c1ff19001131cd0183030299020289622c171a01b1f1d182312941b219301c2,[],[],[.cellN 4 2,.tmp 5],[E3 A7E B4I,E3 A4O B3w,E3 oC A1B,E3 B5q C4y,E3 A1a A62,E3 gO lA]⟩
def B0b:=A22.R
def C4W:=mR B0b A22 (tT []) n [a0,a1] h
def A9J:=A22.K Tryz.func182
def A3w:=A22.S
def C5E:SOk A8 182 A3w:=A9J.sok
def B93:F6 B0b A3w:=A9J.flat
def qV:FD A8:=⟨px 0X12b401021bf5050021a1a03180139f40581258000017224301a190424f1a5a4f704f1e03c4f1f012e2a0769336229f128f2262961b11a28018282c1ff1c0042032a171d0194618215313070243d012618022b4203006051111b611c20023140130182,[.c (.i .i64 (-1))],[],[.tmp 4],[E3 A3w A9J]⟩
def C1G:=qV.R
def B8g:AtH:=qV.lj 0 n [m] [x0,x1,x5]
def C1Q:=tT [⟨2,3,B8g⟩]
def C4U:=mR C1G qV C1Q n [a0,a1] h
def A82:=mL qV C1Q 0 n [m] [x0,x1,x5] h
def C1l:=qV.K Tryz.func226
def B0O:=qV.S
def C5C:SOk A8 226 B0O:=C1l.sok
def B92:F6 C1G B0O:=C1l.flat
def A21:FD A8:=⟨px 0X14f000163030785b134b123b112b10419413e28892889176b50421048102,[.c (.i .u8 98),.c (.i .u8 107),.c (.i .u8 116),.c (.i .u8 33)],[],[.tmp 0],[E3 lZ pX]⟩
def B0a:=A21.R
def C4V:=mR B0a A21 (tT []) n [] h
def C1m:=A21.K Tryz.func186
def A3v:=A21.S
def C5D:SOk A8 186 A3v:=C1m.sok
def C3E:pY B0a A3v:=C1m.out
end
def D2t {s:List UInt8} {n:Int} {h:B5} (hs:s.length<9223372036854775807):B5q [.a [.s s,.i .i64 n]] h=A4 (bV (A2W s n),h):=by
 have key:∀ g,∃ g',B41 0 [.a [.s s,.i .i64 n]] g=A4 (bV (A2W s n),g'):=by
  intro g;have hC:=λh=>right_eq hs h
  rw [C8C];unfold A2W;cases hf:W4 s with
  | false =>
   rw [hf] at hC;exact ⟨_,by simp only [esc,esh,hC]<;>rfl⟩
  | true =>
   rw [hf] at hC;by_cases c1:1<=n
   ·by_cases c2:n<=128
    ·rw [decide_eq_true c1,decide_eq_true c2];exact ⟨_,by simp only [esc,esh,hC,c1,c2]<;>rfl⟩
    ·rw [decide_eq_true c1,decide_eq_false c2];exact ⟨_,by simp only [esc,esh,hC,c1,c2]<;>rfl⟩
   ·rw [decide_eq_false c1];exact ⟨_,by simp only [esc,esh,hC,c1]<;>rfl⟩
 obtain ⟨g',e⟩:=key (ro h);exact C3F e rfl
def D7x {s:List UInt8} {n:Int} (hm:A2W s n=A5):W4 s=A5:=by
 unfold A2W at hm;simp only [E5S] at hm;exact hm.1
def B2u {s:List UInt8} {n:Int} {h:B5} (hm:A2W s n=A5):A1a [.a [.s s,.i .i64 n]] h=A4 (sV h.length 0 32 1,h++[rT (B4 (Z1 s n))]):=by
 have hf:=D7x hm;have hs:=(dE hf).2;have ep:jE s s.length=X9 s:=by unfold X9;rw [hf,cond_true]
 have key:∀ g,∃ v g',A7j 0 [.a [.s s,.i .i64 n]] g=A4 (v,g')/\Out g.length g' v 1 32 (B4 (Z1 s n)):=by
  intro g;have hB:=λh=>eG (w:=2) (v:=n) (h:=h) (by omega)
  simp only [E6r] at hB;have hP:=λh=>C70 hs h
  rw [ep] at hP;have ef5:E6 [Cell.i .u8 0,.i .u8 0,.i .u8 0,.i .u8 0,.i .u8 0] [(0,1,.c (.i .u8 0)),(1,1,.c (.i .u8 0)),(2,1,.c (.i .u8 0)),(3,1,.c (.i .u8 0)),(4,1,.c (.i .u8 0))]=A4 (B4 [0,0,0,0,0]):=rfl;have hpl:(B4 (X9 s)).length=25:=by rw [A9];exact iT
  have hA:=mE (h:=g++[rT [.s s,.i .i64 n],rT [],rT (B4 (C4 2 n)),rT (B4 (X9 s))]) (id:=g.length+2) (jd:=g.length+3) (n:=2) (m:=25) (sz:=1) (cs:=B4 (C4 2 n)) (ys:=B4 (X9 s)) (rw:=A5) (by simp) (by simp [A9]) (by simp) (by rw [hpl]) rfl (by omega) (by omega);simp only [E5T,E52,E6h,E6e,E5Y,E6q,E59,nF,E6H,E6G,Nat.reduceAdd,<-N1] at hA;have E2I:(B4 (C4 2 n++X9 s)).length=27*1:=by rw [A9,E5T,Q8,iT]
  have hA2:=mE (h:=g++[rT [.s s,.i .i64 n],rT [],A7,rT (B4 (X9 s)),rT (B4 (C4 2 n++X9 s)),rT (B4 [0,0,0,0,0])]) (id:=g.length+4) (jd:=g.length+5) (n:=27) (m:=5) (sz:=1) (cs:=B4 (C4 2 n++X9 s)) (ys:=B4 [0,0,0,0,0]) (rw:=A5) (by simp) E2I (by simp) rfl rfl (by omega) (by omega);simp only [E5T,E52,E6h,E6e,E5Y,E6q,E59,nF,E6H,E6G,Nat.reduceAdd,<-N1] at hA2;rw [<-E5Y (C4 2 n),show C4 2 n++X9 s++[0,0,0,0,0]=Z1 s n from rfl] at hA2;rw [C24];refine ⟨sV (g.length+6) 0 32 1,g++[rT [.s s,.i .i64 n],rT [],A7,rT (B4 (X9 s)),A7,rT (B4 [0,0,0,0,0]),rT (B4 (Z1 s n))],?_,by rw [A9,Z2],g.length+6,rfl,by omega,?_⟩
  ·generalize Z1 s n=E at *;generalize C4 2 n++X9 s=Q at *;generalize B4 [0,0,0,0,0]=F at *;generalize B4 (X9 s)=P at *;generalize B4 (C4 2 n)=B2 at *;simp only [esc,esh,Nat.reduceAdd,hB,hP,hA,ef5,hA2]
  ·simp
 obtain ⟨v,g',e,ho⟩:=key (ro h);exact B91 e (by simpa [F7] using ho) (by simp)
def D8H {b:List UInt8} {k:Nat}:cV b ((L9 k+2:Nat):Int) 25=nameB b k:=by
 unfold cV nameB;rw [if_pos (by omega),E6c];rfl
def E5r {k:Nat} (hk:k<7):E5U .i64 (32*(k:Int))=((32*k:Nat):Int):=by rw [wrap_i64 (by omega) (by omega)];omega
def E5p {k:Nat} (hk:k<7):E5U .i64 (32+((32*k:Nat):Int))=((L9 k:Nat):Int):=by unfold L9;rw [wrap_i64 (by omega) (by omega)];omega
def E4i {k:Nat} (hk:k<7):E5U .i64 (34+((32*k:Nat):Int))=((L9 k+2:Nat):Int):=by unfold L9;rw [wrap_i64 (by omega) (by omega)];omega
def zD {v:Val} {nv k:Nat} {b:List UInt8} {h:B5} (hv:Has h v 1 nv (B4 b)) (hb:b.length=256) (hk:k<7):A3w [v,iV (k:Int)] h=A4 (.t [.a (X1 (S7 b k)),.c (.b (S7 b k).isSome)],h):=by
 have key:∀ g,Has g v 1 nv (B4 b)->∃ g',B0b 0 [v,iV (k:Int)] g=A4 (.t [.a (X1 (S7 b k)),.c (.b (S7 b k).isSome)],g'):=by
  intro g hv;have hnl:=A8r hb hk;have oL:=B87 hb hk;have hC:=λl=>A8u (hv.more l) (a:=((L9 k+2:Nat):Int)) (n:=25) (by unfold L9;omega) (by omega)
  rw [D8H,hnl] at hC;have hU:=λ(c0:Option Row)=>D2w (v:=sV (g.length+1) 0 25 1) (nv:=25) (l:=nameB b k) (h:=g++[c0,rT (B4 (nameB b k))]) (Has.row (rw:=A5) (by simp) (by rw [A9,hnl]) (G9 _)) hnl
  have hA:=λl=>sC (hv.more l) hb (a:=(L9 k:Nat)) (w:=2)
  rw [D56 hk] at hA;have ef:∀ (s:List UInt8) (n:Int),E6 [Cell.s [],o0] [(0,1,.c (.s s)),(1,1,iV n)]=A4 [.s s,.i .i64 n]:=λ_ _=>rfl
  have ef0:E6 [Cell.s [],o0] []=A4 [.s [],o0]:=rfl;have w0:=E5r hk;have w1:=E5p hk;have w2:=E4i hk;rw [C4W];unfold S7;cases hu:dV (nameB b k) with
  | none =>
   rw [hu] at hU;simp only [E6L,E6i] at hU;generalize dM b k=n at *;generalize B4 (nameB b k)=z at *;exact ⟨_,by simp only [esc,esh,Nat.reduceAdd,w0,w1,w2,hC,hU,hA,ef,ef0,Option.bind_none,X1,E6i]<;>rfl⟩
  | some s =>
   rw [hu] at hU;simp only [E6z,E6b] at hU;have hfs:=(dE (A8E hu)).2;have hM:=λh=>D2t (s:=s) (n:=dM b k) (h:=h) (by omega)
   rw [E54];unfold isE;cases hm:A2W s (dM b k) with
   | false =>
    rw [hm] at hM;rw [E51,if_neg (by simp)];generalize dM b k=n at *;generalize B4 (nameB b k)=z at *;exact ⟨_,by simp only [esc,esh,Nat.reduceAdd,w0,w1,w2,hC,hU,hA,ef,ef0,hM,X1,E6i]<;>rfl⟩
   | true =>
    rw [hm] at hM;rw [E55];have hB:=λh=>B2u (s:=s) (n:=dM b k) (h:=h) hm
    have hC2:=λl=>A8u (hv.more l) (a:=(L9 k:Nat)) (n:=32) (by unfold L9;omega) (by omega)
    rw [D3u,oL] at hC2;have hS:=λ(c0 c1 c2:Option Row)=>jO (l:=Z1 s (dM b k)) (r:=A2K b k) (h:=g++[c0,c1,c2,rT (B4 (Z1 s (dM b k))),rT (B4 (A2K b k))]) (v:=sV (g.length+3) 0 32 1) (u:=sV (g.length+4) 0 32 1) (Has.row (rw:=A5) (by simp) (by rw [A9,Z2]) (G9 _)) (Has.row (rw:=A5) (by simp) (by rw [A9,oL]) (G9 _)) (by rw [Z2];omega)
    by_cases ce:Z1 s (dM b k)=A2K b k
    ·rw [if_pos (decide_eq_true ce)];rw [decide_eq_true ce] at hS;generalize Z1 s (dM b k)=E at *;generalize A2K b k=L at *;generalize dM b k=n at *;generalize B4 (nameB b k)=z at *;exact ⟨_,by simp only [esc,esh,Nat.reduceAdd,w0,w1,w2,hC,hU,hA,ef,ef0,hM,hB,hC2,hS,X1,E6b]<;>rfl⟩
    ·rw [if_neg (by rw [decide_eq_true_eq];exact ce)];rw [decide_eq_false ce] at hS;generalize Z1 s (dM b k)=E at *;generalize A2K b k=L at *;generalize dM b k=n at *;generalize B4 (nameB b k)=z at *;exact ⟨_,by simp only [esc,esh,Nat.reduceAdd,w0,w1,w2,hC,hU,hA,ef,ef0,hM,hB,hC2,hS,X1,E6i]<;>rfl⟩
 obtain ⟨g',e⟩:=key (ro h) hv.ro;exact B93 e (by simp [Val.flat,D0r,Cell.flat])
def D5y (o:Option Nat):Int:=match o with
 | some k=>k
 | none=>-1
def B6t {v:Val} {nv q:Nat} {b nm:List UInt8} (hb:b.length=256):∀ (e k m:Nat) (h:B5),k+e=7->e<m->Has h v 1 nv (B4 b) ->
  ∃ h',B8g q m v (.c (.s nm)) (iV (k:Int)) h=A4 (iV (D5y ((bA b nm e k).map (·.1))),h')
 | e,k,0,h,_,hm,_=>by omega
 | 0,k,m+1,h,hk,hm,hv=>by
  have e0:k=7:=by omega
  subst e0;have c0:¬ ((7:Nat):Int)<7:=by omega
  rw [A82];exact ⟨_,by simp only [esc,c0]<;>rfl⟩
 | e+1,k,m+1,h,hk,hm,hv=>by
  have c0:(k:Int)<7:=by omega
  have hR:=zD (k:=k) hv hb (by omega);have w1:=D3 (show k+1<9223372036854775808 by omega);rw [A82];cases hx:S7 b k with
  | none =>
   rw [hx] at hR;rw [A5k hx];obtain ⟨h',ih⟩:=B6t (q:=q) (nm:=nm) hb e (k+1) m (h++[rT ([.s [],o0])]) (by omega) (by omega) (hv.more _);exact ⟨h',by simp only [esc,esh,Nat.reduceAdd,c0,hR,X1,E6i,w1];exact ih⟩
  | some x =>
   obtain ⟨s,n⟩:=x;rw [hx] at hR;by_cases ce:s=nm
   ·subst ce;rw [A8d hx];exact ⟨_,by simp only [esc,esh,Nat.reduceAdd,c0,hR,X1,E6b]<;>rfl⟩
   ·rw [A5j hx ce];obtain ⟨h',ih⟩:=B6t (q:=q) (nm:=nm) hb e (k+1) m (h++[rT [.s s,.i .i64 n]]) (by omega) (by omega) (hv.more _);exact ⟨h',by simp only [esc,esh,Nat.reduceAdd,c0,hR,X1,E6b,ce,w1];exact ih⟩
def C9C {v:Val} {nv:Nat} {b nm:List UInt8} {h:B5} (hv:Has h v 1 nv (B4 b)) (hb:b.length=256):B0O [v,.c (.s nm)] h=A4 (iV (D5y ((X8 b nm).map (·.1))),h):=by
 obtain ⟨h',e⟩:=B6t (q:=8) (nm:=nm) hb 7 0 8 (ro h) (by omega) (by omega) hv.ro;exact B92 (n:=8) (by rw [C4U];exact e) rfl
def C9D {h:B5}:A3v [] h=A4 (sV h.length 0 256 1,h++[rT (B4 hdB)]):=by
 have key:∀ g,∃ v g',B0a 0 [] g=A4 (v,g')/\Out g.length g' v 1 256 (B4 hdB):=by
  intro g;have hn:A2T (iV 256) (iV 256)=A4 256:=rfl;have rz:=oT 256;have ef:E6 [Cell.i .u8 0,.i .u8 0,.i .u8 0,.i .u8 0] [(0,1,.c (.i .u8 98)),(1,1,.c (.i .u8 107)),(2,1,.c (.i .u8 116)),(3,1,.c (.i .u8 33))]=A4 (B4 B3s):=rfl;have hM:A0J (g++[rT [],rT (B4 (zeros 256)),rT (B4 B3s)]) (sV (g.length+2) 0 4 1)=A4 (sV (g.length+2) 0 4 1):=by simp [A0J]
  have hL:=oS (v:=sV (g.length+1) 0 256 1) (u:=sV (g.length+2) 0 4 1) (nv:=256) (nu:=4) (l:=zeros 256) (data:=B3s) (a:=0) (h:=g++[rT [],rT (B4 (zeros 256)),rT (B4 B3s)]) (Has.row (rw:=A5) (by simp) (by rw [A9,zeros_length]) (G9 _)) (Has.row (rw:=A5) (by simp) rfl (G9 _)) (by omega) (by rw [zeros_length];omega);have el:A9F (zeros 256) 0 B3s=hdB:=by
   have h1:=A1H (l:=zeros 256) (a:=0) (xs:=B3s) (by rw [zeros_length];decide);have h2:=C7F (b:=B3s) (by decide);unfold A9E at h2;rw [if_pos ⟨by omega,by omega⟩,E53 (by decide)] at h2;exact h1.trans h2
  rw [el,zeros_length] at hL;rw [C4V];refine ⟨sV (g.length+3) 0 256 1,g++[rT [],rT (B4 (zeros 256)),rT (B4 B3s),rT (B4 hdB)],?_,by rw [A9,A8i],g.length+3,rfl,by omega,by simp⟩;generalize hdB=H at *;generalize B4 B3s=mg at *;generalize zeros 256=z at *;simp only [esc,esh,Nat.reduceAdd,hn,rz,ef,hM,hL]
 obtain ⟨v,g',e,ho⟩:=key (ro h);exact C3E e (by simpa [F7] using ho) (by simp)
def D7v {x:Nat} {b:Int} (h5:b<=5):C9q x b=x%D1 b:=by
 unfold C9q D1 W9;by_cases c:b<1
 ·rw [if_pos c];have:(max 0 (min b 5)).toNat=0:=by omega
  rw [this];simp [Nat.mod_one]
 ·rw [if_neg c,if_neg (by omega)];have:(max 0 (min b 5)).toNat=b.toNat:=by omega
  rw [this]
def B1R {b nm:List UInt8}:∀ {e k:Nat} {x:Slt},bA b nm e k=A4 x->k<=x.1/\x.1<k+e/\S7 b x.1=A4 x.2/\x.2.1=nm
 | 0,k,x,h=>by simp [bA] at h
 | e+1,k,x,h=>by
  cases hr:S7 b k with
  | none =>
   rw [A5k hr] at h;have:=B1R h;exact ⟨by omega,by omega,this.2.2⟩
  | some y =>
   obtain ⟨s,n⟩:=y;by_cases c:s=nm
   ·subst c;rw [A8d hr] at h;cases h;exact ⟨E5V _,by simp,hr,rfl⟩
   ·rw [A5j hr c] at h;have:=B1R h;exact ⟨by omega,by omega,this.2.2⟩
def D47 {b nm:List UInt8} {x:Slt} (h:X8 b nm=A4 x):x.1<7/\S7 b x.1=A4 x.2/\x.2.1=nm:=by
 have:=B1R h;exact ⟨by omega,this.2.2⟩
section
variable (n m m2:Nat) (a0 a1 a2 a3 a4 a5 x0 x1 x3 x4 x5 x6 x7 x8 x9 x10 x11 x12 x13 x14 x15 x16 x17 x18 x19 x20 x22 x23 x33 x34 x35:Val) (h:B5)
def A27:FD A8:=⟨px 0X13ff7006a1867a16e181845c0062022a26c558133121b22a0411d6814a39040238f180061390424e500012d5d5297511d20117023c1864a18183381000722401b1c1903a1e0413a4f3c3a703a1e22e3a1f0103f042032811a3191c1b4f42213113d61b63a632e41d1975282,[],[],[.cellN 6 8,.tmp 7],[E3 B0P C1n]⟩
def C1I:=A27.R
def A1X:=mR C1I A27 (tT []) n [a0,a1,a2] h
def A9O:=A27.K Tryz.func109
def rD:=A27.Q
def A2b:OfT C1I rD:=A9O.of
def A28:FD A8:=⟨px 0X124a1865818182012022a44e50613901012113e4a1061390443a500013e19012022a32e50613901011113e2c1061390431a500013e190123d61b632e21d753282,[],[],[.cellN 6 8],[]⟩
def C1J:=A28.R
def C43:=mR C1J A28 (tT []) n [a0,a1,a2] h
def A9P:=A28.K Tryz.func112
def zN:=A28.Q
def C5J:OfT C1J zN:=A9P.of
def W6:FD A8:=⟨px 0X123bc186061a3632015338c1041a3a854f181e91c501911111004331bcf2b050022a81bb0318022a4611d2ee12ee12ee1dd051801dcf2c02dc121824f1862dc181db1c27121daf1101d9f21863d02d5a12a280281d92c1d8f1c9001a1c323040411d2cc12cc16f3184f181ca1c1b11b5d5b771a32404122d81390022ac1bd0438942031a12c0159423571327024188901229c1b9022ed4203026251114f1e381c231231b8f2a0014306233041a2ae51f164d2f2d1d192c20122ae1864f18182111000332241022041a29c532cd4203022a14f51fa13612021b6461b1d28c1b183f11ea19a05112199f290061b390414f50001b3e54b7520022a1a1ee51d8131824f1861d81818b1c271218af1189f21863d1f1b11e2801c1892c188f7b00618323041a1da56f3184f187c1c1b493f751a224390521bc79021ed61827750311a59f1c0500278580318422a60162d41ba51a811aa151824f18619e186c1c219126bf1106af21863d01d5a12a280286a2c69f5a001a1c3230440162d419a518a16f3184f185b1c1b11b6a6c1831519130702430181904118f1a6c18f76818f701390125a490719f42030060511139420348f1b001130425a3e2b42f423df21b63b1a1b01251151033b3b0424c3b2b52d423af21b63b191b0463035c14c3185c2f062b423d181b1862e742e3291d19732c2,[],[],[.cellN 8 8],[E3 iG nZ,E3 A4P B3x,iJ rD A9O,cal pU,cal B7q,cal C3K,iJ zN A9P]⟩
def A3s:=W6.R
def A1l:AtH:=W6.lj 0 n [m] [x1,x3,x4,x6,x8,x9,x10,x11,x12]
def A8b:AtH:=W6.lj 1 n [] [x1,x3,x4,x6,x8,x10,x11]
def A8c:AtH:=W6.lj 2 n [m] [x4,x6,x8,x10,x11,x18,x19]
def D1O:AtH:=W6.lj 3 n [m] [x4,x6,x8,x10,x11,x18,x19,x20]
def zQ:=tT [⟨2,9,A1l⟩,⟨1,7,A8b⟩,⟨2,7,A8c⟩,⟨2,8,D1O⟩]
def C42:=mR A3s W6 zQ n [a0,a1,a2,a3] h
def A86:=mL W6 zQ 0 n [m] [x1,x3,x4,x6,x8,x9,x10,x11,x12] h
def A84:=mJ W6 zQ 1 n [] [x1,x3,x4,x6,x8,x10,x11] h
def A0y:=mL W6 zQ 2 n [m] [x4,x6,x8,x10,x11,x18,x19] h
def A85:=mJ W6 zQ 3 n [m] [x4,x6,x8,x10,x11,x18,x19,x20] h
def C1p:=W6.K Tryz.func49
def B0R:=W6.Q
def C5H:OfT A3s B0R:=C1p.of
def B2H:FD A8:=⟨px 0X13df13bf13af6010424c14a14a3a074618001e239f1a0042335c1042233a172d062d2b00001b20131111603383a3c000011f22410222c2b025942032af19004401482d31385062130402a501032a1b060192b2533111160642e419501c2,[],[],[.tmp 6,.tmp 7,.tmp 8],[E3 B2N B9f,E3 B5g C4q,cal pU,cal C5C]⟩
def B9w:=B2H.R
def D1l:=mR B9w B2H (tT []) n [a0,a1,a2] h
def C9P:=B2H.K Tryz.func183
def C0c:=B2H.S
def C5G:F6 B9w C0c:=C9P.flat
def A6V:FD A8:=⟨px 0X11ff60281228052022a4611d2e12e1181b0500221af7004139710001185d41f052164815301c2,[],[],[.tmp 6],[]⟩
def B46:=A6V.R
def C8H:=mR B46 A6V (tT []) n [a0,a1,a2] h
def C4C:=A6V.K Tryz.func228
def B5x:=A6V.S
def C5K:pY B46 B5x:=C4C.out
def qW:FD A8:=⟨px 0X11b1b021ee1865f181832f00620022a05f50613901011113e4f1061390405f500013e1918022a75f50463233f14f10475f5730222403f1a8121dd1971c22000301a022a65f501e2832335002040411d4f10465f54f10465f5a2b190193b1c1e712930131b027e1865f181837a110002722401b1c1930418c7b6a19b7018c7190218c1a5e18c701102258480191a9424133ff1d0042136c10405e3c2b53b423bf1c000790463035a14a3185c2f06391c1e712920131b02381864a181832c1000003722401b1a19065481a0481e12e481f3a48701190122c1e0185b4203313d1a1b1a72e752e42d1f1b1973382,[],[],[.cellN 10 8,.tmp 11],[E3 iG nZ,cal B7m,E3 B5x C4C]⟩
def B0f:=qW.R
def D1P:AtH:=qW.lj 0 n [] [x5,x10]
def C1R:=tT [⟨1,2,D1P⟩]
def fJ:=mR B0f qW C1R n [a0,a1,a2,a3,a4] h
def A0z:=mJ qW C1R 0 n [] [x5,x10] h
def C1q:=qW.K Tryz.func185
def A3A:=qW.Q
def A2c:OfT B0f A3A:=C1q.of
def A1x:FD A8:=⟨px 0X13401021bf5050021a1a0318011b4013a00001722404223e1040411d28171c064b4215313070240612029710142b4203006051111b611c20023340130182,[],[],[.tmp 4],[]⟩
def C9X:=A1x.R
def C6S:AtH:=A1x.lj 0 n [m] [x0,x1,x5]
def C93:=tT [⟨2,3,C6S⟩]
def D1m:=mR C9X A1x C93 n [a0,a1] h
def B4b:=mL A1x C93 0 n [m] [x0,x1,x5] h
def C9Q:=A1x.K Tryz.func187
def C0d:=A1x.S
def C5I:F6 C9X C0d:=C9Q.flat
def L5:FD A8:=⟨px 0X126ca1866f183bd1c211111110007322bbf49050023ea2ba031826f186041c37325ea1040411d5de16ac16f183ae1c60192c8f4b050023f82bf0318022a56f550020456f3aa2b5183a9f4a0061c31b3011a35ae2180289020289625aa15aa1181824301a190621969b2f069b1e058e69b1f5c869b7013018190426891a4fe68974ec689701301e1901a25e91a05e91e0415e94f4ec5e975ba5e974ce5e97014be2ef02c6ad1a1a1a0722eef12edf12ecf4e02282811e2801c2ec2c2ebf2de006183330404ba559a49181f2df01c49a49c49e1a1d201972403f49e2dc025bb421a132dbf12daf226294c1b12c2802a2da2c2d9f2c900422349a101a213040411d48e14dc11f2ca01e3ea3ec18219519171a1870243d0123ec2bd024fd420306618511118f42032bcf4a00182bc5c23de42757136702406120294ac13da2ae044eb420305665149013d85d3b2f32c2221013326f1860463733da14f16f182aa1c561222a9f12a8f3f011828062a82c29ff29d0016348e4929e1c77f776312721cef2f050022bc1cd0318029cf2e001c13901013113e040411d3ca13ea13c8118182439e1149b1b5226f18639e1828c1c21b1228bf128af21863d3d1b12a2802828a2c289f1fa006181a1c55304139853f13da3181f16f181fb1c1d7d7b1b1921f9f11f8f226293b1b11e2801c1f82c1eff1ea0042232fa1042132f811f1eb01b6f1b1b621e9f111e8f11dff38022c2812a280281df2c1def1cf001a1c333040411d2d812f812fc49181f1d801d0196b69183551b141a4702406120292d812ac1c9043994203026451115f283c728263103312e4815d421c8f1e001432ca1bf031919191913268f1f050021885f03186cf280500218e6b031801bef1e001813901013113e0402ac52b81618243018190422db1a29e2db728c2db701301e1901a22bb1a02bb1e0412bb4f28a2bb728c2bb71ee2bb701304191dc2ad7011de1990292eb1c1c1c1c172198f118ff118ef2b02282811e2801c18e2c18df188006183330401cc51de49181f18901c5b594f1c27ff17ef22629291b12c2802a7e2c7df6d0042231b8101a213040411d1aa11ac11f6e01e4d4b182351b131a270243d01218a69021cd420301625128017c42151a130702406120297e1785b041bd4203006051113f420314a13d425af1d001037c49591c33b423d4c1c1b2e1c182e762e4392f291d19733c2,[],[],[.cellN 12 8],[cal A3x,cal pU,cal C5E,E3 C0c C9P,cal C5u,iJ A3A C1q,cal C8S,iJ zN A9P,cal C5D,E3 C0d C9Q,cal C3D,E3 lZ pX]⟩
def B62:=L5.R
def yX:AtH:=L5.lj 0 n [m] [x1,x3,x4,x6,x8,x11,x12,x13,x14,x15]
def B4c:AtH:=L5.lj 1 n [m,m2] [x1,x3,x4,x6,x8,x11,x12,x13,x14,x15,x16]
def A5e:AtH:=L5.lj 2 n [m] [x1,x3,x4,x6,x8,x11,x12,x13,x14,x22,x23]
def C9c:AtH:=L5.lj 3 n [m,m2] [x1,x3,x4,x6,x8,x11,x12,x13,x14,x15,x16]
def C9d:AtH:=L5.lj 4 n [m] [x1,x3,x4,x6,x8,x11,x12,x13,x14,x22,x23]
def A5f:AtH:=L5.lj 5 n [m] [x1,x6,x11,x12,x13,x22,x33]
def A5g:AtH:=L5.lj 6 n [m,m2] [x1,x6,x11,x12,x13,x22,x33,x34,x35]
def C9e:AtH:=L5.lj 7 n [m,m2] [x1,x6,x11,x12,x13,x22,x33,x34,x35]
def bE:=tT [⟨2,10,yX⟩,⟨3,11,B4c⟩,⟨2,11,A5e⟩,⟨3,11,C9c⟩,⟨2,11,C9d⟩,⟨2,7,A5f⟩,⟨3,9,A5g⟩,⟨3,9,C9e⟩]
def C29:=mR B62 L5 bE n [a0,a1,a2,a3,a4,a5] h
def A6m:=mL L5 bE 0 n [m] [x1,x3,x4,x6,x8,x11,x12,x13,x14,x15] h
def oG:=mL L5 bE 1 n [m,m2] [x1,x3,x4,x6,x8,x11,x12,x13,x14,x15,x16] h
def xK:=mL L5 bE 2 n [m] [x1,x3,x4,x6,x8,x11,x12,x13,x14,x22,x23] h
def fT:=mJ L5 bE 3 n [m,m2] [x1,x3,x4,x6,x8,x11,x12,x13,x14,x15,x16] h
def A6l:=mJ L5 bE 4 n [m] [x1,x3,x4,x6,x8,x11,x12,x13,x14,x22,x23] h
def A6n:=mL L5 bE 5 n [m] [x1,x6,x11,x12,x13,x22,x33] h
def oH:=mL L5 bE 6 n [m,m2] [x1,x6,x11,x12,x13,x22,x33,x34,x35] h
def bR:=mJ L5 bE 7 n [m,m2] [x1,x6,x11,x12,x13,x22,x33,x34,x35] h
def B6O:=L5.K Tryz.func117
def A7N:=L5.Q
def C3M:OfT B62 A7N:=B6O.of
def aQ:FD A8:=⟨px 0X123ce186041a1c1e286633be49180410162d43bc53f16f3181f14f181eb1c1a1111111000018321abf290500228a1aa03181cef2c050022ca1cd03180122a401482d139c52f814182401a221040411d2ee12ee104401482d12fa52ce1cf0180193bf43351b131a270243061910238b1a2be38b7012890122ae1bf0639942030262512c01594224f1862b8181be1c219121bdf1101bcf21863d02a5a12a280281bc2c1bbf1ac001a1c333040411d29e129e16f3184f181ad1c1b11b4f4d1831519130702406120291fe11fa19e042cb4203016051114b018271319df280015328a491834942228849601431fe491832f2b1d197338201228a1864f1818211100004322410220410162d41f8542a94203022a14f51d813712021b6461b1d1e81b183f11c87f05027ef1f0061b390414f50001b3e53f7520422a10162d41c851ac141824f1861ac186f1c27126ef16df21863d1d1b1282801e6d2c6cf5e00181a3330410162d419e56f3184f185f1c1c7e3b761a224304191881af701190220407c582b61bb418276201a4ff14ef24961f1b1b1282801e4e2c4df3f001230182130410162d45e57e4801c392f1823ef21b63b1a1b0463036c15c3186c3b062d423af21b63b191b013511191033b3b040411d5810474a2d2b182b423d181b1862e742e3291d19732c2,[],[],[.cellN 8 8],[E3 iG nZ,cal pU,cal C8R,iJ rD A9O,cal C8Q,cal A3x,iJ A7N B6O]⟩
def B45:=aQ.R
def B1L:AtH:=aQ.lj 0 n [] [x1,x3,x4,x6,x8,x9,x11]
def zX:AtH:=aQ.lj 1 n [m] [x1,x3,x4,x6,x8,x9,x11,x16,x17]
def B1P:AtH:=aQ.lj 2 n [m,m2] [x1,x3,x4,x6,x8,x9,x11,x16,x17,x19,x20]
def D3C:AtH:=aQ.lj 3 n [m,m2] [x1,x3,x4,x6,x8,x9,x11,x16,x17,x19,x20]
def A2i:=tT [⟨1,7,B1L⟩,⟨2,9,zX⟩,⟨3,11,B1P⟩,⟨3,11,D3C⟩]
def A4w:=mR B45 aQ A2i n [a0,a1,a2,a3] h
def B1M:=mJ aQ A2i 0 n [] [x1,x3,x4,x6,x8,x9,x11] h
def B1O:=mL aQ A2i 1 n [m] [x1,x3,x4,x6,x8,x9,x11,x16,x17] h
def uH:=mL aQ A2i 2 n [m,m2] [x1,x3,x4,x6,x8,x9,x11,x16,x17,x19,x20] h
def B1N:=mJ aQ A2i 3 n [m,m2] [x1,x3,x4,x6,x8,x9,x11,x16,x17,x19,x20] h
def C4B:=aQ.K Tryz.func50
def B5w:=aQ.Q
def C8T:OfT B45 B5w:=C4B.of
def Z9:FD A8:=⟨px 0X124f1865f18182112022a15f52ee1cc0322201321acf1a050022aa1ab03180422a1051c1e1b1d040411d2da10465f52cc12cc11a1824502204005041b1d2b812b81ad062ed42555141a47024061920413f529a19f042cd42030364519112d718201319ef190061b390415f50001b19b5d52b333017269f7050027f68031825f1860461843328a13f318715f181861825f186046184231f813f318715f181861824301e195021eb1a001eb188046311eb2f1d81eb73f31eb3c71eb70150321be6f01a289426ef180040411d7f10405f6a2b62942355121a27024018120290405f57f5b051bf4203016251111f1182302349f6050026c480318022a25f501c1393010141107f29032042037e13f3180427a4a2b7119155130702406120406c55c3c047f42030060516015a4203522a5011d04758392b40238f218613d455a0171a162a113a1043d3b001137c50020414a5001127c50020413a5001b3b17c50020412a5510111101b18d1f5191b433d4c432e219701c2,[],[],[.cellN 4 8],[E3 zM A3k,E3 iG nZ,iJ B0R C1p,iJ B5w C4B]⟩
def C9Y:=Z9.R
def C6T:AtH:=Z9.lj 0 n [m] [x0,x3,x4,x5,x6]
def xL:AtH:=Z9.lj 1 n [m] [x0,x3,x4,x5,x7]
def D45:AtH:=Z9.lj 2 n [m] [x0,x3,x4,x5,x7]
def B6a:AtH:=Z9.lj 3 n [m] [x3,x4,x5,x9,x10]
def D46:AtH:=Z9.lj 4 n [m] [x3,x4,x5,x9,x10]
def A1C:=tT [⟨2,5,C6T⟩,⟨2,5,xL⟩,⟨2,5,D45⟩,⟨2,5,B6a⟩,⟨2,5,D46⟩]
def D1n:=mR C9Y Z9 A1C n [a0,a1] h
def B4e:=mL Z9 A1C 0 n [m] [x0,x3,x4,x5,x6] h
def B4f:=mL Z9 A1C 1 n [m] [x0,x3,x4,x5,x7] h
def A5h:=mJ Z9 A1C 2 n [m] [x0,x3,x4,x5,x7] h
def A5i:=mL Z9 A1C 3 n [m] [x3,x4,x5,x9,x10] h
def B4d:=mJ Z9 A1C 4 n [m] [x3,x4,x5,x9,x10] h
def B9h:=Z9.K Tryz.func16
def A5M:=Z9.Q
def D1v:OfT C9Y A5M:=B9h.of
def O8:FD A8:=⟨px 0X11abf607f121d052022a5611d01332a817f19f051110003322af190500228290318019ef1800613901011113e28e128e151824040411d1fe10425f18e2b52ad4218df700613901012113e1ea17f18a05662206af1c0500219a690318189f1a00383c323011301b1801e1b1d500204021be104962190721be10415f50289621a811aa6b02818551813470244901218e5f021c942030364511c0139425ef1a028892889176b2712241d0220420318c14f35a1c41bb4277241a3df1b050024a3c0318059f1a0040411d7810445f56182404226c1040411d5a10436a3e2b7199423518121a27024018120290434e5382f056f4203016251112f42032ef1a0038044881d2e172b051c42156151a0702406120402c5181d04494203006051112b618128200003314a1294214a11f4214a63a642e31b1901c2,[],[.slA 256 1 (.t 21) A7 A7],[.tmp 6],[E3 zM A3k,E3 A18 B4K,E3 lZ pX,E3 B0N C1k]⟩
def B61:=O8.R
def A5b:AtH:=O8.lj 0 n [m] [x0,x4,x5,x7,x8,x9]
def A5c:AtH:=O8.lj 1 n [m,m2] [x0,x4,x5,x7,x8,x9,x10,x11]
def C9a:AtH:=O8.lj 2 n [m,m2] [x0,x4,x5,x7,x8,x9,x10,x11]
def A5d:AtH:=O8.lj 3 n [m,m2] [x0,x4,x5,x7,x8,x9,x10,x12]
def B4a:AtH:=O8.lj 4 n [m] [x0,x4,x5,x7,x8,x9,x10]
def C9b:AtH:=O8.lj 5 n [m] [x0,x4,x5,x7,x8,x9]
def iH:=tT [⟨2,6,A5b⟩,⟨3,8,A5c⟩,⟨3,8,C9a⟩,⟨3,8,A5d⟩,⟨2,7,B4a⟩,⟨2,6,C9b⟩]
def C28:=mR B61 O8 iH n [a0,a1,a2] h
def xJ:=mL O8 iH 0 n [m] [x0,x4,x5,x7,x8,x9] h
def oF:=mL O8 iH 1 n [m,m2] [x0,x4,x5,x7,x8,x9,x10,x11] h
def A6h:=mJ O8 iH 2 n [m,m2] [x0,x4,x5,x7,x8,x9,x10,x11] h
def A6k:=mL O8 iH 3 n [m,m2] [x0,x4,x5,x7,x8,x9,x10,x12] h
def A6i:=mJ O8 iH 4 n [m] [x0,x4,x5,x7,x8,x9,x10] h
def A6j:=mJ O8 iH 5 n [m] [x0,x4,x5,x7,x8,x9] h
def B6N:=O8.K Tryz.func22
def A7M:=O8.Q
def C3L:OfT B61 A7M:=B6N.of
end
def U2 {g H t:B5} (G:Grows g H) (ht:t.all B8G=A5):Grows g (H++t):=by
 refine G.trans' ⟨List.prefix_append _ _,λid x hid hx=>?_⟩;rw [rd_some,E57 hid] at hx;exact List.all_eq_true.1 ht _ (E6j hx)
def A8g {g H:B5} (G:Grows g H) {id:Nat} (hid:g.length<=id):Grows g (H.set id A7):=by
 obtain ⟨⟨t,rfl⟩,h2⟩:=G;refine ⟨⟨t.set (id-g.length) A7,by rw [E6u _ _ hid]⟩,λi x hi hx=>?_⟩;by_cases e:id=i
 ·subst e;have hl:=C8 hx;simp at hl;rw [C6 (by simpa using hl)] at hx;cases hx
 ·rw [B6 e] at hx;exact h2 i x hi hx
def B58 {H:B5} {v:Val} {ys:List Cell} {m sz:Nat} (hv:Has H v sz m ys) (hsz:0<sz) (hm:m<=1073741824) :
  kV (H++[rT []]) sz (sV H.length 0 0 sz) v=A4 (sV (H.length+1) 0 m sz,H++[A7,rT ys]):=by
 have h1:=(hv.more [rT []]).add;have h2:rd (H++[rT []]) H.length=rT []:=by rw [E9];rfl
 have hl:=hv.length;have hd:ys.length/sz=m:=by rw [hl];exact Nat.mul_div_cancel m hsz
 simp only [kV,h1,h2,E54,hd];rw [if_pos ⟨trivial,trivial,by simp,trivial,by omega⟩];simp
def one_app {K:B5} {id n sz:Nat} {cs ys:List Cell} (hr:rd K id=rT cs) (hl:cs.length=n*sz) (hy:ys.length=sz) (hsz:0<sz) (hn:n+1<=1073741824) :
  kV (K++[rT ys]) sz (sV id 0 n sz) (sV K.length 0 1 sz)=A4 (sV (K.length+1) 0 (n+1) sz,(K++[rT ys]).set id A7++[rT (cs++ys)]):=by
 have h1:rd (K++[rT ys]) id=rT cs:=C5 hr;have h2:Q6 (K++[rT ys]) sz (sV K.length 0 1 sz)=A4 ys:=by
  simp [Q6,iW,hy,E53 (Nat.le_of_eq hy)]
 simp only [kV,h2,h1,E54,hy,Nat.div_self hsz];rw [if_pos ⟨trivial,trivial,hl.symm,trivial,hn⟩];simp
def InR (P:Nat->Prop) (x:Cell):Prop:=∀ id,nmC x=A4 id->P id
def has_set {h:B5} {x:Cell} {sz n j:Nat} {cs:List Cell} {y:Option Row} (hv:Has h (.c x) sz n cs) (ho:rd h j=A7\/nmC x≠A4 j):Has (h.set j y) (.c x) sz n cs:=by
 rcases hv with hv | ⟨id,off,r,e,hr,h2⟩
 ·exact .inl hv
 ·cases e;refine .inr ⟨id,off,r,rfl,?_,h2⟩;rw [B6]
  ·exact hr
  ·intro e;subst e;rcases ho with ho | ho
   ·rw [ho] at hr;cases hr
   ·exact ho rfl
def A2w {h:B5} {x:Cell} {sz n id:Nat} {cs:List Cell} (hv:Has h (.c x) sz n cs) (hn:nmC x=A4 id):id<h.length:=by
 rcases hv with ⟨e,_⟩ | ⟨bT,off,r,e,hr,_⟩
 ·cases e;cases hn
 ·cases e;cases hn;exact C8 hr
def fV (n:Int) (F:Int->Option Int):List Int:=(E6p (n+1).toNat).map λi:Nat=>(F (i:Int)).getD 0
def S6 {n:Int} {F:Int->Option Int}:(fV n F).length=(n+1).toNat:=by simp [fV]
def A6w {n:Int} {F:Int->Option Int} {i:Nat} (hi:i<(n+1).toNat):(fV n F)[i]?=A4 ((F (i:Int)).getD 0):=by simp [fV,hi]
def C7q {n:Int} {F:Int->Option Int} {i:Nat} {v:Int}:(fV n F).set i v=fV n (xY F (i:Int) v):=by
 refine List.ext_getElem? λk=>?_
 rw [List.getElem?_set];by_cases hk:k<(n+1).toNat
 ·by_cases e:i=k
  ·subst e;rw [if_pos rfl,if_pos (by rw [S6];exact hk),A6w hk];simp [xY]
  ·rw [if_neg e,A6w hk,A6w hk];unfold xY;rw [if_neg (by omega)]
 ·have h1:¬ k<(fV n F).length:=by rw [S6];exact hk
  have h2:(fV n (xY F (i:Int) v))[k]?=A7:=E6x (by rw [S6];omega);have h3:(fV n F)[k]?=A7:=E6x (by omega);rw [h2,h3];split
  ·rename_i e;subst e;rw [if_neg h1]
  ·rfl
def D4H (P:Nat->Prop) (h:B5) (ys:List Cell) (made:List (List UInt8)):Prop :=
 ys.length=made.length/\noX ys=A5/\∀ (i:Nat) (y:Cell),ys[i]?=A4 y->InR P y/\∃ b,made[i]?=A4 b/\b.length=256/\Has h (.c y) 1 256 (B4 b)
structure RCF (n:Int) (P:Nat->Prop) (h:B5) (c:Cl) (xr xi xt xb xm xl xy:Cell) (ys:List Cell):Prop where
 row:Has h (.c xr) 1 c.row.length (encI c.row)
 ino:Has h (.c xi) 11 c.ino.length (U8 c.ino)
 tak:Has h (.c xt) 1 c.taken.length (J9 c.taken)
 blk:Has h (.c xb) 1 c.blocks.length (encI c.blocks)
 mad:Has h (.c xm) 1 c.made.length ys
 mds:D4H P h ys c.made
 tol:Has h (.c xl) 1 (n+1).toNat (encI (fV n c.lnk))
 par:Has h (.c xy) 1 (n+1).toNat (encI (fV n c.par))
 pr:InR P xr
 pi:InR P xi
 pt:InR P xt
 pb:InR P xb
 pm:InR P xm
 pl:InR P xl
 py:InR P xy
def rcC (xr xi xt xb xm:Cell) (lost:Int) (xl xy:Cell):List Cell:=[xr,xi,xt,xb,xm,.i .i64 lost,xl,xy]
def IsRC (n:Int) (P:Nat->Prop) (h:B5) (cs:List Cell) (c:Cl):Prop :=
 ∃ xr xi xt xb xm xl xy ys,cs=rcC xr xi xt xb xm c.lost xl xy/\RCF n P h c xr xi xt xb xm xl xy ys
def IsRC.length {n:Int} {P:Nat->Prop} {h:B5} {cs:List Cell} {c:Cl} (k:IsRC n P h cs c):cs.length=8:=by
 obtain ⟨_,_,_,_,_,_,_,_,rfl,_⟩:=k;rfl
section
variable {n:Int} {P Q:Nat->Prop} {h h':B5} {c:Cl} {xr xi xt xb xm xl xy:Cell} {ys:List Cell}
def InR.mono (hpq:∀ id,P id->Q id) {x:Cell} (k:InR P x):InR Q x:=λid hi=>hpq id (k id hi)
def RCF.mono (hpq:∀ id,P id->Q id) (k:RCF n P h c xr xi xt xb xm xl xy ys):RCF n Q h c xr xi xt xb xm xl xy ys :=
 ⟨k.row,k.ino,k.tak,k.blk,k.mad,⟨k.mds.1,k.mds.2.1,λi y hy=>⟨(k.mds.2.2 i y hy).1.mono hpq,(k.mds.2.2 i y hy).2⟩⟩,k.tol,k.par,k.pr.mono hpq,k.pi.mono hpq,k.pt.mono hpq,k.pb.mono hpq,k.pm.mono hpq,k.pl.mono hpq,k.py.mono hpq⟩
def RCF.to (hk:∀ (x:Cell) (sz m:Nat) (cs:List Cell),InR P x->Has h (.c x) sz m cs->Has h' (.c x) sz m cs) (k:RCF n P h c xr xi xt xb xm xl xy ys):RCF n P h' c xr xi xt xb xm xl xy ys :=
 ⟨hk _ _ _ _ k.pr k.row,hk _ _ _ _ k.pi k.ino,hk _ _ _ _ k.pt k.tak,hk _ _ _ _ k.pb k.blk,hk _ _ _ _ k.pm k.mad,
  ⟨k.mds.1,k.mds.2.1,λi y hy=>⟨(k.mds.2.2 i y hy).1,by
   obtain ⟨h1,b,h2,h3,h4⟩:=k.mds.2.2 i y hy;exact ⟨b,h2,h3,hk _ _ _ _ h1 h4⟩⟩⟩,hk _ _ _ _ k.pl k.tol,hk _ _ _ _ k.py k.par,k.pr,k.pi,k.pt,k.pb,k.pm,k.pl,k.py⟩
def RCF.grows (G:Grows h h') (k:RCF n P h c xr xi xt xb xm xl xy ys):RCF n P h' c xr xi xt xb xm xl xy ys:=k.to λ_ _ _ _ _ hv=>hv.grows G
def RCF.set {j:Nat} {y:Option Row} (hj:rd h j=A7\/¬ P j) (k:RCF n P h c xr xi xt xb xm xl xy ys):RCF n P (h.set j y) c xr xi xt xb xm xl xy ys :=
 k.to λx _ _ _ hp hv=>has_set hv (hj.imp id λhn e=>hn (hp j e))
def RCF.low (k:RCF n P h c xr xi xt xb xm xl xy ys):RCF n (λid=>P id/\id<h.length) h c xr xi xt xb xm xl xy ys :=
 ⟨k.row,k.ino,k.tak,k.blk,k.mad,⟨k.mds.1,k.mds.2.1,λi y hy=>by
  obtain ⟨h1,b,h2,h3,h4⟩:=k.mds.2.2 i y hy;exact ⟨λid hi=>⟨h1 id hi,A2w h4 hi⟩,b,h2,h3,h4⟩⟩,k.tol,k.par,λid hi=>⟨k.pr id hi,A2w k.row hi⟩,λid hi=>⟨k.pi id hi,A2w k.ino hi⟩,λid hi=>⟨k.pt id hi,A2w k.tak hi⟩,λid hi=>⟨k.pb id hi,A2w k.blk hi⟩,λid hi=>⟨k.pm id hi,A2w k.mad hi⟩,λid hi=>⟨k.pl id hi,A2w k.tol hi⟩,λid hi=>⟨k.py id hi,A2w k.par hi⟩⟩
def IsRC.mono (hpq:∀ id,P id->Q id) {cs:List Cell} (k:IsRC n P h cs c):IsRC n Q h cs c:=by
 obtain ⟨a1,a2,a3,a4,a5,a6,a7,a8,e,k⟩:=k;exact ⟨a1,a2,a3,a4,a5,a6,a7,a8,e,k.mono hpq⟩
def IsRC.grows (G:Grows h h') {cs:List Cell} (k:IsRC n P h cs c):IsRC n P h' cs c:=by
 obtain ⟨a1,a2,a3,a4,a5,a6,a7,a8,e,k⟩:=k;exact ⟨a1,a2,a3,a4,a5,a6,a7,a8,e,k.grows G⟩
def IsRC.set {j:Nat} {y:Option Row} (hj:rd h j=A7\/¬ P j) {cs:List Cell} (k:IsRC n P h cs c):IsRC n P (h.set j y) cs c:=by
 obtain ⟨a1,a2,a3,a4,a5,a6,a7,a8,e,k⟩:=k;exact ⟨a1,a2,a3,a4,a5,a6,a7,a8,e,k.set hj⟩
def IsRC.low {cs:List Cell} (k:IsRC n P h cs c):IsRC n (λid=>P id/\id<h.length) h cs c:=by
 obtain ⟨a1,a2,a3,a4,a5,a6,a7,a8,e,k⟩:=k;exact ⟨a1,a2,a3,a4,a5,a6,a7,a8,e,k.low⟩
end
section
variable {D:Dev} {n m:Int} {P:Nat->Prop} {h:B5} {c:Cl} {cs:List Cell}
def D4m {no:Int} (k:IsRC n P h cs c) (ht:c.taken.length=D.length) (hl:D.length<=1000) :
  ∃ cs' H',rD [.a cs,.a (D7 D.length n m),iV no] h=A4 (.t [.a cs',.c (.i .i64 (U7 D n c no))],H')/\Grows h H'/\IsRC n (λid=>P id\/h.length<=id) H' cs' (eU D n c no):=by
 obtain ⟨xr,xi,xt,xb,xm,xl,xy,ys,rfl,k⟩:=k;have hD:=λh=>C9E (b:=D.length) (n:=n) (m:=m) (i:=no) (h:=h)
 have cl1:cells? (.a (rcC xr xi xt xb xm c.lost xl xy))=A4 (rcC xr xi xt xb xm c.lost xl xy):=rfl;have cl2:cells? (.a (D7 D.length n m))=A4 (D7 D.length n m):=rfl;have z8l:[Cell.ns,.ns,.ns,.ns,.ns,o0,.ns,.ns].length=8:=rfl;have cl8:(rcC xr xi xt xb xm c.lost xl xy).length=8:=rfl;have ll3:(D7 D.length n m).length=3:=rfl;have l2:ld1 (rT (rcC xr xi xt xb xm c.lost xl xy)) 2=A4 (.c xt):=rfl;have stay:∀ t:B5,t.all B8G=A5->Grows h (h++t)/\IsRC n (λid=>P id\/h.length<=id) (h++t) (rcC xr xi xt xb xm c.lost xl xy) c:=λt ht =>
  ⟨U2 Grows.rfl' ht,_,_,_,_,_,_,_,_,rfl,(k.mono λ_=>.inl).grows (U2 Grows.rfl' ht)⟩
 cases hd:jW (D.length:Int) n no with
 | false =>
  have e1:U7 D n c no=0:=by unfold U7 B56;rw [hd];rfl
  have e2:eU D n c no=c:=by unfold eU B56;rw [hd];rfl
  rw [e1,e2];rw [hd] at hD;obtain ⟨g1,g2⟩:=stay [rT (rcC xr xi xt xb xm c.lost xl xy),rT (D7 D.length n m),rT (rcC xr xi xt xb xm c.lost xl xy)] rfl;refine ⟨_,_,A2b (n:=0) (p:=(_,_)) ?_,g1,g2⟩;rw [A1X];generalize rcC xr xi xt xb xm c.lost xl xy=C at *;generalize D7 D.length n m=L at *;simp only [esc,esh,Nat.reduceAdd,E6Q,cl1,cl2,ll3,cl8,z8l,hD]
 | true =>
  rw [hd] at hD;obtain ⟨i0,i1⟩:=C7i hd;obtain ⟨j,rfl⟩:=E6C i0;have hj:j<c.taken.length:=by omega
  obtain ⟨it,ot,et,_,hA,_⟩:=k.tak.sl (by omega);cases et;have a1:D9 1 (sV it ot c.taken.length 1) (iV (j:Int))=A4 (pV it (ot+j)):=by rw [C9 hj];simp
  have hA2:∀ t,B8 (h++t) (pV it (ot+j))=A4 (bV c.taken[j]):=λt=>by
   obtain ⟨it',ot',et',_,hA',_⟩:=(k.tak.more t).sl (by omega);cases et';exact hA' j _ (by simp [J9,hj])
  have eg:c.taken.getD (j:Int).toNat A5=c.taken[j]:=by rw [E6c,E5Z,E5P hj];rfl
  cases hb:c.taken[j] with
  | true =>
   have e1:U7 D n c j=0:=by unfold U7 B56;rw [hd,eg,hb];rfl
   have e2:eU D n c j=c:=by unfold eU B56;rw [hd,eg,hb];rfl
   rw [e1,e2];rw [hb] at hA2;obtain ⟨g1,g2⟩:=stay [rT (rcC xr xi (.sl it ot c.taken.length 1) xb xm c.lost xl xy),rT (D7 D.length n m),rT (rcC xr xi (.sl it ot c.taken.length 1) xb xm c.lost xl xy)] rfl;refine ⟨_,_,A2b (n:=0) (p:=(_,_)) ?_,g1,g2⟩;rw [A1X];generalize rcC xr xi (.sl it ot c.taken.length 1) xb xm c.lost xl xy=C at *;generalize D7 D.length n m=L at *;simp only [esc,esh,Nat.reduceAdd,E6V,cl1,cl2,ll3,cl8,z8l,hD,l2,a1,hA2]
  | false =>
   have e1:U7 D n c j=j:=by unfold U7 B56;rw [hd,eg,hb];rfl
   have e2:eU D n c j={ c with taken:=c.taken.set j A5 }:=by unfold eU B56;rw [hd,eg,hb];rfl
   rw [e1,e2];rw [hb] at hA2;obtain ⟨T3,hT3⟩:∃ T3:B5,T3=[rT (rcC xr xi (.sl it ot c.taken.length 1) xb xm c.lost xl xy),rT (D7 D.length n m),rT [Cell.ns,.ns,.ns,.ns,.ns,o0,.ns,.ns]]:=⟨_,rfl⟩;have hcp:=B58 (H:=h++T3) (k.tak.more T3) (by omega) (by omega);have lT:(h++T3).length=h.length+3:=by rw [hT3];simp
   rw [lT,hT3] at hcp;have ad:D9 1 (sV (h.length+3+1) 0 c.taken.length 1) (iV (j:Int))=A4 (pV (h.length+4) j):=by rw [C9 hj];simp
   have hbl:(J9 c.taken).length=c.taken.length:=by simp [J9]
   have es:(J9 c.taken).set j (.b A5)=J9 (c.taken.set j A5):=by simp [J9,List.map_set]
   have sb:st1 (rT (J9 c.taken)) j (.b A5)=rT (J9 (c.taken.set j A5)):=by
    simp only [st1,E54];rw [if_pos ⟨trivial,by rw [hbl];exact hj⟩,es]
   have sc:st1 (rT (rcC xr xi (.sl it ot c.taken.length 1) xb xm c.lost xl xy)) 2 (.sl (h.length+3+1) 0 c.taken.length 1)=rT (rcC xr xi (.sl (h.length+4) 0 c.taken.length 1) xb xm c.lost xl xy):=rfl;have cl8':(rcC xr xi (.sl (h.length+4) 0 c.taken.length 1) xb xm c.lost xl xy).length=8:=rfl;obtain ⟨H',hH'⟩:∃ H',H'=h++[rT (rcC xr xi (.sl (h.length+4) 0 c.taken.length 1) xb xm c.lost xl xy),rT (D7 D.length n m),rT (rcC xr xi (.sl (h.length+4) 0 c.taken.length 1) xb xm c.lost xl xy),A7,rT (J9 (c.taken.set j A5))]:=⟨_,rfl⟩;have G:Grows h H':=by rw [hH'];exact U2 Grows.rfl' rfl
   have k2:=(k.mono (Q:=λid=>P id\/h.length<=id) λ_=>.inl).grows G;refine ⟨rcC xr xi (.sl (h.length+4) 0 c.taken.length 1) xb xm c.lost xl xy,H',A2b (n:=0) ?_,G,xr,xi,.sl (h.length+4) 0 c.taken.length 1,xb,xm,xl,xy,ys,rfl,
    ⟨k2.row,k2.ino,?_,k2.blk,k2.mad,k2.mds,k2.tol,k2.par,k2.pr,k2.pi,λid hi=>?_,k2.pb,k2.pm,k2.pl,k2.py⟩⟩
   ·rw [A1X,hH'];have ef:E6 [] []=A4 []:=rfl;generalize hC1:rcC xr xi (.sl it ot c.taken.length 1) xb xm c.lost xl xy=C at *;generalize rcC xr xi (.sl (h.length+4) 0 c.taken.length 1) xb xm c.lost xl xy=C' at *;generalize D7 D.length n m=L at *;generalize J9 c.taken=B at *;generalize J9 (c.taken.set j A5)=B' at *;simp only [E5Y,E6q,E59] at hcp;simp only [esc,esh,Nat.reduceAdd,E6V,cl1,cl2,ll3,cl8,z8l,hD,l2,a1,hA2,ef,hcp,ad,sb,sc,cl8']
   ·have e3:(c.taken.set j A5).length=c.taken.length:=by simp
    show Has H' (sV (h.length+4) 0 c.taken.length 1) 1 (c.taken.set j A5).length (J9 (c.taken.set j A5));rw [e3];exact Has.row (rw:=A5) (by rw [hH',K9];rfl) (by simp [J9]) (C03 _)
   ·cases hi;exact .inr (by omega)
end
def D7I {m:List (List UInt8)} {x:Int} {a:List UInt8}:B2k [] m x a=a:=by cases m<;>rfl
def D85 {h H:B5} {v:Val} {D:Dev} (hv:Has h v 256 D.length (D5 D)) (hD:okD D) (G:Grows h H) {i:Nat} (hi:i<D.length) :
  ∃ a id off,D9 256 v (iV (i:Int))=A4 a/\B5X H 256 1 a A7 A7=A4 (sV id off 256 1)/\Has H (sV id off 256 1) 1 256 (B4 D[i])/\id<h.length:=by
 rcases hv with ⟨_,h0,_⟩ | ⟨id,off,r,rfl,hr,h1,h2,h3,h4⟩
 ·omega
 ·have dF:off+i*256+256*1<=r.cells.length:=by omega
  have hrH:=G.rd hr;refine ⟨pV id (off+i*256),id,off+i*256,C9 hi,?_,?_,C8 hr⟩
  ·simp only [B5X,hrH,E54,bound];rw [if_pos ⟨by omega,by omega,dF,D2y h3 h4 (show i*256<D.length*256 by omega) h2⟩];simp
  ·refine Has.part (cs:=r.cells) (rw:=r.rw) hrH dF ?_ (G9 _);rw [<-dD hD hi,<-h3,List.drop_take,List.take_take,E6P]
   congr 1
   omega
section
variable {D:Dev} {n m:Int} {P:Nat->Prop} {h:B5} {c:Cl} {cs:List Cell} {v x7 x8:Val} {q pl pc io is:Nat}
def E1p {H:B5} {i m0:Nat} (rc:rd H pc=rT cs) (K:IsRC n P H cs c) (hP:∀ id,P id->id≠io/\id≠is) (bm:c.blocks.length=c.made.length) (hB:c.blocks.length<=1000000) (hmd:∀ b∈c.made,b.length=256) :
  ∀ (e k M:Nat) (y:Cell) (b:List UInt8),k+e=c.blocks.length->e<M->Has H (.c y) 1 256 (B4 b)->b.length=256->InR (λid=>id≠io/\id≠is) y ->
  ∃ y' M',A5c q m0 M v (pV pl 0) (pV pc 0) x7 x8 (iV (i:Int)) (.c y) (iV (k:Int)) H =
   A5c q m0 (M'+1) v (pV pl 0) (pV pc 0) x7 x8 (iV (i:Int)) (.c y') (iV (c.blocks.length:Nat)) H /\
   Has H (.c y') 1 256 (B4 (B2k (c.blocks.drop k) (c.made.drop k) i b))/\(B2k (c.blocks.drop k) (c.made.drop k) i b).length=256/\InR (λid=>id≠io/\id≠is) y':=by
 intro e
 induction e with
 | zero =>
  intro k M y b hk hM hy hb hR;obtain ⟨M,rfl⟩:∃ M',M=M'+1:=⟨M-1,by omega⟩;have ek:k=c.blocks.length:=by omega
  subst ek;rw [List.drop_length,D7I];exact ⟨y,M,rfl,hy,hb,hR⟩
 | succ e ih =>
  intro k M y b hk hM hy hb hR;obtain ⟨M,rfl⟩:∃ M',M=M'+1:=⟨M-1,by omega⟩;have hkl:k<c.blocks.length:=by omega
  have hkm:k<c.made.length:=by omega
  obtain ⟨yr,yi,yt,yb,ym,yl,yy,ys,rfl,kk⟩:=id K;have l3:B8 H (pV pc 3)=A4 (.c yb):=B9 rc rfl rfl;have l4:B8 H (pV pc 4)=A4 (.c ym):=B9 rc rfl rfl;have al:=kk.blk.len;have c0:(k:Int)<(c.blocks.length:Nat):=by omega
  have w1:=D3 (show k+1<9223372036854775808 by omega);obtain ⟨i1,o1,e1,_,hA1,_⟩:=kk.blk.sl (by omega);cases e1;obtain ⟨i2,o2,e2,_,hA2,_⟩:=kk.mad.sl (by omega);cases e2;have a1:D9 1 (sV i1 o1 c.blocks.length 1) (iV (k:Int))=A4 (pV i1 (o1+k)):=by rw [C9 hkl,Nat.mul_one]
  have a2:D9 1 (sV i2 o2 c.made.length 1) (iV (k:Int))=A4 (pV i2 (o2+k)):=by rw [C9 hkm,Nat.mul_one]
  have b1:=hA1 k (.i .i64 c.blocks[k]) (by simp [encI,hkl]);have hyl:=kk.mds.1;have hyk:ys[k]?=A4 (ys[k]'(by omega)):=E5P _;obtain ⟨hp,bb,y1,y2,y3⟩:=kk.mds.2.2 k _ hyk;rw [E5P hkm] at y1;cases y1;have b2:=hA2 k _ hyk;rw [E5X hkl,E5X hkm];have ep:B2k (c.blocks[k]::c.blocks.drop (k+1)) (c.made[k]::c.made.drop (k+1)) i b=B2k (c.blocks.drop (k+1)) (c.made.drop (k+1)) i (if c.blocks[k]=i then c.made[k] else b):=rfl;rw [ep];by_cases ce:c.blocks[k]=(i:Int)
  ·rw [if_pos ce];obtain ⟨y',M',f1,f2,f3,f4⟩:=ih (k+1) M _ _ (by omega) (by omega) y3 y2 (λid hi=>hP id (hp id hi));refine ⟨y',M',?_,f2,f3,f4⟩;rw [oF];simp only [esc,l3,al,c0,a1,b1,ce,l4,a2,b2,A6h,w1];exact f1
  ·rw [if_neg ce];obtain ⟨y',M',f1,f2,f3,f4⟩:=ih (k+1) M _ _ (by omega) (by omega) hy hb hR;refine ⟨y',M',?_,f2,f3,f4⟩;rw [oF];simp only [esc,l3,al,c0,a1,b1,ce,A6h,w1];exact f1
def E1q {H0:B5} {i m0:Nat} (rc:rd H0 pc=rT cs) (K:IsRC n P H0 cs c) (hx:∀ x∈c.ino,x.length=11) (P6:8*(i-2)+9<=c.ino.length) (h2:2<=i) (hi:i<=512) (hio:io<H0.length) (his:is<H0.length) :
  ∀ (e k M:Nat) (y:Cell) (b:List UInt8) (H:B5),k+e=8->e<M->Grows H0 H->Has H (.c y) 1 256 (B4 b)->b.length=256->InR (λid=>id≠io/\id≠is) y ->
  ∃ y' H' M',A5d q m0 M v (pV pl 0) (pV pc 0) x7 x8 (iV (i:Int)) (.c y) (iV (k:Int)) H =
   A5d q m0 (M'+1) v (pV pl 0) (pV pc 0) x7 x8 (iV (i:Int)) (.c y') (iV 8) H'/\Grows H0 H' /\
   Has H' (.c y') 1 256 (B4 (C9G c.ino (8*(i-2)+1) e k b))/\(C9G c.ino (8*(i-2)+1) e k b).length=256/\InR (λid=>id≠io/\id≠is) y':=by
 intro e
 induction e with
 | zero =>
  intro k M y b H hk hM G hy hb hR;obtain ⟨M,rfl⟩:∃ M',M=M'+1:=⟨M-1,by omega⟩;have ek:k=8:=by omega
  subst ek;exact ⟨y,H,M,rfl,G,hy,hb,hR⟩
 | succ e ih =>
  intro k M y b H hk hM G hy hb hR;obtain ⟨M,rfl⟩:∃ M',M=M'+1:=⟨M-1,by omega⟩;obtain ⟨yr,yi,yt,yb,ym,yl,yy,ys,rfl,kk⟩:=K.grows G;have rcH:=G.rd rc;have l1:B8 H (pV pc 1)=A4 (.c yi):=B9 rcH rfl rfl;obtain ⟨j,ej⟩:∃ j,j=8*(i-2)+1+k:=⟨_,rfl⟩;have hj:j<c.ino.length:=by omega
  obtain ⟨ii,oi,ei,_,_,hC⟩:=kk.ino.sl (by omega);cases ei;have c0:(k:Int)<8:=by omega
  have w0:E5U .i64 (32*(k:Int))=((32*k:Nat):Int):=by rw [wrap_i64 (by omega) (by omega)];omega
  have w1:E5U .i64 ((i:Int)-2)=((i-2:Nat):Int):=by rw [wrap_i64 (by omega) (by omega)];omega
  have w2:E5U .i64 (8*((i-2:Nat):Int))=((8*(i-2):Nat):Int):=by rw [wrap_i64 (by omega) (by omega)];omega
  have w3:E5U .i64 (((8*(i-2):Nat):Int)+(k:Int))=((8*(i-2)+k:Nat):Int):=by rw [wrap_i64 (by omega) (by omega)];omega
  have w4:E5U .i64 (((8*(i-2)+k:Nat):Int)+1)=(j:Int):=by rw [wrap_i64 (by omega) (by omega)];omega
  have w5:=D3 (show k+1<9223372036854775808 by omega);have ad:D9 11 (sV ii oi c.ino.length 11) (iV (j:Int))=A4 (pV ii (oi+j*11)):=C9 hj;have ld:D4 H 11 (pV ii (oi+j*11))=A4 (.a (encI c.ino[j])):=by
   rw [hC (j*11) 11 (by rw [R6 hx];omega),A6t hx hj]
  obtain ⟨x,ex⟩:∃ x,x=c.ino[j]:=⟨_,rfl⟩;have xl:x.length=11:=by rw [ex];exact hx _ (E6v hj)
  rw [<-ex] at ld;have hP:A18 [.a (encI x)] H=A4 (sV H.length 0 32 1,H++[rT (B4 (A8k x))]):=by
   rw [C0P xl];exact B81 (by rw [E6O,xl])
  have rl:=B11 xl;obtain ⟨H1,eH1⟩:∃ H1,H1=H++[rT (B4 (A8k x))]:=⟨_,rfl⟩;have lH1:H1.length=H.length+1:=by rw [eH1];simp
  have hL:=oS (v:=.c y) (u:=sV H.length 0 32 1) (nv:=256) (nu:=32) (l:=b) (data:=A8k x) (a:=((32*k:Nat):Int)) (h:=H1) (by rw [eH1];exact hy.more _) (by rw [eH1];exact Has.row (rw:=A5) (by rw [E9];rfl) (by rw [A9,rl]) (G9 _)) (by omega) (by omega);rw [A1H (by rw [rl,hb];omega),hb] at hL;have G2:Grows H0 (H1++[rT (B4 (J7 b (32*k) (A8k x)))]):=by rw [eH1];exact (G.new _).new _
  have lb:(J7 b (32*k) (A8k x)).length=256:=by rw [P9 (by rw [rl,hb];omega),hb]
  have gl:=G.len;obtain ⟨y',H',M',f1,f2,f3,f4,f5⟩:=ih (k+1) M (.sl H1.length 0 256 1) (J7 b (32*k) (A8k x)) _ (by omega) (by omega) G2 (Has.row (rw:=A5) (by rw [E9];rfl) (by rw [A9,lb]) (G9 _)) lb (λid hid=>by cases hid;constructor<;>omega);have et:C9G c.ino (8*(i-2)+1) (e+1) k b=C9G c.ino (8*(i-2)+1) e (k+1) (J7 b (32*k) (A8k x)):=by
   show C9G c.ino (8*(i-2)+1) e (k+1) (J7 b (32*k) (A8k (c.ino.getD (8*(i-2)+1+k) [])))=_;rw [<-ej,E5Z,E5P hj,ex];rfl
  rw [et];refine ⟨y',H',M',?_,f2,f3,f4,f5⟩;rw [<-eH1] at hP;rw [A6k];simp only [esc,c0,w0,l1,w1,w2,w3,w4,ad,ld,hP,hL,w5];exact f1
end
section
variable {D:Dev} {n m:Int} {P:Nat->Prop} {h:B5} {c:Cl} {cs:List Cell} {v:Val} {q:Nat}
structure ImI (D:Dev) (n m:Int) (c:Cl) (cs:List Cell) (h:B5) (i io is:Nat) (ys:List Cell) (H:B5):Prop where
 gr:Grows h H
 rl:rd H h.length=rT (D7 D.length n m)
 rc:rd H (h.length+1)=rT cs
 lo:h.length+2<=io
 ls:h.length+2<=is
 ne:io≠is
 ro:rd H io=rT ys
 rs:rd H is=rT (encI ((V4 0 (c.taken.take i)).map λx:Nat=>(x:Int)))
 md:D4H (λid=>id≠io/\id≠is) H ys ((E6p i).map (B83 D n c))
def D6D {i io is M:Nat} {ys:List Cell} {y:Cell} {H:B5} (K:IsRC n P h cs c) (hP:∀ id,P id->id<h.length) (ht:c.taken.length=D.length) (hl:D.length<=512) (hi:i<D.length) (k:ImI D n m c cs h i io is ys H)
  (hy:Has H (.c y) 1 256 (B4 (B83 D n c i))) (hb:(B83 D n c i).length=256) (hR:InR (λid=>id≠io/\id≠is) y) :
  ∃ io' is' ys' H',B4a q M v (pV h.length 0) (pV (h.length+1) 0) (sV io 0 i 1) (sV is 0 (V4 0 (c.taken.take i)).length 1) (iV (i:Int)) (.c y) H =
   A5b q M v (pV h.length 0) (pV (h.length+1) 0) (sV io' 0 (i+1) 1) (sV is' 0 (V4 0 (c.taken.take (i+1))).length 1) (iV ((i+1:Nat):Int)) H'/\ImI D n m c cs h (i+1) io' is' ys' H':=by
 have ylen:=k.md.1;rw [List.length_map,List.length_range] at ylen;have lio:=C8 k.ro;have lis:=C8 k.rs;have P6:i<c.taken.length:=by omega
 have ef:E6 [Cell.ns] [(0,1,.c y)]=A4 [y]:=rfl;have A1:=one_app (sz:=1) (n:=i) (ys:=[y]) k.ro (by omega) rfl (by omega) (by omega);obtain ⟨H1,eH1⟩:∃ H1,H1=(H++[rT [y]]).set io A7++[rT (ys++[y])]:=⟨_,rfl⟩;rw [<-eH1] at A1;have lH1:H1.length=H.length+2:=by rw [eH1];simp
 have keepR:∀ {id r},rd H id=A4 r->id≠io->rd H1 id=A4 r:=λ{id r} hr T1=>by
  rw [eH1];exact C5 (by rw [B6 (Ne.symm T1)];exact C5 hr)
 have keepH:∀ {x:Cell} {sz w:Nat} {l:List Cell},Has H (.c x) sz w l->nmC x≠A4 io->Has H1 (.c x) sz w l:=λhv hn=>by
  rw [eH1];exact (has_set (hv.more _) (.inr hn)).more _
 have new1:rd H1 (H.length+1)=rT (ys++[y]):=by
  rw [eH1];have:=E9 (h:=(H++[rT [y]]).set io A7) (l:=[rT (ys++[y])]);rw [E6o,E5T] at this;exact this
 have G1:Grows h H1:=by
  rw [eH1];exact (A8g (k.gr.new _) (by have:=k.lo;omega)).new _
 obtain ⟨yr,yi,yt,yb,ym,yl,yy,zs,ec,kk⟩:=K.grows G1;have rc1:rd H1 (h.length+1)=rT cs:=keepR k.rc (by have:=k.lo;omega);have l2:B8 H1 (pV (h.length+1) 2)=A4 (.c yt):=B9 rc1 (by rw [ec];rfl) rfl;obtain ⟨i1,o1,e1,_,hA1,_⟩:=kk.tak.sl (by omega);cases e1;have a1:D9 1 (sV i1 o1 c.taken.length 1) (iV (i:Int))=A4 (pV i1 (o1+i)):=by rw [C9 P6,Nat.mul_one]
 have b1:=hA1 i (.b c.taken[i]) (by simp [J9,P6]);have w1:=D3 (show i+1<9223372036854775808 by omega);have er:(E6p (i+1)).map (B83 D n c)=(E6p i).map (B83 D n c)++[B83 D n c i]:=by rw [List.range_succ,E6N];rfl
 have md1:∀ is',is'=is\/H.length+2<=is'->D4H (λid=>id≠H.length+1/\id≠is') H1 (ys++[y]) ((E6p (i+1)).map (B83 D n c)):=by
  intro is' his;have one:∀ (x:Cell) (w:List UInt8),InR (λid=>id≠io/\id≠is) x->w.length=256->Has H (.c x) 1 256 (B4 w)->InR (λid=>id≠H.length+1/\id≠is') x/\Has H1 (.c x) 1 256 (B4 w):=by
   intro x w hx hw hv;refine ⟨λid hid=>?_,keepH hv λe=>(hx _ e).1 rfl⟩;have h1:=A2w hv hid;have h2:=(hx id hid).2;constructor
   ·omega
   ·rcases his with rfl | his
    ·exact h2
    ·omega
  rw [er];refine ⟨by simp [ylen],?_,λj x hj=>?_⟩
  ·have h1:noX [y]=A5:=by
    have:y.isX=A6:=by
     rcases hy with ⟨e,_⟩ | ⟨_,_,_,e,_⟩<;>cases e<;>rfl
    simp [noX,this]
   have h2:=k.md.2.1;unfold noX at h1 h2 ⊢;rw [List.all_append,h1,h2];rfl
  ·by_cases hji:j<i
   ·rw [E6t (by omega)] at hj;obtain ⟨p1,b,p2,p3,p4⟩:=k.md.2.2 j x hj;obtain ⟨q1,q2⟩:=one x b p1 p3 p4;exact ⟨q1,b,by rw [E6t (by simp;exact hji)];exact p2,p3,q2⟩
   ·have ej:j=i:=by
     have:=(List.getElem?_eq_some_iff.1 hj).1;simp at this;omega
    subst ej;have:(ys++[y])[j]?=A4 y:=by rw [E57 (by omega),ylen];simp
    rw [this] at hj;cases hj;obtain ⟨q1,q2⟩:=one y _ hR hb hy;exact ⟨q1,_,by rw [E57 (by simp)];simp,hb,q2⟩
 have es:V4 0 (c.taken.take (i+1))=V4 0 (c.taken.take i)++(if c.taken[i]=A5 then [i] else []):=by
  rw [E58 P6,D07,E6l,E6e,E6R (by omega)]
 obtain ⟨S,eS⟩:∃ S,S=V4 0 (c.taken.take i):=⟨_,rfl⟩;have rs1:rd H1 is=rT (encI (S.map λx:Nat=>(x:Int))):=by rw [eS];exact keepR k.rs (Ne.symm k.ne)
 have lS:S.length<=i:=by
  rw [eS];have:=(D2z (l:=c.taken.take i) (i:=0)).2;rw [E6l] at this;omega
 rw [es,<-eS];have rl1:rd H1 h.length=rT (D7 D.length n m):=keepR k.rl (by have:=k.lo;omega);have hlo:=k.lo;have hls:=k.ls;cases hb2:c.taken[i] with
 | false =>
  rw [hb2] at b1;rw [if_neg (by decide),E6m];refine ⟨H.length+1,is,ys++[y],H1,?_,⟨G1,rl1,rc1,by omega,hls,by omega,new1,by rw [es,<-eS,hb2,if_neg (by decide),E6m];exact rs1,md1 is (.inl rfl)⟩⟩;rw [A6i];simp only [esc,ef,A1,l2,a1,b1,A6j,w1]
 | true =>
  rw [hb2] at b1;rw [if_pos rfl];have ef2:E6 [o0] [(0,1,iV (i:Int))]=A4 [.i .i64 (i:Int)]:=rfl;have A2:=one_app (sz:=1) (n:=S.length) (ys:=[Cell.i .i64 (i:Int)]) rs1 (by simp [encI]) rfl (by omega) (by omega);obtain ⟨H2,eH2⟩:∃ H2,H2=(H1++[rT [Cell.i .i64 (i:Int)]]).set is A7++[rT (encI (S.map λx:Nat=>(x:Int))++[Cell.i .i64 (i:Int)])]:=⟨_,rfl⟩;rw [<-eH2] at A2;have eE:encI (S.map λx:Nat=>(x:Int))++[Cell.i .i64 (i:Int)]=encI ((S++[i]).map λx:Nat=>(x:Int)):=by simp [encI]
  have keepR2:∀ {id r},rd H1 id=A4 r->id≠is->rd H2 id=A4 r:=λ{id r} hr T1=>by
   rw [eH2];exact C5 (by rw [B6 (Ne.symm T1)];exact C5 hr)
  have new2:rd H2 (H1.length+1)=rT (encI ((S++[i]).map λx:Nat=>(x:Int))):=by
   rw [eH2,<-eE];have:=E9 (h:=(H1++[rT [Cell.i .i64 (i:Int)]]).set is A7) (l:=[rT (encI (S.map λx:Nat=>(x:Int))++[Cell.i .i64 (i:Int)])]);rw [E6o,E5T] at this;exact this
  have G2:Grows h H2:=by
   rw [eH2];exact (A8g (G1.new _) (by omega)).new _
  have md0:=md1 is (.inl rfl);have md2:D4H (λid=>id≠H.length+1/\id≠H1.length+1) H2 (ys++[y]) ((E6p (i+1)).map (B83 D n c)):=by
   refine ⟨md0.1,md0.2.1,λj x hj=>?_⟩;obtain ⟨p1,b,p2,p3,p4⟩:=md0.2.2 j x hj;refine ⟨λid hid=>⟨(p1 id hid).1,?_⟩,b,p2,p3,?_⟩
   ·have:=A2w p4 hid;omega
   ·rw [eH2];exact (has_set (p4.more _) (.inr λe=>(p1 _ e).2 rfl)).more _
  have lS2:(S++[i]).length=S.length+1:=by simp
  refine ⟨H.length+1,H1.length+1,ys++[y],H2,?_,⟨G2,keepR2 rl1 (by omega),keepR2 rc1 (by omega),by omega,by omega,by omega,keepR2 new1 (by omega),by rw [es,<-eS,hb2,if_pos rfl];exact new2,md2⟩⟩;rw [lS2,A6i];simp only [esc,ef,A1,l2,a1,b1,ef2,A2,A6j,w1]
def E1o (hv:Has h v 256 D.length (D5 D)) (hD:okD D) (hm:R7 D.length n=A5) (K:IsRC n P h cs c) (hP:∀ id,P id->id<h.length) (ok:ImgOk D n c) (P6:c.ino.length=(n+1).toNat) :
  ∀ (e i M io is:Nat) (ys:List Cell) (H:B5),i+e=D.length->e<M->1000002<=q->ImI D n m c cs h i io is ys H ->
  ∃ io' ys' H',A5b q M v (pV h.length 0) (pV (h.length+1) 0) (sV io 0 i 1) (sV is 0 (V4 0 (c.taken.take i)).length 1) (iV (i:Int)) H=A4 (sV io' 0 D.length 1,H') /\
   Grows h H'/\rd H' io'=rT ys'/\D4H (λ_=>True) H' ys' (uV D n c):=by
 obtain ⟨b16,b512,n8,n128,nm8,nb⟩:=J8.1 hm;have hx:∀ x∈c.ino,x.length=11:=λx hx=>(ok.ino x hx).1
 have lenD:(uV D n c).length=D.length:=by
  obtain ⟨ok1,l1⟩:=B2l (l:=c.blocks) (m:=c.made) hD ok.md;obtain ⟨ok2,l2⟩:=A6M (e:=(A2M D.length n).toNat) (no:=uY D.length n) ok1;obtain ⟨ok3,l3⟩:=B14 (n:=n) n128 (l:=c.ino) (i:=0) ok2 hx;unfold uV;rw [dS,l3,l2,l1]
 intro e
 induction e with
 | zero =>
  intro i M io is ys H hi hM hq k;obtain ⟨M,rfl⟩:∃ M',M=M'+1:=⟨M-1,by omega⟩;have ei:i=D.length:=by omega
  subst ei;have et:c.taken.take D.length=c.taken:=by rw [<-ok.tak,List.take_length]
  have rs:=k.rs;rw [et] at rs ⊢;have ylen:=k.md.1;rw [List.length_map,List.length_range] at ylen;have l0:B8 H (pV h.length 0)=A4 (iV (D.length:Nat)):=B9 k.rl rfl rfl;have c0:¬ ((D.length:Nat):Int)<(D.length:Nat):=by omega
  obtain ⟨s1,s2⟩:=D2z (l:=c.taken) (i:=0);have htk:=ok.tak;have hMk:=C9B (x0:=sV is 0 (V4 0 c.taken).length 1) (h:=H) (S:=V4 0 c.taken) (nv:=(V4 0 c.taken).length) (λx hx=>by have:=s1 x hx;omega) (by omega) (Has.row rs (by simp [encI]) (cG _));rw [D9t (by omega)] at hMk;have ad:D9 1 (sV io 0 D.length 1) (iV 1)=A4 (pV io 1):=by
   have:=C9 (k:=.i64) (id:=io) (off:=0) (sz:=1) (len:=D.length) (j:=1) (by omega);exact this
  have lio:=C8 k.ro;obtain ⟨Hm,eHm⟩:∃ Hm,Hm=H++[rT (B4 (fW (V4 0 c.taken)))]:=⟨_,rfl⟩;rw [<-eHm] at hMk;have rom:rd Hm io=rT ys:=by rw [eHm];exact C5 k.ro
  have st:=G8 (x:=.sl H.length 0 256 1) rom (off:=1) (by omega);have lm:(fW (V4 0 c.taken)).length=256:=by unfold fW;rw [dN,zeros_length]
  have GH:Grows h Hm:=by rw [eHm];exact k.gr.new _
  refine ⟨io,_,Hm.set io (rT (ys.set 1 (.sl H.length 0 256 1))),?_,GH.set (by have:=k.lo;omega) _,C6 (C8 rom),?_⟩
  ·rw [xJ];simp only [esc,l0,c0,hMk,ad,st]
  ·refine ⟨by rw [E6o,ylen,lenD],?_,λj x hj=>⟨λ_ _=>trivial,?_⟩⟩
   ·have h2:=k.md.2.1;refine List.all_eq_true.2 λx hx=>?_
    rcases E6A hx with hx | rfl
    ·exact List.all_eq_true.1 h2 x hx
    ·rfl
   ·have hjl:j<D.length:=by
     have:=(List.getElem?_eq_some_iff.1 hj).1;rw [E6o] at this;omega
    have hI:=D9g (c:=c) hD hm ok P6 hjl;rw [List.getElem?_set] at hj;by_cases e1:1=j
    ·rw [if_pos e1,if_pos (by omega)] at hj;cases hj;rw [if_pos e1.symm] at hI;refine ⟨_,hI,lm,has_set (Has.row (rw:=A5) (by rw [eHm,E9];rfl) (by rw [A9,lm]) (G9 _)) (.inr λe=>?_)⟩;cases e;omega
    ·rw [if_neg e1] at hj;rw [if_neg (Ne.symm e1)] at hI;obtain ⟨p1,b,p2,p3,p4⟩:=k.md.2.2 j x hj;rw [List.getElem?_map,List.getElem?_range hjl] at p2;cases p2;refine ⟨_,hI,p3,has_set (by rw [eHm];exact p4.more _) (.inr λe=>(p1 _ e).1 rfl)⟩
 | succ e ih =>
  intro i M io is ys H hi hM hq k;obtain ⟨M,rfl⟩:∃ M',M=M'+1:=⟨M-1,by omega⟩;have hiD:i<D.length:=by omega
  have l0:B8 H (pV h.length 0)=A4 (iV (D.length:Nat)):=B9 k.rl rfl rfl;have l3:D4 H 3 (pV h.length 0)=A4 (.a (D7 D.length n m)):=C7 k.rl rfl;have c0:(i:Int)<(D.length:Nat):=by omega
  obtain ⟨a,idv,off,ha,hs,hHv,V7⟩:=D85 hv hD k.gr hiD;have hlo:=k.lo;have hls:=k.ls;have lio:=C8 k.ro;have lis:=C8 k.rs;have okb:D[i].length=256:=hD _ (E6v hiD);have hPn:∀ id,P id->id≠io/\id≠is:=λid hid=>by have:=hP id hid;constructor<;>omega
  obtain ⟨y1,M1,f1,f2,f3,f4⟩:=E1p (v:=v) (x7:=sV io 0 i 1) (x8:=sV is 0 (V4 0 (c.taken.take i)).length 1) (q:=q) (pl:=h.length) (io:=io) (is:=is) (i:=i) (m0:=M) k.rc (K.grows k.gr) hPn ok.bm ok.bl ok.md c.blocks.length 0 q _ _ (by omega) (by have:=ok.bl;omega) hHv okb (λid hid=>by cases hid;constructor<;>omega);rw [E6a,E6a] at f2 f3;obtain ⟨zr,zi,zt,zb,zm,zl,zy,zs,ec,kk⟩:=K.grows k.gr;have lb:B8 H (pV (h.length+1) 3)=A4 (.c zb):=B9 k.rc (by rw [ec];rfl) rfl;have al:=kk.blk.len;have cB:¬ ((c.blocks.length:Nat):Int)<(c.blocks.length:Nat):=by omega
  have hAr:=A5u (b:=D.length) (n:=n) (m:=m) (no:=(i:Int)) (h:=H);have eD:D.getD i []=D[i]:=by rw [E5Z,E5P hiD];rfl
  have c00:((0:Nat):Int)=0:=rfl;rw [c00] at f1;by_cases hA:vK D.length n i=3
  ·have h3:2<=i/\((i:Int)-2)*8<n:=by
    unfold vK at hA;split at hA
    ·split at hA
     ·omega
     ·split at hA<;>omega
    ·omega
   have a6:A2T (iV 256) (iV 256)=A4 256:=rfl;obtain ⟨H0,eH0⟩:∃ H0,H0=H++[rT (B4 (zeros 256))]:=⟨_,rfl⟩;have lH0:H0.length=H.length+1:=by rw [eH0];simp
   have G0:Grows h H0:=by rw [eH0];exact k.gr.new _
   obtain ⟨y2,H2,M2,g1,g2,g3,g4,g5⟩:=E1q (v:=v) (x7:=sV io 0 i 1) (x8:=sV is 0 (V4 0 (c.taken.take i)).length 1) (q:=q) (pl:=h.length) (io:=io) (is:=is) (H0:=H0) (i:=i) (m0:=M) (pc:=h.length+1) (by rw [eH0];exact C5 k.rc) (K.grows G0) hx (by omega) h3.1 (by omega) (by omega) (by omega) 8 0 q (.sl H.length 0 256 1) (zeros 256) H0 (by omega) (by omega) Grows.rfl' (by rw [eH0];exact Has.row (rw:=A5) (by rw [E9];rfl) (by rw [A9,zeros_length]) (G9 _)) zeros_length (λid hid=>by cases hid;constructor<;>omega);have er:B83 D n c i=C9G c.ino (8*(i-2)+1) 8 0 (zeros 256):=by unfold B83;rw [if_pos hA]
   rw [<-er] at g3 g4;have GH2:Grows H H2:=(by rw [eH0];exact (Grows.rfl').new _:Grows H H0).trans' g2;have k2:ImI D n m c cs h i io is ys H2:=⟨k.gr.trans' GH2,GH2.rd k.rl,GH2.rd k.rc,hlo,hls,k.ne,GH2.rd k.ro,GH2.rd k.rs,k.md.1,k.md.2.1,λj x hj=>by
    obtain ⟨p1,b,p2,p3,p4⟩:=k.md.2.2 j x hj;exact ⟨p1,b,p2,p3,p4.grows GH2⟩⟩
   obtain ⟨io',is',ys',H',t1,t2⟩:=D6D (q:=q) (M:=M) (v:=v) K hP ok.tak (by omega) hiD k2 g3 g4 g5;obtain ⟨io2,ys2,H3,r1,r2⟩:=ih (i+1) M io' is' ys' H' (by omega) (by omega) hq t2;refine ⟨io2,ys2,H3,?_,r2⟩;rw [hA] at hAr;rw [xJ];simp only [esc,l0,c0,ha,hs];refine f1.trans ?_;have c33:((3:Int)=3):=rfl;have c88:¬ (8:Int)<8:=by omega
   rw [c00] at g1;rw [oF];simp only [esc,lb,al,cB,l3,hAr,a6,oT,<-eH0];refine g1.trans ?_;rw [A6k];simp only [esc,c88];exact t1.trans r1
  ·have er:B83 D n c i=B2k c.blocks c.made i D[i]:=by unfold B83;rw [if_neg hA,eD]
   rw [<-er] at f2 f3;obtain ⟨io',is',ys',H',t1,t2⟩:=D6D (q:=q) (M:=M) (v:=v) K hP ok.tak (by omega) hiD k f2 f3 f4;obtain ⟨io2,ys2,H3,r1,r2⟩:=ih (i+1) M io' is' ys' H' (by omega) (by omega) hq t2;refine ⟨io2,ys2,H3,?_,r2⟩;rw [xJ];simp only [esc,l0,c0,ha,hs];refine f1.trans ?_;rw [oF];simp only [esc,lb,al,cB,l3,hAr,hA];exact t1.trans r1
def E1n (hv:Has h v 256 D.length (D5 D)) (hD:okD D) (hm:R7 D.length n=A5) (K:IsRC n P h cs c) (hP:∀ id,P id->id<h.length) (ok:ImgOk D n c) (P6:c.ino.length=(n+1).toNat) :
  ∃ id ys H',A7M [v,.a (D7 D.length n m),.a cs] h=A4 (sV id 0 D.length 1,H')/\Grows h H'/\rd H' id=rT ys/\D4H (λ_=>True) H' ys (uV D n c):=by
 obtain ⟨b16,_⟩:=J8.1 hm;obtain ⟨H0,eH0⟩:∃ H0,H0=h++[rT (D7 D.length n m),rT cs,rT [],rT [],rT []]:=⟨_,rfl⟩;have et:c.taken.take 0=[]:=rfl;have k0:ImI D n m c cs h 0 (h.length+3) (h.length+4) [] H0:=by
  refine ⟨by rw [eH0];exact U2 Grows.rfl' rfl,by rw [eH0,E9];rfl,by rw [eH0,K9];rfl,by omega,by omega,by omega,by rw [eH0,K9];rfl,by rw [eH0,K9,et];rfl,rfl,rfl,λj x hj=>by simp at hj⟩
 obtain ⟨q,hq⟩:∃ q,q=1000002:=⟨_,rfl⟩;obtain ⟨io',ys',H',e1,e2,e3,e4⟩:=E1o (q:=q) (m:=m) hv hD hm K hP ok P6 D.length 0 q _ _ _ _ (by omega) (by have:=(J8.1 hm).2.1;omega) (by omega) k0;have z0:((0:Nat):Int)=0:=rfl;have z1:(V4 0 (c.taken.take 0)).length=0:=rfl;rw [z0,z1] at e1;refine ⟨io',ys',H',C3L (n:=q) (p:=(_,_)) ?_,e2,e3,e4⟩;have cl1:cells? (.a (D7 D.length n m))=A4 (D7 D.length n m):=rfl;have cl2:cells? (.a cs)=A4 cs:=rfl;rw [C28];generalize D7 D.length n m=L at *;simp only [esc,Nat.reduceAdd,cl1,cl2,<-eH0];exact e1
end
def D30 {l:List Cell} {x:Cell} (h:noX l=A5) (hx:x.isX=A6):noX (l++[x])=A5:=by
 unfold noX at *;rw [List.all_append,h];simp [hx]
section
variable {D:Dev} {n m:Int} {P:Nat->Prop} {h:B5} {c:Cl} {cs:List Cell}
def D4n {no:Int} {y:Cell} {b:List UInt8} (k:IsRC n P h cs c) (hy:Has h (.c y) 1 256 (B4 b)) (py:InR P y) (h1:c.blocks.length<=100000) (h2:c.made.length<=100000) (hyx:y.isX=A6) :
  ∃ cs' H',zN [.a cs,iV no,.c y] h=A4 (.a cs',H')/\Grows h H'/\IsRC n (λid=>P id\/h.length<=id) H' cs' (S9 c no b):=by
 obtain ⟨xr,xi,xt,xb,xm,xl,xy,ys,rfl,k⟩:=k;have hbl:b.length=256:=by have:=hy.length;rw [A9] at this;omega
 obtain ⟨T,hT⟩:∃ T:B5,T=[rT (rcC xr xi xt xb xm c.lost xl xy),rT [Cell.ns,.ns,.ns,.ns,.ns,o0,.ns,.ns]]:=⟨_,rfl⟩;have lT:(h++T).length=h.length+2:=by rw [hT];simp
 have c1:=B58 (H:=h++T) (k.blk.more T) (by omega) (by omega);obtain ⟨K,hK⟩:∃ K,K=h++T++[A7,rT (encI c.blocks)]:=⟨_,rfl⟩;have lK:K.length=h.length+4:=by rw [hK,E5T,lT];rfl
 have rK:rd K (h.length+3)=rT (encI c.blocks):=by rw [hK,hT,E5Y,K9];rfl
 have o1:=one_app (ys:=[Cell.i .i64 no]) rK (n:=c.blocks.length) (sz:=1) (by rw [B7];omega) rfl (by omega) (by omega);obtain ⟨K2,hK2⟩:∃ K2,K2=(K++[rT [Cell.i .i64 no]]).set (h.length+3) A7++[rT (encI c.blocks++[Cell.i .i64 no])]:=⟨_,rfl⟩;have lK2:K2.length=h.length+6:=by rw [hK2];simp [lK]
 have G0:Grows h K:=by rw [hK,E5Y];exact U2 Grows.rfl' (by rw [hT];rfl)
 have G2:Grows h K2:=by rw [hK2];exact (A8g (G0.new _) (by omega)).new _
 have rc2:rd K2 h.length=rT (rcC xr xi xt xb xm c.lost xl xy):=by
  rw [hK2,E1 (by simp;omega),B6 (by omega),E1 (by omega),hK,hT,E5Y,E9];rfl
 have rr2:rd K2 (h.length+1)=rT [Cell.ns,.ns,.ns,.ns,.ns,o0,.ns,.ns]:=by
  rw [hK2,E1 (by simp;omega),B6 (by omega),E1 (by omega),hK,hT,E5Y,K9];rfl
 have rb2:rd K2 (h.length+5)=rT (encI (c.blocks++[no])):=by
  have:rd K2 ((K++[rT [Cell.i .i64 no]]).set (h.length+3) A7).length=rT (encI c.blocks++[Cell.i .i64 no]):=by rw [hK2];exact U5
  rw [E6o,E5T,lK] at this;rw [A3X];exact this
 obtain ⟨K3,hK3⟩:∃ K3,K3=K2.set h.length (rT (rcC xr xi xt (.sl (h.length+5) 0 (c.blocks.length+1) 1) xm c.lost xl xy)):=⟨_,rfl⟩;have lK3:K3.length=h.length+6:=by rw [hK3];simp [lK2]
 have s3:I5 K2 (pV h.length 3) (sV (h.length+5) 0 (c.blocks.length+1) 1)=A4 K3:=by rw [G8 rc2 (by simp [rcC]),hK3];rfl
 have G3:Grows h K3:=by rw [hK3];exact G2.set (E5V _) _
 have rc3:rd K3 h.length=rT (rcC xr xi xt (.sl (h.length+5) 0 (c.blocks.length+1) 1) xm c.lost xl xy):=by rw [hK3];exact C6 (by omega)
 have rr3:rd K3 (h.length+1)=rT [Cell.ns,.ns,.ns,.ns,.ns,o0,.ns,.ns]:=by rw [hK3,B6 (by omega)];exact rr2
 have rb3:rd K3 (h.length+5)=rT (encI (c.blocks++[no])):=by rw [hK3,B6 (by omega)];exact rb2
 have c2:=B58 (H:=K3) (k.mad.grows G3) (by omega) (by omega);obtain ⟨K4,hK4⟩:∃ K4,K4=K3++[A7,rT ys]:=⟨_,rfl⟩;have lK4:K4.length=h.length+8:=by rw [hK4];simp [lK3]
 have rK4:rd K4 (h.length+7)=rT ys:=by
  rw [hK4,show h.length+7=K3.length+1 by omega,K9];rfl
 have o2:=one_app (ys:=[y]) rK4 (n:=c.made.length) (sz:=1) (by rw [k.mds.1];omega) rfl (by omega) (by omega);obtain ⟨K5,hK5⟩:∃ K5,K5=(K4++[rT [y]]).set (h.length+7) A7++[rT (ys++[y])]:=⟨_,rfl⟩;have G4:Grows h K4:=by rw [hK4];exact U2 G3 rfl
 have G5:Grows h K5:=by rw [hK5];exact (A8g (G4.new _) (by omega)).new _
 have old5:∀ id,id<K3.length->rd K5 id=rd K3 id:=λid hid=>by
  rw [hK5,E1 (by simp [lK4];omega),B6 (by omega),E1 (by omega),hK4,E1 hid]
 have rm5:rd K5 (h.length+9)=rT (ys++[y]):=by
  have:rd K5 ((K4++[rT [y]]).set (h.length+7) A7).length=rT (ys++[y]):=by rw [hK5];exact U5
  rw [E6o,E5T,lK4] at this;exact this
 have lK5:K5.length=h.length+10:=by rw [hK5];simp [lK4]
 obtain ⟨C',hC'⟩:∃ C',C'=rcC xr xi xt (.sl (h.length+5) 0 (c.blocks.length+1) 1) (.sl (h.length+9) 0 (c.made.length+1) 1) c.lost xl xy:=⟨_,rfl⟩;obtain ⟨K6,hK6⟩:∃ K6,K6=K5.set h.length (rT C'):=⟨_,rfl⟩;have rc5:rd K5 h.length=rT (rcC xr xi xt (.sl (h.length+5) 0 (c.blocks.length+1) 1) xm c.lost xl xy):=by rw [old5 _ (by omega)];exact rc3
 have s4:I5 K5 (pV h.length 4) (sV (h.length+9) 0 (c.made.length+1) 1)=A4 K6:=by rw [G8 rc5 (by simp [rcC]),hK6,hC'];rfl
 have rc6:rd K6 h.length=rT C':=by rw [hK6];exact C6 (by omega)
 have rr6:rd K6 (h.length+1)=rT [Cell.ns,.ns,.ns,.ns,.ns,o0,.ns,.ns]:=by rw [hK6,B6 (by omega),old5 _ (by omega)];exact rr3
 have l8:D4 K6 8 (pV h.length 0)=A4 (.a C'):=C7 rc6 (by rw [hC'];rfl);have s8:E5 K6 8 (pV (h.length+1) 0) (.a C')=A4 (K6.set (h.length+1) (rT C')):=storeAll rr6 rfl (by rw [hC'];rfl);obtain ⟨K7,hK7⟩:∃ K7,K7=K6.set (h.length+1) (rT C'):=⟨_,rfl⟩;rw [<-hK7] at s8;have l8':D4 K7 8 (pV (h.length+1) 0)=A4 (.a C'):=C7 (by rw [hK7];exact C6 (C8 rr6)) (by rw [hC'];rfl);have G7:Grows h K7:=by rw [hK7,hK6];exact (G5.set (E5V _) _).set (by omega) _
 have old7:∀ id,id≠h.length->id≠h.length+1->rd K7 id=rd K5 id:=λid e1 e2=>by rw [hK7,B6 (Ne.symm e2),hK6,B6 (Ne.symm e1)]
 have k7:=(k.mono (Q:=λid=>P id\/h.length<=id) λ_=>.inl).grows G7;refine ⟨C',K7,C5J (n:=0) ?_,G7,xr,xi,xt,.sl (h.length+5) 0 (c.blocks.length+1) 1,.sl (h.length+9) 0 (c.made.length+1) 1,xl,xy,ys++[y],by rw [hC'];rfl,
  ⟨k7.row,k7.ino,k7.tak,?_,?_,⟨by simp [S9,k.mds.1],D30 k.mds.2.1 hyx,λi z hz=>?_⟩,k7.tol,k7.par,k7.pr,k7.pi,k7.pt,λid hi=>by cases hi;exact .inr (by omega),λid hi=>by cases hi;exact .inr (by omega),k7.pl,k7.py⟩⟩
 ·have cl1:cells? (.a (rcC xr xi xt xb xm c.lost xl xy))=A4 (rcC xr xi xt xb xm c.lost xl xy):=rfl;have ef:E6 [] []=A4 []:=rfl;have ef1:E6 [o0] [(0,1,iV no)]=A4 [.i .i64 no]:=rfl;have ef2:E6 [Cell.ns] [(0,1,.c y)]=A4 [y]:=rfl;have lb:B8 (h++T++[rT []]) (pV h.length 3)=A4 (.c xb):=B9 (cs:=rcC xr xi xt xb xm c.lost xl xy) (rw:=A5) (by rw [hT,E5Y,E9];rfl) rfl rfl;have lm:B8 (K3++[rT []]) (pV h.length 4)=A4 (.c xm):=B9 (C5 rc3) rfl rfl;rw [lT] at c1;rw [<-hK] at c1;rw [<-hK2] at o1;rw [lK] at o1;rw [lK3] at c2;rw [<-hK4] at c2;rw [<-hK5] at o2;rw [lK4] at o2;simp only [hT,E5Y,E6q,E59] at c1 lb;rw [C43];generalize C'=Z at *;simp only [esc,Nat.reduceAdd,cl1,ef,lb,c1,lK,ef1,o1,s3,lK3,lm,c2,lK4,ef2,o2,s4,l8,s8,l8']
 ·show Has K7 (sV (h.length+5) 0 (c.blocks.length+1) 1) 1 (c.blocks++[no]).length (encI (c.blocks++[no]));rw [E5T];exact Has.row (rw:=A5) (by rw [old7 _ (by omega) (by omega),old5 _ (by omega)];exact rb3) (by simp [B7]) (cG _)
 ·show Has K7 (sV (h.length+9) 0 (c.made.length+1) 1) 1 (c.made++[b]).length (ys++[y]);rw [E5T];exact Has.row (rw:=A5) (by rw [old7 _ (by omega) (by omega)];exact rm5) (by simp [k.mds.1]) (D30 k.mds.2.1 hyx)
 ·by_cases hi:i<ys.length
  ·rw [E6t hi] at hz;obtain ⟨q1,b',q2,q3,q4⟩:=k7.mds.2.2 i z hz;refine ⟨q1,b',?_,q3,q4⟩;show (c.made++[b])[i]?=A4 b';rw [E6t (by rw [<-k.mds.1];exact hi)];exact q2
  ·rw [E57 (by omega)] at hz;have e:i-ys.length=0:=by
    have:=(List.getElem?_eq_some_iff.1 hz).1;simp at this;omega
   rw [e] at hz;simp at hz;subst hz;refine ⟨λid hid=>.inl (py id hid),b,?_,hbl,hy.grows G7⟩;show (c.made++[b])[i]?=A4 b;have e2:=k.mds.1;rw [E57 (by omega),show i-c.made.length=0 by omega];rfl
def D6F {x:Cell} {l:List Int} {at_:Nat} {v:Int} {nv:Nat} (hx:Has h (.c x) 1 nv (encI l)) (ha:at_<l.length) (hl:l.length<=100000) :
  B5x [.c x,iV (at_:Int),iV v] h=A4 (sV h.length 0 nv 1,h++[rT (encI (l.set at_ v))]):=by
 have hn:nv=l.length:=by have:=hx.length;rw [B7] at this;omega
 subst hn;obtain ⟨T,hT⟩:∃ T:B5,T=[rT []]:=⟨_,rfl⟩;have c1:=B58 (H:=ro h++T) (hx.ro.more T) (by omega) (by omega);have lT:(ro h++T).length=(ro h).length+1:=by rw [hT];simp
 rw [lT,hT] at c1;have ad:D9 1 (sV ((ro h).length+1+1) 0 l.length 1) (iV (at_:Int))=A4 (pV ((ro h).length+2) at_):=by rw [C9 ha];simp
 have st:st1 (rT (encI l)) at_ (.i .i64 v)=rT (encI (l.set at_ v)):=by
  simp only [st1,E54];rw [if_pos ⟨trivial,by rw [B7];exact ha⟩,X5]
 have key:B46 0 [.c x,iV (at_:Int),iV v] (ro h)=A4 (sV ((ro h).length+2) 0 l.length 1,ro h++[rT [],A7,rT (encI (l.set at_ v))]):=by
  have ef:E6 [] []=A4 []:=rfl;simp only [E5Y,E6q,E59] at c1;rw [C8H];generalize encI l=E at *;generalize encI (l.set at_ v)=E' at *;simp only [esc,esh,ef,c1,ad,st]
 exact C5K key ⟨by simp [B7],(ro h).length+2,rfl,by rw [F7];omega,by rw [K9];rfl⟩ B6e
end
section
variable {D:Dev} {n m:Int} {P:Nat->Prop} {h:B5} {c:Cl} {cs:List Cell} {v:Val}
def D9Y {dir ino:Int} (hv:Has h v 256 D.length (D5 D)) (hD:okD D) (k:IsRC n P h cs c) (hR:RowW n c) (hr:c.row.length<=100000) (hk:∀ i,0<=(c.lnk i).getD 0/\(c.lnk i).getD 0<1000000) (hn:n<=128) :
  ∃ cs' H',A3A [.a cs,v,.a (D7 D.length n m),iV dir,iV ino] h=A4 (.t [.a cs',.c (.b (jF D n c ino))],H')/\Grows h H'/\IsRC n (λid=>P id\/h.length<=id) H' cs' (dU D n c dir ino):=by
 obtain ⟨xr,xi,xt,xb,xm,xl,xy,ys,rfl,k⟩:=k;have cl1:cells? (.a (rcC xr xi xt xb xm c.lost xl xy))=A4 (rcC xr xi xt xb xm c.lost xl xy):=rfl;have cl2:cells? (.a (D7 D.length n m))=A4 (D7 D.length n m):=rfl;have z8l:[Cell.ns,.ns,.ns,.ns,.ns,o0,.ns,.ns].length=8:=rfl;have cl8:(rcC xr xi xt xb xm c.lost xl xy).length=8:=rfl;have ll3:(D7 D.length n m).length=3:=rfl;have ll1:ld1 (rT (D7 D.length n m)) 1=A4 (iV n):=rfl;have l0:ld1 (rT (rcC xr xi xt xb xm c.lost xl xy)) 0=A4 (.c xr):=by simp only [ld1,rcC];rfl
 have l6:ld1 (rT (rcC xr xi xt xb xm c.lost xl xy)) 6=A4 (.c xl):=by simp only [ld1,rcC];rfl
 have no:jF D n c ino=A6->∀ t:B5,t=[rT (rcC xr xi xt xb xm c.lost xl xy),rT (D7 D.length n m),rT (rcC xr xi xt xb xm c.lost xl xy)] ->
   B0f 0 [.a (rcC xr xi xt xb xm c.lost xl xy),v,.a (D7 D.length n m),iV dir,iV ino] h=A4 (.t [.a (rcC xr xi xt xb xm c.lost xl xy),.c (.b A6)],h++t) ->
   ∃ cs' H',A3A [.a (rcC xr xi xt xb xm c.lost xl xy),v,.a (D7 D.length n m),iV dir,iV ino] h=A4 (.t [.a cs',.c (.b (jF D n c ino))],H')/\Grows h H'/\IsRC n (λid=>P id\/h.length<=id) H' cs' (dU D n c dir ino):=by
  intro hb t ht he;have e2:dU D n c dir ino=c:=by unfold dU;rw [hb];rfl
  rw [hb,e2];have G:Grows h (h++t):=U2 Grows.rfl' (by rw [ht];rfl);exact ⟨_,_,A2c he,G,_,_,_,_,_,_,_,_,rfl,(k.mono λ_=>.inl).grows G⟩
 by_cases c0:ino<2
 ·refine no ?_ _ rfl ?_
  ·unfold jF;by_cases e:ino=1
   ·simp [e]
   ·have:kdV D n ino=0:=by
     by_cases hz:kdV D n ino=0
     ·exact hz
     ·have:=(D5f hz).2;omega
    simp [this]
  ·rw [fJ];generalize rcC xr xi xt xb xm c.lost xl xy=C at *;generalize D7 D.length n m=L at *;simp only [esc,esh,Nat.reduceAdd,cl1,cl2,c0,cl8,z8l]
 by_cases c1:ino > n
 ·refine no ?_ _ rfl ?_
  ·unfold jF;have:kdV D n ino=0:=by
    by_cases hz:kdV D n ino=0
    ·exact hz
    ·have:=(D5f hz).2;omega
   simp [this]
  ·rw [fJ];generalize rcC xr xi xt xb xm c.lost xl xy=C at *;generalize D7 D.length n m=L at *;simp only [esc,esh,Nat.reduceAdd,cl1,cl2,c0,cl8,z8l,ll1,c1]
 obtain ⟨j,rfl⟩:=E6C (show 0<=ino by omega);have hI:=λt=>nE (n:=n) (m:=m) (i:=(j:Int)) (hv.more t) hD
 have hIn:=λt=>B2q (x:=(j:Int)) (k.row.more t) (by omega)
 have f0:C11 (.a (A2V D n (j:Int))) 0=A4 (iV (kdV D n (j:Int))):=by rw [A8l];rfl
 have E37:decide ((j:Int)∈c.row)=(c.par (j:Int)).isSome:=by
  rw [Bool.eq_iff_iff,decide_eq_true_eq];exact (hR.par _).symm
 rw [E37] at hIn;have n1:¬ (j:Int)=1:=by omega
 have eb:jF D n c (j:Int) = !(decide (kdV D n (j:Int)=0)||decide (kdV D n (j:Int)=2)&&(c.par (j:Int)).isSome):=by unfold jF;simp [n1]
 by_cases c2:kdV D n (j:Int)=0
 ·refine no (by rw [eb];simp [c2]) _ rfl ?_;rw [fJ];generalize A2V D n (j:Int)=I at *;generalize (c.par (j:Int)).isSome=sn at *;generalize rcC xr xi xt xb xm c.lost xl xy=C at *;generalize D7 D.length n m=L at *;rw [c2] at f0;simp only [esc,esh,Nat.reduceAdd,cl1,cl2,c0,cl8,z8l,ll1,c1,ll3,hI,f0,l0,hIn]
 by_cases c3:kdV D n (j:Int)=2/\(c.par (j:Int)).isSome=A5
 ·refine no (by rw [eb];simp [c3.1,c3.2]) _ rfl ?_;rw [c3.2] at hIn;rw [c3.1] at f0;have n20:¬ (2:Int)=0:=by decide
  rw [fJ];generalize A2V D n (j:Int)=I at *;generalize rcC xr xi xt xb xm c.lost xl xy=C at *;generalize D7 D.length n m=L at *;simp only [esc,esh,Nat.reduceAdd,cl1,cl2,c0,cl8,z8l,ll1,c1,ll3,hI,f0,l0,hIn,n20]
 have hb:jF D n c (j:Int)=A5:=by
  rw [eb];by_cases e:kdV D n (j:Int)=2
  ·have:(c.par (j:Int)).isSome=A6:=by
    cases hs:(c.par (j:Int)).isSome with
    | false=>rfl
    | true=>exact absurd ⟨e,hs⟩ c3
   rw [this];simp [c2]
  ·simp [c2,e]
 have hj:j<(n+1).toNat:=by omega
 have hlj:j<(fV n c.lnk).length:=by rw [S6];exact hj
 have hyj:j<(fV n c.par).length:=by rw [S6];exact hj
 obtain ⟨it,ot,et,_,hA,_⟩:=k.tol.sl (by omega);cases et;have a1:D9 1 (sV it ot (n+1).toNat 1) (iV (j:Int))=A4 (pV it (ot+j)):=by rw [C9 hj];simp
 have a2:∀ t,B8 (h++t) (pV it (ot+j))=A4 (iV ((c.lnk (j:Int)).getD 0)):=λt=>by
  obtain ⟨it',ot',et',_,hA',_⟩:=(k.tol.more t).sl (by omega);cases et';exact hA' j _ (by rw [I1,A6w hj];rfl)
 have hkj:=hk (j:Int);have wk:E5U .i64 ((c.lnk (j:Int)).getD 0+1)=(c.lnk (j:Int)).getD 0+1:=wrap_i64 (by omega) (by omega);obtain ⟨lk',elk⟩:∃ lk',lk'=xY c.lnk (j:Int) ((c.lnk (j:Int)).getD 0+1):=⟨_,rfl⟩;have eset:=C7q (n:=n) (F:=c.lnk) (i:=j) (v:=(c.lnk (j:Int)).getD 0+1);rw [<-elk] at eset;have S1:=λt=>D6F (at_:=j) (v:=(c.lnk (j:Int)).getD 0+1) (k.tol.more t) hlj (by rw [S6];omega)
 rw [eset] at S1;obtain ⟨C1,hC1⟩:∃ C1,C1=rcC xr xi xt xb xm c.lost (.sl (h.length+3) 0 (n+1).toNat 1) xy:=⟨_,rfl⟩;have sC1:st1 (rT (rcC xr xi xt xb xm c.lost (.sl it ot (n+1).toNat 1) xy)) 6 (.sl (h.length+3) 0 (n+1).toNat 1)=rT C1:=by rw [hC1];rfl
 have C18:C1.length=8:=by rw [hC1];rfl
 cases hsn:(c.par (j:Int)).isSome with
 | true =>
  rw [hsn] at hIn;have e2:dU D n c dir (j:Int)=B18 c (j:Int):=by unfold dU;rw [hb,hsn];rfl
  rw [hb,e2];have nk2:¬ kdV D n (j:Int)=2:=λe=>c3 ⟨e,hsn⟩
  obtain ⟨H',hH'⟩:∃ H',H'=h++[rT C1,rT (D7 D.length n m),rT C1,rT (encI (fV n lk'))]:=⟨_,rfl⟩;have G:Grows h H':=by rw [hH'];exact U2 Grows.rfl' rfl
  have k2:=(k.mono (Q:=λid=>P id\/h.length<=id) λ_=>.inl).grows G;refine ⟨C1,H',A2c (n:=0) ?_,G,xr,xi,xt,xb,xm,.sl (h.length+3) 0 (n+1).toNat 1,xy,ys,hC1,
   ⟨k2.row,k2.ino,k2.tak,k2.blk,k2.mad,k2.mds,?_,k2.par,k2.pr,k2.pi,k2.pt,k2.pb,k2.pm,λid hi=>by cases hi;exact .inr (by omega),k2.py⟩⟩
  ·rw [fJ,hH'];generalize A2V D n (j:Int)=I at *;generalize kdV D n (j:Int)=kd at *;generalize rcC xr xi xt xb xm c.lost (.sl it ot (n+1).toNat 1) xy=C at *;generalize D7 D.length n m=L at *;generalize encI (fV n lk')=E at *;simp only [esc,esh,Nat.reduceAdd,cl1,cl2,c0,cl8,z8l,ll1,c1,ll3,hI,f0,l0,hIn,c2,nk2,l6,a1,a2,wk,S1,sC1,C18,A0z]
  ·show Has H' (sV (h.length+3) 0 (n+1).toNat 1) 1 (n+1).toNat (encI (fV n (B18 c (j:Int)).lnk));have:(B18 c (j:Int)).lnk=lk':=by rw [elk];rfl
   rw [this];exact Has.row (rw:=A5) (by rw [hH',K9];rfl) (by rw [B7,S6];omega) (cG _)
 | false =>
  rw [hsn] at hIn;have e2:dU D n c dir (j:Int)=D5v (B18 c (j:Int)) dir (j:Int):=by unfold dU;rw [hb,hsn];rfl
  rw [hb,e2];obtain ⟨pa',epa⟩:∃ pa',pa'=xY c.par (j:Int) dir:=⟨_,rfl⟩;have eset2:=C7q (n:=n) (F:=c.par) (i:=j) (v:=dir);rw [<-epa] at eset2;have S2:=λt=>D6F (at_:=j) (v:=dir) (k.par.more t) hyj (by rw [S6];omega)
  rw [eset2] at S2;obtain ⟨C2,hC2⟩:∃ C2,C2=rcC xr xi xt xb xm c.lost (.sl (h.length+3) 0 (n+1).toNat 1) (.sl (h.length+4) 0 (n+1).toNat 1):=⟨_,rfl⟩;have l7:ld1 (rT C1) 7=A4 (.c xy):=by rw [hC1];simp only [ld1,rcC];rfl
  have sC2:st1 (rT C1) 7 (.sl (h.length+4) 0 (n+1).toNat 1)=rT C2:=by rw [hC1,hC2];rfl
  have l0':ld1 (rT C2) 0=A4 (.c xr):=by rw [hC2];simp only [ld1,rcC];rfl
  obtain ⟨T,hT⟩:∃ T:B5,T=[rT C2,rT (D7 D.length n m),rT [Cell.ns,.ns,.ns,.ns,.ns,o0,.ns,.ns],rT (encI (fV n lk')),rT (encI (fV n pa'))]:=⟨_,rfl⟩;have cp:=B58 (H:=h++T) (k.row.more T) (by omega) (by omega);have lT:(h++T).length=h.length+5:=by rw [hT];simp
  obtain ⟨K,hK⟩:∃ K,K=h++T++[A7,rT (encI c.row)]:=⟨_,rfl⟩;have lK:K.length=h.length+7:=by rw [hK,E5T,lT];rfl
  have rK:rd K (h.length+6)=rT (encI c.row):=by rw [hK,hT,E5Y,K9];rfl
  have op:=one_app (ys:=[Cell.i .i64 (j:Int)]) rK (n:=c.row.length) (sz:=1) (by rw [B7];omega) rfl (by omega) (by omega);have er:encI c.row++[Cell.i .i64 (j:Int)]=encI (c.row++[(j:Int)]):=by simp [encI]
  rw [lK,er] at op;rw [lT] at cp;obtain ⟨C3,hC3⟩:∃ C3,C3=rcC (.sl (h.length+8) 0 (c.row.length+1) 1) xi xt xb xm c.lost (.sl (h.length+3) 0 (n+1).toNat 1) (.sl (h.length+4) 0 (n+1).toNat 1):=⟨_,rfl⟩;have sC3:st1 (rT C2) 0 (.sl (h.length+8) 0 (c.row.length+1) 1)=rT C3:=by rw [hC2,hC3];rfl
  have C38:C3.length=8:=by rw [hC3];rfl
  have ef:E6 [] []=A4 []:=rfl;have ef1:E6 [o0] [(0,1,iV (j:Int))]=A4 [.i .i64 (j:Int)]:=rfl;obtain ⟨H',hH'⟩:∃ H',H'=h++[rT C3,rT (D7 D.length n m),rT C3,rT (encI (fV n lk')),rT (encI (fV n pa')),A7,A7,rT [Cell.i .i64 (j:Int)],rT (encI (c.row++[(j:Int)]))]:=⟨_,rfl⟩;have G:Grows h H':=by rw [hH'];exact U2 Grows.rfl' rfl
  have k2:=(k.mono (Q:=λid=>P id\/h.length<=id) λ_=>.inl).grows G;refine ⟨C3,H',A2c (n:=0) ?_,G,.sl (h.length+8) 0 (c.row.length+1) 1,xi,xt,xb,xm,.sl (h.length+3) 0 (n+1).toNat 1,.sl (h.length+4) 0 (n+1).toNat 1,ys,hC3,
   ⟨?_,k2.ino,k2.tak,k2.blk,k2.mad,k2.mds,?_,?_,λid hi=>by cases hi;exact .inr (by omega),k2.pi,k2.pt,k2.pb,k2.pm,λid hi=>by cases hi;exact .inr (by omega),λid hi=>by cases hi;exact .inr (by omega)⟩⟩
  ·rw [hK,hT] at op;rw [hT] at cp;rw [fJ,hH'];generalize A2V D n (j:Int)=I at *;generalize kdV D n (j:Int)=kd at *;generalize rcC xr xi xt xb xm c.lost (.sl it ot (n+1).toNat 1) xy=C at *;generalize D7 D.length n m=L at *;generalize encI (fV n lk')=E at *;generalize encI (fV n pa')=E2 at *;generalize encI (c.row++[(j:Int)])=R2 at *;generalize encI c.row=R1 at *;simp only [E5Y,E6q,E59] at cp;simp only [esc] at op;by_cases nk2:kd=2
   ·rw [nk2] at f0;have n20:¬ (2:Int)=0:=by decide
    simp only [esc,esh,Nat.reduceAdd,E6Q,cl1,cl2,c0,cl8,z8l,ll1,c1,ll3,hI,f0,l0,hIn,n20,l6,a1,a2,wk,S1,sC1,l7,S2,sC2,l0',ef,cp,ef1,op,sC3,C38,A0z]
   ·simp only [esc,esh,Nat.reduceAdd,E6Q,cl1,cl2,c0,cl8,z8l,ll1,c1,ll3,hI,f0,l0,hIn,c2,nk2,l6,a1,a2,wk,S1,sC1,l7,S2,sC2,l0',ef,cp,ef1,op,sC3,C38,A0z]
  ·show Has H' (sV (h.length+8) 0 (c.row.length+1) 1) 1 (c.row++[(j:Int)]).length (encI (c.row++[(j:Int)]));rw [E5T];exact Has.row (rw:=A5) (by rw [hH',K9];rfl) (by simp [B7]) (cG _)
  ·show Has H' (sV (h.length+3) 0 (n+1).toNat 1) 1 (n+1).toNat (encI (fV n (B18 c (j:Int)).lnk));have:(B18 c (j:Int)).lnk=lk':=by rw [elk];rfl
   rw [this];exact Has.row (rw:=A5) (by rw [hH',K9];rfl) (by rw [B7,S6];omega) (cG _)
  ·show Has H' (sV (h.length+4) 0 (n+1).toNat 1) 1 (n+1).toNat (encI (fV n (D5v (B18 c (j:Int)) dir (j:Int)).par));have:(D5v (B18 c (j:Int)) dir (j:Int)).par=pa':=by rw [epa];rfl
   rw [this];exact Has.row (rw:=A5) (by rw [hH',K9];rfl) (by rw [B7,S6];omega) (cG _)
end
section
variable {D:Dev} {h:B5} {v:Val}
def A1L {no:Int} (hv:Has h v 256 D.length (D5 D)) (hD:okD D) :
  ∃ u t,tH [v,iV no] h=A4 (.c u,h++t)/\t.all B8G=A5/\Has (h++t) (.c u) 1 256 (B4 (blk D no))/\u.isX=A6:=by
 by_cases hin:0<=no/\no<(D.length:Nat)
 ·obtain ⟨i,rfl⟩:=E6C hin.1;have hi:i<D.length:=by omega
  obtain ⟨u,e1,e2⟩:=C7Z hv hD hi;obtain ⟨id,off,eu,_⟩:=e2.sl (by omega);subst eu;refine ⟨.sl id off 256 1,[],by rw [E6m];exact e1,rfl,?_,rfl⟩;rw [E6m,B5Z hi];exact e2
 ·have eb:blk D no=zeros 256:=D3g (by omega);rw [eb];have hlen:=hv.ro.len;have mk:A2T (iV 256) (iV 256)=A4 256:=rfl;have rz:rows [Cell.i .u8 0] 256=B4 (zeros 256):=by
   unfold rows;rw [List.flatten_replicate_singleton,I9]
  have key:A04 0 [v,iV no] (ro h)=A4 (sV ((ro h).length+1) 0 256 1,ro h++[rT [],rT (B4 (zeros 256))]):=by
   rw [A8P];by_cases c0:no<0
   ·simp only [esc,c0,mk,rz]
   ·have c1:no>=(D.length:Nat):=by omega
    simp only [esc,c0,hlen,c1,mk,rz]
  have hS:=C0b key (sz:=1) (k:=256) (cs:=B4 (zeros 256)) ⟨by rw [A9,zeros_length],(ro h).length+1,rfl,by rw [F7];omega,by rw [K9];rfl⟩ (by simp);refine ⟨.sl h.length 0 256 1,[rT (B4 (zeros 256))],hS,rfl,?_,rfl⟩;exact Has.row (rw:=A5) (by rw [E9];rfl) (by rw [A9,zeros_length]) (G9 _)
def B5Y (D:Dev) (X:List Int) (nm:List UInt8):Int:=if R8 X nm=0 then 0 else D5y ((X8 (blk D (R8 X nm)) nm).map (·.1))
def D5B {d:Int} {t:List Int} {nm:List UInt8} (hv:Has h v 256 D.length (D5 D)) (hD:okD D) (ht:t.length=32) (h5:d<=5) (hs:nm.length<9223372036854775807) :
  C0c [v,.a (encI (d::t)),.c (.s nm)] h=A4 (.t [.c (.i .i64 (R8 (d::t) nm)),.c (.i .i64 (B5Y D (d::t) nm)),.c (.b (hmS D (d::t) nm).isSome)],h):=by
 have key:∀ g,Has g v 256 D.length (D5 D)->∃ g',B9w 0 [v,.a (encI (d::t)),.c (.s nm)] g=A4 (.t [.c (.i .i64 (R8 (d::t) nm)),.c (.i .i64 (B5Y D (d::t) nm)),.c (.b (hmS D (d::t) nm).isSome)],g'):=λg hv=>by
  obtain ⟨G,hG⟩:∃ G,G=g++[rT (encI (d::t))]:=⟨_,rfl⟩;have rG:rd G g.length=rT (encI (d::t)):=by rw [hG,E9];rfl
  have hvG:Has G v 256 D.length (D5 D):=by rw [hG];exact hv.more _
  have hM:=λh=>C2M (s:=nm) hs (h:=h)
  have hP:=λh=>D2l (x:=A0D nm) (b:=d) (h:=h) C4k
  rw [D7v h5] at hP;have V7:=D3M (d::t) nm;have eP:A0D nm%D1 d=A2z (d::t) nm:=rfl;rw [eP] at hP;have ad:I3 32 1 (pV g.length 1) (iV (A2z (d::t) nm:Nat))=A4 (pV g.length (1+A2z (d::t) nm)):=by rw [D8h (by omega) (by omega)];simp
  have l0:B8 G (pV g.length 0)=A4 (iV d):=B9 rG rfl rfl;have l1:B8 G (pV g.length (1+A2z (d::t) nm))=A4 (iV (R8 (d::t) nm)):=by
   refine B9 rG ?_ rfl;rw [I1,Nat.add_comm,E6F,E5P (by omega)];unfold R8;rw [List.tail_cons,E5Z,E5P (by omega)];rfl
  have cl:cells? (.a (encI (d::t)))=A4 (encI (d::t)):=rfl;rw [D1l];by_cases c0:R8 (d::t) nm=0
  ·have e1:B5Y D (d::t) nm=0:=by unfold B5Y;rw [if_pos c0]
   have e2:hmS D (d::t) nm=A7:=by unfold hmS;rw [if_pos c0]
   rw [e1,e2,c0];rw [c0] at l1;generalize encI (d::t)=X at *;generalize A2z (d::t) nm=P at *;exact ⟨G,by simp only [esc,cl,<-hG,hM,l0,hP,ad,l1];rfl⟩
  ·obtain ⟨u,tt,b1,b2,b3,b4⟩:=A1L (no:=R8 (d::t) nm) hvG hD;have hF:=C9C (nm:=nm) b3 (O9 hD);have e1:B5Y D (d::t) nm=D5y ((X8 (blk D (R8 (d::t) nm)) nm).map (·.1)):=by unfold B5Y;rw [if_neg c0]
   have e2:hmS D (d::t) nm=X8 (blk D (R8 (d::t) nm)) nm:=by unfold hmS;rw [if_neg c0]
   have e3:decide (D5y ((X8 (blk D (R8 (d::t) nm)) nm).map (·.1))>=0)=(X8 (blk D (R8 (d::t) nm)) nm).isSome:=by
    cases X8 (blk D (R8 (d::t) nm)) nm with
    | none=>rfl
    | some x =>
     show decide (((x.1:Nat):Int)>=0)=A5;exact decide_eq_true (by omega)
   rw [e1,e2];have e3':N4 .geq (iV (D5y ((X8 (blk D (R8 (d::t) nm)) nm).map (·.1)))) (iV 0)=A4 (bV (X8 (blk D (R8 (d::t) nm)) nm).isSome):=by rw [C59,e3]
   generalize D5y ((X8 (blk D (R8 (d::t) nm)) nm).map (·.1))=S at *;generalize (X8 (blk D (R8 (d::t) nm)) nm).isSome=I at *;generalize R8 (d::t) nm=B at *;generalize A2z (d::t) nm=P at *;generalize encI (d::t)=X at *;refine ⟨G++tt,?_⟩;simp only [M9,cl,E6m,<-hG,hM,B6q,B1a,E6e,l0,hP,ad,l1,tW,c0,decide_false,B73,b1,hF,e3'];rfl
 obtain ⟨g',e⟩:=key (ro h) hv.ro;exact C5G e rfl
def D8t {X:List Int} {no:Int} {kk:Nat} {s:List UInt8} {i:Int} (cU:no≠0) (hr:S7 (blk D no) kk=A4 (s,i)) :
  ((hmS D X s).isSome&&decide (R8 X s=no)&&decide (B5Y D X s=(kk:Int)))=atH D X (no,(kk,(s,i))):=by
 show _=(decide (R8 X s=no)&&decide (hmS D X s=A4 (kk,(s,i))));by_cases c:R8 X s=no
 ·have c0:¬ R8 X s=0:=by rw [c];exact cU
  unfold hmS B5Y;rw [if_neg c0,if_neg c0,c];cases hf:X8 (blk D no) s with
  | none=>simp
  | some x =>
   obtain ⟨h1,h2,h3⟩:=D47 hf;simp only [E6b,decide_true,E55,Option.map_some,E5W];show decide (((x.1:Nat):Int)=(kk:Int))=decide (x=(kk,(s,i)));by_cases e:x.1=kk
   ·rw [e] at h2;rw [hr] at h2;have:x=(kk,(s,i)):=by
     obtain ⟨a,b⟩:=x;simp only at e h2;simp only [E5W] at h2;rw [e,<-h2]
    rw [decide_eq_true this,decide_eq_true (by omega)]
   ·rw [decide_eq_false (by omega),decide_eq_false (λh=>e (by rw [h]))]
 ·simp [c]
def D4j {x:Val} {l:W8} {s:List UInt8} {nv q:Nat} (hx:Has h x 1 nv (encS l)) (hl:l.length<=100000):∀ (e i M:Nat),i+e=l.length->e<M ->
  C6S q M x (.c (.s s)) (iV (i:Int)) h=A4 (bV (decide (s∈l.drop i)),h)
 | e,i,0,_,hM=>by omega
 | 0,i,M+1,hi,_=>by
  have hn:nv=l.length:=by have:=hx.length;rw [N8] at this;omega
  subst hn;have hlen:=hx.len;have c0:¬ (i:Int)<(l.length:Nat):=by omega
  rw [B4b,E56 (by omega)];simp only [esc,hlen,c0];simp
 | e+1,i,M+1,hi,hM=>by
  have hn:nv=l.length:=by have:=hx.length;rw [N8] at this;omega
  subst hn;have P6:i<l.length:=by omega
  have hlen:=hx.len;have c0:(i:Int)<(l.length:Nat):=by omega
  have w1:=D3 (show i+1<9223372036854775808 by omega);obtain ⟨id,off,ex,_,hA,_⟩:=id hx |>.sl (by omega)
  have a1:D9 1 x (iV (i:Int))=A4 (pV id (off+i)):=by rw [ex,C9 P6];simp
  have a2:B8 h (pV id (off+i))=A4 (.c (.s l[i])):=hA i _ (by simp [encS,P6]);have ih:=D4j (q:=q) (s:=s) hx hl e (i+1) M (by omega) (by omega);rw [B4b,E5X P6];by_cases c1:l[i]=s
  ·simp only [esc,hlen,c0,a1,a2,C0A,c1];simp
  ·have:decide (s∈l[i]::l.drop (i+1))=decide (s∈l.drop (i+1)):=by
    have:s∈l[i]::l.drop (i+1)↔s∈l.drop (i+1):=by
     rw [List.mem_cons];exact ⟨λh=>h.resolve_left (λe=>c1 e.symm),.inr⟩
    simp only [this]
   rw [this];simp only [esc,hlen,c0,a1,a2,C0A,c1,w1];exact ih
def E3m {x:Val} {l:W8} {s:List UInt8} {nv:Nat} (hx:Has h x 1 nv (encS l)) (hl:l.length<=100000):C0d [x,.c (.s s)] h=A4 (bV (decide (s∈l)),h):=by
 have e:=D4j (q:=l.length+1) (s:=s) hx.ro hl l.length 0 (l.length+1) (by omega) (by omega);rw [E6a] at e;exact C5I (n:=l.length+1) (by rw [D1m];exact e) rfl
end
def D3s {D:Dev} {n:Int} {c:Cl}:B56 D n c 0=A6:=by
 unfold B56;have:jW D.length n 0=A6:=by
  cases h:jW (D.length:Int) n 0 with
  | false=>rfl
  | true =>
   obtain ⟨h1,h2,_⟩:=D3R.1 h;unfold mS uY A2M at h2;rw [h1] at h2;simp only [cond_true] at h2;obtain ⟨_,_,h8,_⟩:=J8.1 h1;omega
 rw [this];rfl
def D65 {D:Dev} {n:Int} {c:Cl}:eU D n c 0=c:=by unfold eU;rw [D3s];rfl
def D66 {D:Dev} {n:Int} {c:Cl}:U7 D n c 0=0:=by unfold U7;rw [D3s];rfl
def iP {D:Dev} {n:Int} {c:Cl} {no:Int}:(eU D n c no).taken.length=c.taken.length:=by
 unfold eU;cases B56 D n c no<;>simp
section
variable {D:Dev} {n m:Int} {P Q:Nat->Prop} {g H:B5} {c:Cl} {cs:List Cell} {v:Val}
abbrev Z8:List Cell:=[.ns,.ns,.ns,.ns,.ns,o0,.ns,.ns]
def D9h {x4:Nat} {no:Int} {c0:List Cell} (G:Grows g H) (hg:g.length<=x4) (k:IsRC n Q H cs c) (rx:rd H x4=rT c0) (hc0:c0.length=8) (hQ:∀ id,H.length<id->Q id) (hx:¬ Q x4) (ht:c.taken.length=D.length) (hl:D.length<=1000) :
  ∃ cs' K H1 H2,quiet (H++[A7]) (rD [.a cs,.a (D7 D.length n m),iV no] (H++[A7]))=A4 (.t [.a cs',.c (.i .i64 (U7 D n c no))],K) /\
   E5 (K.set H.length (rT Z8)) 8 (pV H.length 0) (.a cs')=A4 H1/\D4 H1 8 (pV H.length 0)=A4 (.a cs')/\E5 H1 8 (pV x4 0) (.a cs')=A4 H2 /\
   Grows g H2/\IsRC n Q H2 cs' (eU D n c no)/\rd H2 x4=rT cs'/\H.length<=H2.length/\(∀ j,j<H.length->j≠x4->rd H2 j=rd H j):=by
 have hxl:=C8 rx;obtain ⟨cs',K,e1,e2,e3⟩:=D4m (m:=m) (no:=no) (k.grows (h':=H++[A7]) (U2 Grows.rfl' rfl)) ht hl;have e3:IsRC n Q K cs' (eU D n c no):=e3.mono λid h=>by
  rcases h with h | h
  ·exact h
  ·exact hQ id (by simp at h;omega)
 have hc8:=e3.length;have hKl:H.length+1<=K.length:=by have:=e2.len;simpa using this
 have rn:rd K H.length=A7:=by
  obtain ⟨t,rfl⟩:=e2.1;rw [E5Y];unfold rd;rw [E57 (E5V _),E6D];rfl
 have low:∀ j,j<H.length->rd K j=rd H j:=λj hj=>by
  obtain ⟨t,rfl⟩:=e2.1;rw [E5Y,E1 hj]
 have GK:Grows g K:=G.trans' ((U2 (t:=[A7]) Grows.rfl' rfl).trans' e2);obtain ⟨K1,hK1⟩:∃ K1,K1=K.set H.length (rT Z8):=⟨_,rfl⟩;obtain ⟨H1,hH1⟩:∃ H1,H1=K1.set H.length (rT cs'):=⟨_,rfl⟩;obtain ⟨H2,hH2⟩:∃ H2,H2=H1.set x4 (rT cs'):=⟨_,rfl⟩;have hgH:=G.len;have rz:rd K1 H.length=rT Z8:=by rw [hK1];exact C6 (by omega)
 have r1:rd H1 H.length=rT cs':=by rw [hH1];exact C6 (by rw [hK1];simp;omega)
 have rx1:rd H1 x4=rT c0:=by rw [hH1,B6 (by omega),hK1,B6 (by omega),low x4 hxl];exact rx
 have eq1:H1=K.set H.length (rT cs'):=by rw [hH1,hK1];simp
 refine ⟨cs',K,H1,H2,by rw [e1];exact U9 e2,?_,C7 r1 hc8,?_,?_,?_,?_,?_,?_⟩
 ·rw [<-hK1,storeAll (n:=8) rz rfl hc8,hH1]
 ·rw [storeAll rx1 hc0 hc8,hH2]
 ·rw [hH2,eq1];exact (GK.set (by omega) _).set hg _
 ·rw [hH2,eq1];exact (e3.set (.inl rn)).set (.inr hx)
 ·rw [hH2];exact C6 (by rw [eq1];simp;omega)
 ·rw [hH2,eq1];simp;omega
 ·intro j hj T1;rw [hH2,B6 (Ne.symm T1),eq1,B6 (by omega)];exact low j hj
def D9i {x4:Nat} {no:Int} {c0:List Cell} (G:Grows g H) (hg:g.length<=x4) (k:IsRC n Q H cs c) (rx:rd H x4=rT c0) (hc0:c0.length=8) (hQ:∀ id,H.length<=id->Q id) (hx:¬ Q x4) (ht:c.taken.length=D.length) (hl:D.length<=1000) :
  ∃ cs' K H1 H2,rD [.a cs,.a (D7 D.length n m),iV no] H=A4 (.t [.a cs',.c (.i .i64 (U7 D n c no))],K) /\
   E5 (K++[rT Z8]) 8 (pV K.length 0) (.a cs')=A4 H1/\D4 H1 8 (pV K.length 0)=A4 (.a cs')/\E5 H1 8 (pV x4 0) (.a cs')=A4 H2 /\
   Grows g H2/\IsRC n Q H2 cs' (eU D n c no)/\rd H2 x4=rT cs'/\H.length<=H2.length/\(∀ j,j<H.length->j≠x4->rd H2 j=rd H j):=by
 have hxl:=C8 rx;obtain ⟨cs',K,e1,e2,e3⟩:=D4m (m:=m) (no:=no) k ht hl;have e3:IsRC n Q K cs' (eU D n c no):=e3.mono λid h=>by
  rcases h with h | h
  ·exact h
  ·exact hQ id h
 have hc8:=e3.length;have hKl:=e2.len;have low:∀ j,j<H.length->rd K j=rd H j:=λj hj=>by
  obtain ⟨t,rfl⟩:=e2.1;rw [E1 hj]
 have GK:Grows g K:=G.trans' e2;obtain ⟨H1,hH1⟩:∃ H1,H1=K++[rT cs']:=⟨_,rfl⟩;obtain ⟨H2,hH2⟩:∃ H2,H2=H1.set x4 (rT cs'):=⟨_,rfl⟩;have rx1:rd H1 x4=rT c0:=by rw [hH1,E1 (by omega),low x4 hxl];exact rx
 refine ⟨cs',K,H1,H2,e1,?_,C7 (by rw [hH1,E9];rfl) hc8,?_,?_,?_,?_,?_,?_⟩
 ·rw [storeAll (n:=8) (cs:=Z8) (by rw [E9];rfl) rfl hc8,S3,hH1];rfl
 ·rw [storeAll rx1 hc0 hc8,hH2]
 ·rw [hH2,hH1];exact (GK.new _).set hg _
 ·rw [hH2,hH1];exact (e3.grows ((Grows.rfl').new _)).set (.inr hx)
 ·rw [hH2];exact C6 (by rw [hH1];simp;omega)
 ·rw [hH2,hH1];simp;omega
 ·intro j hj T1;rw [hH2,B6 (Ne.symm T1),hH1,E1 (by omega)];exact low j hj
def gB {h:B5} {x:List Int} {id:Nat} (hr:rd h id=rT (encI x)) {k:Nat} (hk:k<x.length):B8 h (pV id k)=A4 (iV (x.getD k 0)) :=
 B9 hr (by rw [I1,E5Z,E5P hk];rfl) rfl
def A5S:[Cell.ns,.ns,.ns,.ns,.ns,o0,.ns,.ns]=Z8:=rfl
def D9R {was:List Int} {x3:Val} {x4 x6 x8 x9 x10 q:Nat} {many:Int} {pre:List Int} (hw:was.length=11) (hpre:pre.length=4) (hg:g.length<=x4/\g.length<=x10) (hx4:¬ Q x4) (E5i:¬ Q x10) (hl:D.length<=1000)
  (n1:x4≠x10) (n2:x4≠x6) (n3:x4≠x9) (n4:x10≠x6) (n5:x10≠x9) (n6:x4≠x8) (n7:x10≠x8) {r8:List Cell} (hm:many<=134) :
  ∀ (e k M:Nat) (c:Cl) (cs:List Cell) (dd:List Int) (H:B5),(k:Int)+e=min many 6->e<M->dd.length=7->Grows g H->(∀ id,H.length<=id->Q id)->IsRC n Q H cs c->c.taken.length=D.length->rd H x4=rT cs->rd H x6=rT (D7 D.length n m)->rd H x8=rT r8->rd H x9=rT (encI was)->rd H x10=rT (encI (pre++dd)) ->
  ∃ cs' H' M',A1l q M v x3 (pV x4 0) (pV x6 0) (pV x8 0) (pV x9 0) (pV x10 0) (iV many) (iV (k:Int)) H =
    A1l q (M'+1) v x3 (pV x4 0) (pV x6 0) (pV x8 0) (pV x9 0) (pV x10 0) (iV many) (iV (min many 6)) H' /\
   Grows g H'/\(∀ id,H'.length<=id->Q id)/\IsRC n Q H' cs' (A77 D n (was.drop 4) e k (c,dd)).1/\rd H' x4=rT cs'/\rd H' x6=rT (D7 D.length n m)/\rd H' x8=rT r8/\rd H' x9=rT (encI was)/\rd H' x10=rT (encI (pre++(A77 D n (was.drop 4) e k (c,dd)).2))/\(A77 D n (was.drop 4) e k (c,dd)).1.taken.length=D.length/\H.length<=H'.length:=by
 intro e
 induction e with
 | zero =>
  intro k M c cs dd H hi hM hd G hQ K ht r4 r6 rr8 r9 r10;obtain ⟨M,rfl⟩:∃ M',M=M'+1:=⟨M-1,by omega⟩;have ei:(k:Int)=min many 6:=by omega
  rw [<-ei];exact ⟨cs,H,M,rfl,G,hQ,K,r4,r6,rr8,r9,r10,ht,E5V _⟩
 | succ e ih =>
  intro k M c cs dd H hi hM hd G hQ K ht r4 r6 rr8 r9 r10;obtain ⟨M,rfl⟩:∃ M',M=M'+1:=⟨M-1,by omega⟩;have k6:(k:Int)<6:=by omega
  have km:(k:Int)<many:=by omega
  have w1:=D3 (show k+1<9223372036854775808 by omega);have l4:D4 H 8 (pV x4 0)=A4 (.a cs):=C7 r4 K.length;have l6:D4 H 3 (pV x6 0)=A4 (.a (D7 D.length n m)):=C7 r6 rfl;have ad:∀ x,I3 6 1 (pV x 4) (iV (k:Int))=A4 (pV x (4+k)):=λx=>by rw [J5 (by omega)];simp
  have lw:B8 H (pV x9 (4+k))=A4 (iV ((was.drop 4).getD k 0)):=by
   rw [gB r9 (by omega)];rw [E5Z,E5Z,E6J]
  obtain ⟨cs',K1,H1,H2,a1,a2,a3,a4,a5,a6,a7,a8,a9⟩:=D9h (m:=m) (no:=(was.drop 4).getD k 0) G hg.1 K r4 K.length (λid h=>hQ id (by omega)) hx4 ht hl;have E40:=C8 r10;have l10:(encI (pre++dd)).length=11:=by rw [B7,E5T,hpre,hd]
  have q10:rd H2 x10=rT (encI (pre++dd)):=by rw [a9 _ E40 (Ne.symm n1)];exact r10
  have es:(encI (pre++dd)).set (4+k) (.i .i64 (U7 D n c ((was.drop 4).getD k 0)))=encI (pre++dd.set k (U7 D n c ((was.drop 4).getD k 0))):=by
   rw [X5,E6u _ _ (by omega),hpre,Nat.add_sub_cancel_left]
  obtain ⟨H3,hH3⟩:∃ H3,H3=H2.set x10 (rT (encI (pre++dd.set k (U7 D n c ((was.drop 4).getD k 0))))):=⟨_,rfl⟩;have s10:I5 H2 (pV x10 (4+k)) (iV (U7 D n c ((was.drop 4).getD k 0)))=A4 H3:=by rw [G8 q10 (by omega),es,hH3]
  have o3:∀ j,j≠x10->rd H3 j=rd H2 j:=λj hj=>by rw [hH3,B6 (Ne.symm hj)]
  have lH3:H3.length=H2.length:=by rw [hH3];simp
  have ed:A77 D n (was.drop 4) (e+1) k (c,dd)=A77 D n (was.drop 4) e (k+1) (eU D n c ((was.drop 4).getD k 0),dd.set k (U7 D n c ((was.drop 4).getD k 0))):=rfl;rw [ed];obtain ⟨cs2,H',M',f1,f2,f3,f4,f5,f6,f7,f8,f9,f10,f11⟩:=ih (k+1) M _ cs' (dd.set k (U7 D n c ((was.drop 4).getD k 0))) H3 (by omega) (by omega) (by simpa using hd) (by rw [hH3];exact a5.set hg.2 _) (λid h=>hQ id (by omega)) (by rw [hH3];exact a6.set (.inr E5i)) (by rw [iP];exact ht) (by rw [o3 _ n1];exact a7) (by rw [o3 _ (Ne.symm n4),a9 _ (C8 r6) (Ne.symm n2)];exact r6) (by rw [o3 _ (Ne.symm n7),a9 _ (C8 rr8) (Ne.symm n6)];exact rr8) (by rw [o3 _ (Ne.symm n5),a9 _ (C8 r9) (Ne.symm n3)];exact r9) (by rw [hH3];exact C6 (C8 q10));refine ⟨cs2,H',M',?_,f2,f3,f4,f5,f6,f7,f8,f9,f10,by omega⟩;rw [A86,A5S];simp only [esc,k6,km,l4,l6,ad,lw,a1,a2,a3,a4,s10,w1];exact f1
end
def B8i {b b':List UInt8} {k:Nat} {x:Int} (hk:k<128) (h1:ptP b' k=x) (h2:∀ i,i<128->i≠k->ptP b' i=ptP b i):(bM b 128).set k x=bM b' 128:=by
 rw [B2Y,B2Y];refine List.ext_getElem? λi=>?_
 rw [List.getElem?_set];by_cases hi:i<128
 ·by_cases e:k=i
  ·subst e;rw [if_pos rfl,if_pos (by simp;exact hi)];simp [hi,h1]
  ·rw [if_neg e];simp [hi,h2 i hi (Ne.symm e)]
 ·rw [E6x (by simp;omega),E6x (by simp;omega)];split
  ·rename_i e;subst e;exact absurd hk hi
  ·rfl
def D7h {b:List UInt8} {k:Nat} (hk:k<128):(bM b 128)[k]?=A4 (ptP b k):=by rw [B2Y];simp [hk]
section
variable {D:Dev} {n m:Int} {P Q:Nat->Prop} {g H h:B5} {c:Cl} {cs:List Cell} {v:Val}
def B1Q {many:Int}:∀ {e k:Nat} {s:Cl × List UInt8},(cP D n many e k s).1.taken.length=s.1.taken.length
 | 0,_,_=>rfl
 | e+1,k,s=>by
  rw [cP,B1Q];unfold jA;split
  ·rfl
  ·dsimp only;split
   ·exact iP
   ·rfl
def D9S {x4 x6 x8 x10 nid q:Nat} {many:Int} {ii:List Int} (hii:ii.length=11) (hg:g.length<=x4/\g.length<=nid) (hx4:¬ Q x4) (E35:¬ Q nid) (hl:D.length<=1000) (hm:many<=134)
  (n1:x4≠nid) (n2:x4≠x6) (n3:x4≠x8) (n4:x4≠x10) (n5:nid≠x6) (n6:nid≠x8) (n7:nid≠x10) {r8:List Cell} :
  ∀ (e k M:Nat) (s:Cl × List UInt8) (cs:List Cell) (H:B5),k+e=128->e<M->s.2.length=256->Grows g H->(∀ id,H.length<=id->Q id)->IsRC n Q H cs s.1->s.1.taken.length=D.length->rd H x4=rT cs->rd H x6=rT (D7 D.length n m)->rd H x8=rT r8->rd H x10=rT (encI ii)->rd H nid=rT (encI (bM s.2 128)) ->
  ∃ cs' H' M',A8c q M (pV x4 0) (pV x6 0) (pV x8 0) (pV x10 0) (iV many) (sV nid 0 128 1) (iV (k:Int)) H =
    A8c q (M'+1) (pV x4 0) (pV x6 0) (pV x8 0) (pV x10 0) (iV many) (sV nid 0 128 1) (iV 128) H' /\
   Grows g H'/\(∀ id,H'.length<=id->Q id)/\IsRC n Q H' cs' (cP D n many e k s).1/\rd H' x4=rT cs'/\rd H' x8=rT r8/\rd H' x10=rT (encI ii)/\rd H' nid=rT (encI (bM (cP D n many e k s).2 128)):=by
 intro e
 induction e with
 | zero =>
  intro k M s cs H hi hM hs G hQ K ht r4 r6 rr8 r10 rn;obtain ⟨M,rfl⟩:∃ M',M=M'+1:=⟨M-1,by omega⟩;have ei:k=128:=by omega
  subst ei;exact ⟨cs,H,M,rfl,G,hQ,K,r4,rr8,r10,rn⟩
 | succ e ih =>
  intro k M s cs H hi hM hs G hQ K ht r4 r6 rr8 r10 rn;obtain ⟨M,rfl⟩:∃ M',M=M'+1:=⟨M-1,by omega⟩;have hk:k<128:=by omega
  have c0:(k:Int)<128:=by omega
  have w1:=D3 (show k+1<9223372036854775808 by omega);have w6:E5U .i64 ((k:Int)+6)=(k:Int)+6:=wrap_i64 (by omega) (by omega);have l4:D4 H 8 (pV x4 0)=A4 (.a cs):=C7 r4 K.length;have l6:D4 H 3 (pV x6 0)=A4 (.a (D7 D.length n m)):=C7 r6 rfl;have ad:D9 1 (sV nid 0 128 1) (iV (k:Int))=A4 (pV nid k):=by rw [C9 hk];simp
  have ln:B8 H (pV nid k)=A4 (iV (ptP s.2 k)):=B9 rn (by rw [I1,D7h hk];rfl) rfl;have nl:(encI (bM s.2 128)).length=128:=by rw [B7,uJ]
  have er:cP D n many (e+1) k s=cP D n many e (k+1) (jA D n many s k):=rfl;rw [er];have oL:=C0S (D:=D) (n:=n) (many:=many) hs hk;have hft:(jA D n many s k).1.taken.length=D.length:=by
   have:=B1Q (D:=D) (n:=n) (many:=many) (e:=1) (k:=k) (s:=s);rw [<-ht];exact this
  have setE:∀ x,x=(if (k:Int)+6<many then U7 D n s.1 (ptP s.2 k) else 0)->(bM s.2 128).set k x=bM (jA D n many s k).2 128:=by
   intro x hx;subst hx;unfold jA;by_cases hz:ptP s.2 k=0
   ·rw [if_pos hz];refine B8i hk ?_ λ_ _ _=>rfl
    rw [hz,D66];split<;>rfl
   ·rw [if_neg hz];dsimp only;by_cases h6:(k:Int)+6<many
    ·simp only [h6,if_true,decide_true,E55];by_cases hc:U7 D n s.1 (ptP s.2 k)=0
     ·rw [hc];simp only [decide_true,E6V,cond_false];refine B8i hk ?_ λi hi T1=>?_
      ·rw [C4l hs hk hk];simp
      ·rw [C4l hs hk hi,if_neg T1]
     ·simp only [hc,decide_false,E6Q,cond_true];have:U7 D n s.1 (ptP s.2 k)=ptP s.2 k:=by
       unfold U7 at hc ⊢;cases hB:B56 D n s.1 (ptP s.2 k) with
       | true=>rfl
       | false=>rw [hB] at hc;exact absurd rfl hc
      rw [this];exact B8i hk rfl λ_ _ _=>rfl
    ·simp only [h6,if_false,decide_false,E51,cond_false];refine B8i hk ?_ λi hi T1=>?_
     ·rw [C4l hs hk hk];simp
     ·rw [C4l hs hk hi,if_neg T1]
  have clmE:(if (k:Int)+6<many then eU D n s.1 (ptP s.2 k) else s.1)=(jA D n many s k).1:=by
   unfold jA;by_cases hz:ptP s.2 k=0
   ·rw [if_pos hz,hz,D65];split<;>rfl
   ·rw [if_neg hz]
  by_cases h6:(k:Int)+6<many
  ·rw [if_pos h6] at clmE setE;obtain ⟨cs',K1,H1,H2,a1,a2,a3,a4,a5,a6,a7,a8,a9⟩:=D9h (m:=m) (no:=ptP s.2 k) G hg.1 K r4 K.length (λid h=>hQ id (by omega)) hx4 ht hl;rw [clmE] at a6;have q1:rd H2 nid=rT (encI (bM s.2 128)):=by rw [a9 _ (C8 rn) (Ne.symm n1)];exact rn
   have sn:I5 H2 (pV nid k) (iV (U7 D n s.1 (ptP s.2 k)))=A4 (H2.set nid (rT (encI (bM (jA D n many s k).2 128)))):=by
    rw [G8 q1 (by omega),X5,setE _ rfl]
   obtain ⟨H3,hH3⟩:∃ H3,H3=H2.set nid (rT (encI (bM (jA D n many s k).2 128))):=⟨_,rfl⟩;rw [<-hH3] at sn;have o3:∀ j,j≠nid->rd H3 j=rd H2 j:=λj hj=>by rw [hH3,B6 (Ne.symm hj)]
   have lH3:H3.length=H2.length:=by rw [hH3];simp
   obtain ⟨cs2,H',M',f1,f2⟩:=ih (k+1) M (jA D n many s k) cs' H3 (by omega) (by omega) oL (by rw [hH3];exact a5.set hg.2 _) (λid h=>hQ id (by omega)) (by rw [hH3];exact a6.set (.inr E35)) hft (by rw [o3 _ n1];exact a7) (by rw [o3 _ (Ne.symm n5),a9 _ (C8 r6) (Ne.symm n2)];exact r6) (by rw [o3 _ (Ne.symm n6),a9 _ (C8 rr8) (Ne.symm n3)];exact rr8) (by rw [o3 _ (Ne.symm n7),a9 _ (C8 r10) (Ne.symm n4)];exact r10) (by rw [hH3];exact C6 (C8 q1));refine ⟨cs2,H',M',?_,f2⟩;rw [A0y,A5S];simp only [esc,c0,w6,h6,l4,l6,ad,ln,a1,a2,a3,a4,A85,sn,w1];exact f1
  ·rw [if_neg h6] at clmE setE;have sn:I5 H (pV nid k) (iV 0)=A4 (H.set nid (rT (encI (bM (jA D n many s k).2 128)))):=by
    rw [G8 rn (by omega),X5,setE _ rfl]
   obtain ⟨H3,hH3⟩:∃ H3,H3=H.set nid (rT (encI (bM (jA D n many s k).2 128))):=⟨_,rfl⟩;rw [<-hH3] at sn;have o3:∀ j,j≠nid->rd H3 j=rd H j:=λj hj=>by rw [hH3,B6 (Ne.symm hj)]
   have lH3:H3.length=H.length:=by rw [hH3];simp
   obtain ⟨cs2,H',M',f1,f2⟩:=ih (k+1) M (jA D n many s k) cs H3 (by omega) (by omega) oL (by rw [hH3];exact G.set hg.2 _) (λid h=>hQ id (by omega)) (by rw [hH3,<-clmE];exact K.set (.inr E35)) hft (by rw [o3 _ n1];exact r4) (by rw [o3 _ (Ne.symm n5)];exact r6) (by rw [o3 _ (Ne.symm n6)];exact rr8) (by rw [o3 _ (Ne.symm n7)];exact r10) (by rw [hH3];exact C6 (C8 rn));refine ⟨cs2,H',M',?_,f2⟩;rw [A0y,A5S];simp only [esc,c0,w6,h6,ad,A85,sn,w1];exact f1
def D0Y {x4 x10 ino:Nat} {ii:List Int} (G:Grows g H) (hg:g.length<=x4) (K:IsRC n Q H cs c) (r4:rd H x4=rT cs) (hQ:∀ id,H.length<=id->Q id) (hx4:¬ Q x4) (r10:rd H x10=rT (encI ii)) (hii:ii.length=11) (hin:ino<c.ino.length) (P6:∀ x∈c.ino,x.length=11) (hc:c.ino.length<=1000) (nx:x10≠x4) :
  ∃ v49 p50 H1 cs' H2,B8 (H++[rT []]) (pV x4 1)=A4 v49/\kV (H++[rT []]) 11 (sV H.length 0 0 11) v49=A4 (sV (H.length+1) 0 c.ino.length 11,p50)/\D4 p50 11 (pV x10 0)=A4 (.a (encI ii)) /\
   D9 11 (sV (H.length+1) 0 c.ino.length 11) (iV (ino:Int))=A4 (pV (H.length+1) (ino*11))/\E5 p50 11 (pV (H.length+1) (ino*11)) (.a (encI ii))=A4 H1/\I5 H1 (pV x4 1) (sV (H.length+1) 0 c.ino.length 11)=A4 H2 /\
   Grows g H2/\IsRC n Q H2 cs' { c with ino:=c.ino.set ino ii }/\rd H2 x4=rT cs'/\H2.length=H.length+2/\(∀ j,j<H.length->j≠x4->rd H2 j=rd H j):=by
 obtain ⟨xr,xi,xt,xb,xm,xl,xy,ys,rfl,k⟩:=K;have hxl:=C8 r4;have h10:=C8 r10;have cp:=B58 (H:=H) k.ino (by omega) (by omega);obtain ⟨p50,hp⟩:∃ p50,p50=H++[A7,rT (U8 c.ino)]:=⟨_,rfl⟩;rw [<-hp] at cp;have lp:p50.length=H.length+2:=by rw [hp];simp
 have rn:rd p50 (H.length+1)=rT (U8 c.ino):=by rw [hp,K9];rfl
 have Gp:Grows g p50:=by rw [hp];exact U2 G rfl
 have old:∀ j,j<H.length->rd p50 j=rd H j:=λj hj=>by rw [hp,E1 hj]
 obtain ⟨H1,hH1⟩:∃ H1,H1=p50.set (H.length+1) (rT (U8 (c.ino.set ino ii))):=⟨_,rfl⟩;have st:E5 p50 11 (pV (H.length+1) (ino*11)) (.a (encI ii))=A4 H1:=by
  rw [B3b rn (by rw [B7,hii]) (by rw [R6 P6];omega),C7n P6 hii hin,hH1]
 obtain ⟨C',hC'⟩:∃ C',C'=rcC xr (.sl (H.length+1) 0 c.ino.length 11) xt xb xm c.lost xl xy:=⟨_,rfl⟩;obtain ⟨H2,hH2⟩:∃ H2,H2=H1.set x4 (rT C'):=⟨_,rfl⟩;have q4:rd H1 x4=rT (rcC xr xi xt xb xm c.lost xl xy):=by rw [hH1,B6 (by omega),old _ hxl];exact r4
 have s4:I5 H1 (pV x4 1) (sV (H.length+1) 0 c.ino.length 11)=A4 H2:=by rw [G8 q4 (by simp [rcC]),hH2,hC'];rfl
 have hgl:=G.len;have G2:Grows g H2:=by rw [hH2,hH1];exact (Gp.set (by omega) _).set hg _
 have k2:RCF n (λid=>Q id/\id<H.length) H2 c xr xi xt xb xm xl xy ys:=by
  rw [hH2,hH1];refine RCF.set (.inr λh=>hx4 h.1) (RCF.set (.inr λh=>by omega) (RCF.grows ?_ k.low));rw [hp];exact U2 Grows.rfl' rfl
 have k3:=k2.mono (Q:=Q) λid h=>h.1
 refine ⟨.c xi,p50,H1,C',H2,B9 (C5 r4) rfl rfl,cp,C7 (by rw [old _ h10];exact r10) (by rw [B7,hii]),by rw [C9 hin];simp,st,s4,G2,?_,by rw [hH2];exact C6 (by rw [hH1];simp;omega),by rw [hH2,hH1];simp [lp],λj hj T1=>by rw [hH2,B6 (Ne.symm T1),hH1,B6 (by omega),old _ hj]⟩;refine ⟨xr,.sl (H.length+1) 0 c.ino.length 11,xt,xb,xm,xl,xy,ys,hC',⟨k3.row,?_,k3.tak,k3.blk,k3.mad,k3.mds,k3.tol,k3.par,k3.pr,λid hi=>by cases hi;exact hQ _ (by omega),k3.pt,k3.pb,k3.pm,k3.pl,k3.py⟩⟩;have E4Y:∀ x∈c.ino.set ino ii,x.length=11:=λx hx=>by
  rcases E6A hx with h1 | h1
  ·exact P6 x h1
  ·rw [h1];exact hii
 show Has H2 (sV (H.length+1) 0 c.ino.length 11) 11 (c.ino.set ino ii).length (U8 (c.ino.set ino ii));rw [E6o];refine Has.row (rw:=A5) ?_ (by rw [R6 E4Y,E6o]) (B25 _);rw [hH2,B6 (by omega),hH1];exact C6 (by omega)
end
def C6J {D:Dev} (h:A2U D=A5):R7 D.length (A76 D)=A5:=by
 unfold A2U at h;rw [E5S] at h;have h1:=h.1;unfold okS at h1;rw [E5S,of_decide_eq_true h.2] at h1;exact h1.1
section
variable (n m m2:Nat) (a0 a1 a2 x0 x2 x4 x5 x6 x7 x8 x9 x10 x20 x21 x22 x42 x65 x66 x67:Val) (h:B5)
def gL:FD A8:=⟨px 0X11158f206f5803750000000051b24ff2e054a04f4921804ef6001a489390489012814893e048814102283b6e488186e16e1718240381048818044881d5c1714e4883b1c5019189433af18f488638f701c181b04881861a4881d4163e4818215011a07024513401215f42006050110290622301133c4183a4291c60195d5b591283002348964811d196001e20128f14892482e1375000011b22410322a1e023f01822131df11cf2462e41b11828061c2c1bf190010371a0181b19182114892482042,[],[.eqA A5 (E5R 256 (.i .u8)) (.t 27) (.t 31)],[.tmp 2,.tmp 3],[iJ wS B9j,E3 A7x B4G,E3 bD sQ]⟩
def A3t:=gL.R
def B8D:AtH:=gL.lj 0 n [m] [x0,x6,x20,x21,x22]
def D17:AtH:=gL.lj 1 n [m] [x0,x6,x20,x21,x22]
def B08:=tT [⟨2,5,B8D⟩,⟨2,5,D17⟩]
def B0n:=mR A3t gL B08 n [a0] h
def A0C:=mL gL B08 0 n [m] [x0,x6,x20,x21,x22] h
def A9j:=mJ gL B08 1 n [m] [x0,x6,x20,x21,x22] h
def A9U:=gL.K Tryz.func24
def zO:=gL.S
def A5O:E1V A3t zO:=A9U.out2
def K0:FD A8:=⟨px 0X7ef5a0558022180422a5051a3d50020450503d71181824301a191021cb1a01cb1e07f171cb6a1ac1cb70110320406f172d19a5d01a1dd3525cf180412294215031a070244133d01211af420260515a011ad4259f2764ff076239118b39065a01035f1b1801034f1b1862197c7e11101b30422a4051a3d50020440503d71181824301c19063691a0691e35c691f0691e35a691f01190220404851a7d423111a0422a3051a3d50020430503d7118182406320411c50411a192b53b42001a63a642e21b1901c2,[],[],[],[E3 dC pR]⟩
def A0I:=K0.R
def A0g:AtH:=K0.lj 0 n [] [x0,x4,x5]
def A0h:AtH:=K0.lj 1 n [] [x0,x4,x5]
def A0i:AtH:=K0.lj 2 n [m] [x0,x6,x7,x42]
def B2b:AtH:=K0.lj 3 n [m] [x0,x6,x7,x42]
def aW:=tT [⟨1,3,A0g⟩,⟨1,3,A0h⟩,⟨2,4,A0i⟩,⟨2,4,B2b⟩]
def sZ:=mR A0I K0 aW n [a0,a1,a2] h
def fY:=mJ K0 aW 0 n [] [x0,x4,x5] h
def A6x:=mJ K0 aW 1 n [] [x0,x4,x5] h
def aJ:=mL K0 aW 2 n [m] [x0,x6,x7,x42] h
def fZ:=mJ K0 aW 3 n [m] [x0,x6,x7,x42] h
def A0F:=K0.K Tryz.func61
def pC:=K0.Q
def tM:OfT A0I pC:=A0F.of
def U1:FD A8:=⟨px 0X113022f1862e8181c91c371111113721c8f18b057a022180022a62dc550020462ce1bc2b518241bbf1ac030181904262df2f2ba2df76f42df3c0103f2a81ad0182d9633072022a72ac5500204729e1a82b5182419ff1980301a1902ad4d04262ad2f2882ad76f42ad3c011f81990182a9425518ff118df1c00461a11d4153b3918245031a37024613401212994202635110290421e81882b428f28d28b18282221113359f1a050027c5803180022a21dc550020421ce7c2b518247bf78003803b3b1bc1b791c41e9556201c1bc353101b18041b1d1ac10411ac519c1b691c60192468f5d00424319a119c65e1c41bb42255cf21b63b1b1b0423318a16f45a1c57842155111a070240181920410507c56a4b0519f4203006055112d42034af21863a191b01161023a3b0456850296c3e072b1523df2663e181b01235c43c1c429423bf13af2462e61b11828063a2c39f2f001137380181d191192012ef300581864a103a3b4711101722410323c2b025901823132af129f401182806292c28f1e0010371f071b19182113a21b250182,[],[.eqA A5 ([.i .i64,.i .i64,.i .i64,.i .i64,.i .i64,.i .i64,.i .i64,.i .i64,.i .i64,.i .i64,.i .i64]) (.t 57) (.t 58)],[.cellN 2 8,.tmp 3],[E3 zO A9U,iJ wS B9j,E3 A7x B4G,E3 T4 aC,E3 A7w B6G,iJ pC A0F,E3 wU A5D]⟩
def A05:=U1.R
def A5q:AtH:=U1.lj 0 n [m] [x2,x6,x8,x9,x10]
def C9t:AtH:=U1.lj 1 n [m] [x2,x6,x8,x9,x10]
def B4p:AtH:=U1.lj 2 n [m] [x2,x6,x9,x65,x66,x67]
def C9u:AtH:=U1.lj 3 n [m] [x2,x6,x9,x65,x66,x67]
def tV:=tT [⟨2,5,A5q⟩,⟨2,5,C9t⟩,⟨2,6,B4p⟩,⟨2,6,C9u⟩]
def A8Q:=mR A05 U1 tV n [a0] h
def oO:=mL U1 tV 0 n [m] [x2,x6,x8,x9,x10] h
def xV:=mJ U1 tV 1 n [m] [x2,x6,x8,x9,x10] h
def fX:=mL U1 tV 2 n [m] [x2,x6,x9,x65,x66,x67] h
def oN:=mJ U1 tV 3 n [m] [x2,x6,x9,x65,x66,x67] h
def A66:=U1.K Tryz.func26
def tL:=U1.S
def A3E:F6 A05 tL:=A66.flat
def A6X:FD A8:=⟨px 0X139f2006020475c506020464e5060204548506020443a506020432c506020421e50411a62b2d02011201600622403803a3b4181831b42031103a2342,[],[.eqA A6 ([.i .i64,.i .i64,.i .i64,.i .i64,.i .i64,.i .i64,.i .i64,.i .i64]) (.t 3) (.t 4)],[.tmp 2],[]⟩
def B49:=A6X.R
def C8K:=mR B49 A6X (tT []) n [a0] h
def B4N:=A6X.K Tryz.func28
def A7R:=A6X.S
def C3P:F6 B49 A7R:=B4N.flat
end
abbrev Wr:=Int × List UInt8
def wrC (w:Wr):List Cell:=.i .i64 w.1::B4 w.2
def A2Q (l:List Wr):List Cell:=(l.map wrC).flatten
def okW (l:List Wr):Prop:=∀ w∈l,w.2.length=256
def A2P {w:Wr} (h:w.2.length=256):(wrC w).length=257:=by simp [wrC,A9,h]
def A6L {w:Wr} {l:List Wr}:A2Q (w::l)=wrC w++A2Q l:=rfl
def D4F {l m:List Wr}:A2Q (l++m)=A2Q l++A2Q m:=by simp [A2Q]
def A0n:∀ {l:List Wr},okW l->(A2Q l).length=l.length*257
 | [],_=>rfl
 | w::l,h=>by
  rw [A6L,E5T,A2P (h w (E6g ..)),A0n λx hx=>h x (E6f _ hx),E52];omega
def D31:∀ (l:List Wr),noX (A2Q l)=A5
 | []=>rfl
 | w::l=>by
  have h1:=D31 l;have h2:=G9 w.2;unfold noX at *;rw [A6L,List.all_append,h1,wrC,E6B,h2];rfl
def C6Z:∀ {l:List Wr},O5 (A2Q l)=A5
 | []=>rfl
 | w::l=>by
  rw [A6L,uI,C6Z (l:=l),wrC,B6d,C6X];rfl
def D6R:∀ {l:List Wr} {i:Nat} (h:okW l) (hi:i<l.length),((A2Q l).drop (i*257)).take 257=wrC l[i]
 | w::l,0,h,_=>by
  have:=A2P (h w (E6g ..));simp only [A6L,Nat.zero_mul,E6a,List.getElem_cons_zero];rw [List.take_append_of_le_length (by omega),E53 (by omega)]
 | w::l,i+1,h,hi=>by
  have h1:=A2P (h w (E6g ..));have:=D6R (l:=l) (i:=i) (λx hx=>h x (E6f _ hx)) (by simpa using hi);rw [A6L,show (i+1)*257=257+i*257 by omega,<-E6P,List.drop_left' h1];simpa using this
def T9:Dev->Dev->Nat->List Wr
 | w::W,d::D,i=>if w=d then T9 W D (i+1) else ((i:Int),w)::T9 W D (i+1)
 | _,_,_=>[]
def B8V:∀ {W D:Dev} {i:Nat},okD W->okW (T9 W D i)/\(T9 W D i).length<=W.length
 | [],_,_,_=>⟨λx hx=>by simp [T9] at hx,by simp [T9]⟩
 | _::_,[],_,_=>⟨λx hx=>by simp [T9] at hx,by simp [T9]⟩
 | w::W,d::D,i,h=>by
  obtain ⟨h1,h2⟩:=B8V (W:=W) (D:=D) (i:=i+1) h.cons.2;unfold T9;split
  ·exact ⟨h1,by simp;omega⟩
  ·exact ⟨λx hx=>by
    rcases List.mem_cons.1 hx with rfl | hx
    ·exact h.cons.1
    ·exact h1 x hx,by simpa using h2⟩
def D8k {a:Int} {b:List UInt8} (hb:b.length=256):E6 ([o0]++B4 (zeros 256)) [(0,1,iV a),(1,256,.a (B4 b))]=A4 (wrC (a,b)):=by
 have hl:(B4 b).length=256:=by rw [A9,hb]
 have hz:(B4 (zeros 256)).length=256:=by rw [A9,zeros_length]
 show _=A4 (.i .i64 a::B4 b);generalize B4 (zeros 256)=z at *;generalize B4 b=y at *;simp only [E6,B1j,D3j];rw [if_pos ⟨rfl,by simp⟩];have e1:lay ([o0]++z) 0 [.i .i64 a]=.i .i64 a::z:=by simp [lay]
 rw [e1,if_pos ⟨hl,by simp;omega⟩];have e2:lay (Cell.i .i64 a::z) 1 y=.i .i64 a::y:=by
  simp [lay,hl];omega
 rw [e2]
def D6V {w:Wr} (hb:w.2.length=256):E6 ([o0]++B4 (zeros 256)) [(0,257,.a (wrC w))]=A4 (wrC w):=by
 have hl:=A2P hb;have hz:([o0]++B4 (zeros 256)).length=257:=by simp [A9,zeros_length]
 generalize [o0]++B4 (zeros 256)=z at *;generalize wrC w=y at *;simp only [E6,B1j];rw [if_pos ⟨hl,by omega⟩,lay_all (by omega)]
section
variable {D W:Dev} {n m:Int} {g:B5} {q:Nat} {x0 x20:Val}
def D4I (v:Val) (id:Nat):Prop:=∀ off n sz,v≠sV id off n sz
def A6p {h h':B5} {v:Val} {sz n id:Nat} {cs:List Cell} (hv:Has h v sz n cs) (ho:D4I v id) (hk:∀ i r,i≠id->rd h i=A4 r->rd h' i=A4 r):Has h' v sz n cs:=by
 rcases hv with hv | ⟨j,off,r,rfl,hr,h2⟩
 ·exact .inl hv
 ·exact .inr ⟨j,off,r,rfl,hk j r (λe=>ho off n sz (by rw [e])) hr,h2⟩
def A8h {h:B5} {v:Val} {sz n id:Nat} {cs:List Cell} (hv:Has h v sz n cs) (hid:h.length<=id):D4I v id:=by
 intro off k s e;rcases hv with ⟨e1,_⟩ | ⟨j,off,r,e1,hr,h2⟩
 ·rw [e1] at e;cases e
 ·rw [e1] at e;cases e;have:=C8 hr;omega
def D7J {b:Nat} {hb:B5} (hD:okD D) (hW:okD W) (hWD:W.length=D.length) (h5:D.length<=1000000) :
  ∀ (e i M:Nat) (l:List Wr) (id:Nat) (h:B5),i+e=W.length->e<M->Low b hb h->b<=id->okW l->l.length<=i->Has h x0 256 D.length (D5 D)->Has h x20 256 W.length (D5 W)->D4I x0 id->D4I x20 id->rd h id=rT (A2Q l) ->
  ∃ bT h',B8D q M x0 (sV id 0 l.length 257) x20 (iV (W.length:Nat)) (iV (i:Int)) h=A4 (.t [.c (.sl bT 0 (l++T9 (W.drop i) (D.drop i) i).length 257),.c o0],h') /\
   Low b hb h'/\b<=bT/\rd h' bT=rT (A2Q (l++T9 (W.drop i) (D.drop i) i)):=by
 intro e
 induction e with
 | zero =>
  intro i M l id h hi hM hlow hid hl hli h0 h20 n0 n20 hr;obtain ⟨M,rfl⟩:∃ M',M=M'+1:=⟨M-1,by omega⟩;have c0:¬ (i:Int)<(W.length:Nat):=by omega
  have e1:T9 (W.drop i) (D.drop i) i=[]:=by rw [E56 (by omega)];rfl
  rw [e1,E6m];refine ⟨id,h,?_,hlow,hid,hr⟩;rw [A0C];simp only [esc,c0]
 | succ e ih =>
  intro i M l id h hi hM hlow hid hl hli h0 h20 n0 n20 hr;obtain ⟨M,rfl⟩:∃ M',M=M'+1:=⟨M-1,by omega⟩;have hiW:i<W.length:=by omega
  have hiD:i<D.length:=by omega
  have c0:(i:Int)<(W.length:Nat):=by omega
  have w1:=D3 (show i+1<9223372036854775808 by omega);obtain ⟨_,_,e1,_,a1,b1⟩:=D1T h20 hW hiW;obtain ⟨G,hG⟩:∃ G,G=h++[rT (B4 W[i])]:=⟨_,rfl⟩;have hlG:Low b hb G:=by rw [hG];exact hlow.new _
  have h0G:Has G x0 256 D.length (D5 D):=by rw [hG];exact h0.more _
  have h20G:Has G x20 256 W.length (D5 W):=by rw [hG];exact h20.more _
  obtain ⟨_,_,e2,_,a2,b2⟩:=D1T h0G hD hiD;have st:E5 (h++[rT (B4 (zeros 256))]) 256 (pV h.length 0) (.a (B4 W[i]))=A4 G:=by
   rw [storeAll (cs:=B4 (zeros 256)) (by rw [E9];rfl) (by rw [A9,zeros_length]) (by rw [A9,hW.at hiW]),S3,hG];rfl
  have lG:D4 G 256 (pV h.length 0)=A4 (.a (B4 W[i])):=C7 (by rw [hG,E9];rfl) (by rw [A9,hW.at hiW]);have q1:=D2W (l:=W[i]) (m:=D[i]) (n:=256) (hW.at hiW) (hD.at hiD);have hrG:rd G id=rT (A2Q l):=by rw [hG];exact C5 hr
  have hbG:b<=G.length:=by have:=hlG.1;have:=hlG.2.1;omega
  have ed:T9 (W.drop i) (D.drop i) i=if W[i]=D[i] then T9 (W.drop (i+1)) (D.drop (i+1)) (i+1) else ((i:Int),W[i])::T9 (W.drop (i+1)) (D.drop (i+1)) (i+1):=by
   rw [E5X hiW,E5X hiD];rfl
  by_cases cw:W[i]=D[i]
  ·rw [ed,if_pos cw];rw [decide_eq_true cw] at q1;obtain ⟨bT,h',f1,f2,f3,f4⟩:=ih (i+1) M l id G (by omega) (by omega) hlG hid hl (by omega) h0G h20G n0 n20 hrG;generalize l++T9 (W.drop (i+1)) (D.drop (i+1)) (i+1)=P at f1 f4 ⊢;refine ⟨bT,h',?_,f2,f3,f4⟩;rw [A0C,I9];generalize B4 W[i]=x at *;generalize B4 D[i]=y at *;generalize B4 (zeros 256)=z at *;simp only [esc,E6V,c0,a1,b1,st,lG,a2,b2,q1,A9j,w1];exact f1
  ·rw [ed,if_neg cw];rw [decide_eq_false cw] at q1;have hwl:((i:Int),W[i]).2.length=256:=hW.at hiW;obtain ⟨h1,p1,p2,p3,p4⟩:=C7Q (n:=l.length) (sz:=257) (ys:=wrC ((i:Int),W[i])) hrG (A0n hl) (A2P hwl) (by omega) (by omega);have hok:okW (l++[((i:Int),W[i])]):=λx hx=>by
    rcases List.mem_append.1 hx with hx | hx
    ·exact hl x hx
    ·simp at hx;subst hx;exact hwl
   have ls:(l++[((i:Int),W[i])]).length=l.length+1:=by simp
   obtain ⟨bT,h',f1,f2,f3,f4⟩:=ih (i+1) M (l++[((i:Int),W[i])]) (G.length+1) h1 (by omega) (by omega) (hlG.trans (p4 b hid hbG)) (by omega) hok (by rw [ls];omega) (A6p h0G n0 p3) (A6p h20G n20 p3) (A8h h0G (by omega)) (A8h h20G (by omega)) (by rw [p2,D4F];simp [A2Q]);rw [ls] at f1;rw [E5Y] at f1 f4;have eP:[((i:Int),W[i])]++T9 (W.drop (i+1)) (D.drop (i+1)) (i+1)=((i:Int),W[i])::T9 (W.drop (i+1)) (D.drop (i+1)) (i+1):=rfl;rw [eP] at f1 f4;generalize l++((i:Int),W[i])::T9 (W.drop (i+1)) (D.drop (i+1)) (i+1)=P at f1 f4 ⊢;refine ⟨bT,h',?_,f2,f3,f4⟩;have ef:=D8k (a:=(i:Int)) (hW.at hiW);have ef2:=D6V hwl;rw [A0C,I9];generalize wrC ((i:Int),W[i])=u at *;generalize B4 W[i]=x at *;generalize B4 D[i]=y at *;generalize B4 (zeros 256)=z at *;simp only [E6q,E59] at ef ef2;simp only [esc,E6Q,c0,a1,b1,st,lG,a2,b2,q1,ef,ef2,p1,A9j,w1];exact f1
def B20 {D:Dev} {n:Int} (hD:okD D) (hm:R7 D.length n=A5):okD (uV D n (J1 D n))/\(uV D n (J1 D n)).length=D.length:=by
 have okf:=C0L hD hm;obtain ⟨_,_,_,n128,_⟩:=J8.1 hm;have h1:=B2l (l:=(J1 D n).blocks) (m:=(J1 D n).made) hD okf.md;have h2:=A6M (e:=(A2M D.length n).toNat) (no:=uY D.length n) h1.1;have h3:=B14 (n:=n) n128 (l:=(J1 D n).ino) (i:=0) h2.1 λx hx=>(okf.ino x hx).1
 unfold uV;refine ⟨h3.1.put ?_,by rw [dS,h3.2,h2.2,h1.2]⟩;unfold fW;rw [dN,zeros_length]
def A8q {v:Val} {h:B5} (hv:Has h v 256 D.length (D5 D)) (hD:okD D) (hn:A2U D=A5) (hl:D.length<=1000000) :
  zO [v] h=A4 (.t [.c (.sl h.length 0 (T9 (uV D (A76 D) (J1 D (A76 D))) D 0).length 257),.c o0],h++[rT (A2Q (T9 (uV D (A76 D) (J1 D (A76 D))) D 0))]):=by
 have hm:=C6J hn;obtain ⟨W,hWd⟩:∃ W,W=uV D (A76 D) (J1 D (A76 D)):=⟨_,rfl⟩;have key:∃ id g',A3t (D.length+2) [v] (ro h)=A4 (.t [.c (.sl id 0 (T9 W D 0).length 257),.c o0],g')/\Out (ro h).length g' (sV id 0 (T9 W D 0).length 257) 257 (T9 W D 0).length (A2Q (T9 W D 0)):=by
  obtain ⟨f,t,hO,hV⟩:=C8j (h:=ro h++[rT []]) (hv.ro.more _) hD hn (by omega);obtain ⟨H,hHe⟩:∃ H,H=ro h++[rT []]++t:=⟨_,rfl⟩;rw [<-hHe] at hO hV;obtain ⟨n,en⟩:∃ n,n=A76 D:=⟨_,rfl⟩;rw [<-en] at hO hm hWd;generalize D3w D=m at *;have hvH:Has H v 256 D.length (D5 D):=by rw [hHe];exact (hv.ro.more _).more _
  have hS5:E5 (H++[rT [o0,o0,.i .u64 0,.nf]]) 4 (pV H.length 0) (.a (vwC D.length n m f))=A4 (H++[rT (vwC D.length n m f)]):=by rw [M6];rfl
  obtain ⟨K,hK⟩:∃ K,K=H++[rT (vwC D.length n m f),rT []]:=⟨_,rfl⟩;have k4:D4 K 4 (pV H.length 0)=A4 (.a (vwC D.length n m f)):=C7 (by rw [hK,E9];rfl) rfl;have hVK:IsView K f D:=by rw [hK];exact hV.more _
  obtain ⟨cs,t2,hC,hI,C9n⟩:=C2c (h:=K) hD hVK hm;have hq1:=U9 (h:=K) (h':=K++t2) (v:=.a cs) ⟨List.prefix_append _ _,λid x hid hx=>by
   rw [rd_some,E57 hid] at hx;exact List.all_eq_true.1 C9n _ (E6j hx)⟩
  have hIm:=C84 (m:=m) hD (hVK.more t2) hm hI;rw [<-hWd] at hIm;have D9e:okD W/\W.length=D.length:=by rw [hWd];exact B20 hD hm
  obtain ⟨N,hN⟩:∃ N,N=K++t2++[rT (D5 W)]:=⟨_,rfl⟩;have hq2:=U9 (h:=K++t2) (h':=N) (v:=sV (K++t2).length 0 D.length 256) (by rw [hN];exact (Grows.rfl').new _);rw [<-hN] at hIm;have h20:Has N (sV (K++t2).length 0 W.length 256) 256 W.length (D5 W):=by
   rw [hN];exact Has.tr (by rw [E9];rfl) (J4 D9e.1) (eZ _)
  have h0N:Has N v 256 D.length (D5 D):=by rw [hN,hK];exact ((hvH.more _).more _).more _
  have lK:(ro h).length<=H.length:=by rw [hHe];simp only [E5T];omega
  have rN:rd N (H.length+1)=rT (A2Q []):=by rw [hN,hK];refine C5 (C5 ?_);rw [K9];rfl
  have lN:N.length=H.length+2+t2.length+1:=by rw [hN,hK];simp only [E5T,E52,E6h]
  obtain ⟨bT,h',f1,f2,f3,f4⟩:=D7J (q:=D.length+2) (b:=(ro h).length) (hb:=N) hD D9e.1 D9e.2 hl W.length 0 (D.length+2) [] (H.length+1) N (by omega) (by omega) (Low.refl (by omega)) (by omega) (λx hx=>by cases hx) (by simp) h0N h20 (A8h hvH (by omega)) (by
   intro off k s e;simp only [Val.c.injEq,Cell.sl.injEq] at e;have e2:=e.1;rw [hK] at e2;simp only [E5T,E52,E6h] at e2;omega) rN
  rw [E59,E6a,E6a] at f1 f4;refine ⟨bT,h',?_,?_,bT,rfl,f3,f4⟩
  ·rw [B0n];have c00:((0:Nat):Int)=0:=rfl;have l00:([]:List Wr).length=0:=rfl;rw [c00,l00] at f1;have eK:H++[rT (vwC D.length n m f)]++[rT []]=K:=by rw [hK];simp
   rw [D9e.2] at f1;generalize hV':vwC D.length n m f=V at *;simp only [M9,hO,D8j,List.getElem?_cons_zero,E6F,Option.map_some,D35,D36,hS5,D2R,E5T,E52,E6h,E6e];simp only [esc,eq_self] at *;simp only [<-hK,k4,hC,hq1,hIm,hq2,M9,B7S];exact f1
  ·exact A0n (B8V D9e.1).1
 obtain ⟨id,g',e,ho⟩:=key;rw [<-hWd];exact A5O e (by rw [F7] at ho;exact ho) C6Z rfl
end
def C9v {D:Dev} {v:Val} {h:B5} (hv:Has h v 256 D.length (D5 D)) (hD:okD D) (hn:A2U D=A6) :
  zO [v] h=A4 (.t [.c (.sl h.length 0 0 257),.c (.i .i64 13)],h++[rT []]):=by
 obtain ⟨t,hO⟩:=D4B (h:=ro h++[rT []]) (hv.ro.more _) hD hn;obtain ⟨H,hHe⟩:∃ H,H=ro h++[rT []]++t:=⟨_,rfl⟩;rw [<-hHe] at hO;have lK:(ro h).length<=H.length:=by rw [hHe];simp only [E5T];omega
 have hS5:E5 (H++[rT [o0,o0,.i .u64 0,.nf]]) 4 (pV H.length 0) (.a (vwC 0 0 0 .nf))=A4 (H++[rT (vwC 0 0 0 .nf)]):=by rw [M6];rfl
 have n13:¬ (13:Int)=0:=by decide
 have key:A3t 0 [v] (ro h)=A4 (.t [.c (.sl (H.length+1) 0 0 257),.c (.i .i64 13)],H++[rT (vwC 0 0 0 .nf),rT []]):=by
  rw [B0n];generalize vwC 0 0 0 .nf=V at *;simp only [esc,hO,hS5,n13]
 exact A5O (cs:=[]) key ⟨rfl,H.length+1,rfl,by rw [F7] at lK;omega,by rw [K9];rfl⟩ rfl rfl
def E2w {h:B5} {v:Val} {l:List Wr} (hv:Has h v 257 l.length (A2Q l)) (hl:okW l) {i:Nat} (hi:i<l.length) :
  ∃ id off,v=sV id off l.length 257/\id<h.length/\D9 257 v (iV (i:Int))=A4 (pV id (off+i*257))/\D4 h 257 (pV id (off+i*257))=A4 (.a (wrC l[i])) /\
   B8 h (pV id (off+i*257))=A4 (iV (l[i]).1):=by
 obtain ⟨id,off,rfl,hid,h1,h2⟩:=hv.sl (by omega);have hat:=D6R hl hi;refine ⟨id,off,rfl,hid,C9 hi,?_,h1 _ _ ?_⟩
 ·rw [h2 (i*257) 257 (by rw [A0n hl];omega),hat]
 ·have:(((A2Q l).drop (i*257)).take 257)[0]?=A4 (.i .i64 (l[i]).1):=by rw [hat];rfl
  rw [E6s (by omega),E6J] at this;simpa using this
section
variable {D:Dev} {n:Int} {q:Nat} {x13:Val}
def C2F {x:List Int} {h:B5} (hx:x.length=8) (hr:∀ a∈x,0<=a/\a<1000000000):A7R [.a (encI x)] h=A4 (iV (x.tail.sum),h):=by
 match x,hx with
 | [a,b,c,d,e,f,g,i],_ =>
  have ha:=hr a (by simp);have hb:=hr b (by simp);have hc:=hr c (by simp);have hd:=hr d (by simp);have he:=hr e (by simp);have hf:=hr f (by simp);have hg:=hr g (by simp);have hi:=hr i (by simp);have key:∀ k,∃ g',B49 0 [.a (encI [a,b,c,d,e,f,g,i])] k=A4 (iV ([b,c,d,e,f,g,i].sum),g'):=λk=>by
   obtain ⟨K,hK⟩:∃ K,K=k++[rT (encI [a,b,c,d,e,f,g,i])]:=⟨_,rfl⟩;have rK:rd K k.length=rT (encI [a,b,c,d,e,f,g,i]):=by rw [hK,E9];rfl
   have l8:D4 K 8 (pV k.length 0)=A4 (.a (encI [a,b,c,d,e,f,g,i])):=C7 rK rfl;have l1:B8 K (pV k.length 1)=A4 (iV b):=B9 rK rfl rfl;have l2:B8 K (pV k.length 2)=A4 (iV c):=B9 rK rfl rfl;have l3:B8 K (pV k.length 3)=A4 (iV d):=B9 rK rfl rfl;have l4:B8 K (pV k.length 4)=A4 (iV e):=B9 rK rfl rfl;have l5:B8 K (pV k.length 5)=A4 (iV f):=B9 rK rfl rfl;have l6:B8 K (pV k.length 6)=A4 (iV g):=B9 rK rfl rfl;have l7:B8 K (pV k.length 7)=A4 (iV i):=B9 rK rfl rfl;have ef:E6 [o0,o0,o0,o0,o0,o0,o0,o0] []=A4 (encI [0,0,0,0,0,0,0,0]):=rfl;have eq:=C6d (l:=[a,b,c,d,e,f,g,i]) (m:=[0,0,0,0,0,0,0,0]) (n:=8) rfl rfl;have er:E5R 8 (Sh.i .i64)=[Sh.i .i64,.i .i64,.i .i64,.i .i64,.i .i64,.i .i64,.i .i64,.i .i64]:=rfl;rw [er] at eq;have cl:cells? (.a (encI [a,b,c,d,e,f,g,i]))=A4 (encI [a,b,c,d,e,f,g,i]):=rfl;have w1:E5U .i64 (b+c)=b+c:=wrap_i64 (by omega) (by omega);have w2:E5U .i64 (b+c+d)=b+c+d:=wrap_i64 (by omega) (by omega);have w3:E5U .i64 (b+c+d+e)=b+c+d+e:=wrap_i64 (by omega) (by omega);have w4:E5U .i64 (b+c+d+e+f)=b+c+d+e+f:=wrap_i64 (by omega) (by omega);have w5:E5U .i64 (b+c+d+e+f+g)=b+c+d+e+f+g:=wrap_i64 (by omega) (by omega);have w6:E5U .i64 (b+c+d+e+f+g+i)=b+c+d+e+f+g+i:=wrap_i64 (by omega) (by omega);rw [C8K];by_cases c0:[a,b,c,d,e,f,g,i]=[0,0,0,0,0,0,0,0]
   ·rw [decide_eq_true c0] at eq;simp only [List.cons.injEq,and_true] at c0;obtain ⟨rfl,rfl,rfl,rfl,rfl,rfl,rfl,rfl⟩:=c0;generalize encI [0,0,0,0,0,0,0,0]=X at *;exact ⟨_,by simp only [esc,cl,<-hK,l8,ef,eq]<;>rfl⟩
   ·rw [decide_eq_false c0] at eq;have es:[b,c,d,e,f,g,i].sum=b+c+d+e+f+g+i:=by simp;omega
    rw [es];generalize encI [0,0,0,0,0,0,0,0]=X at *;generalize encI [a,b,c,d,e,f,g,i]=Y at *;exact ⟨_,by simp only [esc,cl,<-hK,l8,ef,eq,l1,l2,l3,l4,l5,l6,l7,w1,w2,w3,w4,w5,w6]<;>rfl⟩
  obtain ⟨g',e'⟩:=key (ro h);exact C3P e' rfl
end
def bump (s:List Int) (k:Nat):List Int:=s.set k (s.getD k 0+1)
def BndR (s:List Int) (B:Int):Prop:=s.length=8/\∀ a∈s,0<=a/\a<=B
def BndR.mono {s:List Int} {B B':Int} (h:BndR s B) (hb:B<=B'):BndR s B':=⟨h.1,λa ha=>⟨(h.2 a ha).1,Int.le_trans (h.2 a ha).2 hb⟩⟩
def BndR.at {s:List Int} {B:Int} (h:BndR s B) {k:Nat} (hk:k<8):0<=s.getD k 0/\s.getD k 0<=B:=by
 have hl:=h.1;rw [E5Z,E5P (by omega)];exact h.2 _ (E6v _)
def BndR.bump {s:List Int} {B:Int} (h:BndR s B) {k:Nat} (hk:k<8):BndR (bump s k) (B+1):=by
 refine ⟨by simp [Go.Proofs.YtbnkgnfhgbhblaaGreat.bump,h.1],λa ha=>?_⟩;have hb:=h.at hk;rcases E6A ha with h1 | h1
 ·have:=h.2 a h1;omega
 ·omega
def B72:List Int->List Int->List Int->List Int
 | x::a,y::b,s=>B72 a b (if x≠0/\y=0 then bump s 5 else s)
 | _,_,s=>s
def A8x (was now s:List Int):List Int :=
 B72 (was.drop 4) (now.drop 4) (if now.getD 0 0=2/\was.getD 3 0≠now.getD 3 0 then bump (if was.getD 1 0≠now.getD 1 0 then bump s 3 else s) 4 else if was.getD 1 0≠now.getD 1 0 then bump s 3 else s)
def B1S (kd:Int) (s:List Int):List Int:=if kd≠0 then bump s 2 else s
def A2X (D:Dev) (n i:Int):List Int:=kdV D n i::lnV D n i::szV D n i::paV D n i::drV D n i
def A2B (D:Dev) (n:Int) (c:Cl) (s:List Int) (i:Int):List Int:=if i∈c.row then A8x (A2X D n i) (c.ino.getD i.toNat []) s else B1S (kdV D n i) s
def kT (D:Dev) (n:Int) (c:Cl):Nat->Int->List Int->List Int
 | 0,_,s=>s
 | e+1,i,s=>kT D n c e (i+1) (A2B D n c s i)
def qQ (used taken:Bool) (s:List Int):List Int:=if taken=A5/\used=A6 then bump s 7 else if taken=A6/\used=A5 then bump s 6 else s
def oV (D:Dev) (n:Int):List Bool->Nat->List Int->List Int
 | [],_,s=>s
 | t::l,i,s=>oV D n l (i+1) (qQ (B2z D n (i:Int)) t s)
def A48 (D:Dev) (n:Int):List Int :=
 oV D n (J1 D n).taken 0 (kT D n (J1 D n) n.toNat 1 [((T9 (uV D n (J1 D n)) D 0).length:Nat),(J1 D n).lost,0,0,0,0,0,0])
def B85 (D:Dev) (n i:Int):encI (A2X D n i)=A2V D n i:=by rw [A8l];rfl
def sD {D:Dev} {n i:Int}:(A2X D n i).length=11:=by simp [A2X,xE]
def D00 {D:Dev} {n i:Int}:A2X D n i=zI 11↔kdV D n i=0:=by
 constructor
 ·intro h;have:(A2X D n i).getD 0 0=(zI 11).getD 0 0:=by rw [h]
  simpa [A2X,zI] using this
 ·intro h;have hk:=D6l (D:=D) (n:=n) (i:=i);unfold A2X lnV szV paV drV;rw [h];cases hc:C3X D n i with
  | false=>rfl
  | true =>
   rw [hc,cond_true,h] at hk;have hc2:=hc;unfold C3X iO A2E at hc2;rw [<-hk] at hc2;simp only [E5S,if_true] at hc2;obtain ⟨_,h1,_⟩:=hc2;unfold D1c at h1;obtain ⟨e1,e2,e3,e4⟩:=of_decide_eq_true h1;simp only [cond_true,e1,e2,e3,e4];rfl
def OnlyR (r:Nat) (h h':B5):Prop:=h.length<=h'.length/\∀ j,j<h.length->j≠r->rd h' j=rd h j
def OnlyR.refl (r:Nat) (h:B5):OnlyR r h h:=⟨E5V _,λ_ _ _=>rfl⟩
def OnlyR.trans {r:Nat} {h h' h'':B5} (a:OnlyR r h h') (b:OnlyR r h' h''):OnlyR r h h'' :=
 ⟨E6w a.1 b.1,λj hj hr=>(b.2 j (by have:=a.1;omega) hr).trans (a.2 j hj hr)⟩
def OnlyR.more {r:Nat} {h h':B5} (a:OnlyR r h h') (t:B5):OnlyR r h (h'++t) :=
 ⟨by have:=a.1;simp;omega,λj hj hr=>by rw [E1 (by have:=a.1;omega)];exact a.2 j hj hr⟩
def OnlyR.set {r j:Nat} {h h':B5} {x:Option Row} (a:OnlyR r h h') (hj:j=r\/h.length<=j):OnlyR r h (h'.set j x) :=
 ⟨by simpa using a.1,λk hk hr=>by rw [B6 (by omega)];exact a.2 k hk hr⟩
section
variable {h:B5} {r:Nat} {s:List Int} {B:Int}
def T0 (hr:rd h r=rT (encI s)) (hs:s.length=8) {k:Nat} (hk:k<8):B8 h (pV r k)=A4 (iV (s.getD k 0)) :=
 B9 hr (by rw [I1,E5Z,E5P (by omega)];rfl) rfl
def bW (hr:rd h r=rT (encI s)) (hs:s.length=8) {k:Nat} (hk:k<8):I5 h (pV r k) (iV (s.getD k 0+1))=A4 (h.set r (rT (encI (bump s k)))):=by
 rw [G8 hr (by rw [B7];omega),X5];rfl
def D8D {q ra rb:Nat} {a b:List Int} (ha:a.length=7) (hb:b.length=7):∀ (e i M:Nat) (B:Int) (s:List Int) (h:B5),i+e=7->e<M->BndR s B->B+e<=1000000->rd h r=rT (encI s)->rd h ra=rT (encI a)->rd h rb=rT (encI b)->ra≠r->rb≠r ->
  ∃ h',A0i q M (pV r 0) (pV ra 0) (pV rb 0) (iV (i:Int)) h=A4 (.t [],h')/\rd h' r=rT (encI (B72 (a.drop i) (b.drop i) s))/\OnlyR r h h'/\BndR (B72 (a.drop i) (b.drop i) s) (B+e):=by
 intro e
 induction e with
 | zero =>
  intro i M B s h hi hM hB hB2 hr h1 h2 n1 n2;obtain ⟨M,rfl⟩:∃ M',M=M'+1:=⟨M-1,by omega⟩;have c0:¬ (i:Int)<7:=by omega
  have e1:B72 (a.drop i) (b.drop i) s=s:=by rw [E56 (by omega)];rfl
  rw [e1];refine ⟨h,?_,hr,OnlyR.refl r h,hB.mono (by omega)⟩;rw [aJ];simp only [esc,c0];rfl
 | succ e ih =>
  intro i M B s h hi hM hB hB2 hr h1 h2 n1 n2;obtain ⟨M,rfl⟩:∃ M',M=M'+1:=⟨M-1,by omega⟩;have hia:i<a.length:=by omega
  have hib:i<b.length:=by omega
  have c0:(i:Int)<7:=by omega
  have w1:=D3 (show i+1<9223372036854775808 by omega);have a1:∀ x,I3 7 1 (pV x 0) (iV (i:Int))=A4 (pV x i):=λx=>by rw [J5 (by omega)];simp
  have la:B8 h (pV ra i)=A4 (iV a[i]):=B9 h1 (by rw [I1,E5P hia];rfl) rfl;have lb:B8 h (pV rb i)=A4 (iV b[i]):=B9 h2 (by rw [I1,E5P hib];rfl) rfl;have ed:B72 (a.drop i) (b.drop i) s=B72 (a.drop (i+1)) (b.drop (i+1)) (if a[i]≠0/\b[i]=0 then bump s 5 else s):=by
   rw [E5X hia,E5X hib];rfl
  have l5:=T0 hr hB.1 (k:=5) (by omega);have s5:=bW hr hB.1 (k:=5) (by omega);have h5:=hB.at (k:=5) (by omega);have w5:E5U .i64 (s.getD 5 0+1)=s.getD 5 0+1:=wrap_i64 (by omega) (by omega);rw [ed];by_cases ca:a[i]=0
  ·rw [if_neg (λh=>h.1 ca)];obtain ⟨h',f1,f2,f3,f4⟩:=ih (i+1) M B s h (by omega) (by omega) hB (by omega) hr h1 h2 n1 n2;refine ⟨h',?_,f2,f3,f4.mono (by omega)⟩;rw [aJ];simp only [esc,c0,a1,la,ca,fZ,w1];exact f1
  ·by_cases cb:b[i]=0
   ·rw [if_pos ⟨ca,cb⟩];obtain ⟨h',f1,f2,f3,f4⟩:=ih (i+1) M (B+1) (bump s 5) _ (by omega) (by omega) (hB.bump (by omega)) (by omega) (C6 (C8 hr)) (by rw [B6 (Ne.symm n1)];exact h1) (by rw [B6 (Ne.symm n2)];exact h2) n1 n2;refine ⟨h',?_,f2,(((OnlyR.refl r h).set (.inl rfl)).trans f3),f4.mono (by omega)⟩;rw [aJ];simp only [esc,c0,a1,la,ca,lb,cb,l5,w5,s5,fZ,w1];exact f1
   ·rw [if_neg (λh=>cb h.2)];obtain ⟨h',f1,f2,f3,f4⟩:=ih (i+1) M B s h (by omega) (by omega) hB (by omega) hr h1 h2 n1 n2;refine ⟨h',?_,f2,f3,f4.mono (by omega)⟩;rw [aJ];simp only [esc,c0,a1,la,ca,lb,cb,fZ,w1];exact f1
end
section
variable {D:Dev} {n m:Int} {P:Nat->Prop} {h:B5} {c:Cl} {cs:List Cell} {v:Val}
def D9Q {x4 x6 x8 x10 ino:Nat} {many:Int} {ii:List Int} {Q:Nat->Prop} {H:B5} (hv:Has h v 256 D.length (D5 D)) (hD:okD D) (e4:x4=h.length) (e6:x6=h.length+1) (e8:x8=h.length+2) (e10:x10=h.length+4)
  (hQ0:Q=λid=>(P id/\id<h.length)\/h.length+5<=id) (hHl:h.length+5<=H.length) (G:Grows h H) (K:IsRC n Q H cs c) (ht:c.taken.length=D.length) (hl:D.length<=1000) (hm:many<=134)
  (r4:rd H x4=rT cs) (r6:rd H x6=rT (D7 D.length n m)) (r8:rd H x8=rT Z8) (r10:rd H x10=rT (encI ii)) (hii:ii.length=11) (hin:ino<c.ino.length) (P6:∀ x∈c.ino,x.length=11) (hc:c.ino.length<=1000) (hb:c.blocks.length<=100000) (hmd:c.made.length<=100000) :
  ∃ cs' H',A8b 200 v (iV (ino:Int)) (pV x4 0) (pV x6 0) (pV x8 0) (pV x10 0) (iV many) H=A4 (.a cs',H')/\Grows h H'/\IsRC n (λid=>P id\/h.length<=id) H' cs'
   (if ii.getD 10 0=0 then { c with ino:=c.ino.set ino ii } else
    S9 (cP D n many 128 0 ({ c with ino:=c.ino.set ino ii },blk D (ii.getD 10 0))).1 (ii.getD 10 0) (cP D n many 128 0 ({ c with ino:=c.ino.set ino ii },blk D (ii.getD 10 0))).2):=by
 have hQ:∀ id,H.length<=id->Q id:=λid hid=>by rw [hQ0];exact .inr (by omega)
 have nQ4:¬ Q x4:=by rw [hQ0];intro hh;rcases hh with hh | hh<;>omega
 have nQ8:¬ Q x8:=by rw [hQ0];intro hh;rcases hh with hh | hh<;>omega
 obtain ⟨v49,p50,H1,cs1,H2,b1,b2,b3,b4,b5,b6,b7,b8,b9,b10,b11⟩:=D0Y (g:=h) G (by omega) K r4 hQ nQ4 r10 hii hin P6 hc (by omega);have ef:E6 [] []=A4 []:=rfl;have q10:rd H2 x10=rT (encI ii):=by rw [b11 _ (C8 r10) (by omega)];exact r10
 have q8:rd H2 x8=rT Z8:=by rw [b11 _ (C8 r8) (by omega)];exact r8
 have q6:rd H2 x6=rT (D7 D.length n m):=by rw [b11 _ (C8 r6) (by omega)];exact r6
 have l10:B8 H2 (pV x10 10)=A4 (iV (ii.getD 10 0)):=gB q10 (by omega);have l8c:D4 H2 8 (pV x4 0)=A4 (.a cs1):=C7 b9 b8.length;have toP:∀ id,Q id->P id\/h.length<=id:=λid hid=>by
  rw [hQ0] at hid;rcases hid with hid | hid
  ·exact .inl hid.1
  ·exact .inr (by omega)
 by_cases hz:ii.getD 10 0=0
 ·rw [if_pos hz];rw [hz] at l10;obtain ⟨H3,hH3⟩:∃ H3,H3=H2.set x8 (rT cs1):=⟨_,rfl⟩;have s8:E5 H2 8 (pV x8 0) (.a cs1)=A4 H3:=by rw [storeAll (n:=8) q8 rfl b8.length,hH3]
  have l8:D4 H3 8 (pV x8 0)=A4 (.a cs1):=C7 (by rw [hH3];exact C6 (C8 q8)) b8.length;refine ⟨cs1,H3,?_,by rw [hH3];exact b7.set (by omega) _,by rw [hH3];exact (b8.set (.inr nQ8)).mono toP⟩;rw [A84];simp only [esc,ef,b1,b2,b3,b4,b5,b6,l10,l8c,s8,l8]
 ·rw [if_neg hz];have hvr:Has H2 v 256 D.length (D5 D):=hv.grows b7;obtain ⟨u,t,d1,d2,d3,_⟩:=A1L (no:=ii.getD 10 0) hvr hD;have hN:=C07 d3 (O9 hD);obtain ⟨K1,hK1⟩:∃ K1,K1=H2++t:=⟨_,rfl⟩;rw [<-hK1] at d1 hN d3;obtain ⟨K2,hK2⟩:∃ K2,K2=K1++[rT (encI (bM (blk D (ii.getD 10 0)) 128))]:=⟨_,rfl⟩;rw [<-hK2] at hN;have lK1:H2.length<=K1.length:=by rw [hK1];simp
  have lK2:K2.length=K1.length+1:=by rw [hK2];simp
  have G12:Grows H2 K2:=by rw [hK2,hK1];exact (U2 Grows.rfl' d2).new _
  have GK:Grows h K2:=b7.trans' G12;obtain ⟨Q2,hQ2⟩:∃ Q2:Nat->Prop,Q2=λid=>(Q id/\id<K1.length)\/K1.length+1<=id:=⟨_,rfl⟩
  have kQ2:IsRC n Q2 K2 cs1 { c with ino:=c.ino.set ino ii }:=(b8.low.grows G12).mono λid hid=>by
   rw [hQ2];exact .inl ⟨hid.1,by omega⟩
  have E4P:∀ id,K2.length<=id->Q2 id:=λid hid=>by rw [hQ2];exact .inr (by omega)
  have nQ2:¬ Q2 K1.length:=by rw [hQ2];intro hh;rcases hh with hh | hh<;>omega
  have E23:¬ Q2 x4:=by rw [hQ2];intro hh;rcases hh with hh | hh;exact nQ4 hh.1;have:=C8 b9;omega
  have E24:¬ Q2 x8:=by rw [hQ2];intro hh;rcases hh with hh | hh;exact nQ8 hh.1;have:=C8 q8;omega
  have toK:∀ {id r},rd H2 id=A4 r->rd K2 id=A4 r:=λhr=>G12.rd hr
  obtain ⟨cs2,H5,M5,f1,f2,f3,f4,f5,f6,f7,f8⟩:=D9S (Q:=Q2) (g:=h) (x4:=x4) (x6:=x6) (x8:=x8) (x10:=x10) (nid:=K1.length) (q:=200) (many:=many) hii ⟨by omega,by omega⟩ E23 nQ2 hl hm (by omega) (by omega) (by omega) (by omega) (by omega) (by omega) (by omega) 128 0 200 ({ c with ino:=c.ino.set ino ii },blk D (ii.getD 10 0)) cs1 K2 (by omega) (by omega) (O9 hD) GK E4P kQ2 ht (toK b9) (toK q6) (toK q8) (toK q10) (by rw [hK2,E9];rfl);obtain ⟨S,hS⟩:∃ S,S=cP D n many 128 0 ({ c with ino:=c.ino.set ino ii },blk D (ii.getD 10 0)):=⟨_,rfl⟩;rw [<-hS] at f4 f8 ⊢;have sl:S.2.length=256:=by rw [hS];exact B2X (by omega) (O9 hD)
  have ss:=xP (D:=D) (n:=n) (many:=many) (e:=128) (k:=0) (s:=({ c with ino:=c.ino.set ino ii },blk D (ii.getD 10 0)));rw [<-hS] at ss;have hB:=C7Y (v:=sV K1.length 0 128 1) (nv:=128) (l:=bM S.2 128) (h:=H5) (Has.row f8 (by rw [B7,uJ]) (cG _)) (by omega);rw [D7g sl] at hB;obtain ⟨H6,hH6⟩:∃ H6,H6=H5++[rT (B4 S.2)]:=⟨_,rfl⟩;rw [<-hH6] at hB;have hq:=U9 (h:=H5) (h':=H6) (v:=sV H5.length 0 256 1) (by rw [hH6];exact (Grows.rfl').new _);have k6:IsRC n Q2 H6 cs2 S.1:=f4.grows (by rw [hH6];exact (Grows.rfl').new _);obtain ⟨cs3,H7,m1,m2,m3⟩:=D4n (no:=ii.getD 10 0) (y:=.sl H5.length 0 256 1) (b:=S.2) k6 (by rw [hH6];exact Has.row (rw:=A5) (by rw [E9];rfl) (by rw [A9,sl]) (G9 _)) (λid hid=>by cases hid;exact f3 _ (E5V _)) (by rw [ss.blocks];exact hb) (by rw [ss.made];exact hmd) rfl;have lH6:H6.length=H5.length+1:=by rw [hH6];simp
  have q87:rd H7 x8=rT Z8:=m2.rd (by rw [hH6];exact C5 f6);have lt87:=C8 f6;obtain ⟨H8,hH8⟩:∃ H8,H8=H7.set x8 (rT cs3):=⟨_,rfl⟩;have s8:E5 H7 8 (pV x8 0) (.a cs3)=A4 H8:=by rw [storeAll (n:=8) q87 rfl m3.length,hH8]
  have l8:D4 H8 8 (pV x8 0)=A4 (.a cs3):=C7 (by rw [hH8];exact C6 (C8 q87)) m3.length;have G7:Grows h H7:=f2.trans' ((by rw [hH6];exact (Grows.rfl').new _:Grows H5 H6).trans' m2);refine ⟨cs3,H8,?_,by rw [hH8];exact G7.set (by omega) _,?_⟩
  ·have l8c2:D4 H5 8 (pV x4 0)=A4 (.a cs2):=C7 f5 f4.length;have l105:B8 H5 (pV x10 10)=A4 (iV (ii.getD 10 0)):=gB f7 (by omega);have E4F:¬ (128:Int)<128:=by decide
   have c00:((0:Nat):Int)=0:=rfl;rw [c00] at f1;rw [A84];simp only [esc,ef,b1,b2,b3,b4,b5,b6,l10,hz,d1,hN];refine f1.trans ?_;rw [A0y];simp only [esc,E4F,l8c2,l105,hB,hq,m1,s8,l8]
  ·rw [hH8];refine (m3.set (.inr ?_)).mono ?_
   ·intro hh;rcases hh with hh | hh
    ·exact E24 hh
    ·omega
   ·intro id hid;rcases hid with hid | hid
    ·rw [hQ2] at hid;rcases hid with hid | hid
     ·exact toP _ hid.1
     ·exact .inr (by omega)
    ·exact .inr (by have:=G7.len;have:=m2.len;have:=f2.len;omega)
def D9P {ino:Int} (hv:Has h v 256 D.length (D5 D)) (hD:okD D) (K:IsRC n P h cs c) (ht:c.taken.length=D.length) (hl:D.length<=1000) (i0:0<=ino) (i1:ino.toNat<c.ino.length) (P6:∀ x∈c.ino,x.length=11) (hc:c.ino.length<=1000) (hb:c.blocks.length<=100000) (hmd:c.made.length<=100000) :
  ∃ cs' H',B0R [.a cs,v,.a (D7 D.length n m),iV ino] h=A4 (.a cs',H')/\Grows h H'/\IsRC n (λid=>P id\/h.length<=id) H' cs' (iZ D n c ino):=by
 obtain ⟨many,em⟩:∃ many,many=A46 (szV D n ino):=⟨_,rfl⟩;have D0A:0<=many/\many<=134:=by rw [em];unfold A46;split;omega;split<;>omega
 obtain ⟨was,ew⟩:∃ was,was=A2X D n ino:=⟨_,rfl⟩;have hwl:was.length=11:=by rw [ew];exact sD
 have hwd:was.drop 4=drV D n ino:=by rw [ew];rfl
 obtain ⟨G3,hG3⟩:∃ G3,G3=h++[rT cs,rT (D7 D.length n m),rT Z8]:=⟨_,rfl⟩;have hI:=nE (v:=v) (n:=n) (m:=m) (i:=ino) (h:=G3) (by rw [hG3];exact hv.more _) hD;rw [<-B85,<-ew] at hI;obtain ⟨G5,hG5⟩:∃ G5,G5=h++[rT cs,rT (D7 D.length n m),rT Z8,rT (encI was),rT (encI ([1,1,szV D n ino,0]++zI 7))]:=⟨_,rfl⟩;have lG5:G5.length=h.length+5:=by rw [hG5];simp
 obtain ⟨Q,hQ0⟩:∃ Q:Nat->Prop,Q=λid=>(P id/\id<h.length)\/h.length+5<=id:=⟨_,rfl⟩
 have G:Grows h G5:=by rw [hG5];exact U2 Grows.rfl' rfl
 have K5:IsRC n Q G5 cs c:=(K.low.grows G).mono λid hid=>by rw [hQ0];exact .inl hid
 have hQn:∀ id,G5.length<=id->Q id:=λid hid=>by rw [hQ0];exact .inr (by omega)
 have nQ:∀ k,k<5->¬ Q (h.length+k):=λk hk=>by rw [hQ0];intro hh;rcases hh with hh | hh<;>omega
 have n0:¬ Q h.length:=nQ 0 (by omega);have n4:=nQ 4 (by omega);obtain ⟨cs1,H1,M1,f1,f2,f3,f4,f5,f6,f7,f8,f9,f10,f11⟩:=D9R (v:=v) (x3:=iV ino) (g:=h) (Q:=Q) (m:=m) (x4:=h.length) (x6:=h.length+1) (x8:=h.length+2) (x9:=h.length+3) (x10:=h.length+4) (q:=200) (many:=many) (pre:=[1,1,szV D n ino,0]) (r8:=Z8) hwl rfl ⟨by omega,by omega⟩ n0 n4 hl (by omega) (by omega) (by omega) (by omega) (by omega) (by omega) (by omega) D0A.2
  (min many 6).toNat 0 200 c cs (zI 7) G5 (by omega) (by omega) rfl G hQn K5 ht (by rw [hG5,E9];rfl) (by rw [hG5,K9];rfl) (by rw [hG5,K9];rfl) (by rw [hG5,K9];rfl) (by rw [hG5,K9];rfl)
 obtain ⟨s,es⟩:∃ s,s=A77 D n (drV D n ino) (min many 6).toNat 0 (c,zI 7):=⟨_,rfl⟩;rw [hwd,<-es] at f4 f9 f10;have hs:=B2V (D:=D) (n:=n) (d:=drV D n ino) (e:=(min many 6).toNat) (k:=0) (s:=(c,zI 7));rw [<-es] at hs;have hs2:s.2.length=7:=hs.2;have eD:fC D n c ino=B8n D n (drV D n ino) many s:=by unfold fC;rw [es,em]
 have fin:∀ (H2:B5) (cs2:List Cell) (s2:Cl × List Int),B8n D n (drV D n ino) many s=s2->SameC c s2.1->s2.2.length=7->s2.1.taken.length=D.length->Grows h H2->h.length+5<=H2.length->IsRC n Q H2 cs2 s2.1->rd H2 h.length=rT cs2->rd H2 (h.length+1)=rT (D7 D.length n m)->rd H2 (h.length+2)=rT Z8->rd H2 (h.length+4)=rT (encI ([1,1,szV D n ino,0]++s2.2)) ->
   ∃ cs' H',A8b 200 v (iV ino) (pV h.length 0) (pV (h.length+1) 0) (pV (h.length+2) 0) (pV (h.length+4) 0) (iV many) H2=A4 (.a cs',H')/\Grows h H'/\IsRC n (λid=>P id\/h.length<=id) H' cs' (iZ D n c ino):=by
  intro H2 cs2 s2 e2 sm l2 t2 G2 hH2 K2 q4 q6 q8 q10;have ei:ino=((ino.toNat:Nat):Int):=by omega
  obtain ⟨cs',H',j1,j2,j3⟩:=D9Q (ino:=ino.toNat) (many:=many) (ii:=[1,1,szV D n ino,0]++s2.2) (Q:=Q) hv hD rfl rfl rfl rfl hQ0 hH2 G2 K2 t2 hl D0A.2 q4 q6 q8 q10 (by simp [l2]) (by rw [sm.ino];exact i1) (by rw [sm.ino];exact P6) (by rw [sm.ino];exact hc) (by rw [sm.blocks];exact hb) (by rw [sm.made];exact hmd);rw [<-ei] at j1;refine ⟨cs',H',j1,j2,?_⟩;have e10:([1,1,szV D n ino,0]++s2.2).getD 10 0=s2.2.getD 6 0:=rfl;rw [e10] at j3;have eC:iZ D n c ino=if s2.2.getD 6 0=0 then { s2.1 with ino:=s2.1.ino.set ino.toNat ([1,1,szV D n ino,0]++s2.2) } else
    S9 (cP D n many 128 0 ({ s2.1 with ino:=s2.1.ino.set ino.toNat ([1,1,szV D n ino,0]++s2.2) },blk D (s2.2.getD 6 0))).1 (s2.2.getD 6 0) (cP D n many 128 0 ({ s2.1 with ino:=s2.1.ino.set ino.toNat ([1,1,szV D n ino,0]++s2.2) },blk D (s2.2.getD 6 0))).2:=by
   unfold iZ aI;rw [eD,e2,em];rfl
  rw [eC];exact j3
 have key:∃ cs' H',A3s 200 [.a cs,v,.a (D7 D.length n m),iV ino] h=A4 (.a cs',H')/\Grows h H'/\IsRC n (λid=>P id\/h.length<=id) H' cs' (iZ D n c ino):=by
  have z11:[o0,o0,o0,o0,o0,o0,o0,o0,o0,o0,o0]=encI (zI 11):=rfl;have cl1:cells? (.a cs)=A4 cs:=rfl;have cl2:cells? (.a (D7 D.length n m))=A4 (D7 D.length n m):=rfl;have l3:D4 G3 3 (pV (h.length+1) 0)=A4 (.a (D7 D.length n m)):=C7 (by rw [hG3,K9];rfl) rfl;have wl:(encI was).length=11:=by rw [B7,hwl]
  have il:(encI ([1,1,szV D n ino,0]++zI 7)).length=11:=rfl;obtain ⟨G4,hG4⟩:∃ G4,G4=h++[rT cs,rT (D7 D.length n m),rT Z8,rT (encI was)]:=⟨_,rfl⟩;have lG3:G3.length=h.length+3:=by rw [hG3];simp
  have lG4:G4.length=h.length+4:=by rw [hG4];simp
  have s4:E5 (G3++[rT (encI (zI 11))]) 11 (pV (h.length+3) 0) (.a (encI was))=A4 G4:=by
   rw [<-lG3,storeAll (by rw [E9];rfl) (by rfl) wl,S3,hG3,hG4];simp
  have s5:E5 (G4++[rT (encI (zI 11))]) 11 (pV (h.length+4) 0) (.a (encI ([1,1,szV D n ino,0]++zI 7)))=A4 G5:=by
   rw [<-lG4,storeAll (by rw [E9];rfl) (by rfl) il,S3,hG4,hG5];simp
  have eS:was.getD 2 0=szV D n ino:=by rw [ew];rfl
  have w4:B8 G4 (pV (h.length+3) 2)=A4 (iV (szV D n ino)):=by
   have:=gB (h:=G4) (id:=h.length+3) (x:=was) (by rw [hG4,K9];rfl) (k:=2) (by omega);rw [eS] at this;exact this
  have w5:B8 G5 (pV (h.length+3) 2)=A4 (iV (szV D n ino)):=by
   have:=gB (h:=G5) (id:=h.length+3) (x:=was) (by rw [hG5,K9];rfl) (k:=2) (by omega);rw [eS] at this;exact this
  have ef:E6 (encI (zI 11)) [(0,1,iV 1),(1,1,iV 1),(2,1,iV (szV D n ino))]=A4 (encI ([1,1,szV D n ino,0]++zI 7)):=rfl;have hBk:=C39 (x:=szV D n ino) (h:=G5);have eBk:(if szV D n ino<1 then (0:Int) else if 34304<szV D n ino then 134 else (szV D n ino+255)/256)=many:=by rw [em];rfl
  rw [eBk] at hBk;have c00:((0:Nat):Int)=0:=rfl;rw [c00] at f1;have start:A3s 200 [.a cs,v,.a (D7 D.length n m),iV ino] h=A1l 200 (M1+1) v (iV ino) (pV h.length 0) (pV (h.length+1) 0) (pV (h.length+2) 0) (pV (h.length+3) 0) (pV (h.length+4) 0) (iV many) (iV (min many 6)) H1:=by
   rw [C42,z11,A5S];generalize encI (zI 11)=Z at *;generalize encI ([1,1,szV D n ino,0]++zI 7)=I0 at *;generalize encI was=W at *;generalize hLL:D7 D.length n m=L at *;generalize Z8=E8 at *;simp only [cl1,cl2,M9,E5Y,E6q,E59,E5T,E52,E6h,E6e,Nat.reduceAdd,<-hG3];simp only [esc,l3,hI,lG3,s4,w4,ef,lG4,s5,w5,hBk];exact f1
  rw [start,A86];by_cases c6:6<many
  ·have em6:min many 6=6:=by omega
   have c66:¬ (6:Int)<6:=by decide
   have cgt:many > 6:=c6;obtain ⟨cs2,K2,H2,H3,a1,a2,a3,a4,a5,a6,a7,a8,a9⟩:=D9i (m:=m) (no:=(drV D n ino).getD 6 0) f2 (by omega) f4 f5 f4.length f3 n0 f10 hl;have l4:D4 H1 8 (pV h.length 0)=A4 (.a cs1):=C7 f5 f4.length;have l6:D4 H1 3 (pV (h.length+1) 0)=A4 (.a (D7 D.length n m)):=C7 f6 rfl;have e10:was.getD 10 0=(drV D n ino).getD 6 0:=by rw [ew];rfl
   have lw:B8 H1 (pV (h.length+3) 10)=A4 (iV ((drV D n ino).getD 6 0)):=by rw [gB f8 (by omega),e10]
   have q10:rd H3 (h.length+4)=rT (encI ([1,1,szV D n ino,0]++s.2)):=by rw [a9 _ (C8 f9) (by omega)];exact f9
   have es':(encI ([1,1,szV D n ino,0]++s.2)).set 10 (.i .i64 (U7 D n s.1 ((drV D n ino).getD 6 0)))=encI ([1,1,szV D n ino,0]++s.2.set 6 (U7 D n s.1 ((drV D n ino).getD 6 0))):=by
    rw [X5];rfl
   obtain ⟨H4,hH4⟩:∃ H4,H4=H3.set (h.length+4) (rT (encI ([1,1,szV D n ino,0]++s.2.set 6 (U7 D n s.1 ((drV D n ino).getD 6 0))))):=⟨_,rfl⟩;have s10:I5 H3 (pV (h.length+4) 10) (iV (U7 D n s.1 ((drV D n ino).getD 6 0)))=A4 H4:=by
    rw [G8 q10 (by rw [B7];simp [hs2]),es',hH4]
   have o4:∀ j,j≠h.length+4->rd H4 j=rd H3 j:=λj hj=>by rw [hH4,B6 (Ne.symm hj)]
   obtain ⟨cs',H',j1,j2,j3⟩:=fin H4 cs2 (eU D n s.1 ((drV D n ino).getD 6 0),s.2.set 6 (U7 D n s.1 ((drV D n ino).getD 6 0))) (by unfold B8n;rw [if_pos c6]) (hs.1.trans (rS ..)) (by simpa using hs2) (by rw [iP];exact f10) (by rw [hH4];exact a5.set (by omega) _) (by rw [hH4];simp;omega) (by rw [hH4];exact a6.set (.inr n4)) (by rw [o4 _ (by omega)];exact a7) (by rw [o4 _ (by omega),a9 _ (C8 f6) (by omega)];exact f6) (by rw [o4 _ (by omega),a9 _ (C8 f7) (by omega)];exact f7) (by rw [hH4];exact C6 (C8 q10));refine ⟨cs',H',?_,j2,j3⟩;rw [em6,A5S];simp only [esc,c66,cgt,l4,l6,lw,a1,a2,a3,a4,s10];exact j1
  ·have em6:min many 6=many:=by omega
   have cgt:¬ many > 6:=c6;obtain ⟨cs',H',j1,j2,j3⟩:=fin H1 cs1 s (by unfold B8n;rw [if_neg c6]) hs.1 hs2 f10 f2 (by omega) f4 f5 f6 f7 f9;refine ⟨cs',H',?_,j2,j3⟩;rw [em6];by_cases c66:many<6
   ·simp only [esc,c66,Int.lt_irrefl,cgt];exact j1
   ·simp only [esc,c66,cgt];exact j1
 obtain ⟨cs',H',e1,e2,e3⟩:=key;exact ⟨cs',H',C5H e1,e2,e3⟩
end
def B4t {D:Dev} {X:List Int} {s u:List Spt}:I7 D X (s++u)=I7 D X s++I7 D X u:=by
 unfold I7;rw [List.filter_append,E6N]
def D3X {D:Dev} {X:List Int} {e:Spt} {u:List Spt}:I7 D X (e::u)=(if atH D X e=A5 then [e.2.2.1] else [])++I7 D X u:=by
 rw [show e::u=[e]++u from rfl,B4t]
 congr 1
 unfold I7;by_cases c:atH D X e=A5<;>simp [c]
def D59 {t:List Int}:∀ {k:Nat},∀ no∈M7 t k,no≠0
 | 0,no,h=>by simp [M7] at h
 | k+1,no,h=>by
  rw [A1D] at h;rcases List.mem_append.1 h with h | h
  ·exact D59 no h
  ·by_cases c:zT t k=A5
   ·rw [if_pos c] at h;simp at h;subst h;unfold zT at c;simp at c;exact c.1
   ·rw [if_neg c] at h;simp at h
section
variable {D:Dev} {n m:Int} {g:B5} {v:Val}
def E4n {d:Int} {t L:List Int} {x3 x4 x6 x8 x12:Val} {x11 bid q M0:Nat} {i:Nat} (hv:Has g v 256 D.length (D5 D)) (hD:okD D) (hX:rd g x11=rT (encI (d::t))) (ht:t.length=32) (h5:d<=5) (hL:rd g bid=rT (encI L)) (hi:i<L.length) (hLl:L.length<=32) (cU:L[i]≠0) :
  ∀ (e k M:Nat) (S:W8) (nid:Nat) (H:B5),k+e=7->e<M->Grows g H->g.length<=nid->rd H nid=rT (encS S)->S.length+e<=10000 ->
  ∃ nid' H',B4c q M0 M v x3 x4 x6 x8 (pV x11 0) x12 (sV bid 0 L.length 1) (sV nid 0 S.length 1) (iV (i:Int)) (iV (k:Int)) H =
    yX q M0 v x3 x4 x6 x8 (pV x11 0) x12 (sV bid 0 L.length 1) (sV nid' 0 (S++I7 D (d::t) ((N9 (blk D L[i]) e k).map λs=>(L[i],s))).length 1) (iV ((i+1:Nat):Int)) H' /\
   Grows g H'/\g.length<=nid'/\rd H' nid'=rT (encS (S++I7 D (d::t) ((N9 (blk D L[i]) e k).map λs=>(L[i],s)))):=by
 intro e
 induction e with
 | zero =>
  intro k M S nid H hk hM G hn hr hS;obtain ⟨M,rfl⟩:∃ M',M=M'+1:=⟨M-1,by omega⟩;have c0:¬ (k:Int)<7:=by omega
  have w1:=D3 (show i+1<9223372036854775808 by omega);have e1:S++I7 D (d::t) ((N9 (blk D L[i]) 0 k).map λs=>(L[i],s))=S:=by simp [N9,I7]
  rw [e1];refine ⟨nid,H,?_,G,hn,hr⟩;rw [oG];simp only [esc,c0,w1]
 | succ e ih =>
  intro k M S nid H hk hM G hn hr hS;obtain ⟨M,rfl⟩:∃ M',M=M'+1:=⟨M-1,by omega⟩;have k7:k<7:=by omega
  have c0:(k:Int)<7:=by omega
  have w1:=D3 (show k+1<9223372036854775808 by omega);have rL:=G.rd hL;have aL:D9 1 (sV bid 0 L.length 1) (iV (i:Int))=A4 (pV bid i):=by rw [C9 hi];simp
  have lL:∀ K:B5,rd K bid=rT (encI L)->B8 K (pV bid i)=A4 (iV L[i]):=λK hK=>B9 hK (by rw [I1,E5P hi];rfl) rfl
  obtain ⟨u,t1,b1,b2,b3,_⟩:=A1L (no:=L[i]) (hv.grows G) hD;obtain ⟨K,hK⟩:∃ K,K=H++t1:=⟨_,rfl⟩;rw [<-hK] at b1 b3;have GK:Grows H K:=by rw [hK];exact U2 Grows.rfl' b2
  have hRd:=zD (k:=k) b3 (O9 hD) k7;have el2:(X1 (S7 (blk D L[i]) k)).length=2:=by cases S7 (blk D L[i]) k<;>rfl
  obtain ⟨K2,hK2⟩:∃ K2,K2=K++[rT (X1 (S7 (blk D L[i]) k))]:=⟨_,rfl⟩;have s2:E5 (K++[rT [Cell.s [],o0]]) 2 (pV K.length 0) (.a (X1 (S7 (blk D L[i]) k)))=A4 K2:=by
   rw [storeAll (n:=2) (cs:=[Cell.s [],o0]) (by rw [E9];rfl) rfl el2,S3,hK2];rfl
  have G2:Grows H K2:=by rw [hK2];exact GK.new _
  have lX:D4 K2 33 (pV x11 0)=A4 (.a (encI (d::t))):=C7 (G2.rd (G.rd hX)) (by rw [B7];simp [ht]);obtain ⟨nm,enm⟩:∃ nm,nm=((S7 (blk D L[i]) k).map (·.1)).getD []:=⟨_,rfl⟩;have lnm:B8 K2 (pV K.length 0)=A4 (.c (.s nm)):=by
   refine B9 (cs:=X1 (S7 (blk D L[i]) k)) (rw:=A5) (by rw [hK2,E9];rfl) ?_ rfl;rw [enm];cases S7 (blk D L[i]) k<;>rfl
  have hnl:nm.length<=24:=by
   rw [enm];cases hr2:S7 (blk D L[i]) k with
   | none=>simp
   | some x=>exact A1M hr2
  have hAt:=D5B (h:=K2) (d:=d) (t:=t) (nm:=nm) (hv.grows (G.trans' G2)) hD ht h5 (by omega);have lL2:=lL K2 (G2.rd rL);cases hr2:S7 (blk D L[i]) k with
  | none =>
   rw [zB hr2];rw [hr2] at hRd s2;obtain ⟨nid',H',f1,f2⟩:=ih (k+1) M S nid K2 (by omega) (by omega) (G.trans' G2) hn (G2.rd hr) (by omega);generalize S++I7 D (d::t) ((N9 (blk D L[i]) e (k+1)).map λs=>(L[i],s))=TT at f1 f2 ⊢;refine ⟨nid',H',?_,f2⟩;rw [oG];generalize encI (d::t)=X at *;generalize R8 (d::t) nm=hb at *;generalize B5Y D (d::t) nm=sl at *;generalize (hmS D (d::t) nm).isSome=hm at *;simp only [esc,c0,aL,lL H rL,b1,hRd,E6i,s2,lX,lnm,hAt,fT,w1];exact f1
  | some x =>
   obtain ⟨s,ii⟩:=x;rw [zC hr2,E6X,D3X];have es:nm=s:=by rw [enm,hr2];rfl
   have C0W:=D8t (X:=d::t) cU hr2;rw [es] at lnm hAt;rw [hr2] at hRd s2;by_cases ha:atH D (d::t) (L[i],(k,(s,ii)))=A5
   ·rw [if_pos ha];rw [ha] at C0W;simp only [E5S,decide_eq_true_eq] at C0W;obtain ⟨⟨g1,g2⟩,g3⟩:=C0W;have E4X:rd K2 nid=rT (encS S):=G2.rd hr;have op:=one_app (ys:=[Cell.s s]) E4X (n:=S.length) (sz:=1) (by rw [N8];omega) rfl (by omega) (by omega);obtain ⟨K3,hK3⟩:∃ K3,K3=(K2++[rT [Cell.s s]]).set nid A7++[rT (encS S++[Cell.s s])]:=⟨_,rfl⟩;rw [<-hK3] at op;have G3:Grows g K3:=by rw [hK3];exact (A8g ((G.trans' G2).new _) hn).new _
    have r3:rd K3 (K2.length+1)=rT (encS (S++[s])):=by
     have:rd K3 ((K2++[rT [Cell.s s]]).set nid A7).length=rT (encS S++[Cell.s s]):=by rw [hK3];exact U5
     rw [E6o,E5T] at this;rw [show encS (S++[s])=encS S++[Cell.s s] by simp [encS]];exact this
    have ls:(S++[s]).length=S.length+1:=by simp
    have eT:S++([s]++I7 D (d::t) ((N9 (blk D L[i]) e (k+1)).map λs=>(L[i],s)))=(S++[s])++I7 D (d::t) ((N9 (blk D L[i]) e (k+1)).map λs=>(L[i],s)):=by simp
    have es1:(L[i],((k,(s,ii)):Slt)).2.2.1=s:=rfl;rw [es1,eT]
    ·obtain ⟨nid',H',f1,f2⟩:=ih (k+1) M (S++[s]) (K2.length+1) K3 (by omega) (by omega) G3 (by have:=(G.trans' G2).len;omega) r3 (by rw [ls];omega);generalize (S++[s])++I7 D (d::t) ((N9 (blk D L[i]) e (k+1)).map λs=>(L[i],s))=TT at f1 f2 ⊢;rw [ls] at f1;refine ⟨nid',H',?_,f2⟩;have ef:E6 [Cell.s []] [(0,1,.c (.s s))]=A4 [.s s]:=rfl;rw [oG];generalize encI (d::t)=X at *;generalize R8 (d::t) s=hb at *;generalize B5Y D (d::t) s=sl at *;generalize (hmS D (d::t) s).isSome=hm at *;subst g1;simp only [esc,c0,aL,lL H rL,b1,hRd,E6b,s2,lX,lnm,hAt,lL2,g2,g3,ef,op,fT,w1,eq_self];exact f1
   ·rw [if_neg ha,E59];have ha:atH D (d::t) (L[i],(k,(s,ii)))=A6:=by simpa using ha
    rw [ha] at C0W;obtain ⟨nid',H',f1,f2⟩:=ih (k+1) M S nid K2 (by omega) (by omega) (G.trans' G2) hn (G2.rd hr) (by omega);generalize S++I7 D (d::t) ((N9 (blk D L[i]) e (k+1)).map λs=>(L[i],s))=TT at f1 f2 ⊢;refine ⟨nid',H',?_,f2⟩;rw [oG];generalize encI (d::t)=X at *;generalize R8 (d::t) s=hb at *;generalize B5Y D (d::t) s=sl at *;generalize (hmS D (d::t) s).isSome=hm at *;cases hm with
    | false =>
     simp only [esc,c0,aL,lL H rL,b1,hRd,E6b,s2,lX,lnm,hAt,fT,w1];exact f1
    | true =>
     by_cases c1:hb=L[i]
     ·by_cases c2:sl=(k:Int)
      ·simp [c1,c2] at C0W
      ·simp only [esc,c0,aL,lL H rL,b1,hRd,E6b,s2,lX,lnm,hAt,lL2,c1,c2,fT,w1,eq_self];exact f1
     ·simp only [esc,c0,aL,lL H rL,b1,hRd,E6b,s2,lX,lnm,hAt,lL2,c1,fT,w1];exact f1
end
section
variable {D:Dev} {n m:Int} {g:B5} {v:Val}
def E4m {d:Int} {t L:List Int} {x3 x4 x6 x8 x12:Val} {x11 bid q:Nat} (hv:Has g v 256 D.length (D5 D)) (hD:okD D) (hX:rd g x11=rT (encI (d::t))) (ht:t.length=32) (h5:d<=5) (hL:rd g bid=rT (encI L)) (hLl:L.length<=32) (cU:∀ no∈L,no≠0) (hq:8<=q) :
  ∀ (e i M:Nat) (S:W8) (nid:Nat) (H:B5),i+e=L.length->e<M->Grows g H->g.length<=nid->rd H nid=rT (encS S)->S.length+7*e<=1000 ->
  ∃ nid' H' M',yX q M v x3 x4 x6 x8 (pV x11 0) x12 (sV bid 0 L.length 1) (sV nid 0 S.length 1) (iV (i:Int)) H =
    yX q (M'+1) v x3 x4 x6 x8 (pV x11 0) x12 (sV bid 0 L.length 1) (sV nid' 0 (S++I7 D (d::t) (wY D (L.drop i))).length 1) (iV (L.length:Nat)) H' /\
   Grows g H'/\g.length<=nid'/\rd H' nid'=rT (encS (S++I7 D (d::t) (wY D (L.drop i)))):=by
 intro e
 induction e with
 | zero =>
  intro i M S nid H hi hM G hn hr hS;obtain ⟨M,rfl⟩:∃ M',M=M'+1:=⟨M-1,by omega⟩;have ei:i=L.length:=by omega
  subst ei;have e1:S++I7 D (d::t) (wY D (L.drop L.length))=S:=by rw [List.drop_length];simp [wY,I7]
  rw [e1];exact ⟨nid,H,M,rfl,G,hn,hr⟩
 | succ e ih =>
  intro i M S nid H hi hM G hn hr hS;obtain ⟨M,rfl⟩:∃ M',M=M'+1:=⟨M-1,by omega⟩;have P6:i<L.length:=by omega
  have c0:(i:Int)<(L.length:Nat):=by omega
  obtain ⟨nid1,H1,f1,f2,f3,f4⟩:=E4n (x3:=x3) (x4:=x4) (x6:=x6) (x8:=x8) (x12:=x12) (q:=q) (M0:=M) hv hD hX ht h5 hL P6 hLl (cU _ (E6v P6)) 7 0 q S nid H (by omega) (by omega) G hn hr (by omega);have eX:N9 (blk D L[i]) 7 0=O6 (blk D L[i]):=rfl;rw [eX] at f1 f4;have h7:=eY (blk D L[i]);have dF:(S++I7 D (d::t) ((O6 (blk D L[i])).map λs=>(L[i],s))).length<=S.length+7:=by
   have:=A6A (D:=D) (X:=d::t) (s:=(O6 (blk D L[i])).map λs=>(L[i],s));rw [List.length_map] at this;rw [E5T];omega
  obtain ⟨nid',H',M',k1,k2⟩:=ih (i+1) M _ nid1 H1 (by omega) (by omega) f2 f3 f4 (by omega);have eA:S++I7 D (d::t) (wY D (L.drop i))=(S++I7 D (d::t) ((O6 (blk D L[i])).map λs=>(L[i],s)))++I7 D (d::t) (wY D (L.drop (i+1))):=by
   rw [E5X P6,C0B,B4t,E5Y]
  rw [eA];refine ⟨nid',H',M',?_,k2⟩;have c00:((0:Nat):Int)=0:=rfl;rw [c00] at f1;generalize (S++I7 D (d::t) ((O6 (blk D L[i])).map λs=>(L[i],s)))++I7 D (d::t) (wY D (L.drop (i+1)))=TT at k1 ⊢;generalize S++I7 D (d::t) ((O6 (blk D L[i])).map λs=>(L[i],s))=TU at k1 f1;rw [A6m];simp only [esc,c0];exact f1.trans k1
structure KeptR (D:Dev) (X:List Int) (K:List UInt8->Option Int) (l:W8):Prop where
 mem:∀ s,s∈l↔(K s).isSome=A5
 val:∀ s a,K s=A4 a->a=B1V D X s
def D9c {X:List Int} {L:List Int} {s:List UInt8} (hs:s∈gX (I7 D X (wY D L))):∃ no x,no∈L/\x∈O6 (blk D no)/\R8 X s=no/\hmS D X s=A4 x/\x.2.1=s:=by
 rw [B3a] at hs;unfold I7 at hs;obtain ⟨e,he,rfl⟩:=List.mem_map.1 hs;obtain ⟨he1,he2⟩:=List.mem_filter.1 he;unfold wY at he1;obtain ⟨no,cU,he3⟩:=List.mem_flatMap.1 he1;obtain ⟨x,hx,rfl⟩:=List.mem_map.1 he3;unfold atH at he2;simp only [E5S,decide_eq_true_eq] at he2;exact ⟨no,x,cU,hx,he2.1,he2.2,rfl⟩
def E4o {lo:Nat} {P:Nat->Prop} {h:B5} {d ino:Int} {t L:List Int} {x4:Val} {x6 x8 x11 x12 bid sid q:Nat} {r8:List Cell} (hv:Has h v 256 D.length (D5 D)) (hD:okD D) (ht:t.length=32) (h5:d<=5) (cU:∀ no∈L,no≠0) (hn:n<=128)
  (e6:h.length<=x6) (n1:x6≠x8) (n2:x6≠x11) (n3:x6≠x12) (n4:x6≠bid) (n5:x6≠sid) {S:W8} (hS:S=gX (I7 D (d::t) (wY D L))) (hSl:S.length<=300) :
  ∀ (e i M B:Nat) (s:Cl × (List UInt8->Option Int)) (cs:List Cell) (kl:W8) (kid:Nat) (Q:Nat->Prop) (H:B5),i+e=S.length->e<M->Grows h H->IsRC n Q H cs s.1->¬ Q x6->¬ Q kid->(∀ id,Q id->P id\/lo<=id)->lo<=H.length->(∀ id,Q id->id<H.length)->RowW n s.1->s.1.row.length+e<=1000->BndL s.1 B->B+e<=900000 ->
   rd H x6=rT cs->rd H x8=rT (D7 D.length n m)->rd H x11=rT (encI (d::t))->rd H x12=rT r8->rd H bid=rT (encI L)->rd H sid=rT (encS S)->rd H kid=rT (encS kl)->h.length<=kid->kid≠x6->kid≠x8->kid≠x11->kid≠x12->kid≠bid->kid≠sid->kl.length<=i->KeptR D (d::t) s.2 kl ->
  ∃ cs' kl' kid' Q' H' M',A5e q M v (iV ino) x4 (pV x6 0) (pV x8 0) (pV x11 0) (pV x12 0) (sV bid 0 L.length 1) (sV sid 0 S.length 1) (sV kid 0 kl.length 1) (iV (i:Int)) H =
    A5e q (M'+1) v (iV ino) x4 (pV x6 0) (pV x8 0) (pV x11 0) (pV x12 0) (sV bid 0 L.length 1) (sV sid 0 S.length 1) (sV kid' 0 kl'.length 1) (iV (S.length:Nat)) H' /\
   Grows h H'/\IsRC n Q' H' cs' (bC D n ino s ((S.drop i).map λx=>(x,B1V D (d::t) x))).1/\¬ Q' x6/\¬ Q' kid'/\(∀ id,Q' id->P id\/lo<=id)/\lo<=H'.length/\(∀ id,Q' id->id<H'.length) /\
   rd H' x6=rT cs'/\rd H' x11=rT (encI (d::t))/\rd H' x12=rT r8/\rd H' bid=rT (encI L)/\rd H' kid'=rT (encS kl')/\kid'≠x6/\kid'≠x11/\kid'≠x12/\kid'≠bid/\kl'.length<=300/\KeptR D (d::t) (bC D n ino s ((S.drop i).map λx=>(x,B1V D (d::t) x))).2 kl':=by
 intro e
 induction e with
 | zero =>
  intro i M B s cs kl kid Q H hi hM G K nq6 nqk toP hlo low hR hr hB hB2 r6 r8' r11 r12 rb rs rk hk0 k1 k2 k3 k4 k5 k6 hkl KR;obtain ⟨M,rfl⟩:∃ M',M=M'+1:=⟨M-1,by omega⟩;have ei:i=S.length:=by omega
  subst ei;rw [List.drop_length];exact ⟨cs,kl,kid,Q,H,M,rfl,G,K,nq6,nqk,toP,hlo,low,r6,r11,r12,rb,rk,k1,k3,k4,k5,by omega,KR⟩
 | succ e ih =>
  intro i M B s cs kl kid Q H hi hM G K nq6 nqk toP hlo low hR hr hB hB2 r6 r8' r11 r12 rb rs rk hk0 k1 k2 k3 k4 k5 k6 hkl KR;obtain ⟨M,rfl⟩:∃ M',M=M'+1:=⟨M-1,by omega⟩;have P6:i<S.length:=by omega
  have c0:(i:Int)<(S.length:Nat):=by omega
  have w1:=D3 (show i+1<9223372036854775808 by omega);obtain ⟨no,x,E48,hx,hh1,hh2,hh3⟩:=D9c (D:=D) (X:=d::t) (L:=L) (s:=S[i]) (by rw [<-hS];exact E6v P6);obtain ⟨hx1,hx2⟩:=B22 hx;have hnl:(S[i]).length<=24:=by rw [<-hh3];exact A1M hx1
  have no0:no≠0:=cU no E48;have hvH:=hv.grows G;have hAt:=D5B (h:=H) (d:=d) (t:=t) (nm:=S[i]) hvH hD ht h5 (by omega);have eSl:B5Y D (d::t) S[i]=(x.1:Int):=by
   have E0Z:=hh2;unfold hmS at E0Z;unfold B5Y;rw [hh1] at E0Z ⊢;rw [if_neg no0] at E0Z ⊢;rw [E0Z];rfl
  have eHn:B1V D (d::t) S[i]=x.2.2:=by unfold B1V;rw [hh2];rfl
  rw [hh1,eSl,hh2] at hAt;have lX:D4 H 33 (pV x11 0)=A4 (.a (encI (d::t))):=C7 r11 (by rw [B7];simp [ht]);have aS:∀ (K:B5),rd K sid=rT (encS S)->B8 K (pV sid i)=A4 (.c (.s S[i])):=λK hK=>B9 hK (by simp [encS,P6]) rfl
  have adS:D9 1 (sV sid 0 S.length 1) (iV (i:Int))=A4 (pV sid i):=by rw [C9 P6];simp
  obtain ⟨u,t1,b1,b2,b3,_⟩:=A1L (no:=no) hvH hD;obtain ⟨K1,hK1⟩:∃ K1,K1=H++t1:=⟨_,rfl⟩;rw [<-hK1] at b1 b3;have GK1:Grows H K1:=by rw [hK1];exact U2 Grows.rfl' b2
  have hRd:=zD (k:=x.1) b3 (O9 hD) hx2;rw [hx1] at hRd;obtain ⟨K2,hK2⟩:∃ K2,K2=K1++[rT (X1 (A4 x.2))]:=⟨_,rfl⟩;have s2:E5 (K1++[rT [Cell.s [],o0]]) 2 (pV K1.length 0) (.a (X1 (A4 x.2)))=A4 K2:=by
   rw [storeAll (n:=2) (cs:=[Cell.s [],o0]) (by rw [E9];rfl) rfl rfl,S3,hK2];rfl
  have G2:Grows H K2:=by rw [hK2];exact GK1.new _
  have E5G:=GK1.len;have lK2:K2.length=K1.length+1:=by rw [hK2];simp
  have l6:D4 K2 8 (pV x6 0)=A4 (.a cs):=C7 (G2.rd r6) K.length;have l8:D4 K2 3 (pV x8 0)=A4 (.a (D7 D.length n m)):=C7 (G2.rd r8') rfl;have le:B8 K2 (pV K1.length 1)=A4 (iV x.2.2):=B9 (cs:=X1 (A4 x.2)) (rw:=A5) (by rw [hK2,E9];rfl) rfl rfl;obtain ⟨cs1,K3,t1',t2',t3'⟩:=D9Y (m:=m) (dir:=ino) (ino:=x.2.2) (hvH.grows G2) hD (K.grows G2) hR (by omega) (λa=>⟨(hB a).1,by have:=(hB a).2;omega⟩) hn;have E4L:=G2.len;have E5H:=t2'.len;obtain ⟨K4,hK4⟩:∃ K4,K4=K3++[rT cs1]:=⟨_,rfl⟩;have s4:E5 (K3++[rT Z8]) 8 (pV K3.length 0) (.a cs1)=A4 K4:=by
   rw [storeAll (n:=8) (cs:=Z8) (by rw [E9];rfl) rfl t3'.length,S3,hK4];rfl
  have l4:D4 K4 8 (pV K3.length 0)=A4 (.a cs1):=C7 (by rw [hK4,E9];rfl) t3'.length;have E4r:∀ {id r},rd H id=A4 r->rd K4 id=A4 r:=λhr=>by rw [hK4];exact C5 (t2'.rd (G2.rd hr))
  obtain ⟨K5,hK5⟩:∃ K5,K5=K4.set x6 (rT cs1):=⟨_,rfl⟩;have s5:E5 K4 8 (pV x6 0) (.a cs1)=A4 K5:=by rw [storeAll (n:=8) (E4r r6) K.length t3'.length,hK5]
  have lK4:K4.length=K3.length+1:=by rw [hK4];simp
  have lK5:K5.length=K3.length+1:=by rw [hK5];simp [lK4]
  have C1c:∀ {id r},rd H id=A4 r->id≠x6->rd K5 id=A4 r:=λhr T1=>by rw [hK5,B6 (Ne.symm T1)];exact E4r hr
  have G5:Grows h K5:=by rw [hK5,hK4];exact (((G.trans' G2).trans' t2').new _).set e6 _
  obtain ⟨Q1,hQ1⟩:∃ Q1:Nat->Prop,Q1=λid=>(Q id\/K2.length<=id)/\id<K3.length:=⟨_,rfl⟩
  have kr:=C8 rk;have x6l:=C8 r6;have nq16:¬ Q1 x6:=by rw [hQ1];intro hh;rcases hh.1 with hh | hh;exact nq6 hh;omega
  have nq1k:¬ Q1 kid:=by rw [hQ1];intro hh;rcases hh.1 with hh | hh;exact nqk hh;omega
  have Kr1:IsRC n Q1 K5 cs1 (dU D n s.1 ino x.2.2):=by
   rw [hK5,hK4];refine IsRC.set (.inr nq16) (IsRC.grows ((Grows.rfl').new _) ?_);rw [hQ1];exact t3'.low
  have E4s:∀ id,Q1 id->P id\/lo<=id:=λid hh=>by
   rw [hQ1] at hh;rcases hh.1 with hh | hh
   ·exact toP id hh
   ·exact .inr (by omega)
  have low1:∀ id,Q1 id->id<K5.length:=λid hh=>by rw [hQ1] at hh;have:=hh.2;omega
  have q6:rd K5 x6=rT cs1:=by rw [hK5];exact C6 (by omega)
  have ed:bC D n ino s ((S.drop i).map λx=>(x,B1V D (d::t) x))=bC D n ino (aK D n ino s (S[i],x.2.2)) ((S.drop (i+1)).map λx=>(x,B1V D (d::t) x)):=by
   rw [E5X P6,E6X,eHn];rfl
  rw [ed];obtain ⟨_,fB,fr⟩:=A4g (D:=D) (n:=n) (ino:=ino) (e:=(S[i],x.2.2)) hB;have fR:RowW n (aK D n ino s (S[i],x.2.2)).1:=C1b (L:=[(S[i],x.2.2)]) hR;cases hb:jF D n s.1 x.2.2 with
  | false =>
   rw [hb] at t1';have e1:aK D n ino s (S[i],x.2.2)=s:=by unfold aK;rw [hb];rfl
   have e2:dU D n s.1 ino x.2.2=s.1:=by unfold dU;rw [hb];rfl
   rw [e2] at Kr1;rw [e1];obtain ⟨cs',kl',kid',Q',H',M',f1,f2⟩:=ih (i+1) M B s cs1 kl kid Q1 K5 (by omega) (by omega) G5 Kr1 nq16 nq1k E4s (by omega) low1 hR (by omega) hB (by omega) q6 (C1c r8' (Ne.symm n1)) (C1c r11 (Ne.symm n2)) (C1c r12 (Ne.symm n3)) (C1c rb (Ne.symm n4)) (C1c rs (Ne.symm n5)) (C1c rk k1) hk0 k1 k2 k3 k4 k5 k6 (by omega) KR;refine ⟨cs',kl',kid',Q',H',M',?_,f2⟩;rw [xK,A5S];simp only [esc,c0,lX,adS,aS H rs,hAt,b1,hRd,s2,l6,l8,le,t1',s4,l4,s5,A6l,w1];exact f1
  | true =>
   rw [hb] at t1';have e1:aK D n ino s (S[i],x.2.2)=(dU D n s.1 ino x.2.2,C9H s.2 S[i] x.2.2):=by unfold aK;rw [hb];rfl
   rw [e1] at fB fr fR ⊢;have q5k:=C1c rk k1;have op:=one_app (ys:=[Cell.s S[i]]) q5k (n:=kl.length) (sz:=1) (by rw [N8];omega) rfl (by omega) (by omega);obtain ⟨K6,hK6⟩:∃ K6,K6=(K5++[rT [Cell.s S[i]]]).set kid A7++[rT (encS kl++[Cell.s S[i]])]:=⟨_,rfl⟩;rw [<-hK6] at op;have G6:Grows h K6:=by rw [hK6];exact (A8g (G5.new _) hk0).new _
   have lK6:K6.length=K5.length+2:=by rw [hK6];simp
   have D78:∀ {id r},rd K5 id=A4 r->id≠kid->rd K6 id=A4 r:=λhr T1=>by
    rw [hK6];refine C5 ?_;rw [B6 (Ne.symm T1)];exact C5 hr
   have q6k:rd K6 (K5.length+1)=rT (encS (kl++[S[i]])):=by
    have:rd K6 ((K5++[rT [Cell.s S[i]]]).set kid A7).length=rT (encS kl++[Cell.s S[i]]):=by rw [hK6];exact U5
    rw [E6o,E5T] at this;rw [show encS (kl++[S[i]])=encS kl++[Cell.s S[i]] by simp [encS]];exact this
   have Kr2:IsRC n Q1 K6 cs1 (dU D n s.1 ino x.2.2):=by
    rw [hK6];exact IsRC.grows ((Grows.rfl').new _) (IsRC.set (.inr nq1k) (IsRC.grows ((Grows.rfl').new _) Kr1))
   have KR2:KeptR D (d::t) (C9H s.2 S[i] x.2.2) (kl++[S[i]]):=by
    refine ⟨λa=>?_,λa b hab=>?_⟩
    ·rw [List.mem_append];unfold C9H;by_cases ea:a=S[i]
     ·rw [if_pos ea];simp [ea]
     ·rw [if_neg ea];simp [ea,KR.mem a]
    ·unfold C9H at hab;by_cases ea:a=S[i]
     ·rw [if_pos ea] at hab;cases hab;rw [ea,eHn]
     ·rw [if_neg ea] at hab;exact KR.val a b hab
   have b11:=C8 r11;have b12:=C8 r12;have bb:=C8 rb;have bs:=C8 rs;have b8:=C8 r8';have lkl:(kl++[S[i]]).length=kl.length+1:=by simp
   obtain ⟨cs',kl',kid',Q',H',M',f1,f2⟩:=ih (i+1) M (B+1) (dU D n s.1 ino x.2.2,C9H s.2 S[i] x.2.2) cs1 (kl++[S[i]]) (K5.length+1) Q1 K6 (by omega) (by omega) G6 Kr2 nq16 (λhh=>by have:=low1 _ hh;omega) E4s (by omega) (λid hh=>by have:=low1 id hh;omega) fR (by omega) fB (by omega) (D78 q6 (Ne.symm k1)) (D78 (C1c r8' (Ne.symm n1)) (Ne.symm k2)) (D78 (C1c r11 (Ne.symm n2)) (Ne.symm k3)) (D78 (C1c r12 (Ne.symm n3)) (Ne.symm k4)) (D78 (C1c rb (Ne.symm n4)) (Ne.symm k5)) (D78 (C1c rs (Ne.symm n5)) (Ne.symm k6)) q6k (by have:=G5.len;omega) (by omega) (by omega) (by omega) (by omega) (by omega) (by omega) (by omega) KR2;rw [lkl] at f1;refine ⟨cs',kl',kid',Q',H',M',?_,f2⟩;have ef:E6 [Cell.s []] [(0,1,.c (.s S[i]))]=A4 [.s S[i]]:=rfl;rw [xK,A5S];simp only [esc,c0,lX,adS,aS H rs,aS K5 (C1c rs (Ne.symm n5)),hAt,b1,hRd,s2,l6,l8,le,t1',s4,l4,s5,ef,op,A6l,w1];exact f1
end
end Go.Proofs.YtbnkgnfhgbhblaaGreat
