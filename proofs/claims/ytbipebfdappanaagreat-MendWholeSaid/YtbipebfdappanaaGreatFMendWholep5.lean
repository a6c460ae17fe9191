/- What the proof of this claim leans on, part 5. -/
import Derived.Test.YtbipebfdappanaaGreatFMendWholep4
set_option linter.all false
set_option maxRecDepth 100000
open Go Go.Esc
noncomputable section
open List renaming length->l_,all_cons->E9p,all_eq_true->E8O,append_assoc->E8t,append_nil->E8C,cons_append->E89,drop_drop->E9D,drop_eq_getElem_cons->E8s,drop_left'->E9C,drop_of_length_le->E8x,drop_zero->E8y,ext_getElem?->E9z,foldl_cons->E9q,getD_eq_getElem?_getD->E8k,getElem?_append_left->E88,getElem?_append_right->E8L,getElem?_cons_succ->E8F,getElem?_cons_zero->E84,getElem?_eq_getElem->E8h,getElem?_eq_none->E8P,getElem?_eq_some_iff->E8p,getElem?_set->E9n,getElem?_set_ne->E9r,getElem_mem->E8M,length_append->E8o,length_cons->E8w,length_drop->E9u,length_nil->E8X,length_replicate->E8S,length_set->E80,length_take->E8Y,map_append->E9e,map_cons->E9c,mem_append->E8U,mem_append_left->E8W,mem_append_right->E8V,mem_cons->E8J,mem_cons_of_mem->E8q,mem_cons_self->E8u,mem_filter->E8Z,mem_iff_getElem?->E9g,mem_map->E8N,mem_of_getElem?->E8H,mem_singleton->E82,nil_append->E8I,prefix_refl->E9j,range->E8T,replicate->E8l,take_of_length_le->E8B,take_zero->E9i
open Bool renaming and_eq_true->E8j,true_and->E8K,false->A6,true->A5
open Int renaming eq_ofNat_of_zero_le->E9m,toNat_natCast->E8D
open IntKind renaming wrap->E8r
open Nat renaming add_zero->E9y,le_refl->E8m,le_trans->E83,zero_add->E8A
open Option renaming bind_some->E8z,isSome_none->E9o,isSome_some->E87,map_some->E85,none->A7,some->A4
open Option.some renaming injEq->E8n
open Go.Proofs.Tryz renaming prog->A8
namespace Go.Proofs.YtbipebfdappanaaGreat
variable {no n a d x ino many B l p:Int}{D O:Dev}{b s cur:List UInt8}{h h0 h' g:A9}{t X L:List Int}{c:Cl}{i k q j r mk sz:Nat}{es:V8}{cs:List Cell}{v:Val}
def C29{s:List Spt}:(Q0 D X s).length<=(l_ s):=by
 unfold Q0;rw [List.length_map];exact List.length_filter_le _ _
def D0w:yR D (no::L)=(J2 (blk D no)).map (λs=>(no,s))++yR D L:=by simp [yR]
section
variable {D:Dev} {n m:Int} {f:Cell} {g:A9} {r:Nat} {h:A9}
def D4S{lst q m0:Nat}{l:List Slt}{no:Int}{x18 x19 x20:Val}(hD:okD D)(hv:IsView g f D)(hw:VwR g r (vwC (l_ D) n m f))(ht:l_ t=32)(hl7:l_ l<=7)(hsl:∀ x∈l,x.2.1.length<=24)(hl5:l_ g+5<=lst) :
  ∀ (e j M:Nat) (s:List Spt) (id:Nat) (h:A9),j+e=l_ l->e<M->l_ s+e<=100000->NmS D (d::t) L g s id h->rd h lst=rT (rF l)->lst≠id ->
  ∃ cP h',bS q m0 M (pV r 0) (pV (l_ g) 0) (.c (.m (l_ g+2))) (sV id 0 (Q0 D (d::t) s).length 1) (iV no) x18 x19 x20 (sV lst 0 (l_ l) 3) (iV (l_ l:Nat)) (iV (j:Int)) h =
   bnd (N4 .add x20 (iV 1)) (λv=>bR q m0 (pV r 0) (pV (l_ g) 0) (.c (.m (l_ g+2))) (sV cP 0 (Q0 D (d::t) (s++(l.drop j).map λx=>(no,x))).length 1) x18 x19 v h')/\NmS D (d::t) L g (s++(l.drop j).map λx=>(no,x)) cP h'
 | e,j,0,s,id,h,_,hM,_,_,_,_=>by omega
 | 0,j,M+1,s,id,h,hj,hM,hn,S,hr,aZ=>by
  have c0:¬ ((j:Int)<(l_ l:Nat)):=by omega
  rw [E8x (by omega),List.map_nil,E8C];refine ⟨id,h,?_,S⟩;rw [kB];simp only [C7,G4,c0,decide_false,Y6]
 | e+1,j,M+1,s,id,h,hj,hM,hn,S,hr,aZ=>by
  have hjl:j<(l_ l):=by omega
  have mI:=C29 (D:=D) (X:=d::t) (s:=s);obtain ⟨id1,h1,e1,e2,e3,e4⟩:=E5S (q:=q) (m0:=m0) (M:=M) (no:=no) (x18:=x18) (x19:=x19) (x20:=x20) hD hv hw ht S (by omega) (hsl _ (E8M hjl)) hr (E8h hjl) hl5 aZ hl7;obtain ⟨cP,h',f1,f2⟩:=D4S (q:=q) (m0:=m0) (no:=no) (x18:=x18) (x19:=x19) (x20:=x20) hD hv hw ht hl7 hsl hl5 e (j+1) M (s++[(no,l[j])]) id1 h1 (by omega) (by omega) (by simp;omega) e2 e3 e4;rw [E8t,List.singleton_append] at f1 f2;rw [E8s hjl,E9c];exact ⟨cP,h',e1.trans f1,f2⟩
def D61(hD:okD D)(hv:IsView g f D)(hw:VwR g r (vwC (l_ D) n m f))(ht:l_ t=32)(hq:8<=q)(hL:l_ L<=32) :
  ∀ (e i M:Nat) (s:List Spt) (id:Nat) (h:A9),i+e=l_ L->e<M->l_ s<=7*i->NmS D (d::t) L g s id h ->
  ∃ M' cP h',bR q M (pV r 0) (pV (l_ g) 0) (.c (.m (l_ g+2))) (sV id 0 (Q0 D (d::t) s).length 1) (sV (l_ g+4) 0 (l_ L) 1) (iV (l_ L:Nat)) (iV (i:Int)) h =
   bR q (M'+1) (pV r 0) (pV (l_ g) 0) (.c (.m (l_ g+2))) (sV cP 0 (Q0 D (d::t) (s++yR D (L.drop i))).length 1) (sV (l_ g+4) 0 (l_ L) 1) (iV (l_ L:Nat)) (iV (l_ L:Nat)) h'/\NmS D (d::t) L g (s++yR D (L.drop i)) cP h'/\(s++yR D (L.drop i)).length<=7*(l_ L):=by
 intro e
 induction e with
 | zero =>
  intro i M s id h hi hM hn S;obtain ⟨M,rfl⟩:=X0 M (by omega);have ei:i=(l_ L):=by omega
  subst ei;rw [List.drop_length,show yR D []=[] from rfl,E8C];exact ⟨M,id,h,rfl,S,hn⟩
 | succ e ih =>
  intro i M s id h hi hM hn S;obtain ⟨M,rfl⟩:=X0 M (by omega);have K6:i<(l_ L):=by omega
  have c0:(i:Int)<(l_ L:Nat):=by omega
  have ad:F0 1 (sV (l_ g+4) 0 (l_ L) 1) (iV (i:Int))=A4 (pV (l_ g+4) i):=by rw [E4 K6];simp
  have l1:B9 h (pV (l_ g+4) i)=A4 (iV L[i]):=B8 S.rs (by rw [G6,E8h K6];rfl) rfl;have lV:=(hw.since S.low).load;have hB:=K8 (n:=n) (m:=m) (no:=L[i]) hD (hv.since S.low);obtain ⟨v,tt,b1,b2,b3⟩:=A2W (b:=blk D L[i]) (h:=h) (J6 hD);have hlen:=b2.len;have h7:=lO (blk D L[i]);have w1:=E2 (a:=i) (by omega);have hsl:∀ x∈J2 (blk D L[i]),x.2.1.length<=24:=λx hx=>by
   have:=B6a (A9X hx).1;exact this
  have main:∃ id1 h1,bS q M q (pV r 0) (pV (l_ g) 0) (.c (.m (l_ g+2))) (sV id 0 (Q0 D (d::t) s).length 1) (iV L[i]) (sV (l_ g+4) 0 (l_ L) 1) (iV (l_ L:Nat)) (iV (i:Int)) v (iV ((J2 (blk D L[i])).length:Nat)) (iV ((0:Nat):Int)) (h++tt) =
    bnd (N4 .add (iV (i:Int)) (iV 1)) (λv=>bR q M (pV r 0) (pV (l_ g) 0) (.c (.m (l_ g+2))) (sV id1 0 (Q0 D (d::t) (s++(J2 (blk D L[i])).map λx=>(L[i],x))).length 1) (sV (l_ g+4) 0 (l_ L) 1) (iV (l_ L:Nat)) v h1)/\NmS D (d::t) L g (s++(J2 (blk D L[i])).map λx=>(L[i],x)) id1 h1:=by
   rcases b3 with ⟨rfl,rfl,b3⟩ | ⟨rfl,rfl⟩
   ·rw [b3];refine ⟨id,h,?_,by simpa using S⟩;obtain ⟨q',rfl⟩:∃ q',q=q'+1:=⟨q-1,by omega⟩;have c00:¬ ((0:Nat):Int)<((([]:List Slt).length:Nat):Int):=by simp
    rw [kB,E8C,List.map_nil,E8C];simp only [C7,G4,c00,decide_false,Y6]
   ·have gS:=E1 S.rs;have idl:=E1 S.rl;obtain ⟨cP,h',f1,f2⟩:=D4S (lst:=l_ h) (q:=q) (m0:=M) (no:=L[i]) (x18:=sV (l_ g+4) 0 (l_ L) 1) (x19:=iV (l_ L:Nat)) (x20:=iV (i:Int)) (l:=J2 (blk D L[i])) hD hv hw ht h7 hsl (by omega) (J2 (blk D L[i])).length 0 q s id (h++[rT (rF (J2 (blk D L[i])))]) (by omega) (by omega) (by omega) (S.more _) (by simp) (by omega);rw [E8y] at f1 f2;exact ⟨cP,h',f1,f2⟩
  obtain ⟨id1,h1,m1,m2⟩:=main;obtain ⟨M',cP,h',f1,f2,f3⟩:=ih (i+1) M _ id1 h1 (by omega) (by omega) (by simp;omega) m2;rw [E8t,<-D0w,<-E8s K6] at f1 f2 f3;refine ⟨M',cP,h',?_,f2,f3⟩;rw [yZ];have e00:((0:Nat):Int)=0:=rfl;rw [e00] at m1;generalize vwC (l_ D) n m f=V at *;simp only [esc,c0,ad,l1,lV,hB,b1,hlen];simp only [L8,C7,w1] at m1;exact m1.trans f1
def E2g{F:List UInt8->Int}{B:A9}{b q mid sid:Nat}{S:sY}(hm:MapN es F S)(hb:b<=l_ B)(hs:rd B sid=rT (encS S))(h4:rd B mid=A4 (Q1 es))(h62:l_ S<1000000) :
  ∀ (e i M id:Nat) (h:A9),i+e=l_ S->e<M->Low b B h->id≠sid->id≠mid->b<=id->(∀ j r,j=sid\/j=mid->rd B j=A4 r->rd h j=A4 r)->rd h id=rT (K0 ((S.take i).map λs=>(s,F s)))->l_ B<=(l_ h) ->
   ∃ v' h',A3m q M (.c (.m mid)) (.c (.sl id 0 i 2)) (.c (.sl sid 0 (l_ S) 1)) (.c (cI (l_ S:Int))) (.c (cI (i:Int))) h=A4 (v',h')/\Out b h' v' 2 (l_ S) (K0 (S.map λs=>(s,F s)))
 | e,i,0,id,h,_,hm,_,_,_,_,_,_,_=>by omega
 | 0,i,M+1,id,h,hi,hm0,hlow,ns,n4,hbi,hk,hr,hl=>by
  have c0:¬ (i:Int)<(l_ S:Nat):=by omega
  have ei:i=(l_ S):=by omega
  subst ei;rw [zA];rw [List.take_length] at hr;refine ⟨.c (.sl id 0 (l_ S) 2),h,by simp only [C7,G4,c0,decide_false,Y6],by rw [iN];simp,id,rfl,hbi,hr⟩
 | e+1,i,M+1,id,h,hi,hm0,hlow,ns,n4,hbi,hk,hr,hl=>by
  have K6:i<(l_ S):=by omega
  have c0:(i:Int)<(l_ S:Nat):=by omega
  have ad:F0 1 (.c (.sl sid 0 (l_ S) 1)) (.c (cI (i:Int)))=A4 (.c (.p sid i)):=by rw [E4 K6];simp
  have l1:B9 h (.c (.p sid i))=A4 (.c (.s S[i])):=B8 (hk sid _ (.inl rfl) hs) (by rw [B4C,E8h K6];rfl) rfl;have lk:=D4I (s:=S[i]) (hk _ _ (.inr rfl) h4) hm (E8M K6);have ef:F6 [Cell.s [],o0] [(0,1,.c (.s S[i])),(1,1,.c (cI (F S[i])))]=A4 (W8 (A4 (S[i],F S[i]))):=rfl;have ef2:F6 [Cell.s [],o0] [(0,2,.a (W8 (A4 (S[i],F S[i]))))]=A4 (W8 (A4 (S[i],F S[i]))):=rfl;have el:((S.take i).map λs=>(s,F s)).length=i:=by simp;omega
  obtain ⟨h2,a1,a2,a3,a4⟩:=B5j (n:=i) (sz:=2) (ys:=W8 (A4 (S[i],F S[i]))) hr (by rw [iN,el]) rfl (by omega) (by omega);have et:K0 ((S.take i).map λs=>(s,F s))++W8 (A4 (S[i],F S[i]))=K0 ((S.take (i+1)).map λs=>(s,F s)):=by
   rw [List.take_add_one,E8h K6,E9e,K0];simp [K0]
  rw [et] at a2;have w1:=E2 (a:=i) (by omega);have E7B:=E1 a2;obtain ⟨v',h',f1,f2⟩:=E2g (q:=q) hm hb hs h4 h62 e (i+1) M (l_ h+1) h2 (by omega) (by omega) (hlow.trans (a4 _ hbi (by omega)))
   (λe1=>by have:=E1 hs;omega) (λe1=>by have:=E1 h4;omega) (by omega) (λj r hj hjr=>a3 _ _ (by rcases hj with rfl | rfl<;>omega) (hk j r hj hjr)) a2 (by omega)
  rw [zA];refine ⟨v',h',?_,f2⟩;simp only [C7,G4,c0,decide_true,X6,ad,l1,lk,ef,ef2,a1,L8,w1];exact f1
def E2c(hD:okD D)(hv:IsView h f D)(hr:VwR h r (vwC (l_ D) n m f))(ht:l_ t=32) :
  jV [.c (.p r 0),.a (encI (d::t))] h=A4 (.c (.sl (l_ h) 0 (S9 D (d::t) (J3 t (C6 d))).length 2),h++[rT (K0 (S9 D (d::t) (J3 t (C6 d))))]):=by
 have h33:(encI (d::t)).length=33:=by simp [C1,ht]
 have hLl:(J3 t (C6 d)).length<=32:=E83 (jL _ _) (T5 _);have key:∀ g,IsView g f D->VwR g r (vwC (l_ D) n m f)->∃ v g',uF 300 [.c (.p r 0),.a (encI (d::t))] g=A4 (v,g')/\Out (l_ g) g' v 2 (S9 D (d::t) (J3 t (C6 d))).length (K0 (S9 D (d::t) (J3 t (C6 d)))):=by
  intro g hv hw;have hB:=iP (d:=d) (t:=t) (h:=g++[rT (encI (d::t)),rT [],A4 (Q1 []),rT []]) ht;obtain ⟨L,hL⟩:=xEq (J3 t (C6 d));rw [<-hL] at hB hLl ⊢;obtain ⟨G,hG⟩:=xEq (g++[rT (encI (d::t)),rT [],A4 (Q1 []),rT [],rT (encI L)]);have S0:NmS D (d::t) L g [] (l_ g+3) G:=by
   rw [hG];exact ⟨(Low.refl (E8m _)).new _,by simp,⟨[],by simp,MapN.nil _⟩,by simp,by simp [Q0,encS],.inl rfl⟩
  obtain ⟨M',id,H,e1,S,hn⟩:=D61 (q:=300) hD hv hw ht (by omega) hLl (l_ L) 0 300 [] (l_ g+3) G (by omega) (by omega) (by simp) S0;rw [E8y,E8I] at e1 S hn;obtain ⟨N,hN⟩:=xEq (Q0 D (d::t) (yR D L));have mI:=C29 (D:=D) (X:=d::t) (s:=yR D L);have hrl:=S.rl;rw [<-hN] at e1 mI hrl;have hH:Has (H++[rT []]) (.c (.sl id 0 N.length 1)) 1 N.length (encS N):=Has.row (rw:=A5) (B6 hrl) (by rw [cO];omega) (C8l _);have hSo:=C0V hH (by omega);obtain ⟨es,r4,hm⟩:=S.rm;rw [<-hN] at hm;have hm2:MapN es (B4Q D (d::t)) (fY N):=⟨hm.1,λs hs=>hm.2 s ((fB _ _).1 hs)⟩;have hsl:=B1S N;have lh:(H++[rT []]).length=l_ H+1:=by simp
  rw [lh] at hSo;have W4:=E1 r4;have gl:=S.low.2.1;obtain ⟨v',g',o1,o2⟩:=E2g (F:=B4Q D (d::t)) (B:=H++[rT []]++[rT (encS (fY N))]) (b:=l_ g) (q:=300) (mid:=l_ g+2) (sid:=l_ H+1) (S:=fY N) hm2 (by simp;omega) (by rw [<-lh];exact N8) (B6 (B6 r4)) (by omega)
   (fY N).length 0 300 (l_ H) (H++[rT []]++[rT (encS (fY N))]) (by omega) (by omega) (Low.refl (by simp;omega)) (by omega) (by omega) (by omega) (λj r _ hj=>hj) (by simp [K0]) (E8m _)
  have eL:S9 D (d::t) L=(fY N).map λs=>(s,B4Q D (d::t) s):=by unfold S9;rw [<-hN]
  refine ⟨v',g',?_,by rw [eL,List.length_map];exact o2⟩;have c0:¬ ((l_ L:Nat):Int)<(l_ L:Nat):=by omega
  have l33:ldN (rT (encI (d::t))) 0 33=A4 (.a (encI (d::t))):=K9 h33;have n0:(Q0 D (d::t) ([]:List Spt)).length=0:=rfl;have e00:((0:Nat):Int)=0:=rfl;rw [n0,e00] at e1;rw [hG] at e1;rw [e00] at o1;rw [B2B];simp only [esc] at hB;rw [yZ 300 M'] at e1;simp only [esc,c0,hSo] at e1 o1;generalize encI (d::t)=X at *;simp only [esc,P7,H6,Nat.reduceAdd,l33,hB];refine e1.trans ?_;exact o1
 obtain ⟨v,g',e,ho⟩:=key (ro h) hv.ro hr.ro;exact B03 e (by simpa [G8] using ho) B1s
end
def B1D(b:List UInt8)(k:Nat)(x:Ent):Bool:=decide (slC (U3 b x.1)=slC (A4 (k,x)))
def C2W(b:List UInt8)(k:Nat)(cur:List UInt8):List UInt8:=match O3 b k with
 | some x=>bif B1D b k x then H7 cur (I1 k) (U0 x.1 x.2) else cur
 | none=>cur
def fixF(b:List UInt8):Nat->Nat->List UInt8->List UInt8
 | 0,_,cur=>cur
 | e+1,k,cur=>fixF b e (k+1) (C2W b k cur)
def B4G(b:List UInt8):List UInt8:=fixF b 7 0 hdB
def A33(hk:k<7)(hc:cur.length=256):(H7 cur (I1 k) (U0 s n)).length=256:=by
 rw [O6 (by rw [hc,U8];unfold I1;omega)];exact hc
def C4e(hk:k<7)(hc:cur.length=256):(C2W b k cur).length=256:=by
 unfold C2W;split
 ·rename_i x _;cases B1D b k x
  ·exact hc
  ·exact A33 hk hc
 ·exact hc
def C4d:∀ (e k:Nat) (cur:List UInt8),k+e<=7->cur.length=256->(fixF b e k cur).length=256
 | 0,_,_,_,hc=>hc
 | e+1,k,cur,h,hc=>C4d e (k+1) _ (by omega) (C4e (by omega) hc)
def C0l:(B4G b).length=256:=C4d 7 0 hdB (by omega) pF
def D9r(hk:k<7):B1F cur (I1 k:Nat) (U0 s n)=H7 cur (I1 k) (U0 s n):=by
 unfold B1F;have:I1 k<256:=by unfold I1;omega
 rw [C4 ⟨by omega,by omega⟩,E8D,E8B (by rw [U8];unfold I1;omega)]
def E5a{c:Int}{t:List UInt8}{m:Int}:aeq A6 [.i .i64,.s,.i .i64] (.a [cI a,.s s,cI m]) (.a [cI c,.s t,cI n])=A4 (bV (decide ([cI a,.s s,cI m]=[cI c,.s t,cI n]))):=by
 simp only [aeq];rw [C4 ⟨rfl,rfl⟩];simp
def E3h{o p:Option Slt}:aeq A6 [.i .i64,.s,.i .i64] (.a (slC o)) (.a (slC p))=A4 (bV (decide (slC o=slC p))):=by
 cases o<;>cases p<;>exact E5a
def E3M{rb ro:Nat}{B:A9}(hk:k<7)(hs:l_ s<=24)(hb:l_ b=256)(hc:cur.length=256)(hlow:Low (l_ B) B h)(hB:l_ B<=ro)
  (h1:rd h rb=rT (B4 b)) (h2:rd h ro=rT (B4 cur)) :
  ∃ h',xU [.a [cI (k:Int),.s s,cI n],pV rb 0,pV ro 0] h=A4 (bV A5,h')/\Low (l_ B) B h'/\(∀ id,id≠ro->id<l_ h->rd h' id=rd h id)/\(l_ h)<=(l_ h') /\
   rd h' ro=rT (B4 (bif B1D b k (s,n) then H7 cur (I1 k) (U0 s n) else cur)):=by
 have hbl:(B4 b).length=256:=by rw [B5,hb]
 have pE:(B4 cur).length=256:=by rw [B5,hc]
 have s1:=λt=>C8 (h:=h++t) (B6 h1) hbl
 have s2:=λt=>C8 (h:=h++t) (B6 h2) pE
 have hF:=λh=>yW (b:=b) (nm:=s) (h:=h) hb
 have hSl:=kF (o:=U3 b s);have hq:aeq A6 [.i .i64,.s,.i .i64] (.a (slC (U3 b s))) (.a [cI (k:Int),.s s,cI n])=A4 (bV (B1D b k (s,n))):=E3h (p:=A4 (k,(s,n)));have W4:=E1 h2;cases ck:B1D b k (s,n) with
 | false =>
  rw [ck] at hq;refine ⟨h++[rT [cI (k:Int),.s s,cI n],rT (slC (U3 b s))],A6E (n:=0) ?_,hlow.new _,λid hid hl=>D5 hl,by simp,B6 h2⟩;rw [A6w];generalize slC (U3 b s)=S at *;generalize B4 b=y at *;simp only [esc,esh,Nat.reduceAdd,Nat.reduceMul,Nat.reduceLT,s1,hF,hSl,hq,A5n]
 | true =>
  rw [ck] at hq;have hfi:=λh=>kP (h:=h) hk
  have E7w:ldN (rT [cI (k:Int),.s s,cI n]) 1 2=A4 (.a [.s s,cI n]):=rfl;have hW:=λh=>nE (s:=s) (n:=n) (h:=h) (by omega)
  have hLy:=B1H (v:=sV (l_ h+2) 0 32 1) (nv:=32) (data:=U0 s n) (l:=cur) (h:=h++[rT [cI (k:Int),.s s,cI n],rT (slC (U3 b s)),rT (B4 (U0 s n))]) (Has.row (rw:=A5) (by simp) (by rw [B5,U8]) (V6 _)) hc (by rw [U8];omega) (a:=(I1 k:Nat));rw [D9r hk] at hLy;have hn1:(B4 (H7 cur (I1 k) (U0 s n))).length=256:=by rw [B5];exact A33 hk hc
  have s3:=λt=>storeAll (h:=h++t) (xs:=B4 (H7 cur (I1 k) (U0 s n))) (B6 h2) pE hn1
  refine ⟨(h++[rT [cI (k:Int),.s s,cI n],rT (slC (U3 b s)),rT (B4 (U0 s n))]).set ro (rT (B4 (H7 cur (I1 k) (U0 s n)))),A6E (n:=0) ?_,(hlow.new _).set hB _,λid hid hl=>by rw [B7 (Ne.symm hid)];exact D5 hl,by simp,D3 (by simp;omega)⟩;rw [A6w];generalize H7 cur (I1 k) (U0 s n)=N at *;generalize U0 s n=E at *;generalize slC (U3 b s)=S at *;generalize B4 b=y at *;simp only [esc,esh,Nat.reduceAdd,Nat.reduceMul,Nat.reduceLT,s1,s2,hF,hSl,hq,hfi,E7w,hW,E55,hLy,s3,A5n]
def C7q{r0 rb ro q:Nat}{B:A9}(hb:l_ b=256)(h0o:r0≠ro)(hbo:rb≠ro)(hBo:l_ B<=ro):∀ (e k m:Nat) (h:A9) (cur:List UInt8),k+e=7->e<m->cur.length=256->Low (l_ B) B h ->
  rd h rb=rT (B4 b)->rd h ro=rT (B4 cur)->rd h r0=rT (B4 b) ->
  ∃ h',A0s q m (.c (.f 174 [(rb,0),(ro,0)])) (pV r0 0) (iV (k:Int)) h=A4 (.t [],h')/\Low (l_ B) B h'/\rd h' ro=rT (B4 (fixF b e k cur))
 | e,k,0,h,cur,_,hm,_,_,_,_,_=>by omega
 | 0,k,m+1,h,cur,hk,hm,hc,hlow,h1,h2,h0=>by
  have e0:k=7:=by omega
  subst e0;have c0:¬ ((7:Nat):Int)<7:=by omega
  refine ⟨h,?_,hlow,h2⟩;rw [tC];simp only [esc,c0]<;>rfl
 | e+1,k,m+1,h,cur,hk,hm,hc,hlow,h1,h2,h0=>by
  have c0:(k:Int)<7:=by omega
  have hbl:(B4 b).length=256:=by rw [B5,hb]
  have s1:=C8 (h:=h) (id:=r0) h0 hbl;have hR:=A5o (h:=h) (k:=k) hb (by omega);have w1:=E2 (a:=k) (by omega);have hcv:∀ (x:Val) (h:A9),aQ A1U (.c (.f 174 [(rb,0),(ro,0)])) [x] h=xU [x,pV rb 0,pV ro 0] h:=λ_ _=>Eq.trans rfl rfl
  rw [tC,fixF];cases hx:O3 b k with
  | none =>
   have ef:C2W b k cur=cur:=by unfold C2W;rw [hx]
   rw [hx] at hR;rw [ef];obtain ⟨h',f1,f2⟩:=C7q (q:=q) hb h0o hbo hBo e (k+1) m (h++[rT ([.s [],o0])]) cur (by omega) (by omega) hc (hlow.new _) (B6 h1) (B6 h2) (B6 h0);refine ⟨h',?_,f2⟩;generalize B4 b=y at *;simp only [esc,esh,Nat.reduceAdd,Nat.reduceMul,Nat.reduceLT,c0,s1,hR,W8,E9o,w1];exact f1
  | some en =>
   obtain ⟨s,n⟩:=en;have ef:C2W b k cur=bif B1D b k (s,n) then H7 cur (I1 k) (U0 s n) else cur:=by unfold C2W;rw [hx]
   rw [hx] at hR;have hs:l_ s<=24:=by
    unfold O3 at hx;cases hu:gY (nameB b k) with
    | none=>rw [hu] at hx;cases hx
    | some s' =>
     rw [hu,E8z] at hx;split at hx
     ·cases hx;exact (bL (A4i hu)).2
     ·cases hx
   have eaf:F6 [o0,.s [],o0] [(0,1,iV (k:Int)),(1,2,.a [.s s,cI n])]=A4 [cI (k:Int),.s s,cI n]:=rfl;obtain ⟨hh,g1,g2,g3,g4,g5⟩:=E3M (n:=n) (show k<7 by omega) hs hb hc (hlow.new [rT [.s s,cI n]]) hBo (B6 h1) (B6 h2);rw [<-ef] at g5;have E8e:=E1 h1;have E7A:=E1 h0;obtain ⟨h',f1,f2⟩:=C7q (q:=q) hb h0o hbo hBo e (k+1) m hh (C2W b k cur) (by omega) (by omega) (C4e (by omega) hc) g2 (by rw [g3 rb hbo (by simp;omega)];exact B6 h1) g5 (by rw [g3 r0 h0o (by simp;omega)];exact B6 h0);refine ⟨h',?_,f2⟩;generalize B4 b=y at *;simp only [esc,esh,Nat.reduceAdd,Nat.reduceMul,Nat.reduceLT,c0,s1,hR,W8,E87,eaf,hcv,g1,w1];exact f1
def C9x(hb:l_ b=256):B0W [.a (B4 b)] h=A4 (.a (B4 (B4G b)),h):=by
 have key:∀ g,∃ g',B0v 0 [.a (B4 b)] g=A4 (.a (B4 (B4G b)),g'):=by
  intro g;have hbl:(B4 b).length=256:=by rw [B5,hb]
  have hz:(B4 (zeros 256)).length=256:=by rw [B5];exact zeros_length
  have hd:(B4 hdB).length=256:=by rw [B5];exact pF
  have hxl:(B4 (B4G b)).length=256:=by rw [B5];exact C0l
  have hH:=λh=>B4g (h:=h)
  have emk:A32 174 [pV (l_ g) 0,pV (l_ g+2) 0]=A4 (.c (.f 174 [(l_ g,0),(l_ g+2,0)])):=rfl;obtain ⟨h',f1,f2,f3⟩:=C7q (b:=b) (r0:=l_ g+3) (rb:=l_ g) (ro:=l_ g+2) (q:=8) (B:=g++[rT (B4 b),rT (B4 (zeros 256))]) hb (by omega) (by omega) (by simp) 7 0 8 (g++[rT (B4 b),rT (B4 (zeros 256)),rT (B4 hdB),rT (B4 b)]) hdB (by omega) (by omega) pF
   (by have:=(Low.refl (h:=g++[rT (B4 b),rT (B4 (zeros 256))]) (E8m _)).new [rT (B4 hdB),rT (B4 b)];simpa using this) (by simp) (by simp) (by simp)
  have hS:nX [.a (B4 b),.c (.f 174 [(l_ g,0),(l_ g+2,0)])] (g++[rT (B4 b),rT (B4 (zeros 256)),rT (B4 hdB)])=A4 (.t [],h'):=by
   refine A8U (n:=8) ?_;rw [A8K];simp only [esc,esh,Nat.reduceAdd,Nat.reduceMul,Nat.reduceLT];exact f1
  have hr:rd h' (l_ g+1)=rT (B4 (zeros 256)):=by rw [f2.2.2 _ (by simp)];simp
  change rd h' (l_ g+2)=rT (B4 (B4G b)) at f3;have t1:=C8 (n:=256) f3 hxl;have t2:=storeAll (n:=256) (xs:=B4 (B4G b)) hr hz hxl;have t3:=C8 (n:=256) (D3 (x:=rT (B4 (B4G b))) (E1 hr)) hxl;rw [C4B,G9];generalize B4G b=X at *;generalize hdB=H at *;generalize zeros 256=z at *;generalize B4 b=y at *;exact ⟨_,by simp only [esc,esh,Nat.reduceAdd,Nat.reduceMul,Nat.reduceLT,hbl,hH,hz,hd,emk,hS,t1,t2,t3]<;>rfl⟩
 obtain ⟨g',e⟩:=key (ro h);exact B9w e (by simp)
def A5N(b:List UInt8):Bool:=decide (B4G b=b)
def C5k(hb:l_ b=256):xV [.a (B4 b)] h=A4 (bV (A5N b),h):=by
 have key:∀ g,∃ g',A4M 0 [.a (B4 b)] g=A4 (bV (A5N b),g'):=by
  intro g;have hbl:(B4 b).length=256:=by rw [B5,hb]
  have hF:=λh=>C9x (h:=h) hb
  have hE:aeq A6 (E8l 256 (.i .u8)) (.a (B4 (B4G b))) (.a (B4 b))=A4 (bV (A5N b)):=by
   have hxl:=C0l (b:=b);simp only [aeq];rw [C4 ⟨by rw [C5I,hxl],by rw [C5I,hb]⟩];unfold A5N;simp [D4d]
  rw [B9i];generalize A5N b=D at *;generalize B4 (B4G b)=x at *;generalize B4 b=y at *;exact ⟨_,by simp only [esc,esh,Nat.reduceAdd,Nat.reduceMul,Nat.reduceLT,hbl,hF,hE]<;>rfl⟩
 obtain ⟨g',e⟩:=key (ro h);exact B6n e rfl
def D1b{l xs:List UInt8}{a c n:Nat}(h:a+l_ xs<=l_ l)(hd:c+n<=a\/a+l_ xs<=c):((H7 l a xs).drop c).take n=(l.drop c).take n:=by
 apply E9z;intro j;rw [List.getElem?_take,List.getElem?_take];split
 ·rename_i hj;rw [List.getElem?_drop,List.getElem?_drop,C76 h,C5 (by omega)]
 ·rfl
def D1z{e:List UInt8}(hc:cur.length=256)(he:e.length=32)(hj:j<7)(hk:k<7):jB (H7 cur (I1 j) e) k=if k=j then e else jB cur k:=by
 have mI:I1 j+e.length<=cur.length:=by rw [hc,he];unfold I1;omega
 unfold jB;by_cases c:k=j
 ·subst c;rw [C4 rfl,<-he];exact D4C mI
 ·rw [C5 c];exact D1b mI (by rw [he];unfold I1;omega)
def D5m(sl:List UInt8):Option Ent:=(gY ((sl.drop 2).take 25)).bind λs=>if (B6E s ((le (sl.take 2):Nat):Int)&&decide (U0 s ((le (sl.take 2):Nat):Int)=sl))=A5 then A4 (s,((le (sl.take 2):Nat):Int)) else A7
def D7f:O3 b k=D5m (jB b k):=by
 have e1:((jB b k).drop 2).take 25=nameB b k:=by
  unfold jB nameB;rw [List.drop_take,E9D,List.take_take];rfl
 have e2:(((le ((jB b k).take 2):Nat)):Int)=yU b k:=by
  unfold jB yU fieldN;rw [List.take_take];rfl
 unfold O3 D5m isE;rw [e1,e2]
def unpack_pack(hf:aS s=A5):gY (iY s)=A4 s:=by
 have hl:=(bL hf).2;have hp:iY s=UInt8.ofNat (l_ s)::(s++zeros (24-l_ s)):=by unfold iY A5M;rw [hf,S8,List.take_length]
 have hn:((iY s).headD 0).toNat=(l_ s):=by
  rw [hp,List.headD_cons,UInt8.toNat_ofNat'];omega
 have hd:((iY s).drop 1).take (l_ s)=s:=by
  rw [hp,List.drop_succ_cons,E8y,List.take_left]
 unfold gY;rw [hn,C4 hl,hd,C4 ⟨hf,rfl⟩]
def D93(hm:B6E s n=A5):D5m (U0 s n)=A4 (s,n):=by
 have hm2:=hm;unfold B6E at hm2;simp only [E8j,decide_eq_true_eq] at hm2;obtain ⟨hf,h1,h2⟩:=hm2;have e1:((U0 s n).drop 2).take 25=iY s:=by
  unfold U0;rw [E8t,E9C R4,List.take_left' rB]
 have e2:(((le ((U0 s n).take 2):Nat)):Int)=n:=by
  unfold U0;rw [E8t,List.take_left' R4];have:=B52 2 n;rw [this];omega
 unfold D5m;rw [e1,e2,unpack_pack hf,E8z,hm,O4 rfl];rfl
def C4t:D5m (zeros 32)=A7:=by decide +kernel
def E0h:∀ k,k<7->jB hdB k=zeros 32:=by decide +kernel
def C4c{nm:List UInt8}{x:Ent}(hi:O3 b i=A4 x)(hx:x.1=nm):∀ (e k:Nat),k<=i->i<k+e->(∀ j y,k<=j->j<i->O3 b j=A4 y->y.1≠nm)->X7 b nm e k=A4 (i,x)
 | 0,k,h1,h2,_=>by omega
 | e+1,k,h1,h2,E3T=>by
  by_cases c:k=i
  ·subst c;obtain ⟨s,n⟩:=x;simp only at hx;subst hx;exact zJ hi
  ·have ih:=C4c hi hx e (k+1) (by omega) (by omega) (λj y h3 h4=>E3T j y (by omega) h4);cases hr:O3 b k with
   | none=>rw [lM hr];exact ih
   | some y =>
    obtain ⟨s,n⟩:=y;rw [lJ hr (E3T k (s,n) (E8m _) (by omega) hr)];exact ih
def E4Y(o:Option Ent)(d:List UInt8):List UInt8:=match o with
 | some x=>U0 x.1 x.2
 | none=>d
def C3h{x:Ent}(hx:O3 b k=A4 x):B6E x.1 x.2=A5:=by
 unfold O3 at hx;cases hu:gY (nameB b k) with
 | none=>rw [hu] at hx;cases hx
 | some s' =>
  rw [hu,E8z] at hx;split at hx
  ·rename_i hc;cases hx;unfold isE at hc;rw [E8j] at hc;exact hc.1
  ·cases hx
def A37{nm:List UInt8}:∀ (e k:Nat) {x:Slt},X7 b nm e k=A4 x->O3 b x.1=A4 x.2/\x.2.1=nm/\k<=x.1/\x.1<k+e/\∀ j y,k<=j->j<x.1->O3 b j=A4 y->y.1≠nm
 | 0,k,x,h=>by cases h
 | e+1,k,x,h=>by
  cases hx:O3 b k with
  | none =>
   rw [lM hx] at h;obtain ⟨h1,h2,h3,h4,h5⟩:=A37 e (k+1) h;refine ⟨h1,h2,by omega,by omega,λj y hj hj2 hy=>?_⟩;by_cases c:j=k
   ·subst c;rw [hx] at hy;cases hy
   ·exact h5 j y (by omega) hj2 hy
  | some z =>
   obtain ⟨s,n⟩:=z;by_cases c:s=nm
   ·subst c;rw [zJ hx] at h;cases h;exact ⟨hx,rfl,E8m _,by show k<_;omega,λj y hj hj2=>by have:j<k:=hj2;omega⟩
   ·rw [lJ hx c] at h;obtain ⟨h1,h2,h3,h4,h5⟩:=A37 e (k+1) h;refine ⟨h1,h2,by omega,by omega,λj y hj hj2 hy=>?_⟩;by_cases c2:j=k
    ·subst c2;rw [hx] at hy;cases hy;exact c
    ·exact h5 j y (by omega) hj2 hy
def B4F{nm:List UInt8}:∀ (e k:Nat),X7 b nm e k=A7->∀ j y,k<=j->j<k+e->O3 b j=A4 y->y.1≠nm
 | 0,k,h,j,y,h1,h2,_=>by omega
 | e+1,k,h,j,y,h1,h2,hy=>by
  cases hx:O3 b k with
  | none =>
   rw [lM hx] at h;by_cases c:j=k
   ·subst c;rw [hx] at hy;cases hy
   ·exact B4F e (k+1) h j y (by omega) (by omega) hy
  | some z =>
   obtain ⟨s,n⟩:=z;by_cases c:s=nm
   ·subst c;rw [zJ hx] at h;cases h
   ·rw [lJ hx c] at h;by_cases c2:j=k
    ·subst c2;rw [hx] at hy;cases hy;exact c
    ·exact B4F e (k+1) h j y (by omega) (by omega) hy
def A5x{nm:List UInt8}:∀ (e k:Nat),(∀ j y,k<=j->j<k+e->O3 b j=A4 y->y.1≠nm)->X7 b nm e k=A7
 | 0,k,_=>rfl
 | e+1,k,h=>by
  have ih:=A5x e (k+1) λj y h1 h2 hy=>h j y (by omega) (by omega) hy
  cases hx:O3 b k with
  | none=>rw [lM hx];exact ih
  | some z =>
   obtain ⟨s,n⟩:=z;rw [lJ hx (h k (s,n) (E8m _) (by omega) hx)];exact ih
def D8U{b id n:Nat}(hb:b<=id)(hr:rd h id=rT cs)(hf:M9 cs=A5) :
  X5 h b (.t [.a [cI a,.sl id 0 n 1],.c o0])=A4 (.t [.a [cI a,.sl b 0 n 1],.c o0],[id]):=by
 have h1:¬ id<b:=by omega
 have hc1:P8 h b [] [cI a,.sl id 0 n 1]=A4 ([cI a,.sl b 0 n 1],[id]):=by
  simp [P8,Cell.low,Cell.flat,lQ hr hf,h1,hb]
 have hc2:P8 h b [id] [o0]=A4 ([o0],[id]):=fM (by simp);simp only [X5,iJ,hc1,hc2,E8z,E85]
def E5j{x:Cell}:F6 [o0,.ns] [(0,1,iV a),(1,1,.c x)]=A4 [cI a,x]:=rfl
def C6V{id n:Nat}(hk:k<7)(hid:id<l_ h):A7X [iV (k:Int),iV 0,sV id 0 n 1] h=A4 (.t [.a [cI (I1 k:Nat),.sl id 0 n 1],.c o0],h):=by
 have key:∀ g,∃ g',A7B 0 [iV (k:Int),iV 0,sV id 0 n 1] g=A4 (.t [.a [cI (I1 k:Nat),.sl id 0 n 1],.c o0],g'):=by
  intro g;have c1:¬ (k:Int)<0:=by omega
  have c2:¬ 7<=(k:Int):=by omega
  have hF:=λh=>kP (h:=h) hk
  have w1:E8r .i64 (((I1 k:Nat):Int)+0)=((I1 k:Nat):Int):=by unfold I1;rw [wrap_i64 (by omega) (by omega)];omega
  rw [C1D];exact ⟨_,by simp only [esc,esh,Nat.reduceAdd,c1,c2,hF,w1,E5j]<;>rfl⟩
 obtain ⟨g',e⟩:=key (ro h);exact B9B e (by simp [Val.low,Cell.low,Cell.flat,hid])
def C9z(hs:l_ s<9223372036854775807)(hk:k<7)(hm:B6E s n=A5):B0Y [iV (k:Int),.a [.s s,cI n]] h=A4 (.t [.a [cI (I1 k:Nat),.sl (l_ h) 0 32 1],.c o0],h++[rT (B4 (U0 s n))]):=by
 have key:∀ g,∃ g',B0x 0 [iV (k:Int),.a [.s s,cI n]] g=A4 (.t [.a [cI (I1 k:Nat),.sl (l_ g+2) 0 32 1],.c o0],g')/\rd g' (l_ g+2)=rT (B4 (U0 s n)):=by
  intro g;have c1:0<=(k:Int):=by omega
  have c2:(k:Int)<7:=by omega
  have hM:=λh=>A8j (s:=s) (n:=n) (h:=h) hs
  rw [hm] at hM;have hW:=λh=>nE (s:=s) (n:=n) (h:=h) hs
  have hL:=C6V (k:=k) (id:=l_ g+2) (n:=32) (h:=g++[rT [.s s,cI n],rT [o0,.ns],rT (B4 (U0 s n))]) hk (by simp);rw [C4D];generalize U0 s n=E at *;exact ⟨_,by simp only [esc,esh,Nat.reduceAdd,c1,c2,hM,hW,hL]<;>rfl,by simp⟩
 obtain ⟨g',e,hr⟩:=key (ro h);rw [G8] at hr;have:=B9A e (D8U (b:=l_ h) (by rw [G8];omega) (by rw [G8];exact hr) (by simp));rw [this,G8];simp [hr]
def MapK(es:V8)(K:List UInt8->Option Int):Prop:=(∀ e∈es,∃ s,e.1=Cell.s s)/\∀ s,(A90 (.s s) es).map (·.2)=(K s).map λv=>Part.c (cI v)
def B5z(K:List UInt8->Option Int)(a:List UInt8)(v:Int):List UInt8->Option Int:=λs=>if s=a then A4 v else K s
def MapK.nil:MapK [] λ_=>A7:=⟨λe he=>by simp at he,λs=>rfl⟩
def MapK.put{K:List UInt8->Option Int}(hm:MapK es K)(a:List UInt8)(v:Int):MapK (A91 (.s a) (.c (cI v)) es) (B5z K a v):=by
 refine ⟨C25 (Q:=λc=>∃ s,c=.s s) ⟨a,rfl⟩ hm.1,λs=>?_⟩;unfold B5z;by_cases c:s=a
 ·subst c;rw [C4 rfl,(A4u (k':=.mh)).1];rfl
 ·rw [C5 c,(A4u (k:=.s a) (k':=.s s)).2 (by simpa using c)];exact hm.2 s
def E6N{mid:Nat}{K:List UInt8->Option Int}{a:List UInt8}(hr:rd h mid=A4 (Q1 es))(hm:MapK es K):yS h A7 (.c o0) A6 (.c (.m mid)) (.c (.s a))=A4 (.c (cI ((K a).getD 0))):=by
 simp only [yS,C0K,D2H,hr,E8z,qW];rw [C4 (D77 hm.1)];have h2:=hm.2 a;cases hg:A90 (.s a) es with
 | none =>
  rw [hg] at h2;cases hF:K a with
  | none=>rfl
  | some v=>rw [hF] at h2;cases h2
 | some ip =>
  obtain ⟨i,p⟩:=ip;rw [hg] at h2;cases hF:K a with
  | none=>rw [hF] at h2;cases h2
  | some v=>rw [hF] at h2;simp at h2;subst h2;rfl
def E7S{mid:Nat}{K:List UInt8->Option Int}{a:List UInt8}(hr:rd h mid=A4 (Q1 es))(hm:MapK es K):A3k h A7 (.c (.m mid)) (.c (.s a)) (.c (cI x))=A4 (h.set mid (A4 (Q1 (A91 (.s a) (.c (cI x)) es)))):=by
 simp only [A3k,C0K,C4s,hr,E8z,qW];rw [C4 (D77 hm.1)]
def V5(D:Dev)(X:List Int)(no:Int)(K:List UInt8->Option Int)(x:Slt):Bool:=atH D X (no,x)&&decide ((K x.2.1).getD 0=x.2.2)
def fN(D:Dev)(X:List Int)(no:Int)(K:List UInt8->Option Int)(s:Cl × List UInt8)(x:Slt):Cl × List UInt8 :=
 bif V5 D X no K x then (s.1,H7 s.2 (I1 x.1) (U0 x.2.1 x.2.2)) else ({ s.1 with lost:=s.1.lost+1 },s.2)
def V3(D:Dev)(X:List Int)(no:Int)(K:List UInt8->Option Int)(s:Cl × List UInt8)(l:List Slt):Cl × List UInt8:=l.foldl (fN D X no K) s
def D0Q{K:List UInt8->Option Int}{s:Cl × List UInt8}{x:Slt}(hs:s.2.length=256)(hk:x.1<7):(fN D X no K s x).2.length=256:=by
 unfold fN;cases V5 D X no K x with
 | false=>exact hs
 | true=>rw [S8];dsimp only;rw [O6 (by rw [hs,U8];unfold I1;omega)];exact hs
def C7g{K:List UInt8->Option Int}{s:Cl × List UInt8}{x:Slt}:s.1.lost<=(fN D X no K s x).1.lost/\(fN D X no K s x).1.lost<=s.1.lost+1:=by
 unfold fN;cases V5 D X no K x<;>simp<;>omega
section
variable {D:Dev} {n m:Int} {f:Cell} {g:A9} {r:Nat} {h:A9}
def LocV.more{t:A9}{id:Nat}(hr:r<l_ h)(a:LocV h r id cs):LocV (h++t) r id cs :=
 a.fr (Fr.low ((Low.refl (E8m _)).new _) hr)
def LocM(h:A9)(r id:Nat)(es:V8):Prop:=Loc h r id/\rd h id=A4 (Q1 es)
def LocM.fr{id:Nat}(a:LocM h r id es)(b:Fr r h h'):LocM h' r id es:=by
 obtain ⟨h1,h2⟩:=b.loc a.1;exact ⟨h1,by rw [h2];exact a.2⟩
def LocM.set{id:Nat}{x:Option Row}(a:LocM h r id es)(hj:j≠id)(hl:j≠r):LocM (h.set j x) r id es:=by
 refine ⟨⟨by simpa using a.1.1,a.1.2.1,λhn=>a.1.2.2 ((Nam.same (B7 hl)).1 hn)⟩,by rw [B7 hj];exact a.2⟩
def D6q{K:List UInt8->Option Int}{l:List Slt}{px p8 p9 lst:Nat}(hD:okD D)(hv:IsView g f D)(ht:l_ t=32)(hK:MapK es K)(h0g:l_ g<=h0.length)(a8:h0.length<=p8)(a9:h0.length<=p9)
  (n1:p9≠mk) (n2:p9≠px) (n3:p9≠p8) (n4:p9≠lst) (hl7:l_ l<=7) (hsl:∀ x∈l,x.1<7/\x.2.1.length<=24/\B6E x.2.1 x.2.2=A5) :
  ∀ (e j M:Nat) (s:Cl × List UInt8) (h:A9),j+e=l_ l->e<M->s.2.length=256->0<=s.1.lost->s.1.lost+e<=1000000->WP D n m f g r s.1 h->Fr r h0 h->LocM h r mk es->LocV h r px (encI (d::t))->(∃ z,z.length=256/\LocV h r p8 z)->LocV h r p9 (B4 s.2)->LocV h r lst (rF l) ->
  ∃ h',dU q M (.c (.p r 0)) (.c (cI no)) (.c (.m mk)) (.c (.p px 0)) (.c (.p p8 0)) (.c (.p p9 0)) (.c (.sl lst 0 (l_ l) 3)) (.c (cI (l_ l:Nat))) (.c (cI (j:Int))) h=A4 (.a (B4 (V3 D (d::t) no K s (l.drop j)).2),h')/\WP D n m f g r (V3 D (d::t) no K s (l.drop j)).1 h'/\Fr r h0 h':=by
 intro e
 induction e with
 | zero =>
  intro j M s h hj hM hs l0 l1 P F hm hx hz hb hl;obtain ⟨M,rfl⟩:=X0 M (by omega);have c0:¬ ((j:Int)<(l_ l:Nat)):=by omega
  obtain ⟨z,hzl,hz⟩:=hz;have hbl:(B4 s.2).length=256:=by rw [B5,hs]
  have q1:=C8 (n:=256) hb.2 hbl;have s1:=storeAll (n:=256) (xs:=B4 s.2) hz.2 hzl hbl;have hz2:=hz.self (cs':=B4 s.2);have q2:=C8 (n:=256) hz2.2 hbl;rw [E8x (by omega)];refine ⟨h.set p8 (rT (B4 s.2)),?_,P.set hz.1 (by omega),F.set hz.1 a8⟩;rw [gK];show _=A4 (Val.a (B4 s.2),_);generalize B4 s.2=B at *;simp only [esc,c0,q1,s1,q2]
 | succ e ih =>
  intro j M s h hj hM hs l0 l1 P F hm hx hz hb hl;obtain ⟨M,rfl⟩:=X0 M (by omega);have hjl:j<(l_ l):=by omega
  have c0:((j:Int)<(l_ l:Nat)):=by omega
  have hv2:=hv.get;have ad:F0 3 (.c (.sl lst 0 (l_ l) 3)) (.c (cI (j:Int)))=A4 (.c (.p lst (j*3))):=by rw [E4 hjl];simp
  have hlen:=wD (l:=l);have w1:=E2 (a:=j) (by omega);obtain ⟨x,hxe⟩:=xEq (l[j]);have hxj:l[j]?=A4 x:=by rw [hxe];exact E8h hjl
  obtain ⟨x7,x24,xm⟩:=hsl x (by rw [hxe];exact E8M hjl);have l3:C9 h 3 (.c (.p lst (j*3)))=A4 (.a (slC (A4 x))):=by rw [S7 hl.2 (by rw [hlen];omega) rfl,D29 hxj]
  have pE:=D0Q (D:=D) (X:=d::t) (no:=no) (K:=K) (s:=s) (x:=x) hs x7;have hlo:=C7g (D:=D) (X:=d::t) (no:=no) (K:=K) (s:=s) (x:=x);rw [E8s hjl,<-hxe];have er:∀ T,V3 D (d::t) no K s (x::T)=V3 D (d::t) no K (fN D (d::t) no K s x) T:=λT=>rfl
  rw [er];obtain ⟨k,nm,i⟩:=x;dsimp only at x7 x24 xm;obtain ⟨h1,e1⟩:=xEq (h++[rT (slC (A4 (k,nm,i)))]);have s3:F7 (h++[rT [o0,.s [],o0]]) 3 (.c (.p (l_ h) 0)) (.a (slC (A4 (k,nm,i))))=A4 h1:=by rw [I3,e1];rfl
  have P1:WP D n m f g r s.1 h1:=e1 ▸ P.more hv2 _;have hx1:LocV h1 r px (encI (d::t)):=e1 ▸ hx.more P.rlt;have lX:C9 h1 33 (.c (.p px 0))=A4 (.a (encI (d::t))):=C8 hx1.2 (by simp [C1,ht]);have lN:B9 h1 (.c (.p (l_ h) 1))=A4 (.c (.s nm)):=by rw [e1,J0];rfl
  have hH:=D74 (n:=n) (m:=m) (f:=f) (r:=r) (d:=d) (t:=t) (nm:=nm) (h:=h1) hD (hv.since P1.lo) (P1.vw hv2) ht (by omega);obtain ⟨h2,e2⟩:=xEq (h1++[rT (C3n (R8 (d::t) nm) (hmS D (d::t) nm))]);have s4:F7 (h1++[rT [o0,o0,.s [],o0]]) 4 (.c (.p h1.length 0)) (.a (C3n (R8 (d::t) nm) (hmS D (d::t) nm)))=A4 h2:=by
   rw [I3,e2];cases hmS D (d::t) nm<;>rfl
  have e12:h2=h++[rT (slC (A4 (k,nm,i))),rT (C3n (R8 (d::t) nm) (hmS D (d::t) nm))]:=by rw [e2,e1];simp
  have F2:Fr r h h2:=by rw [e12];exact Fr.low ((Low.refl (E8m _)).new _) P.rlt
  have P2:WP D n m f g r s.1 h2:=by rw [e12];exact P.more hv2 _
  have m2:=hm.fr F2;have x2:=hx.fr F2;have b2:=hb.fr F2;have ls2:=hl.fr F2;obtain ⟨z,hzl,hz⟩:=hz;have z2:=hz.fr F2;have lB:B9 h2 (.c (.p h1.length 0))=A4 (.c (cI (R8 (d::t) nm))):=by rw [e2,J0];rfl
  have lS:C9 h2 3 (.c (.p h1.length 1))=A4 (.a (slC (hmS D (d::t) nm))):=by rw [e2,H6];cases hmS D (d::t) nm<;>rfl
  have rp:rd h2 (l_ h)=rT (slC (A4 (k,nm,i))):=by rw [e2,e1];simp
  have lP:C9 h2 3 (.c (.p (l_ h) 0))=A4 (.a (slC (A4 (k,nm,i)))):=C8 rp rfl;have lP0:B9 h2 (.c (.p (l_ h) 0))=A4 (.c (cI (k:Int))):=B8 rp rfl rfl;have lP1:B9 h2 (.c (.p (l_ h) 1))=A4 (.c (.s nm)):=B8 rp rfl rfl;have lP2:B9 h2 (.c (.p (l_ h) 2))=A4 (.c (cI i)):=B8 rp rfl rfl;have lPE:C9 h2 2 (.c (.p (l_ h) 1))=A4 (.a [.s nm,cI i]):=by rw [S7 rp (by simp [slC]) rfl];rfl
  have lk:=E6N (a:=nm) m2.2 hK;have lose:V5 D (d::t) no K (k,nm,i)=A6->∃ h3 h',B9 h2 (.c (.p r 9))=A4 (.c (cI s.1.lost))/\E8r .i64 (s.1.lost+1)=s.1.lost+1/\I8 h2 (.c (.p r 9)) (.c (cI (s.1.lost+1)))=A4 h3 /\
    dU q M (.c (.p r 0)) (.c (cI no)) (.c (.m mk)) (.c (.p px 0)) (.c (.p p8 0)) (.c (.p p9 0)) (.c (.sl lst 0 (l_ l) 3)) (.c (cI (l_ l:Nat))) (.c (cI ((j+1:Nat):Int))) h3=A4 (.a (B4 (V3 D (d::t) no K (fN D (d::t) no K s (k,nm,i)) (l.drop (j+1))).2),h')/\WP D n m f g r (V3 D (d::t) no K (fN D (d::t) no K s (k,nm,i)) (l.drop (j+1))).1 h'/\Fr r h0 h':=by
   intro hk;have ec:fN D (d::t) no K s (k,nm,i)=({ s.1 with lost:=s.1.lost+1 },s.2):=by unfold fN;rw [hk];rfl
   obtain ⟨h3,f1,f2,f3,f4⟩:=P2.setLost hv2 (s.1.lost+1);have Fa:=F2.trans f4;obtain ⟨h',g1,g2⟩:=ih (j+1) M ({ s.1 with lost:=s.1.lost+1 },s.2) h3 (by omega) (by omega) hs (by dsimp only;omega) (by dsimp only;omega) f3 (F.trans Fa) (m2.fr f4) (x2.fr f4) ⟨z,hzl,z2.fr f4⟩ (b2.fr f4) (ls2.fr f4);rw [ec];exact ⟨h3,h',f1,wrap_i64 (by omega) (by omega),f2,g1,g2⟩
  rw [gK];cases ho:hmS D (d::t) nm with
  | none =>
   obtain ⟨h3,h',f1,f2,f3,f4,f5⟩:=lose (by unfold V5 atH;simp only [ho];simp);refine ⟨h',?_,f5⟩;rw [ho] at hH s4 lS;generalize encI (d::t)=X at *;simp only [esc,Nat.reduceAdd,c0,ad,l3,s3,lX,lN,hH,E9o,s4,f1,f2,f3,V1,w1];exact f4
  | some p =>
   rw [ho] at hH s4 lS;have ea:=D8w (neg:=A5) p (k,nm,i);by_cases c1:R8 (d::t) nm=no
   ·rw [c1] at hH s4 lB;by_cases c2:p=(k,nm,i)
    ·have ea2:aeq A5 [.i .i64,.s,.i .i64] (.a (slC (A4 p))) (.a (slC (A4 (k,nm,i))))=A4 (.c (.b A6)):=by rw [ea,c2];simp
     by_cases c3:(K nm).getD 0=i
     ·have hk:V5 D (d::t) no K (k,nm,i)=A5:=by unfold V5 atH;simp only [ho,c1,c2,c3];simp
      have ec:fN D (d::t) no K s (k,nm,i)=(s.1,H7 s.2 (I1 k) (U0 nm i)):=by unfold fN;rw [hk];rfl
      rw [ec] at pE ⊢;have E3P:=C9z (k:=k) (s:=nm) (n:=i) (h:=h2) (by omega) x7 xm;obtain ⟨h3,e3⟩:=xEq (h2++[rT (B4 (U0 nm i)),rT [cI (I1 k:Nat),.sl h2.length 0 32 1]]);have s5:F7 (h2++[rT (B4 (U0 nm i)),rT [o0,.ns]]) 2 (.c (.p (h2.length+1) 0)) (.a [cI (I1 k:Nat),.sl h2.length 0 32 1])=A4 h3:=by rw [S5,e3];rfl
      have F3:Fr r h2 h3:=by rw [e3];exact Fr.low ((Low.refl (E8m _)).new _) P2.rlt
      have P3:WP D n m f g r s.1 h3:=by rw [e3];exact P2.more hv2 _
      have b3:=b2.fr F3;have hbl:(B4 s.2).length=256:=by rw [B5,hs]
      have q1:=C8 (n:=256) b3.2 hbl;have q2:C9 h3 2 (.c (.p (h2.length+1) 0))=A4 (.a [cI (I1 k:Nat),.sl h2.length 0 32 1]):=by rw [e3,P7];rfl
      have E5n:Has h3 (.c (.sl h2.length 0 32 1)) 1 32 (B4 (U0 nm i)):=Has.row (rw:=A5) (by rw [e3];simp) (by rw [B5,U8]) (V6 _);have E7f:=C1a (a:=I1 k) (l:=s.2) E5n (by omega) (by unfold I1;omega) hs;have hl2:(B4 (H7 s.2 (I1 k) (U0 nm i))).length=256:=by rw [B5];exact pE
      have sb:=storeAll (n:=256) (xs:=B4 (H7 s.2 (I1 k) (U0 nm i))) b3.2 hbl hl2;have Fa:=F2.trans F3;obtain ⟨h',g1,g2⟩:=ih (j+1) M (s.1,H7 s.2 (I1 k) (U0 nm i)) _ (by omega) (by omega) pE l0 (by dsimp only;omega) (P3.set b3.1 (by omega)) ((F.trans Fa).set b3.1 a9) ((m2.fr F3).set n1 b3.1.2.1) ((x2.fr F3).set n2 b3.1.2.1) ⟨z,hzl,(z2.fr F3).set n3 b3.1.2.1⟩ b3.self ((ls2.fr F3).set n4 b3.1.2.1);refine ⟨h',?_,g2⟩
      try dsimp only at g1
      generalize B4 (H7 s.2 (I1 k) (U0 nm i))=B2 at *;generalize B4 s.2=B at *;generalize encI (d::t)=X at *;generalize B4 (U0 nm i)=E at *;simp only [esc,Nat.reduceAdd,c0,ad,l3,s3,lX,lN,hH,E87,s4,lB,eq_self,lS,lP,ea2,lP0,lP1,lP2,lPE,lk,c3,E3P,s5,q1,q2,E7f,sb,V1,w1];exact g1
     ·obtain ⟨h3,h',f1,f2,f3,f4,f5⟩:=lose (by unfold V5;simp [c3]);refine ⟨h',?_,f5⟩;generalize encI (d::t)=X at *;simp only [esc,Nat.reduceAdd,c0,ad,l3,s3,lX,lN,hH,E87,s4,lB,eq_self,lS,lP,ea2,lP1,lP2,lk,c3,f1,f2,f3,V1,w1];exact f4
    ·have ea2:aeq A5 [.i .i64,.s,.i .i64] (.a (slC (A4 p))) (.a (slC (A4 (k,nm,i))))=A4 (.c (.b A5)):=by rw [ea];simp [c2]
     obtain ⟨h3,h',f1,f2,f3,f4,f5⟩:=lose (by unfold V5 atH;simp only [ho];simp [c2]);refine ⟨h',?_,f5⟩;generalize encI (d::t)=X at *;simp only [esc,Nat.reduceAdd,c0,ad,l3,s3,lX,lN,hH,E87,s4,lB,eq_self,lS,lP,ea2,f1,f2,f3,V1,w1];exact f4
   ·obtain ⟨h3,h',f1,f2,f3,f4,f5⟩:=lose (by unfold V5 atH;simp only [ho];simp [c1]);refine ⟨h',?_,f5⟩;generalize encI (d::t)=X at *;simp only [esc,Nat.reduceAdd,c0,ad,l3,s3,lX,lN,hH,E87,s4,lB,c1,f1,f2,f3,V1,w1];exact f4
end
def B8y{K:List UInt8->Option Int}:∀ {l:List Slt} {s:Cl × List UInt8},s.2.length=256->(∀ x∈l,x.1<7)->(V3 D X no K s l).2.length=256
 | [],_,hs,_=>hs
 | x::l,s,hs,h=>B8y (l:=l) (s:=fN D X no K s x) (D0Q hs (h x (E8u ..))) λy hy=>h y (E8q _ hy)
def C34{D:Dev}{X:List Int}{no:Int}{K:List UInt8->Option Int}:∀ {l:List Slt} {s:Cl × List UInt8},s.1.lost<=(V3 D X no K s l).1.lost/\(V3 D X no K s l).1.lost<=s.1.lost+(l_ l)
 | [],s=>⟨Int.le_refl _,by show s.1.lost<=_;simp⟩
 | x::l,s=>by
  have h1:=C7g (D:=D) (X:=X) (no:=no) (K:=K) (s:=s) (x:=x);have h2:=C34 (D:=D) (X:=X) (no:=no) (K:=K) (l:=l) (s:=fN D X no K s x);show s.1.lost<=(V3 D X no K (fN D X no K s x) l).1.lost/\_<=_;rw [E8w];refine ⟨by omega,?_⟩;show (V3 D X no K (fN D X no K s x) l).1.lost<=_;omega
structure SameL(c c':Cl):Prop where
 row:c'.row=c.row
 ino:c'.ino=c.ino
 blocks:c'.blocks=c.blocks
 made:c'.made=c.made
 taken:c'.taken=c.taken
 lnk:c'.lnk=c.lnk
 par:c'.par=c.par
def A2m{D:Dev}{X:List Int}{no:Int}{K:List UInt8->Option Int}:∀ {l:List Slt} {s:Cl × List UInt8},SameL s.1 (V3 D X no K s l).1
 | [],_=>⟨rfl,rfl,rfl,rfl,rfl,rfl,rfl⟩
 | x::l,s=>by
  have h2:=A2m (D:=D) (X:=X) (no:=no) (K:=K) (l:=l) (s:=fN D X no K s x);have h1:SameL s.1 (fN D X no K s x).1:=by
   unfold fN;cases V5 D X no K x<;>exact ⟨rfl,rfl,rfl,rfl,rfl,rfl,rfl⟩
  show SameL s.1 (V3 D X no K (fN D X no K s x) l).1;exact ⟨h2.row.trans h1.row,h2.ino.trans h1.ino,h2.blocks.trans h1.blocks,h2.made.trans h1.made,h2.taken.trans h1.taken,h2.lnk.trans h1.lnk,h2.par.trans h1.par⟩
def C1j:∀ x∈J2 b,x.1<7/\x.2.1.length<=24/\B6E x.2.1 x.2.2=A5:=λx hx=>by
 have h1:=A9X hx;exact ⟨h1.2,B6a h1.1,C3h h1.1⟩
section
variable {D:Dev} {n m:Int} {f:Cell} {g:A9} {r:Nat} {c:Cl} {h:A9}
def D6r{K:List UInt8->Option Int}(hD:okD D)(hv:IsView g f D)(P:WP D n m f g r c h)(ht:l_ t=32)(hK:MapK es K)(hm:LocM h r mk es)(l0:0<=c.lost)(l1:c.lost<=900000) :
  ∃ h',nY [.c (.p r 0),.a (encI (d::t)),.c (cI no),.c (.m mk)] h=A4 (.a (B4 (V3 D (d::t) no K (c,dX []) (J2 (blk D no))).2),h')/\WP D n m f g r (V3 D (d::t) no K (c,dX []) (J2 (blk D no))).1 h'/\Fr r h h':=by
 have hv2:=hv.get;have h33:(encI (d::t)).length=33:=by simp [C1,ht]
 have E7g:=λh=>C9y (v:=.c .ns) (nv:=0) (l:=[]) (h:=h) (.inl ⟨rfl,rfl,rfl⟩) (by simp)
 have hNl:(B4 (dX [])).length=256:=by rw [B5];exact A7i
 have hZl:(B4 (zeros 256)).length=256:=by rw [B5];exact zeros_length
 obtain ⟨T,hT⟩:=xEq ([rT (encI (d::t)),rT (B4 (zeros 256)),rT (B4 (dX []))]);have F1:Fr r h (h++T):=Fr.low ((Low.refl (E8m _)).new _) P.rlt;have P1:=P.more hv2 T;have lV:=P1.view;have hB:=K8 (n:=n) (m:=m) (no:=no) hD (hv.since P1.lo);obtain ⟨v,tt,b1,b2,b3⟩:=A2W (b:=blk D no) (h:=h++T) (J6 hD);have hlen:=b2.len;have h7:=lO (blk D no);have F2:Fr r (h++T) (h++T++tt):=Fr.low ((Low.refl (E8m _)).new _) P1.rlt;have P2:=P1.more hv2 tt;have L0:LocV (h++T) r (l_ h) (encI (d::t)):=LocV.new (k:=0) hv2 P (by rw [hT];rfl);have L1:LocV (h++T) r (l_ h+1) (B4 (zeros 256)):=LocV.new (k:=1) hv2 P (by rw [hT];rfl);have L2:LocV (h++T) r (l_ h+2) (B4 (dX [])):=LocV.new (k:=2) hv2 P (by rw [hT];rfl);have main:∃ h',dU 100 100 (.c (.p r 0)) (.c (cI no)) (.c (.m mk)) (.c (.p (l_ h) 0)) (.c (.p (l_ h+1) 0)) (.c (.p (l_ h+2) 0)) v (.c (cI ((J2 (blk D no)).length:Nat))) (.c o0) (h++T++tt)=A4 (.a (B4 (V3 D (d::t) no K (c,dX []) (J2 (blk D no))).2),h')/\WP D n m f g r (V3 D (d::t) no K (c,dX []) (J2 (blk D no))).1 h'/\Fr r h h':=by
  rcases b3 with ⟨rfl,rfl,b3⟩ | ⟨rfl,rfl⟩
  ·rw [b3,E8C];have c00:decide ((0:Int)<((0:Nat):Int))=A6:=by decide
   have q1:=C8 (n:=256) L2.2 hNl;have s1:=storeAll (n:=256) (xs:=B4 (dX [])) L1.2 hZl hNl;have z2:=L1.self (cs':=B4 (dX []));have q2:=C8 (n:=256) z2.2 hNl;refine ⟨(h++T).set (l_ h+1) (rT (B4 (dX []))),?_,P1.set L1.1 (by have:=P.lo.2.1;omega),F1.set L1.1 (by omega)⟩;rw [gK];show _=A4 (Val.a (B4 (dX [])),_);generalize B4 (dX [])=B at *;generalize h++T=G at *;simp only [esc,c00,q1,s1,q2]
  ·have hT3:(h++T).length=l_ h+3:=by rw [hT];simp
   have L3:LocV (h++T++[rT (rF (J2 (blk D no)))]) r ((h++T).length+0) (rF (J2 (blk D no))):=LocV.new (k:=0) hv2 P1 rfl;rw [E9y] at L3;have hml:=hm.1.1;obtain ⟨h',e1,e2,e3⟩:=D6q (n:=n) (m:=m) (q:=100) (no:=no) (h0:=h) (mk:=mk) (px:=l_ h) (p8:=l_ h+1) (p9:=l_ h+2) (lst:=(h++T).length) (l:=J2 (blk D no)) hD hv ht hK P.lo.2.1 (by omega) (by omega) (by omega) (by omega) (by omega) (by omega) h7 C1j (J2 (blk D no)).length 0 100 (c,dX []) _ (by omega) (by omega) (A7i (l:=[])) l0 (by dsimp only;omega) P2 (F1.trans F2) (hm.fr (F1.trans F2)) (L0.fr F2) ⟨_,hZl,L1.fr F2⟩ (L2.fr F2) L3;rw [E8y] at e1 e2;exact ⟨h',e1,e2,e3⟩
 obtain ⟨h',e1,e2,e3⟩:=main;refine ⟨h',A8W (n:=100) ?_,e2,e3⟩;rw [A8N,G9];rw [hT] at e1 lV hB b1;have sB:stN (rT (B4 (zeros 256))) 0 256 (B4 (dX []))=rT (B4 (dX [])):=fZ hZl hNl;generalize B4 (V3 D (d::t) no K (c,dX []) (J2 (blk D no))).2=BR at *;generalize B4 (dX [])=B at *;generalize B4 (zeros 256)=Z at *;generalize encI (d::t)=X at *;generalize vwC (l_ D) n m f=V at *;generalize B4 (blk D no)=Y at *;simp only [esc,E7g,S5,Nat.reduceAdd,sB,lV,hB,b1,hlen];simp only [esc] at e1;exact e1
end
def J7(D:Dev)(n ino:Int)(s:Cl × (List UInt8->Option Int))(e:Ent):Cl × (List UInt8->Option Int):=bif R0 D n s.1 e.2 then (T7 D n s.1 ino e.2,B5z s.2 e.1 e.2) else s
def O7(D:Dev)(n ino:Int)(s:Cl × (List UInt8->Option Int))(L:List Ent):Cl × (List UInt8->Option Int):=L.foldl (J7 D n ino) s
def dN(D:Dev)(X:List Int)(K:List UInt8->Option Int)(c:Cl)(no:Int):Cl:=dY (V3 D X no K (c,dX []) (J2 (blk D no))).1 no (V3 D X no K (c,dX []) (J2 (blk D no))).2
def P5(D:Dev)(X:List Int)(K:List UInt8->Option Int)(c:Cl)(L:List Int):Cl:=L.foldl (dN D X K) c
def BndL(c:Cl)(B:Int):Prop:=∀ i,0<=(c.lnk i).getD 0/\(c.lnk i).getD 0<=B
def BndL.mono{B':Int}(h:BndL c B)(hb:B<=B'):BndL c B':=λi=>⟨(h i).1,Int.le_trans (h i).2 hb⟩
structure SameT(c c':Cl):Prop where
 ino:c'.ino=c.ino
 blocks:c'.blocks=c.blocks
 made:c'.made=c.made
 taken:c'.taken=c.taken
 lost:c'.lost=c.lost
def D5P{s:Cl × (List UInt8->Option Int)}{e:Ent}(hb:BndL s.1 B):SameT s.1 (J7 D n ino s e).1/\BndL (J7 D n ino s e).1 (B+1)/\(J7 D n ino s e).1.row.length<=s.1.row.length+1:=by
 have hl:BndL (A2A s.1 e.2) (B+1):=by
  intro i;have h1:=hb i;have h2:=hb e.2;unfold A2A A1o;dsimp only;by_cases c:i=e.2
  ·rw [C4 c];simp;omega
  ·rw [C5 c];omega
 unfold J7 T7;cases R0 D n s.1 e.2 with
 | false=>exact ⟨⟨rfl,rfl,rfl,rfl,rfl⟩,hb.mono (by omega),by simp⟩
 | true =>
  simp only [S8];cases (s.1.par e.2).isSome with
  | true=>exact ⟨⟨rfl,rfl,rfl,rfl,rfl⟩,hl,by simp [A2A]⟩
  | false=>exact ⟨⟨rfl,rfl,rfl,rfl,rfl⟩,λi=>hl i,by simp [C5s,A2A]⟩
section
variable {D:Dev} {n m:Int} {f:Cell} {g:A9} {r:Nat} {h:A9}
def LocM.self{id:Nat}{es':V8}(a:LocM h r id es):LocM (h.set id (A4 (Q1 es'))) r id es' :=
 ⟨⟨by simpa using a.1.1,a.1.2.1,λhn=>a.1.2.2 ((Nam.same (B7 a.1.2.1)).1 hn)⟩,D3 a.1.1⟩
def D7G{L:List Ent}{pi px lst:Nat}{ci cx:List Cell}(hD:okD D)(hv:IsView g f D)(h0g:l_ g<=h0.length)(am:h0.length<=mk)(n1:mk≠pi)(n2:mk≠px)(n3:mk≠lst)(hL:l_ L<=10000) :
  ∀ (e j M:Nat) (B:Int) (s:Cl × (List UInt8->Option Int)) (es:V8) (h:A9),j+e=l_ L->e<M->s.1.row.length+e<=100000->B+e<900000->BndL s.1 B->WP D n m f g r s.1 h->Fr r h0 h->LocM h r mk es->MapK es s.2->LocV h r pi ci->LocV h r px cx->LocV h r lst (K0 L) ->
  ∃ M' es' h',nH q M (.c (.p r 0)) (.c (cI ino)) (.c (.p pi 0)) (.c (.p px 0)) (.c (.m mk)) (.c (.sl lst 0 (l_ L) 2)) (.c (cI (l_ L:Nat))) (.c (cI (j:Int))) h =
   nH q (M'+1) (.c (.p r 0)) (.c (cI ino)) (.c (.p pi 0)) (.c (.p px 0)) (.c (.m mk)) (.c (.sl lst 0 (l_ L) 2)) (.c (cI (l_ L:Nat))) (.c (cI (l_ L:Nat))) h' /\
   WP D n m f g r (O7 D n ino s (L.drop j)).1 h'/\Fr r h0 h'/\LocM h' r mk es'/\MapK es' (O7 D n ino s (L.drop j)).2/\LocV h' r pi ci/\LocV h' r px cx/\BndL (O7 D n ino s (L.drop j)).1 (B+e)/\(O7 D n ino s (L.drop j)).1.row.length<=s.1.row.length+e/\SameT s.1 (O7 D n ino s (L.drop j)).1:=by
 intro e
 induction e with
 | zero =>
  intro j M B s es h hj hM hr hB hb P F hm hK hi hx hl;obtain ⟨M,rfl⟩:=X0 M (by omega);have ej:j=(l_ L):=by omega
  subst ej;rw [List.drop_length];exact ⟨M,es,h,rfl,P,F,hm,hK,hi,hx,hb.mono (by omega),by show s.1.row.length<=_;omega,⟨rfl,rfl,rfl,rfl,rfl⟩⟩
 | succ e ih =>
  intro j M B s es h hj hM hr hB hb P F hm hK hi hx hl;obtain ⟨M,rfl⟩:=X0 M (by omega);have hjl:j<(l_ L):=by omega
  have c0:((j:Int)<(l_ L:Nat)):=by omega
  have hv2:=hv.get;have w1:=E2 (a:=j) (by omega);have E5n:Has h (.c (.sl lst 0 (l_ L) 2)) 2 (l_ L) (K0 L):=Has.row hl.2 iN A9F;obtain ⟨ad,a1,a2⟩:=A4s E5n hjl;rw [E8s hjl];obtain ⟨x,hxe⟩:=xEq (L[j]);rw [<-hxe] at a2 ⊢;have er:∀ T,O7 D n ino s (x::T)=O7 D n ino (J7 D n ino s x) T:=λT=>rfl
  rw [er];obtain ⟨tf1,tf2,tf3⟩:=D5P (D:=D) (n:=n) (ino:=ino) (s:=s) (e:=x) hb;obtain ⟨hh,hhe⟩:=xEq (h++[rT (W8 (A4 x))]);have se:F7 (h++[rT [.s [],o0]]) 2 (.c (.p (l_ h) 0)) (.a (W8 (A4 x)))=A4 hh:=by rw [hhe];exact B5u
  have F1:Fr r h hh:=by rw [hhe];exact Fr.low ((Low.refl (E8m _)).new _) P.rlt
  have P1:WP D n m f g r s.1 hh:=by rw [hhe];exact P.more hv2 _
  have L1:LocV hh r (l_ h+0) (W8 (A4 x)):=by rw [hhe];exact LocV.new (k:=0) hv2 P rfl
  rw [E9y] at L1;have e1:B9 hh (.c (.p (l_ h) 1))=A4 (.c (cI x.2)):=B8 L1.2 rfl rfl;have hkl:=hb x.2;obtain ⟨h2,f1,f2,f3⟩:=E4D (dir:=ino) (ino:=x.2) hD hv P1 (by omega) (by omega);have Fa:=F1.trans f3;have m2:=hm.fr Fa;have i2:=hi.fr Fa;have x2:=hx.fr Fa;have l2:=hl.fr Fa;have L2:=L1.fr f3;have e2:B9 h2 (.c (.p (l_ h) 0))=A4 (.c (.s x.1)):=B8 L2.2 rfl rfl;have e3:B9 h2 (.c (.p (l_ h) 1))=A4 (.c (cI x.2)):=B8 L2.2 rfl rfl;cases hb2:R0 D n s.1 x.2 with
  | true =>
   have et:J7 D n ino s x=(T7 D n s.1 ino x.2,B5z s.2 x.1 x.2):=by unfold J7;rw [hb2];rfl
   have mp:=E7S (a:=x.1) (x:=x.2) m2.2 hK;have W4:=hm.1.1;rw [et] at tf1 tf2 tf3 ⊢;obtain ⟨M',es',h',g1,g2,g3,g4,g5,g6,g7,g8,g9,g10⟩:=ih (j+1) M (B+1) (T7 D n s.1 ino x.2,B5z s.2 x.1 x.2) (A91 (.s x.1) (.c (cI x.2)) es) _ (by omega) (by omega) (by dsimp only at tf3 ⊢;omega) (by omega) tf2 (f2.set m2.1 (by omega)) ((F.trans Fa).set m2.1 am) m2.self (hK.put x.1 x.2) (i2.set n1 m2.1.2.1) (x2.set n2 m2.1.2.1) (l2.set n3 m2.1.2.1);refine ⟨M',es',h',?_,g2,g3,g4,g5,g6,g7,g8.mono (by omega),by dsimp only at tf3 g9;omega,⟨g10.ino.trans tf1.ino,g10.blocks.trans tf1.blocks,g10.made.trans tf1.made,g10.taken.trans tf1.taken,g10.lost.trans tf1.lost⟩⟩;rw [oT];rw [hb2] at f1;simp only [esc,c0,a1,a2,se,e1,f1,e2,e3,mp,A2k,w1];exact g1
  | false =>
   have et:J7 D n ino s x=s:=by unfold J7;rw [hb2];rfl
   have ec:T7 D n s.1 ino x.2=s.1:=by unfold T7;rw [hb2];rfl
   rw [ec] at f2;rw [et];obtain ⟨M',es',h',g1,g2,g3,g4,g5,g6,g7,g8,g9,g10⟩:=ih (j+1) M B s es h2 (by omega) (by omega) (by omega) (by omega) hb f2 (F.trans Fa) m2 hK i2 x2 l2;refine ⟨M',es',h',?_,g2,g3,g4,g5,g6,g7,g8.mono (by omega),by omega,g10⟩;rw [oT];rw [hb2] at f1;simp only [esc,c0,a1,a2,se,e1,f1,A2k,w1];exact g1
def D3Z{K:List UInt8->Option Int}{px sid:Nat}(hD:okD D)(hv:IsView g f D)(ht:l_ t=32)(hK:MapK es K)(hL:l_ L<=100) :
  ∀ (e j M:Nat) (c:Cl) (h:A9),j+e=l_ L->e<M->0<=c.lost->c.lost+7*e<=900000->c.blocks.length+e<=100000->c.made.length+e<=100000->WP D n m f g r c h->Fr r h0 h->LocM h r mk es->LocV h r px (encI (d::t))->LocV h r sid (encI L) ->
  ∃ h',A63 q M (.c (.p r 0)) (.c (.p px 0)) (.c (.m mk)) (.c (.sl sid 0 (l_ L) 1)) (.c (cI (l_ L:Nat))) (.c (cI (j:Int))) h=A4 (.t [],h')/\WP D n m f g r (P5 D (d::t) K c (L.drop j)) h'/\Fr r h0 h' /\
   0<=(P5 D (d::t) K c (L.drop j)).lost/\(P5 D (d::t) K c (L.drop j)).lost<=c.lost+7*e/\(P5 D (d::t) K c (L.drop j)).blocks.length=c.blocks.length+e/\(P5 D (d::t) K c (L.drop j)).made.length=c.made.length+e/\(P5 D (d::t) K c (L.drop j)).row=c.row/\(P5 D (d::t) K c (L.drop j)).lnk=c.lnk/\(P5 D (d::t) K c (L.drop j)).ino=c.ino:=by
 intro e
 induction e with
 | zero =>
  intro j M c h hj hM l0 l1 b0 b1 P F hm hx hl;obtain ⟨M,rfl⟩:=X0 M (by omega);have c0:¬ ((j:Int)<(l_ L:Nat)):=by omega
  rw [E8x (by omega)];refine ⟨h,?_,P,F,l0,by show c.lost<=_;omega,rfl,rfl,rfl,rfl,rfl⟩;rw [A2l];simp only [esc,c0];rfl
 | succ e ih =>
  intro j M c h hj hM l0 l1 b0 b1 P F hm hx hl;obtain ⟨M,rfl⟩:=X0 M (by omega);have hjl:j<(l_ L):=by omega
  have c0:((j:Int)<(l_ L:Nat)):=by omega
  have hv2:=hv.get;have w1:=E2 (a:=j) (by omega);have ad:F0 1 (.c (.sl sid 0 (l_ L) 1)) (.c (cI (j:Int)))=A4 (.c (.p sid j)):=by rw [E4 hjl];simp
  have a1:B9 h (.c (.p sid j))=A4 (.c (cI L[j])):=B8 hl.2 (by rw [G6,E8h hjl];rfl) rfl;have lX:C9 h 33 (.c (.p px 0))=A4 (.a (encI (d::t))):=C8 hx.2 (by simp [C1,ht]);obtain ⟨h1,f1,f2,f3⟩:=D6r (no:=L[j]) hD hv P ht hK hm l0 (by omega);have hlen:=B8y (D:=D) (X:=d::t) (no:=L[j]) (K:=K) (l:=J2 (blk D L[j])) (s:=(c,dX [])) (A7i (l:=[])) λx hx=>(C1j x hx).1
  have hlo:=C34 (D:=D) (X:=d::t) (no:=L[j]) (K:=K) (l:=J2 (blk D L[j])) (s:=(c,dX []));have hsa:=A2m (D:=D) (X:=d::t) (no:=L[j]) (K:=K) (l:=J2 (blk D L[j])) (s:=(c,dX []));have h7:=lO (blk D L[j]);have em:dN D (d::t) K c L[j]=dY (V3 D (d::t) L[j] K (c,dX []) (J2 (blk D L[j]))).1 L[j] (V3 D (d::t) L[j] K (c,dX []) (J2 (blk D L[j]))).2:=rfl;obtain ⟨s,hs⟩:=xEq (V3 D (d::t) L[j] K (c,dX []) (J2 (blk D L[j])));rw [<-hs] at f1 f2 hlen hlo hsa em;dsimp only at hlo hsa;have eb:=hsa.blocks;have emd:=hsa.made;obtain ⟨h2,g1,g2,g3⟩:=D2F (no:=L[j]) hv2 f2 hlen (by rw [eb];omega) (by rw [emd];omega);have Fa:=f3.trans g3;rw [E8s hjl];have er:∀ T,P5 D (d::t) K c (L[j]::T)=P5 D (d::t) K (dN D (d::t) K c L[j]) T:=λT=>rfl
  rw [er,em];have k1:(dY s.1 L[j] s.2).blocks.length=c.blocks.length+1:=by show (s.1.blocks++[L[j]]).length=_;rw [eb];simp
  have k2:(dY s.1 L[j] s.2).made.length=c.made.length+1:=by show (s.1.made++[s.2]).length=_;rw [emd];simp
  have k3:(dY s.1 L[j] s.2).lost=s.1.lost:=rfl;obtain ⟨h',p1,p2,p3,p4,p5,p6,p7,p8,p9,p10⟩:=ih (j+1) M (dY s.1 L[j] s.2) h2 (by omega) (by omega) (by rw [k3];omega) (by rw [k3];omega) (by omega) (by omega) g2 (F.trans Fa) (hm.fr Fa) (hx.fr Fa) (hl.fr Fa);refine ⟨h',?_,p2,p3,p4,by rw [k3] at p5;omega,by omega,by omega,p8.trans hsa.row,p9.trans hsa.lnk,p10.trans hsa.ino⟩;rw [A2l];generalize B4 s.2=B2 at *;generalize encI (d::t)=X at *;simp only [esc,c0,ad,a1,lX,f1,g1,w1];exact p1
end
def K5(D:Dev)(n:Int)(c:Cl)(ino:Int):Cl × Int :=
 bif decide (kdV D n ino=2)&&Q9 (blk D ((drV D n ino).getD 0 0)) then (J9 D n c ((drV D n ino).getD 0 0),K4 D n c ((drV D n ino).getD 0 0)) else (c,0)
def W0(D:Dev)(n:Int)(c:Cl)(ino:Int):Cl:={ (K5 D n c ino).1 with ino:=(K5 D n c ino).1.ino.set ino.toNat (2::1::0::(c.par ino).getD 0::(K5 D n c ino).2::zI 6) }
def H5(D:Dev)(n:Int)(c:Cl)(d:Int)(t:List Int):Cl × List Int:=W2 D n (c,bU d t) (J3 (bU d t) (C6 (P9 d t)))
def bodyT(D:Dev)(n:Int)(c:Cl)(ino d:Int)(t:List Int):Cl × (List UInt8->Option Int) :=
 O7 D n ino ((H5 D n c d t).1,λ_=>A7) (S9 D (P9 d t::(H5 D n c d t).2) (J3 (H5 D n c d t).2 (C6 (P9 d t))))
def bE(D:Dev)(n:Int)(c:Cl)(ino no d:Int)(t:List Int):Cl :=
 P5 D (P9 d t::(H5 D n c d t).2) (bodyT D n c ino d t).2 (dY (bodyT D n c ino d t).1 no (bif okX (P9 d t) (H5 D n c d t).2 then pH (P9 d t) (H5 D n c d t).2 else zeros 256)) (J3 (H5 D n c d t).2 (C6 (P9 d t)))
def oY(D:Dev)(n:Int)(c:Cl)(ino:Int):Cl:=
 if (K5 D n c ino).2=0 then W0 D n c ino else
  bE D n (W0 D n c ino) ino (K5 D n c ino).2 (getD (blk D ((drV D n ino).getD 0 0))) (O5 (blk D ((drV D n ino).getD 0 0)) 32)
def C3S{D:Dev}:∀ {L:List Int},(yR D L).length<=7*(l_ L)
 | []=>by simp [yR]
 | no::L=>by
  have h1:=C3S (D:=D) (L:=L);have h2:=lO (blk D no);rw [D0w,E8o,List.length_map,E8w];omega
def D2E:(S9 D X L).length<=7*(l_ L):=by
 have h1:=C3S (D:=D) (L:=L);have h2:=C29 (D:=D) (X:=X) (s:=yR D L);unfold S9;rw [List.length_map];have h3:=B1S (Q0 D X (yR D L));omega
structure Small(c:Cl)(R B S L:Nat):Prop where
 row:c.row.length<=R
 lnk:BndL c B
 blocks:c.blocks.length<=S
 made:c.made.length<=S
 lost0:0<=c.lost
 lost:c.lost<=(L:Int)
section
variable {D:Dev} {n m:Int} {f:Cell} {g:A9} {r:Nat} {c:Cl} {h:A9}
def E1q{pi px R B S Lo:Nat}{k s:Int}{tl:List Int}(hD:okD D)(hv:IsView g f D)(ht:l_ t=32)(hq:300<=q)(h0g:l_ g<=h0.length)(ax:h0.length<=px)(npx:px≠pi)
  (hR:R<=50000) (hB:B<=500000) (hS:S<=50000) (hLo:Lo<=500000) (sm:Small c R B S Lo) (P:WP D n m f g r c h) (F:Fr r h0 h) (hi:LocV h r pi (D1 k l s p (no::tl))) (htl:tl.length=6) (hx:LocV h r px (encI (d::t))) :
  ∃ h',(bnd (C9 h 33 (.c (.p px 0))) λv48=>bnd (fH [.c (.p r 0),v48] h) λp49=>bnd (F7 p49.2 33 (.c (.p px 0)) p49.1) λh50=>bnd (C9 (h50++[A4 (Q1 [])]) 33 (.c (.p px 0))) λv51=>bnd (jV [.c (.p r 0),v51] (h50++[A4 (Q1 [])])) λp52=>bnd (B6y p52.1) λv53=>nH q q (.c (.p r 0)) (.c (cI ino)) (.c (.p pi 0)) (.c (.p px 0)) (.c (.m h50.length)) p52.1 v53 (.c o0) p52.2)=A4 (.t [],h') /\
   WP D n m f g r (bE D n c ino no d t) h'/\Fr r h0 h'/\Small (bE D n c ino no d t) (R+224) (B+224) (S+33) (Lo+224)/\(bE D n c ino no d t).ino=c.ino:=by
 have hv2:=hv.get;have h33:(encI (d::t)).length=33:=by simp [C1,ht]
 have l33:=C8 (n:=33) hx.2 h33;obtain ⟨hA,a1,a2,a3⟩:=D6k (d:=d) (t:=t) hv2 P ht;have hbs:=bK (D:=D) (n:=n) (L:=J3 (bU d t) (C6 (P9 d t))) (s:=(c,bU d t));have hbl:=C2E (D:=D) (n:=n) (L:=J3 (bU d t) (C6 (P9 d t))) (s:=(c,bU d t));have eb:W2 D n (c,bU d t) (J3 (bU d t) (C6 (P9 d t)))=H5 D n c d t:=rfl;rw [eb] at a1 a2 hbs hbl;have hbT:(H5 D n c d t).2.length=32:=hbl.trans B4H;obtain ⟨d',hd'⟩:=xEq (P9 d t);unfold bE bodyT;rw [<-hd'] at a1 ⊢;obtain ⟨s1,hs1⟩:=xEq (H5 D n c d t);rw [<-hs1] at a1 a2 hbs hbT ⊢;dsimp only at hbs;have xA:=hx.fr a3;have iA:=hi.fr a3;have D4s:(encI (d'::s1.2)).length=33:=by simp [C1,hbT]
 have st:=storeAll (n:=33) (xs:=encI (d'::s1.2)) xA.2 h33 D4s;obtain ⟨hB',hBe⟩:=xEq (hA.set px (rT (encI (d'::s1.2))));rw [<-hBe] at st;have PB:WP D n m f g r s1.1 hB':=by rw [hBe];exact a2.set xA.1 (by omega)
 have FB:Fr r h0 hB':=by rw [hBe];exact (F.trans a3).set xA.1 ax
 have xB:LocV hB' r px (encI (d'::s1.2)):=by rw [hBe];exact xA.self
 have iB:LocV hB' r pi (D1 k l s p (no::tl)):=by rw [hBe];exact iA.set npx xA.1.2.1
 obtain ⟨L,hL⟩:=xEq (J3 s1.2 (C6 d'));have hLl:l_ L<=32:=by rw [hL];exact E83 (jL _ _) (T5 _)
 obtain ⟨N,hN⟩:=xEq (S9 D (d'::s1.2) L);have hNl:N.length<=224:=by
  have:=D2E (D:=D) (X:=d'::s1.2) (L:=L);rw [hN];omega
 have PC:=PB.more hv2 [A4 (Q1 [])];have FC:Fr r hB' (hB'++[A4 (Q1 [])]):=Fr.low ((Low.refl (E8m _)).new _) PB.rlt;have nmE:=E2c (n:=n) (m:=m) (f:=f) (r:=r) (d:=d') (t:=s1.2) (h:=hB'++[A4 (Q1 [])]) hD (hv.since PC.lo) (PC.vw hv2) hbT;rw [<-hL,<-hN] at nmE;have PD:=PC.more hv2 [rT (K0 N)];have FD:Fr r (hB'++[A4 (Q1 [])]) (hB'++[A4 (Q1 [])]++[rT (K0 N)]):=Fr.low ((Low.refl (E8m _)).new _) PC.rlt;have hCl:(hB'++[A4 (Q1 [])]).length=hB'.length+1:=by simp
 have LD:LocV (hB'++[A4 (Q1 [])]++[rT (K0 N)]) r (hB'.length+1) (K0 N):=by
  have:=LocV.new (h:=hB'++[A4 (Q1 [])]) (t:=[rT (K0 N)]) (k:=0) (cs:=K0 N) hv2 PC rfl;rw [hCl] at this;exact this
 have mkD:LocM (hB'++[A4 (Q1 [])]++[rT (K0 N)]) r hB'.length []:=by
  refine LocM.fr (h:=hB'++[A4 (Q1 [])]) ⟨⟨by simp,by have:=PB.rlt;omega,λhn=>?_⟩,by simp⟩ FD;have:=C27 hv2 PB ((Nam.same (D5 PB.rlt)).1 hn);omega
 have hpx:=xB.1.1;have hpi:=iB.1.1;have bl0:BndL s1.1 B:=λi=>by rw [hbs.lnk];exact sm.lnk i
 have r0:s1.1.row.length<=R:=by rw [hbs.row];exact sm.row
 have hh0:=FB.size;obtain ⟨M',es',hE,e1,e2,e3,e4,e5,e6,e7,e8,e9,e10⟩:=D7G (q:=q) (ino:=ino) (L:=N) (pi:=pi) (px:=px) (mk:=hB'.length) (lst:=hB'.length+1) (h0:=h0) hD hv h0g hh0 (by omega) (by omega) (by omega) (by omega) N.length 0 q B (s1.1,λ_=>A7) [] _ (by omega) (by omega) (by dsimp only;omega) (by omega) bl0 PD (FB.trans (FC.trans FD)) mkD MapK.nil (iB.fr (FC.trans FD)) (xB.fr (FC.trans FD)) LD;rw [E8y] at e2 e5 e8 e9 e10;rw [<-hL,<-hN];obtain ⟨s2,hs2⟩:=xEq (O7 D n ino (s1.1,λ_=>A7) N);rw [<-hs2] at e2 e5 e8 e9 e10 ⊢;dsimp only at e9 e10;have E3P:=C0B (d:=d') (t:=s1.2) (h:=hE) hbT;obtain ⟨ib,hib⟩:=xEq ((bif okX d' s1.2 then pH d' s1.2 else zeros 256));have E6z:ib.length=256:=by
  rw [hib];cases okX d' s1.2 with
  | true=>exact A7a hbT
  | false=>exact zeros_length
 rw [<-hib] at E3P ⊢;have hIl:(B4 ib).length=256:=by rw [B5,E6z]
 have PF:=e2.more hv2 [rT (B4 ib)];have FF:Fr r hE (hE++[rT (B4 ib)]):=Fr.low ((Low.refl (E8m _)).new _) e2.rlt;have iF:=e6.fr FF;have xF:=e7.fr FF;have mF:=e4.fr FF;have lXE:C9 hE 33 (.c (.p px 0))=A4 (.a (encI (d'::s1.2))):=C8 e7.2 D4s;have li:B9 (hE++[rT (B4 ib)]) (.c (.p pi 4))=A4 (.c (cI no)):=B8 iF.2 rfl rfl;have lib:C9 (hE++[rT (B4 ib)]) 256 (.c (.p hE.length 0))=A4 (.a (B4 ib)):=by rw [H6];exact K9 hIl
 have sib:F7 (hE++[rT (E8l 256 (Cell.i .u8 0))]) 256 (.c (.p hE.length 0)) (.a (B4 ib))=A4 (hE++[rT (B4 ib)]):=by
  rw [I3];show mp (stN (rT (E8l 256 (Cell.i .u8 0))) 0 256 (B4 ib)) _=_;rw [fZ E8S hIl];rfl
 obtain ⟨hG,g1,g2,g3⟩:=D2F (no:=no) hv2 PF E6z (by rw [e10.blocks,hbs.blocks];have:=sm.blocks;omega) (by rw [e10.made,hbs.made];have:=sm.made;omega);have xG:=xF.fr g3;have mG:=mF.fr g3;have lXG:C9 hG 33 (.c (.p px 0))=A4 (.a (encI (d'::s1.2))):=C8 xG.2 D4s;have hBu:=iP (d:=d') (t:=s1.2) (h:=hG) hbT;rw [<-hL] at hBu;have PH:=g2.more hv2 [rT (encI L)];have FH:Fr r hG (hG++[rT (encI L)]):=Fr.low ((Low.refl (E8m _)).new _) g2.rlt;have lH:LocV (hG++[rT (encI L)]) r (hG.length+0) (encI L):=LocV.new (k:=0) hv2 g2 rfl;rw [E9y] at lH;have cb:(dY s2.1 no ib).blocks.length=c.blocks.length+1:=by show (s2.1.blocks++[no]).length=_;rw [e10.blocks,hbs.blocks];simp
 have cm:(dY s2.1 no ib).made.length=c.made.length+1:=by show (s2.1.made++[ib]).length=_;rw [e10.made,hbs.made];simp
 have cl:(dY s2.1 no ib).lost=c.lost:=by show s2.1.lost=_;rw [e10.lost,hbs.lost]
 have sb:=sm.blocks;have smd:=sm.made;have sl0:=sm.lost0;have sl1:=sm.lost;obtain ⟨hZ,z1,z2,z3,z4,z5,z6,z7,z8,z9,z10⟩:=D3Z (q:=q) (d:=d') (t:=s1.2) (L:=L) (K:=s2.2) (es:=es') (mk:=hB'.length) (px:=px) (sid:=hG.length) (h0:=h0) hD hv hbT e5 (by omega) (l_ L) 0 q (dY s2.1 no ib) _ (by omega) (by omega) (by rw [cl];omega) (by rw [cl];omega) (by omega) (by omega) PH (e3.trans (FF.trans (g3.trans FH))) (mG.fr FH) (xG.fr FH) lH;rw [E8y] at z2 z4 z5 z6 z7 z8 z9 z10;refine ⟨hZ,?_,z2,z3,⟨?_,?_,by omega,by omega,z4,by omega⟩,?_⟩
 ·have lXB:C9 (hB'++[A4 (Q1 [])]) 33 (.c (.p px 0))=A4 (.a (encI (d'::s1.2))):=C8 (B6 xB.2) D4s;have e00:((0:Nat):Int)=0:=rfl;rw [e00] at e1 z1;have cN:¬ ((N.length:Nat):Int)<(N.length:Nat):=by omega
  rw [hCl] at nmE;rw [oT q M'] at e1;generalize encI (d::t)=X at *;generalize encI (d'::s1.2)=X' at *;generalize B4 ib=IB at *;generalize E8l 256 (Cell.i .u8 0)=Z at *;simp only [C7,l33,a1,st,lXB,nmE,A6U];refine e1.trans ?_;simp only [esc,cN,lXE,E3P,sib,lib];have ad0:∀ j,K2 6 1 (.c (.p j 4)) (.c o0)=A4 (.c (.p j 4)):=λj=>O2 (j:=0) (by omega)
  simp only [esc,ad0,li,g1,lXG,hBu];exact z1
 ·rw [z8];show s2.1.row.length<=_;omega
 ·intro i;have:=e8 i;rw [z9];show 0<=(s2.1.lnk i).getD 0/\(s2.1.lnk i).getD 0<=_;omega
 ·rw [z10];show s2.1.ino=_;rw [e10.ino,hbs.ino]
end
section
variable {D:Dev} {n m:Int} {f:Cell} {g:A9} {r:Nat} {c:Cl} {h:A9}
def E1o{ino:Nat}{p0:Int}{R B S Lo:Nat}(hD:okD D)(hv:IsView g f D)(ht:l_ t=32)(hq:300<=q)(h0g:l_ g<=h0.length)(i1:ino<c.ino.length)
  (hR:R<=50000) (hB:B<=500000) (hS:S<=50000) (hLo:Lo<=500000) (sm:Small c R B S Lo) (P:WP D n m f g r c h) (F:Fr r h0 h) (hi:LocV h r h0.length (D1 2 1 0 p0 (no::zI 6))) (hx:LocV h r (h0.length+2) (encI (d::t))) :
  ∃ h',nG q (pV r 0) (iV (ino:Int)) (pV h0.length 0) (pV (h0.length+2) 0) h=A4 (.t [],h') /\
   WP D n m f g r (if no=0 then { c with ino:=c.ino.set ino (2::1::0::p0::no::zI 6) } else bE D n { c with ino:=c.ino.set ino (2::1::0::p0::no::zI 6) } ino no d t) h'/\Fr r h0 h' /\
   Small (if no=0 then { c with ino:=c.ino.set ino (2::1::0::p0::no::zI 6) } else bE D n { c with ino:=c.ino.set ino (2::1::0::p0::no::zI 6) } ino no d t) (R+224) (B+224) (S+33) (Lo+224):=by
 have hv2:=hv.get;obtain ⟨id,hC,c1,c2,c3,PC,FC⟩:=P.setIno hv2 (k:=ino) (l:=2::1::0::p0::no::zI 6) i1 rfl;have iC:=hi.fr FC;have xC:=hx.fr FC;have lI:C9 h 11 (pV h0.length 0)=A4 (.a (encI (2::1::0::p0::no::zI 6))):=C8 hi.2 rfl;have adI:F0 11 (sV id 0 c.ino.length 11) (iV (ino:Int))=A4 (pV id (ino*11)):=by rw [E4 i1];simp
 have lC4:B9 hC (pV h0.length 4)=A4 (iV no):=B8 iC.2 rfl rfl;have ad0:∀ j,K2 6 1 (pV j 4) (iV 0)=A4 (pV j 4):=λj=>O2 (j:=0) (by omega)
 have sm':Small { c with ino:=c.ino.set ino (2::1::0::p0::no::zI 6) } R B S Lo:=⟨sm.row,sm.lnk,sm.blocks,sm.made,sm.lost0,sm.lost⟩;rw [B4w];by_cases cz:no=0
 ·rw [C4 cz];refine ⟨hC,?_,PC,F.trans FC,⟨E83 sm.row (by omega),sm'.lnk.mono (by omega),E83 sm.blocks (by omega),E83 sm.made (by omega),sm.lost0,by have:=sm.lost;show c.lost<=_;omega⟩⟩;rw [cz] at lC4;simp only [esc,Nat.reduceAdd,c1,lI,adI,c3,ad0,lC4];rfl
 ·rw [C5 cz];obtain ⟨h',e1,e2,e3,e4,e5⟩:=E1q (ino:=(ino:Int)) (no:=no) (pi:=h0.length) (px:=h0.length+2) (q:=q) (h0:=h0) hD hv ht hq h0g (by omega) (by omega) hR hB hS hLo sm' PC (F.trans FC) iC (tl:=zI 6) rfl xC;refine ⟨h',?_,e2,e3,e4⟩;simp only [esc,Nat.reduceAdd,c1,lI,adI,c3,ad0,lC4,cz];exact e1
def E1n{R B S Lo:Nat}(hD:okD D)(hv:IsView g f D)(P:WP D n m f g r c h)(i0:0<=ino)(i1:ino.toNat<c.ino.length)(hR:R<=50000)(hB:B<=500000)(hS:S<=50000)(hLo:Lo<=500000)(sm:Small c R B S Lo) :
  ∃ h',qL [pV r 0,iV ino] h=A4 (.t [],h')/\WP D n m f g r (oY D n c ino) h'/\Fr r h h'/\Small (oY D n c ino) (R+224) (B+224) (S+33) (Lo+224):=by
 have hv2:=hv.get;obtain ⟨k,rfl⟩:=E9m i0;rw [E8D] at i1;obtain ⟨mp,hq9,q1,q2,_⟩:=P.setPar hv2 0 0;have q2':=q2 A6 k;obtain ⟨p0,hp0⟩:=xEq ((c.par k).getD 0);rw [<-hp0] at q2';obtain ⟨d0,hd0⟩:=xEq ((drV D n k).getD 0 0);obtain ⟨b,hb⟩:=xEq (blk D d0);have hbl:l_ b=256:=by rw [hb];exact J6 hD
 obtain ⟨I,hI⟩:=xEq (D1 (kdV D n k) (lnV D n k) (szV D n k) (paV D n k) (drV D n k));have hIl:l_ I=11:=by rw [hI];simp [D1,C1,O0]
 have I0:I[0]?=A4 (cI (kdV D n k)):=by rw [hI];rfl
 have I4:I[4]?=A4 (cI d0):=by
  rw [hI];simp only [D1,E8F];rw [G6,hd0,E8k,E8h (by rw [O0];omega)];rfl
 have hVI:=λt=>T8 (n:=n) (m:=m) (i:=(k:Int)) (h:=h++t) hD ((hv.since P.lo).more t)
 rw [nK,<-hI] at hVI;have lV:=λt=>(P.more hv2 t).view
 have hBk:=λt=>K8 (n:=n) (m:=m) (no:=d0) (h:=h++t) hD ((hv.since P.lo).more t)
 rw [<-hb] at hBk;have D6I:=λh=>C0y (b:=b) (h:=h) hbl
 obtain ⟨X,hX⟩:=xEq ((bif Q9 b then getD b::O5 b 32 else 0::zI 32));rw [<-hX] at D6I;obtain ⟨dd,tt,hXt,htt⟩:∃ dd tt,X=dd::tt/\tt.length=32:=by
  rw [hX];cases Q9 b with
  | true=>exact ⟨_,_,rfl,A1S b⟩
  | false=>exact ⟨_,_,rfl,N5⟩
 have hXl:(encI X).length=33:=by rw [hXt];simp [C1,htt]
 obtain ⟨z,hz⟩:=xEq (D1 2 1 0 p0 (0::zI 6));have hzl:z.length=11:=by rw [hz];rfl
 have z11:[o0,o0,o0,o0,o0,o0,o0,o0,o0,o0,o0].length=11:=rfl;have ef:F6 [o0,o0,o0,o0,o0,o0,o0,o0,o0,o0,o0] [(0,1,iV 2),(1,1,iV 1),(3,1,iV p0)]=A4 z:=by rw [hz];rfl
 obtain ⟨T,hT⟩:=xEq ([rT z,rT I,rT (encI X)]);have P1:=P.more hv2 T;have F1:Fr r h (h++T):=Fr.low ((Low.refl (E8m _)).new _) P.rlt;have L0:LocV (h++T) r (l_ h+0) z:=LocV.new (k:=0) hv2 P (by rw [hT];rfl);have L1:LocV (h++T) r (l_ h+1) I:=LocV.new (k:=1) hv2 P (by rw [hT];rfl);have L2:LocV (h++T) r (l_ h+2) (encI X):=LocV.new (k:=2) hv2 P (by rw [hT];rfl);rw [E9y] at L0;have ad0:∀ j,K2 6 1 (pV j 4) (iV 0)=A4 (pV j 4):=λj=>O2 (j:=0) (by omega)
 have eO:K5 D n c k=(bif decide (kdV D n k=2)&&Q9 b then (J9 D n c d0,K4 D n c d0) else (c,0)):=by unfold K5;rw [<-hd0,<-hb]
 have eI:∀ s:Cl × Int,K5 D n c k=s->W0 D n c k={ s.1 with ino:=s.1.ino.set k (2::1::0::p0::s.2::zI 6) }:=by
  intro s hs;unfold W0;rw [hs,<-hp0,E8D]
 have eC:∀ s:Cl × Int,K5 D n c k=s->(s.2≠0->Q9 b=A5)->oY D n c k=(if s.2=0 then { s.1 with ino:=s.1.ino.set k (2::1::0::p0::s.2::zI 6) } else bE D n { s.1 with ino:=s.1.ino.set k (2::1::0::p0::s.2::zI 6) } k s.2 dd tt):=by
  intro s hs hg;unfold oY;rw [hs,eI s hs,<-hd0,<-hb];split
  ·rfl
  ·rename_i aZ;have h1:=hg aZ;rw [h1,S8,hXt] at hX;cases hX;rfl
 have pre:∀ {v:Val} {h':A9},(cnd (bV (decide (kdV D n k=2)&&Q9 b)) (bnd (X3 [pV r 0,iV d0] (h++T)) λp33=>bnd (I8 p33.2 (pV (l_ h) 4) p33.1) λh36=>nG 300 (pV r 0) (iV (k:Int)) (pV (l_ h) 0) (pV (l_ h+2) 0) h36)
   (nG 300 (pV r 0) (iV (k:Int)) (pV (l_ h) 0) (pV (l_ h+2) 0) (h++T)))=A4 (v,h')->qL [pV r 0,iV (k:Int)] h=A4 (v,h'):=by
  intro v h' hj;refine B6p (n:=300) ?_;rw [B6h];rw [hT] at hj;have l0:ld1 (rT I) 0=A4 (iV (kdV D n k)):=by rw [zN,I0];rfl
  have l4:ld1 (rT I) 4=A4 (iV d0):=by rw [zN,I4];rfl
  have E5G:(o0::E8l 32 o0).length=33:=by simp
  have s33:stN (rT (o0::E8l 32 o0)) 0 33 (encI X)=rT (encI X):=fZ E5G hXl;generalize [o0,o0,o0,o0,o0,o0,o0,o0,o0,o0,o0]=zz at *;generalize E8l 32 o0=z32 at *;generalize B4 b=BB at *;generalize encI X=XX at *;generalize vwC (l_ D) n m f=V at *;cases hgd:Q9 b with
  | true =>
   rw [hgd] at hj;simp only [hgd,S8] at D6I;by_cases ck:kdV D n k=2
   ·simp only [esc,P7,H6,Z4,J0,S5,I3,K9,fZ,Nat.reduceAdd,q1,q2',wN,ef,hzl,z11,lV,hVI,hIl,ad0,l4,hBk,D6I,s33,l0,ck] at hj ⊢;exact hj
   ·simp only [esc,P7,H6,Z4,J0,S5,I3,K9,fZ,Nat.reduceAdd,q1,q2',wN,ef,hzl,z11,lV,hVI,hIl,ad0,l4,hBk,D6I,s33,l0,ck] at hj ⊢;exact hj
  | false =>
   rw [hgd,Bool.and_false] at hj;simp only [hgd,bZ] at D6I;have n14:¬ (14:Int)=0:=by decide
   by_cases ck:kdV D n k=2
   ·simp only [esc,P7,H6,Z4,J0,S5,I3,K9,fZ,Nat.reduceAdd,q1,q2',wN,ef,hzl,z11,lV,hVI,hIl,ad0,l4,hBk,D6I,s33,l0,ck,n14] at hj ⊢;exact hj
   ·simp only [esc,P7,H6,Z4,J0,S5,I3,K9,fZ,Nat.reduceAdd,q1,q2',wN,ef,hzl,z11,lV,hVI,hIl,ad0,l4,hBk,D6I,s33,l0,ck] at hj ⊢;exact hj
 cases tI:(decide (kdV D n k=2)&&Q9 b) with
 | true =>
  rw [tI] at pre eO;rw [S8] at eO;obtain ⟨h1,f1,f2,f3⟩:=C0J (no:=d0) P1;have A0:=L0.fr f3;have A2:=L2.fr f3;have s1:=I9 (x:=cI (K4 D n c d0)) (off:=4) A0.2 (by rw [hzl];omega);have es:z.set 4 (cI (K4 D n c d0))=D1 2 1 0 p0 (K4 D n c d0::zI 6):=by rw [hz];rfl
  rw [es] at s1;have hsame:=A05 D n c d0;rw [hXt] at A2;have sm':Small (J9 D n c d0) R B S Lo:=⟨by rw [hsame.row];exact sm.row,λi=>by rw [hsame.lnk];exact sm.lnk i,by rw [hsame.blocks];exact sm.blocks,by rw [hsame.made];exact sm.made,by rw [hsame.lost];exact sm.lost0,by rw [hsame.lost];exact sm.lost⟩;obtain ⟨h',e1,e2,e3,e4⟩:=E1o (ino:=k) (no:=K4 D n c d0) (q:=300) (h0:=h) hD hv htt (by omega) P.lo.2.1 (by rw [hsame.ino];exact i1) hR hB hS hLo sm' (f2.set A0.1 (by have:=P.lo.2.1;omega)) ((F1.trans f3).set A0.1 (E8m _)) A0.self (A2.set (by omega) A0.1.2.1);rw [eC _ eO (λ_=>by
   simp only [E8j] at tI;exact tI.2)]
  refine ⟨h',pre ?_,e2,e3,e4⟩;simp only [X6,f1,C7,s1];exact e1
 | false =>
  rw [tI] at pre eO;rw [bZ] at eO;rw [hz] at L0;rw [hXt] at L2;obtain ⟨h',e1,e2,e3,e4⟩:=E1o (ino:=k) (no:=0) (q:=300) (h0:=h) hD hv htt (by omega) P.lo.2.1 i1 hR hB hS hLo sm P1 F1 L0 L2;rw [eC _ eO (λaZ=>absurd rfl aZ)];refine ⟨h',pre ?_,e2,e3,e4⟩;simp only [Y6];exact e1
end
structure RowW(n:Int)(c:Cl):Prop where
 nd:c.row.Nodup
 par:∀ i,(c.par i).isSome=A5↔i∈c.row
 rg:∀ i∈c.row,1<=i/\i<=n
def RowW.same{c':Cl}(h:RowW n c)(h1:c'.row=c.row)(h2:c'.par=c.par):RowW n c' :=
 ⟨by rw [h1];exact h.nd,λi=>by rw [h1,h2];exact h.par i,by rw [h1];exact h.rg⟩
def D1F{dir:Int}(h:RowW n c):RowW n (T7 D n c dir ino):=by
 unfold T7;cases ht:R0 D n c ino with
 | false=>exact h
 | true =>
  rw [S8];cases hs:(c.par ino).isSome with
  | true=>exact h.same rfl rfl
  | false =>
   rw [bZ];have Y8:ino ∉ c.row:=λhm=>by
    rw [(h.par ino).2 hm] at hs;cases hs
   have hk:kdV D n ino≠0:=by
    intro e;unfold R0 at ht;rw [e] at ht;simp at ht
   have hr:=(D6R hk).2;refine ⟨?_,λi=>?_,λi hi=>?_⟩
   ·show (c.row++[ino]).Nodup;rw [List.nodup_append];exact ⟨h.nd,by simp,λa ha b hb e=>by simp at hb;subst hb;subst e;exact Y8 ha⟩
   ·show (A1o c.par ino dir i).isSome=A5↔i∈c.row++[ino];unfold A1o;by_cases e:i=ino
    ·subst e;simp
    ·rw [C5 e,h.par i];simp [e]
   ·have hi:i∈c.row++[ino]:=hi;rcases E8U.1 hi with h1 | h1
    ·exact h.rg i h1
    ·simp at h1;subst h1;exact hr
def D1I:∀ {L:List Ent} {s:Cl × (List UInt8->Option Int)},RowW n s.1->RowW n (O7 D n ino s L).1
 | [],_,h=>h
 | x::L,s,h=>by
  have h1:RowW n (J7 D n ino s x).1:=by
   unfold J7;cases R0 D n s.1 x.2 with
   | false=>exact h
   | true=>exact D1F h
  exact D1I (L:=L) (s:=J7 D n ino s x) h1
def oV{D:Dev}{X:List Int}{K:List UInt8->Option Int}:∀ {L:List Int} {c:Cl},(P5 D X K c L).row=c.row/\(P5 D X K c L).par=c.par
 | [],_=>⟨rfl,rfl⟩
 | no::L,c=>by
  have h1:=oV (D:=D) (X:=X) (K:=K) (L:=L) (c:=dN D X K c no);have h2:=A2m (D:=D) (X:=X) (no:=no) (K:=K) (l:=J2 (blk D no)) (s:=(c,dX []));exact ⟨h1.1.trans h2.row,h1.2.trans h2.par⟩
def vT:SameC c (K5 D n c ino).1:=by
 unfold K5;cases (decide (kdV D n ino=2)&&Q9 (blk D ((drV D n ino).getD 0 0))) with
 | true=>exact A05 ..
 | false=>exact .rfl' _
def E1i(h:RowW n c):RowW n (oY D n c ino):=by
 have hs:=vT (D:=D) (n:=n) (ino:=ino) (c:=c);have hI:RowW n (W0 D n c ino):=h.same hs.row hs.par;unfold oY;split
 ·exact hI
 ·unfold bE;have hb:=bK (D:=D) (n:=n) (L:=J3 (bU (getD (blk D ((drV D n ino).getD 0 0))) (O5 (blk D ((drV D n ino).getD 0 0)) 32)) (C6 (P9 (getD (blk D ((drV D n ino).getD 0 0))) (O5 (blk D ((drV D n ino).getD 0 0)) 32)))) (s:=(W0 D n c ino,bU (getD (blk D ((drV D n ino).getD 0 0))) (O5 (blk D ((drV D n ino).getD 0 0)) 32)));have h1:RowW n (H5 D n (W0 D n c ino) (getD (blk D ((drV D n ino).getD 0 0))) (O5 (blk D ((drV D n ino).getD 0 0)) 32)).1:=hI.same hb.row hb.par;have h2:RowW n (bodyT D n (W0 D n c ino) ino (getD (blk D ((drV D n ino).getD 0 0))) (O5 (blk D ((drV D n ino).getD 0 0)) 32)).1:=D1I (by exact h1);generalize bodyT D n (W0 D n c ino) ino (getD (blk D ((drV D n ino).getD 0 0))) (O5 (blk D ((drV D n ino).getD 0 0)) 32)=s2 at *;refine h2.same (oV.1.trans rfl) (oV.2.trans rfl)
def A08:(V4 D n c ino).row=c.row/\(V4 D n c ino).par=c.par/\(V4 D n c ino).lnk=c.lnk/\(V4 D n c ino).lost=c.lost/\(V4 D n c ino).ino.length=c.ino.length/\(V4 D n c ino).blocks.length<=c.blocks.length+1/\(V4 D n c ino).made.length<=c.made.length+1:=by
 have hf:=pA (D:=D) (n:=n) (ino:=ino) (c:=c);have e1:(L9 D n c ino).row=c.row:=hf.1.row;have e2:(L9 D n c ino).par=c.par:=hf.1.par;have e3:(L9 D n c ino).lnk=c.lnk:=hf.1.lnk;have e4:(L9 D n c ino).lost=c.lost:=hf.1.lost;have e5:(L9 D n c ino).ino.length=c.ino.length:=by unfold L9;simp [hf.1.ino]
 have e6:(L9 D n c ino).blocks=c.blocks:=hf.1.blocks;have e7:(L9 D n c ino).made=c.made:=hf.1.made;unfold V4;split
 ·exact ⟨e1,e2,e3,e4,e5,by rw [e6];omega,by rw [e7];omega⟩
 ·have hs:=kC (D:=D) (n:=n) (many:=T9 (szV D n ino)) (e:=128) (k:=0) (s:=(L9 D n c ino,blk D ((I6 D n c ino).2.getD 6 0)));dsimp only at hs;generalize M4 D n (T9 (szV D n ino)) 128 0 (L9 D n c ino,blk D ((I6 D n c ino).2.getD 6 0))=s at *;refine ⟨hs.row.trans e1,hs.par.trans e2,hs.lnk.trans e3,hs.lost.trans e4,?_,?_,?_⟩
  ·show s.1.ino.length=_;rw [hs.ino];exact e5
  ·show (s.1.blocks++[_]).length<=_;rw [E8o,hs.blocks,e6];simp
  ·show (s.1.made++[_]).length<=_;rw [E8o,hs.made,e7];simp
def U4(D:Dev)(n:Int)(c:Cl)(ino:Int):Cl:=if ino≠1/\kdV D n ino=1 then V4 D n c ino else oY D n c ino
def ofR(D:Dev)(n:Int):Nat->Nat->Cl->Cl
 | 0,_,c=>c
 | e+1,i,c=>match c.row[i]? with
  | none=>c
  | some a=>ofR D n e (i+1) (U4 D n c a)
def D1J:∀ {L:List Ent} {s:Cl × (List UInt8->Option Int)},s.1.row.length<=(O7 D n ino s L).1.row.length
 | [],_=>E8m _
 | x::L,s=>by
  have h1:s.1.row.length<=(J7 D n ino s x).1.row.length:=by
   unfold J7 T7;cases R0 D n s.1 x.2 with
   | false=>exact E8m _
   | true =>
    simp only [S8];cases (s.1.par x.2).isSome with
    | true=>exact E8m _
    | false=>simp [C5s,A2A]
  exact E83 h1 (D1J (L:=L) (s:=J7 D n ino s x))
def C24:(dY c no b).row=c.row:=rfl
def E1j:c.row.length<=(oY D n c ino).row.length:=by
 have hs:=vT (D:=D) (n:=n) (ino:=ino) (c:=c);have e1:(W0 D n c ino).row=c.row:=hs.row;unfold oY;split
 ·rw [e1];exact E8m _
 ·unfold bE;rw [oV.1,C24,<-e1];unfold bodyT;refine E83 (Nat.le_of_eq ?_) D1J;unfold H5;exact congrArg List.length (bK (D:=D) (n:=n) (s:=(W0 D n c ino,_)) (L:=_)).row.symm
def D43:c.row.length<=(U4 D n c ino).row.length:=by
 unfold U4;split
 ·rw [A08.1];exact E8m _
 ·exact E1j
section
variable {D:Dev} {n m:Int} {f:Cell} {g:A9} {r:Nat} {h:A9}
def C35{D:Dev}{X:List Int}{K:List UInt8->Option Int}:∀ {L:List Int} {c:Cl},(P5 D X K c L).ino=c.ino
 | [],_=>rfl
 | no::L,c=>by
  have h1:=C35 (D:=D) (X:=X) (K:=K) (L:=L) (c:=dN D X K c no);have h2:=A2m (D:=D) (X:=X) (no:=no) (K:=K) (l:=J2 (blk D no)) (s:=(c,dX []));exact h1.trans h2.ino
def iX{D:Dev}{n:Int}(h:RowW n c):RowW n (U4 D n c ino):=by
 unfold U4;split
 ·exact h.same A08.1 A08.2.1
 ·exact E1i h
def E37{pv pr:Nat}{zr:List Cell}(hD:okD D)(hv:IsView g f D)(hn:n<=128) :
  ∀ (e i M:Nat) (c:Cl) (h:A9),i+e=129->e<M->i<=c.row.length->RowW n c->Small c 128 (224*i) (33*i) (224*i)->WP D n m f g r c h->Fr r h0 h->LocV h r pv (vwC (l_ D) n m f)->LocV h r pr zr ->
  ∃ M' h',vR q M (pV pv 0) (pV pr 0) (pV r 0) (iV (i:Int)) h=vR q (M'+1) (pV pv 0) (pV pr 0) (pV r 0) (iV ((ofR D n e i c).row.length:Nat)) h' /\
   WP D n m f g r (ofR D n e i c) h'/\Fr r h0 h'/\LocV h' r pv (vwC (l_ D) n m f)/\LocV h' r pr zr/\RowW n (ofR D n e i c)/\Small (ofR D n e i c) 128 (224*129) (33*129) (224*129):=by
 intro e
 induction e with
 | zero =>
  intro i M c h hi hM mI hR sm;have:=A7j hR.nd λa ha=>⟨(hR.rg a ha).1,by have:=(hR.rg a ha).2;omega⟩
  omega
 | succ e ih =>
  intro i M c h hi hM mI hR sm P F hpv hpr;obtain ⟨M,rfl⟩:=X0 M (by omega);unfold ofR;cases hc:c.row[i]? with
  | none =>
   have hlen:=List.getElem?_eq_none_iff.1 hc;have ei:i=c.row.length:=by omega
   dsimp only;rw [<-ei];exact ⟨M,h,rfl,P,F,hpv,hpr,hR,⟨sm.row,sm.lnk.mono (by omega),E83 sm.blocks (by omega),E83 sm.made (by omega),sm.lost0,by have:=sm.lost;omega⟩⟩
  | some a =>
   dsimp only;have K6:i<c.row.length:=(E8p.1 hc).1;have ha:a∈c.row:=E8H hc;obtain ⟨ra1,ra2⟩:=hR.rg a ha;obtain ⟨xr,xi,xt,xb,xm,ml,mp,es1,es2,g1,g2,g3,g4,g5,g6,g7,g8,g9,g10,g11⟩:=id P.row;have w1:=E2 (a:=i) (by omega);have c0:((i:Int)<(c.row.length:Nat)):=by omega
   rcases g3 with ⟨e0,_,_⟩ | ⟨rid,rfl,r1,r2,r3⟩
   ·omega
   ·have l4:B9 h (pV r 4)=A4 (sV rid 0 c.row.length 1):=B8 g1 rfl rfl;have ad:F0 1 (sV rid 0 c.row.length 1) (iV (i:Int))=A4 (pV rid i):=by rw [E4 K6];simp
    have la:B9 h (pV rid i)=A4 (iV a):=B8 r1 (by rw [G6,hc];rfl) rfl;have lV:C9 h 4 (pV pv 0)=A4 (.a (vwC (l_ D) n m f)):=C8 hpv.2 rfl;have hI:=T8 (n:=n) (m:=m) (i:=a) hD (hv.since P.lo);rw [nK] at hI;have f0:∀ k l s p d,B7b (.a (D1 k l s p d)) 0=A4 (iV k):=λ_ _ _ _ _=>rfl
    have hin:a.toNat<c.ino.length:=by rw [P.ilen];omega
    have hR':=iX (D:=D) (ino:=a) hR;have r128:=A7j hR'.nd λa ha=>⟨(hR'.rg a ha).1,by have:=(hR'.rg a ha).2;omega⟩
    have step:∃ h1,WP D n m f g r (U4 D n c a) h1/\Fr r h h1/\Small (U4 D n c a) 128 (224*(i+1)) (33*(i+1)) (224*(i+1)) /\
      vR q (M+1) (pV pv 0) (pV pr 0) (pV r 0) (iV (i:Int)) h=vR q M (pV pv 0) (pV pr 0) (pV r 0) (iV ((i+1:Nat):Int)) h1:=by
     rw [B4t];have hs:=A08 (D:=D) (n:=n) (ino:=a) (c:=c);have sb:=sm.blocks;have smd:=sm.made;have sl:=sm.lost;by_cases c1:a=1
     ·obtain ⟨h1,f1,f2,f3,f4⟩:=E1n hD hv P (by omega) hin (by omega) (by omega) (by omega) (by omega) sm;have eo:U4 D n c a=oY D n c a:=by unfold U4;rw [C5 (by simp [c1])]
      rw [eo] at r128 ⊢;refine ⟨h1,f2,f3,⟨r128,f4.lnk.mono (by omega),by have:=f4.blocks;omega,by have:=f4.made;omega,f4.lost0,by have:=f4.lost;omega⟩,?_⟩;rw [c1] at la f1;generalize vwC (l_ D) n m f=V at *;simp only [esc,l4,c0,ad,la,eq_self,f1,A5t,w1]
     ·by_cases c2:kdV D n a=1
      ·obtain ⟨h1,f1,f2,f3⟩:=E3L hD hv P (by omega) (by omega) (by omega) hin;have eo:U4 D n c a=V4 D n c a:=by unfold U4;rw [C4 ⟨c1,c2⟩]
       rw [eo] at r128 ⊢;refine ⟨h1,f2,f3,⟨r128,λj=>by rw [hs.2.2.1];have:=sm.lnk j;omega,by have:=hs.2.2.2.2.2.1;omega,by have:=hs.2.2.2.2.2.2;omega,by rw [hs.2.2.2.1];exact sm.lost0,by rw [hs.2.2.2.1];omega⟩,?_⟩;generalize vwC (l_ D) n m f=V at *;simp only [esc,l4,c0,ad,la,c1,lV,hI,f0,c2,f1,A5t,w1]
      ·obtain ⟨h1,f1,f2,f3,f4⟩:=E1n hD hv P (by omega) hin (by omega) (by omega) (by omega) (by omega) sm;have eo:U4 D n c a=oY D n c a:=by unfold U4;rw [C5 (by simp [c2])]
       rw [eo] at r128 ⊢;refine ⟨h1,f2,f3,⟨r128,f4.lnk.mono (by omega),by have:=f4.blocks;omega,by have:=f4.made;omega,f4.lost0,by have:=f4.lost;omega⟩,?_⟩;generalize vwC (l_ D) n m f=V at *;simp only [esc,l4,c0,ad,la,c1,lV,hI,f0,c2,f1,A5t,w1]
    obtain ⟨h1,s1,s2,s3,s4⟩:=step;have hlen:i+1<=(U4 D n c a).row.length:=by
     have:c.row.length<=(U4 D n c a).row.length:=D43;omega
    obtain ⟨M',h',e1,e2⟩:=ih (i+1) M (U4 D n c a) h1 (by omega) (by omega) hlen hR' s3 s1 (F.trans s2) (hpv.fr s2) (hpr.fr s2);exact ⟨M',h',s4.trans e1,e2⟩
end
def D5B:∀ {l:List (List Int)} {i k:Nat} {v:Int} (h:∀ x∈l,x.length=11) (hi:i<l_ l) (hk:k<11),(pJ l).set (i*11+k) (cI v)=pJ (l.set i ((l.getD i []).set k v))
 | x::l,0,k,v,h,_,hk=>by
  have hx:=h x (E8u ..);rw [bM,Nat.zero_mul,E8A,List.set_append_left _ _ (by rw [C1];omega),zH];rfl
 | x::l,i+1,k,v,h,hi,hk=>by
  have hx:=h x (E8u ..);have ih:=D5B (l:=l) (i:=i) (k:=k) (v:=v) (λy hy=>h y (E8q _ hy)) (by simpa using hi) hk;rw [bM,List.set_append_right _ _ (by rw [C1,hx];omega),C1,hx,show (i+1)*11+k-11=i*11+k by omega,ih];rfl
def D4q:∀ {l:List (List Int)} {i k:Nat} (h:∀ x∈l,x.length=11) (hi:i<l_ l) (hk:k<11),(pJ l)[i*11+k]?=A4 (cI ((l.getD i []).getD k 0))
 | x::l,0,k,h,_,hk=>by
  have hx:=h x (E8u ..);rw [bM,Nat.zero_mul,E8A,E88 (by rw [C1];omega),G6,E8h (by omega)];simp [List.getD,show k<x.length by omega]
 | x::l,i+1,k,h,hi,hk=>by
  have hx:=h x (E8u ..);have ih:=D4q (l:=l) (i:=i) (k:=k) (λy hy=>h y (E8q _ hy)) (by simpa using hi) hk;rw [bM,E8L (by rw [C1,hx];omega),C1,hx,show (i+1)*11+k-11=i*11+k by omega,ih];rfl
def aV(c:Cl)(a:Int):Cl:=if (c.ino.getD a.toNat []).getD 0 0=1 then { c with ino:=c.ino.set a.toNat ((c.ino.getD a.toNat []).set 1 ((c.lnk a).getD 0)) } else c
def cE(c:Cl)(L:List Int):Cl:=L.foldl aV c
section
variable {D:Dev} {n m:Int} {f:Cell} {g:A9} {r:Nat} {c:Cl} {h:A9}
def WP.setLink(hv:∃ id cs,f=.f id cs)(P:WP D n m f g r c h)(hk:k<c.ino.length)(v:Int) :
  ∃ id h',B9 h (pV r 5)=A4 (sV id 0 c.ino.length 11)/\rd h id=rT (pJ c.ino)/\I8 h (pV id (k*11+1)) (iV v)=A4 h'/\WP D n m f g r { c with ino:=c.ino.set k ((c.ino.getD k []).set 1 v) } h'/\Fr r h h' /\
   ∀ rid nn,rd h r≠A7->(∃ cs,rd h r=rT cs/\cs[4]?=A4 (.sl rid 0 nn 1))->rd h' r=rd h r/\rd h' rid=rd h rid:=by
 obtain ⟨xr,xi,xt,xb,xm,ml,mp,es1,es2,g1,g2,g3,g4,g5,g6,g7,g8,g9,g10,g11⟩:=id P.row;rcases g4 with ⟨e,_,_⟩ | ⟨t,rfl,t1,t2,t3⟩
 ·omega
 ·have l1:B9 h (pV r 5)=A4 (sV t 0 c.ino.length 11):=B8 g1 rfl rfl;have st:=I9 (x:=cI v) (off:=k*11+1) t1 (by rw [t2];omega);rw [D5B P.il hk (by omega)] at st;obtain ⟨q1,q2,q3,q4,q5⟩:=P.mod (off:=5) (x:=.sl t 0 c.ino.length 11) hv g1 rfl rfl (rT (pJ (c.ino.set k ((c.ino.getD k []).set 1 v))));have hkl:(c.ino.getD k []).length=11:=by
   rw [E8k,E8h hk];exact P.il _ (E8M hk)
  have K6:∀ x∈c.ino.set k ((c.ino.getD k []).set 1 v),x.length=11:=λx hx=>by
   rcases List.mem_or_eq_of_mem_set hx with h1 | h1
   ·exact P.il x h1
   ·rw [h1,E80];exact hkl
  refine ⟨t,_,l1,t1,st,⟨q2,P.ge,λid hn=>P.low id ((Nam.same q3).1 hn),K6,by simpa using P.ilen,P.tlen,xr,_,xt,xb,xm,ml,mp,es1,es2,by rw [q3];exact g1,g2,g3.kept λid e=>q4 4 _ _ (by decide) rfl e,.inr ⟨t,by simp,q5,by rw [qV K6],t3⟩,g5.kept λid e=>q4 6 _ _ (by decide) rfl e,g6.kept λid e=>q4 7 _ _ (by decide) rfl e,g7.kept λid e=>q4 8 _ _ (by decide) rfl e,?_,g9,?_,g11⟩,q1,λrid nn _ hc=>⟨q3,?_⟩⟩
  ·rw [q4 10 (.m ml) ml (by decide) rfl rfl];exact g8
  ·rw [q4 11 (.m mp) mp (by decide) rfl rfl];exact g10
  ·obtain ⟨cs,hc1,hc2⟩:=hc;rw [g1] at hc1;cases hc1;exact q4 4 _ rid (by decide) hc2 rfl
def D9w{pr rid:Nat}{R:List Int}(hv:IsView g f D)(hR:l_ R<=1000)(hrg:∀ a∈R,1<=a/\a<=n) :
  ∀ (e i M:Nat) (c:Cl) (h:A9),i+e=l_ R->e<M->WP D n m f g r c h->Fr r h0 h->(∃ z,z.length=6/\LocV h r pr z)->(∃ cs,rd h r=rT cs/\cs[4]?=A4 (.sl rid 0 (l_ R) 1))->rd h rid=rT (encI R) ->
  ∃ M' h',B4u q M (pV pr 0) (pV r 0) (sV rid 0 (l_ R) 1) (iV (l_ R:Nat)) (iV (i:Int)) h=B4u q (M'+1) (pV pr 0) (pV r 0) (sV rid 0 (l_ R) 1) (iV (l_ R:Nat)) (iV (l_ R:Nat)) h' /\
   WP D n m f g r (cE c (R.drop i)) h'/\Fr r h0 h'/\(∃ z,z.length=6/\LocV h' r pr z):=by
 intro e
 induction e with
 | zero =>
  intro i M c h hi hM P F hz hc hr;obtain ⟨M,rfl⟩:=X0 M (by omega);have ei:i=(l_ R):=by omega
  subst ei;rw [List.drop_length];exact ⟨M,h,rfl,P,F,hz⟩
 | succ e ih =>
  intro i M c h hi hM P F hz hc hr;obtain ⟨M,rfl⟩:=X0 M (by omega);have K6:i<(l_ R):=by omega
  have hv2:=hv.get;have c0:((i:Int)<(l_ R:Nat)):=by omega
  have w1:=E2 (a:=i) (by omega);have ad:F0 1 (sV rid 0 (l_ R) 1) (iV (i:Int))=A4 (pV rid i):=by rw [E4 K6];simp
  have la:B9 h (pV rid i)=A4 (iV R[i]):=B8 hr (by rw [G6,E8h K6];rfl) rfl;obtain ⟨ra1,ra2⟩:=hrg _ (E8M K6);rw [E8s K6];have er:∀ T,cE c (R[i]::T)=cE (aV c R[i]) T:=λT=>rfl
  rw [er];obtain ⟨k,hk⟩:=E9m (show 0<=R[i] by omega);rw [hk] at la ra1 ra2 ⊢;have hin:k<c.ino.length:=by rw [P.ilen];omega
  obtain ⟨id,h1,a1,a2,a3,a4,a5,a6⟩:=P.setLink hv2 hin ((c.lnk k).getD 0);obtain ⟨ml,hx,b1,b2,_⟩:=P.setLnk hv2 0 0;have b2':=b2 A6 k;have adI:F0 11 (sV id 0 c.ino.length 11) (iV (k:Int))=A4 (pV id (k*11)):=by rw [E4 hin];simp
  have lk:B9 h (pV id (k*11))=A4 (iV ((c.ino.getD k []).getD 0 0)):=B8 a2 (by have:=D4q (l:=c.ino) (i:=k) (k:=0) P.il hin (by omega);simpa using this) rfl;rw [B4v];by_cases c1:(c.ino.getD k []).getD 0 0=1
  ·have ec:aV c (k:Int)={ c with ino:=c.ino.set k ((c.ino.getD k []).set 1 ((c.lnk k).getD 0)) }:=by unfold aV;rw [E8D,C4 c1]
   rw [ec];have aZ:rd h r≠A7:=by obtain ⟨cs,h1,_⟩:=hc;rw [h1];simp
   obtain ⟨k1,k2⟩:=a6 rid (l_ R) aZ hc;obtain ⟨z,hzl,hz⟩:=hz;obtain ⟨M',h',e1,e2⟩:=ih (i+1) M _ h1 (by omega) (by omega) a4 (F.trans a5) ⟨z,hzl,hz.fr a5⟩ (by rw [k1];exact hc) (by rw [k2];exact hr);refine ⟨M',h',?_,e2⟩;simp only [esc,Nat.reduceAdd,c0,ad,la,a1,adI,lk,c1,b1,b2',wN,a3,B4r,w1];exact e1
  ·have ec:aV c (k:Int)=c:=by unfold aV;rw [E8D,C5 c1]
   rw [ec];obtain ⟨M',h',e1,e2⟩:=ih (i+1) M c h (by omega) (by omega) P F hz hc hr;refine ⟨M',h',?_,e2⟩;simp only [esc,Nat.reduceAdd,c0,ad,la,a1,adI,lk,c1,B4r,w1];exact e1
def wM(c:Cl):Nat->Cl
 | 0=>c
 | k+1=>{ wM c k with taken:=(wM c k).taken.set k A5 }
def E2n{pv pr sid K:Nat}{cv cr:List Cell}(hv:IsView g f D)(hK:K<=l_ D)(hK2:K<=1000) :
  ∀ (e i M:Nat) (h:A9),i+e=K->e<M->WP D n m f g r (wM c i) h->Fr r h0 h->LocV h r pv cv->LocV h r pr cr->LocV h r sid (encI (upto K)) ->
  ∃ h',C33 q M (pV pv 0) (pV pr 0) (pV r 0) (sV sid 0 K 1) (iV (K:Nat)) (iV (i:Int)) h=vR q q (pV pv 0) (pV pr 0) (pV r 0) (iV 0) h' /\
   WP D n m f g r (wM c K) h'/\Fr r h0 h'/\LocV h' r pv cv/\LocV h' r pr cr:=by
 intro e
 induction e with
 | zero =>
  intro i M h hi hM P F hp hr hs;obtain ⟨M,rfl⟩:=X0 M (by omega);have ei:i=K:=by omega
  subst ei;refine ⟨h,?_,P,F,hp,hr⟩;have c0:¬ ((i:Int)<(i:Nat)):=by omega
  rw [B4s];simp only [esc,c0]
 | succ e ih =>
  intro i M h hi hM P F hp hr hs;obtain ⟨M,rfl⟩:=X0 M (by omega);have hiK:i<K:=by omega
  have c0:((i:Int)<(K:Nat)):=by omega
  have w1:=E2 (a:=i) (by omega);have ad:F0 1 (sV sid 0 K 1) (iV (i:Int))=A4 (pV sid i):=by rw [E4 hiK];simp
  have la:B9 h (pV sid i)=A4 (iV (i:Int)):=B8 hs.2 (by rw [G6];simp [upto,hiK]) rfl;obtain ⟨xr,xi,xt,xb,xm,ml,mp,es1,es2,g1,_⟩:=id P.row;obtain ⟨t,rfl,t1,t2,t3⟩:=P.take (k:=i) (v:=A5) g1 (by omega);have lT:B9 h (pV r 6)=A4 (sV t 0 (l_ D) 1):=B8 g1 rfl rfl;have hit:i<(wM c i).taken.length:=by rw [P.tlen];omega
  have adT:F0 1 (sV t 0 (l_ D) 1) (iV (i:Int))=A4 (pV t i):=by rw [E4 (show i<(l_ D) by omega)];simp
  have s1:I8 h (pV t i) (bV A5)=A4 (h.set t (rT (fL ((wM c i).taken.set i A5)))):=by
   rw [I9 t1 (by simp [fL,hit])];simp [fL,List.map_set]
  obtain ⟨h',e1,e2⟩:=ih (i+1) M _ (by omega) (by omega) t2 (F.trans t3) (hp.fr t3) (hr.fr t3) (hs.fr t3);refine ⟨h',?_,e2⟩;rw [B4s];simp only [esc,Nat.reduceAdd,c0,ad,la,lT,adT,s1,w1];exact e1
end
def B8t{h2:A9}{b:Nat}:∀ (l:List Cell) (seen:List Nat),(∀ x∈l,x.flat=A5\/∃ id off n sz cs,x=.sl id off n sz/\b<=id/\rd h2 id=rT cs/\M9 cs=A5) ->
  (∀ (i j a:Nat) (x y:Cell),l[i]?=A4 x->l[j]?=A4 y->nmC x=A4 a->nmC y=A4 a->i=j)->(∀ x∈l,∀ a,nmC x=A4 a->a ∉ seen) ->
  ∃ l2 fin,P8 h2 b seen l=A4 (l2,fin)/\seen <+: fin/\l2.length=l_ l/\∀ (i:Nat) (x:Cell),l[i]?=A4 x->(x.flat=A5/\l2[i]?=A4 x)\/∃ id off n sz j,x=.sl id off n sz/\l2[i]?=A4 (.sl (b+j) off n sz)/\fin[j]?=A4 id
 | [],seen,_,_,_=>⟨[],seen,rfl,E9j _,rfl,λi x h=>by simp at h⟩
 | c::l,seen,hf,hd,hs=>by
  have hd':∀ (i j a:Nat) (x y:Cell),l[i]?=A4 x->l[j]?=A4 y->nmC x=A4 a->nmC y=A4 a->i=j:=λi j a x y h1 h2 h3 h4=>by
   have:=hd (i+1) (j+1) a x y (by simpa using h1) (by simpa using h2) h3 h4;omega
  rcases hf c (E8u ..) with hc | ⟨id,off,n,sz,cs,rfl,hb,hr,hfl⟩
  ·obtain ⟨l2,fin,e1,e2,e3,e4⟩:=B8t l seen (λx hx=>hf x (E8q _ hx)) hd' λx hx=>hs x (E8q _ hx)
   refine ⟨c::l2,fin,?_,e2,by simp [e3],λi x hi=>?_⟩
   ·unfold P8;rw [C4 (Cell.low_of_flat hc),e1];rfl
   ·cases i with
    | zero=>simp at hi;subst hi;exact .inl ⟨hc,rfl⟩
    | succ i=>simpa using e4 i x (by simpa using hi)
  ·have hns:id ∉ seen:=hs _ (E8u ..) id rfl;obtain ⟨l2,fin,e1,e2,e3,e4⟩:=B8t l (seen++[id]) (λx hx=>hf x (E8q _ hx)) hd' λx hx a ha=>by
    rw [E8U];rintro (h1 | h1)
    ·exact hs x (E8q _ hx) a ha h1
    ·simp at h1;subst h1;obtain ⟨j,hj⟩:=E9g.1 hx;have:=hd 0 (j+1) a _ x rfl (by simpa using hj) rfl ha;omega
   have hlow:¬ (Cell.sl id off n sz).low b=A5:=by simp [Cell.low];omega
   refine ⟨.sl (b+seen.length) off n sz::l2,fin,?_,(List.prefix_append _ _).trans e2,by simp [e3],λi x hi=>?_⟩
   ·unfold P8;rw [C5 hlow];dsimp only;rw [C4 ⟨hb,hns,lQ hr hfl⟩,e1];rfl
   ·cases i with
    | zero =>
     simp at hi;subst hi;refine .inr ⟨id,off,n,sz,seen.length,rfl,rfl,?_⟩;obtain ⟨t,rfl⟩:=e2;simp
    | succ i=>simpa using e4 i x (by simpa using hi)
structure IsCl(h:A9)(cs:List Cell)(c:Cl):Prop where
 form:∃ xr xi xt xb xm,cs=[xr,xi,xt,xb,xm,cI c.lost]/\Has h (.c xr) 1 c.row.length (encI c.row)/\Has h (.c xi) 11 c.ino.length (pJ c.ino)/\Has h (.c xt) 1 c.taken.length (fL c.taken)/\Has h (.c xb) 1 c.blocks.length (encI c.blocks)/\Has h (.c xm) 256 c.made.length (E3 c.made)
def I5(D:Dev)(n:Int):Cl:=⟨[1],E8l (n+1).toNat (zI 11),E8l (l_ D) A6,[],[],0,λ_=>A7,A1o (λ_=>A7) 1 1⟩
def F5(D:Dev)(n:Int):Cl:=ofR D n 129 0 (wM (I5 D n) (aR (l_ D) n).toNat)
def E7(D:Dev)(n:Int):Cl:=cE (F5 D n) (F5 D n).row
def HeldX.canon{x:Cell}{l:List Cell}{n:Nat}(hx:HeldX h x l n sz r)(hf:M9 l=A5)(hlow:∀ id,nmC x=A4 id->l_ g<=id):x.flat=A5\/∃ id off n sz cs,x=.sl id off n sz/\(l_ g)<=id/\rd h id=rT cs/\M9 cs=A5:=by
 rcases hx with ⟨_,_,rfl⟩ | ⟨id,rfl,h1,h2,h3⟩
 ·exact .inl rfl
 ·exact .inr ⟨id,0,n,sz,l,rfl,hlow id rfl,h1,hf⟩
def HeldX.moved{h2:A9}{x y:Cell}{l:List Cell}{n:Nat}{fin:List Nat}(hx:HeldX h2 x l n sz r)(hn:noX l=A5)(hy:(x.flat=A5/\y=x)\/∃ id off n sz j,x=.sl id off n sz/\y=.sl (l_ h+j) off n sz/\fin[j]?=A4 id):Has (h++fin.map (rd h2)) (.c y) sz n l:=by
 rcases hx with ⟨h1,h3,h4⟩ | ⟨id,rfl,h1,h3,h4⟩
 ·subst h4;rcases hy with ⟨_,rfl⟩ | ⟨_,_,_,_,_,e,_⟩
  ·exact .inl ⟨rfl,h1,h3⟩
  ·cases e
 ·rcases hy with ⟨e,_⟩ | ⟨cP,off,n',sz',j,e,rfl,hj⟩
  ·cases e
  ·cases e;refine Has.row (rw:=A5) ?_ h3 hn;unfold rd;rw [E8L (by omega),show (l_ h)+j-l_ h=j by omega,List.getElem?_map,hj];exact h1
def D2V:∀ {e i:Nat} {c:Cl},c.row.length<=(ofR D n e i c).row.length
 | 0,_,_=>E8m _
 | e+1,i,c=>by
  unfold ofR;cases c.row[i]? with
  | none=>exact E8m _
  | some a=>exact E83 D43 D2V
def E3E{b:Int}(h:P6 b n=A5):aR b n<=b:=by
 obtain ⟨_,_,_,_,_,h6⟩:=H8.1 h;have:=H8.1 h;unfold aR bO nN;rw [h];simp only [S8];omega
def ownR_same{c:Cl}:∀ {k:Nat},SameC c (wM c k)
 | 0=>.rfl' _
 | k+1=>by
  have h:=ownR_same (c:=c) (k:=k);exact ⟨h.row,h.ino,h.blocks,h.made,h.lost,h.lnk,h.par⟩
section
variable {D:Dev} {n m:Int} {f:Cell} {h:A9}
def D0N(hD:okD D)(hv:IsView g f D)(hm:P6 (l_ D) n=A5) :
  ∃ six g',B7N 1200 [.a (vwC (l_ D) n m f)] g=A4 (.a six,g')/\WP D n m f g (l_ g+4) (E7 D n) g'/\∃ V t,rd g' (l_ g+4)=rT (V++six++t)/\(l_ V)=4/\six.length=6/\RowW n (F5 D n)/\Small (F5 D n) 128 (224*129) (33*129) (224*129):=by
 have hv2:=hv.get;obtain ⟨b16,b512,n8,n128,_,_⟩:=H8.1 hm;obtain ⟨N,hN⟩:∃ N:Nat,n+1=(N:Int):=E9m (by omega);have hCk:=λh=>aX (b:=l_ D) (n:=n) (m:=m) (h:=h)
 rw [hm,S8] at hCk;obtain ⟨W,hW⟩:=xEq (wkC D n m f (.sl (l_ g+5) 0 1 1) (.sl (l_ g+6) 0 N 11) (.sl (l_ g+7) 0 (l_ D) 1) .ns .ns 0 (l_ g+2) (l_ g+3));obtain ⟨T,hT⟩:∃ T:A9,T=[rT (vwC (l_ D) n m f),rT [.ns,.ns,.ns,.ns,.ns,o0],A4 (Q1 []),A4 (Q1 [(cI 1,.c (cI 1))]),rT W,rT [cI 1],rT (pJ (E8l N (zI 11))),rT (fL (E8l (l_ D) A6))]:=⟨_,rfl⟩;have at_:∀ (k:Nat) (x:Option Row),T[k]?=A4 x->rd (g++T) (l_ g+k)=x:=λk x hk=>by
  unfold rd;rw [E8L (by omega),show (l_ g)+k-l_ g=k by omega,hk];rfl
 have K6:∀ x∈E8l N (zI 11),x.length=11:=λx hx=>by rw [List.eq_of_mem_replicate hx];simp [zI]
 have P0:WP D n m f g (l_ g+4) (I5 D n) (g++T):=by
  have r4:=at_ 4 (rT W) (by rw [hT];rfl);rw [hW] at r4;refine ⟨(Low.refl (E8m _)).new _,by omega,λid hn=>?_,?_,?_,?_,?_⟩
  ·obtain ⟨R,x,hR,hx,hnm⟩:=hn;rw [r4] at hR;cases hR;obtain ⟨fi,fc,rfl⟩:=hv2;simp only [wkC,E8J,List.not_mem_nil,or_false] at hx;rcases hx with rfl | rfl | rfl | rfl | rfl | rfl | rfl | rfl | rfl | rfl | rfl | rfl<;>cases hnm<;>omega
  ·intro x hx;exact K6 x (by unfold I5 at hx;dsimp only at hx;rw [hN] at hx;simpa using hx)
  ·simp [I5]
  ·simp [I5]
  ·refine ⟨_,_,_,_,_,_,_,[],[(cI 1,.c (cI 1))],r4,⟨λi j a x y hi hj hx hy=>?_,λx hx=>?_⟩,.inr ⟨_,rfl,at_ 5 _ (by rw [hT];rfl),rfl,by omega⟩,?_,?_,.inl ⟨rfl,rfl,rfl⟩,.inl ⟨rfl,rfl,rfl⟩,at_ 2 _ (by rw [hT];rfl),MapI.nil,at_ 3 _ (by rw [hT];rfl),MapI.nil.put 1 1⟩
   ·obtain ⟨fi,fc,rfl⟩:=hv2;have hi2:=(E8p.1 hi).1;have hj2:=(E8p.1 hj).1;simp only [wkC,E8w,E8X] at hi2 hj2;have cases12:∀ k:Nat,k<12->k=0\/k=1\/k=2\/k=3\/k=4\/k=5\/k=6\/k=7\/k=8\/k=9\/k=10\/k=11:=λk hk=>by omega
    rcases cases12 i (by omega) with rfl | rfl | rfl | rfl | rfl | rfl | rfl | rfl | rfl | rfl | rfl | rfl<;>(cases hi;try cases hx) <;>
     (rcases cases12 j (by omega) with rfl | rfl | rfl | rfl | rfl | rfl | rfl | rfl | rfl | rfl | rfl | rfl<;>(cases hj;try simp [nmC] at hy)<;>first | rfl | omega)
   ·obtain ⟨fi,fc,rfl⟩:=hv2;simp only [wkC,E8J,List.not_mem_nil,or_false] at hx;rcases hx with rfl | rfl | rfl | rfl | rfl | rfl | rfl | rfl | rfl | rfl | rfl | rfl<;>simp [nmC]
   ·have e:(I5 D n).ino=E8l N (zI 11):=by unfold I5;rw [hN];simp
    rw [e,E8S];exact .inr ⟨_,rfl,at_ 6 _ (by rw [hT];rfl),by rw [qV K6,E8S],by omega⟩
   ·have e:(I5 D n).taken=E8l (l_ D) A6:=rfl;rw [e,E8S];exact .inr ⟨_,rfl,at_ 7 _ (by rw [hT];rfl),by simp [fL],by omega⟩
 have r4:=at_ 4 (rT W) (by rw [hT];rfl);have noN:∀ k:Nat,k<2->¬ Nam (g++T) (l_ g+4) (l_ g+k):=by
  rintro k hk ⟨R,x,hR,hx,hnm⟩;rw [r4,hW] at hR;cases hR;obtain ⟨fi,fc,rfl⟩:=hv2;simp only [wkC,E8J,List.not_mem_nil,or_false] at hx;rcases hx with rfl | rfl | rfl | rfl | rfl | rfl | rfl | rfl | rfl | rfl | rfl | rfl<;>simp [nmC] at hnm<;>omega
 have hTl:l_ T=8:=by rw [hT];rfl
 have hGl:(g++T).length=l_ g+8:=by rw [E8o,hTl]
 have LV:LocV (g++T) (l_ g+4) (l_ g) (vwC (l_ D) n m f):=⟨⟨by omega,by omega,by simpa using noN 0 (by omega)⟩,by simpa using at_ 0 _ (by rw [hT];rfl)⟩;have LR:LocV (g++T) (l_ g+4) (l_ g+1) [.ns,.ns,.ns,.ns,.ns,o0]:=⟨⟨by omega,by omega,noN 1 (by omega)⟩,at_ 1 _ (by rw [hT];rfl)⟩;obtain ⟨K,hK⟩:=xEq ((aR (l_ D) n).toNat);have hKr:=oX (b:=(l_ D:Int)) (n:=n);have hKD:K<=l_ D/\K<=1000:=by
  rw [hK];have:aR (l_ D:Int) n<=(l_ D):=E3E hm;omega
 have E3O:=B4K (b:=l_ D) (n:=n) (m:=m) (h:=g++T);rw [<-hK] at E3O;have eu:(upto K).length=K:=by simp [upto]
 have P1:=P0.more hv2 [rT (encI (upto K))];have F1:Fr (l_ g+4) (g++T) (g++T++[rT (encI (upto K))]):=Fr.low ((Low.refl (E8m _)).new _) P0.rlt;have LO:LocV (g++T++[rT (encI (upto K))]) (l_ g+4) ((g++T).length+0) (encI (upto K)):=LocV.new (k:=0) hv2 P0 rfl;rw [E9y] at LO;obtain ⟨h1,e1,P2,F2,LV2,LR2⟩:=E2n (c:=I5 D n) (q:=1200) (pv:=l_ g) (pr:=l_ g+1) (sid:=(g++T).length) (h0:=g++T) hv hKD.1 hKD.2 K 0 1200 _ (by omega) (by omega) P1 F1 (LV.fr F1) (LR.fr F1) LO;have hsO:=ownR_same (c:=I5 D n) (k:=K);have rI:RowW n (wM (I5 D n) K):=by
  refine RowW.same (c:=I5 D n) ⟨by simp [I5],λi=>?_,λi hi=>?_⟩ hsO.row hsO.par
  ·by_cases c1:i=1
   ·subst c1;simp [I5,A1o]
   ·simp [I5,A1o,c1]
  ·simp [I5] at hi;omega
 have smI:Small (wM (I5 D n) K) 128 (224*0) (33*0) (224*0):=⟨by rw [hsO.row];simp [I5],λi=>by rw [hsO.lnk];simp [I5],by rw [hsO.blocks];simp [I5],by rw [hsO.made];simp [I5],by rw [hsO.lost];simp [I5],by rw [hsO.lost];simp [I5]⟩;obtain ⟨M',h2,e2,P3,F3,LV3,LR3,rO,smO⟩:=E37 (q:=1200) (pv:=l_ g) (pr:=l_ g+1) (h0:=g++T) hD hv n128 129 0 1200 (wM (I5 D n) K) h1 (by omega) (by omega) (by omega) rI smI P2 F2 LV2 LR2;have ecO:ofR D n 129 0 (wM (I5 D n) K)=F5 D n:=by unfold F5;rw [<-hK]
 rw [ecO] at e2 P3 rO smO;obtain ⟨c,hc⟩:=xEq (F5 D n);rw [<-hc] at e2 P3 rO smO;have pE:1<=c.row.length:=by
  have:(wM (I5 D n) K).row.length<=c.row.length:=by rw [hc,<-ecO];exact D2V
  rw [hsO.row] at this;simpa [I5] using this
 obtain ⟨xr,xi,xt,xb,xm,ml,mp,es1,es2,g1,g2,g3,g4,g5,g6,g7,g8,g9,g10,g11⟩:=id P3.row;rcases g3 with ⟨e0,_,_⟩ | ⟨rid,rfl,r1,r2,r3⟩
 ·omega
 have l4:B9 h2 (.c (.p (l_ g+4) 4))=A4 (.c (.sl rid 0 c.row.length 1)):=B8 g1 rfl rfl;have c0:¬ ((c.row.length:Nat):Int)<(c.row.length:Nat):=by omega
 have r128:=A7j rO.nd λa ha=>⟨(rO.rg a ha).1,by have:=(rO.rg a ha).2;omega⟩
 obtain ⟨M2,h3,e3,P4,F4,z,hzl,LR4⟩:=D9w (q:=1200) (pr:=l_ g+1) (rid:=rid) (R:=c.row) (h0:=g++T) hv (by omega) rO.rg c.row.length 0 1200 c h2 (by omega) (by omega) P3 F3 ⟨_,rfl,LR3⟩ ⟨_,g1,rfl⟩ r1;rw [E8y] at P4;have ecF:cE c c.row=E7 D n:=by unfold E7;rw [<-hc]
 rw [ecF] at P4;obtain ⟨yr,yi,yt,yb,ym,nl,np,fs1,fs2,k1,k2,_⟩:=id P4.row;have l6:C9 h3 6 (.c (.p (l_ g+4) 4))=A4 (.a [yr,yi,yt,yb,ym,cI (E7 D n).lost]):=by rw [S7 k1 (by simp [wkC]) rfl];rfl
 have s6:=storeAll (n:=6) (xs:=[yr,yi,yt,yb,ym,cI (E7 D n).lost]) LR4.2 hzl rfl;have LR5:=LR4.self (cs':=[yr,yi,yt,yb,ym,cI (E7 D n).lost]);have l6':=C8 (n:=6) LR5.2 rfl;refine ⟨[yr,yi,yt,yb,ym,cI (E7 D n).lost],h3.set (l_ g+1) (rT [yr,yi,yt,yb,ym,cI (E7 D n).lost]),?_,P4.set LR4.1 (by omega),vwC (l_ D) n m f,[.m nl,.m np],?_,rfl,rfl,by rw [<-hc];exact rO,by rw [<-hc];exact smO⟩
 rotate_left
 ·rw [B7 LR4.1.2.1,k1];rfl
 rw [C9i];rw [B4t 1200 M'] at e2;rw [B4v 1200 M2] at e3;have C9Q:A3k (g++[rT (vwC (l_ D) n m f),rT [Cell.ns,.ns,.ns,.ns,.ns,o0],A4 (Q1 []),A4 (Q1 [])]) (A4 .i64) (.c (.m (l_ g+3))) (.c (cI 1)) (.c (cI 1))=A4 (g++[rT (vwC (l_ D) n m f),rT [Cell.ns,.ns,.ns,.ns,.ns,o0],A4 (Q1 []),A4 (Q1 [(cI 1,.c (cI 1))])]):=by
  rw [E53 (F:=λ_=>A7) (es:=[]) (by simp) MapI.nil];simp [A91,A90,mgo]
 have ef1:F6 [o0,o0,.i .u64 0,.nf,.ns,.ns,.ns,.ns,.ns,o0,.nm,.nm] [(0,4,.a (vwC (l_ D) n m f)),(10,1,.c (.m (l_ g+2))),(11,1,.c (.m (l_ g+3)))]=A4 (vwC (l_ D) n m f++[.ns,.ns,.ns,.ns,.ns,o0,.m (l_ g+2),.m (l_ g+3)]):=rfl;have ef2:F6 [o0] [(0,1,.c (cI 1))]=A4 [cI 1]:=rfl;have lv0:ld1 (rT (vwC (l_ D) n m f)) 0=A4 (.c (cI (l_ D:Int))):=rfl;have lv1:ld1 (rT (vwC (l_ D) n m f)) 1=A4 (.c (cI n)):=rfl;have l4v:=B5A (b:=l_ D) (n:=n) (m:=m) (f:=f);have l3v:=C1w (b:=l_ D) (n:=n) (m:=m) (f:=f);have wn:E8r .i64 (n+1)=(N:Int):=by rw [wrap_i64 (by omega) (by omega),hN]
 have nt:∀ k:Nat,k<=1000->B6G (.c (cI (k:Int)))=A4 k:=λk hk=>by
  simp only [B6G];rw [C4 (by omega)];simp
 have am1:C5h (.c (cI (N:Int))) (.c (cI (N:Int)))=A4 N:=by simp only [C5h,nt N (by omega),E8z];rw [C4 (E8m _)]
 have am2:C5h (.c (cI (l_ D:Int))) (.c (cI (l_ D:Int)))=A4 (l_ D):=by simp only [C5h,nt (l_ D) (by omega),E8z];rw [C4 (E8m _)]
 have ef3:F6 [Cell.ns,.ns,.ns,.ns,.ns,o0] [(0,1,.c (.sl (l_ g+5) 0 1 1)),(1,1,.c (.sl (l_ g+6) 0 N 11)),(2,1,.c (.sl (l_ g+7) 0 (l_ D) 1))]=A4 [.sl (l_ g+5) 0 1 1,.sl (l_ g+6) 0 N 11,.sl (l_ g+7) 0 (l_ D) 1,.ns,.ns,o0]:=rfl;have sw:stN (rT (vwC (l_ D) n m f++[.ns,.ns,.ns,.ns,.ns,o0,.m (l_ g+2),.m (l_ g+3)])) 4 6 [.sl (l_ g+5) 0 1 1,.sl (l_ g+6) 0 N 11,.sl (l_ g+7) 0 (l_ D) 1,.ns,.ns,o0]=rT W:=by rw [hW];rfl
 have rz1:rows [o0,o0,o0,o0,o0,o0,o0,o0,o0,o0,o0] N=pJ (E8l N (zI 11)):=by unfold rows pJ;rw [List.map_replicate];rfl
 have rz2:rows [Cell.b A6] (l_ D)=fL (E8l (l_ D) A6):=by unfold rows fL;rw [List.map_replicate,List.flatten_replicate_singleton]
 rw [hT] at e1;rw [hT] at E3O;simp only [esc,Nat.reduceAdd] at E3O;have c00:((0:Nat):Int)=0:=rfl;rw [c00] at e1 e2 e3;generalize pJ (E8l N (zI 11))=ZI at *;generalize fL (E8l (l_ D) A6)=ZB at *;generalize vwC (l_ D) n m f=V at *;simp only [esc,P7,H6,Z4,J0,S5,I3,Nat.reduceAdd,l3v,l4v,hCk,C9Q,ef1,ef2,lv0,lv1,wn,am1,am2,ef3,sw,rz1,rz2,Nat.add_assoc];simp only [esc,E3O];simp only [esc,Nat.reduceAdd] at e1;refine e1.trans ?_;refine e2.trans ?_;simp only [esc,l4,c0];refine e3.trans ?_;simp only [esc,Nat.reduceAdd,c0,l6,s6,l6']
end
def D4n(l:List (List Int)):M9 (pJ l)=A5:=by
 induction l with
 | nil=>rfl
 | cons x l ih =>
  rw [bM,kD,ih];simp [M9,encI,Cell.flat]
def D4m(l:List Bool):M9 (fL l)=A5:=by simp [M9,fL,Cell.flat]
def D9J(l:List Bool):noX (fL l)=A5:=by simp [noX,fL,Cell.isX]
def C32{m:Int}{f:Cell}(hD:okD D)(hv:IsView h f D)(hm:P6 (l_ D) n=A5) :
  ∃ cs t,B01 [.a (vwC (l_ D) n m f)] h=A4 (.a cs,h++t)/\IsCl (h++t) cs (E7 D n)/\t.all B7x=A5:=by
 obtain ⟨six,g',e,P,V,t,hr,hV,h6,_,_⟩:=D0N (n:=n) (m:=m) hD hv.ro hm;obtain ⟨xr,xi,xt,xb,xm,ml,mp,es1,es2,g1,g2,g3,g4,g5,g6,g7,_⟩:=id P.row;obtain ⟨c,hc⟩:=xEq (E7 D n);rw [<-hc] at g1 g2 g3 g4 g5 g6 g7 P ⊢;rw [g1] at hr;simp only [E8n,Row.mk.injEq,and_true] at hr;have e6:six=[xr,xi,xt,xb,xm,cI c.lost]:=by
  have h1:(wkC D n m f xr xi xt xb xm c.lost ml mp).drop 4=(six++t):=by rw [hr,E8t,E9C hV]
  have h2:((wkC D n m f xr xi xt xb xm c.lost ml mp).drop 4).take 6=six:=by rw [h1,List.take_left' h6]
  rw [<-h2];rfl
 have low:∀ (i:Nat) (x:Cell) (id:Nat),(wkC D n m f xr xi xt xb xm c.lost ml mp)[i]?=A4 x->nmC x=A4 id->(ro h).length<=id:=λi x id hi hx=>P.low id (B8K g1 hi hx)
 obtain ⟨l2,fin,c1,_,c3,c4⟩:=B8t (h2:=g') (b:=(ro h).length) six [] (λx hx=>by
   rw [e6] at hx;simp only [E8J,List.not_mem_nil,or_false] at hx;rcases hx with rfl | rfl | rfl | rfl | rfl | rfl
   ·exact g3.canon (by simp [M9,encI,Cell.flat]) λid e=>low 4 _ _ rfl e
   ·exact g4.canon (D4n _) λid e=>low 5 _ _ rfl e
   ·exact g5.canon (D4m _) λid e=>low 6 _ _ rfl e
   ·exact g6.canon (by simp [M9,encI,Cell.flat]) λid e=>low 7 _ _ rfl e
   ·exact g7.canon fQ λid e=>low 8 _ _ rfl e
   ·exact .inl rfl) (λi j a x y hi hj hx hy=>by
   have sh:∀ (i:Nat) (x:Cell),six[i]?=A4 x->(wkC D n m f xr xi xt xb xm c.lost ml mp)[4+i]?=A4 x:=λi x hi=>by
    rw [hr,E8t,E8L (by omega),hV,show 4+i-4=i by omega,E88 (E8p.1 hi).1];exact hi
   have:=g2.1 (4+i) (4+j) a x y (sh i x hi) (sh j y hj) hx hy;omega) (λx hx a ha=>by simp)
 have hgood:=(A9p (U:=λ_=>A7) (U':=λ_=>A7) (λ_ _=>rfl) _ _ _ _ c1 Good.nil).1;have C9P:(fin.map (rd g')).all B7x=A5:=by
  rw [E8O];intro x hx;obtain ⟨j,hj,rfl⟩:=E8N.1 hx;obtain ⟨_,r,h1,h2,_⟩:=hgood.ok j hj;rw [h1];exact Row.own_rw h2
 rw [G8] at c1 c4;have hS:=C43 e (v2:=.a l2) (ids:=fin) (by simp only [X5,c1,E85]);refine ⟨l2,_,hS,?_⟩;rw [e6] at c3 c4;have q0:=c4 0 _ rfl;have q1:=c4 1 _ rfl;have q2:=c4 2 _ rfl;have q3:=c4 3 _ rfl;have q4:=c4 4 _ rfl;have q5:=c4 5 _ rfl;obtain ⟨y0,y1,y2,y3,y4,y5,rfl⟩:∃ y0 y1 y2 y3 y4 y5,l2=[y0,y1,y2,y3,y4,y5]:=by
  match l2,c3 with
  | [a,b,c,d,e,f],_=>exact ⟨a,b,c,d,e,f,rfl⟩
 simp only [E84,E8F,E8n] at q0 q1 q2 q3 q4 q5;have e5:y5=cI c.lost:=by
  rcases q5 with ⟨_,h1⟩ | ⟨_,_,_,_,_,h1,_⟩
  ·exact h1
  ·cases h1
 subst e5;exact ⟨⟨_,_,_,_,_,rfl,g3.moved (A5K _) q0,g4.moved (D9K _) q1,g5.moved (D9J _) q2,g6.moved (A5K _) q3,g7.moved (dO _) q4⟩,C9P⟩
def D1a{R:List Int}{a:Int}{y:Cell}{q:Nat}(hy:∀ i,i<l_ R->∃ ad,F0 1 (.c y) (iV (i:Int))=A4 ad/\B9 h ad=A4 (iV (R.getD i 0)))(hR:l_ R<=1000):∀ (e i M:Nat),i+e=l_ R->e<M ->
  B7g q M (iV a) (.c y) (iV (l_ R:Nat)) (iV (i:Int)) h=A4 (bV (decide (a∈R.drop i)),h)
 | e,i,0,_,hM=>by omega
 | 0,i,M+1,hi,_=>by
  have c0:¬ ((i:Int)<(l_ R:Nat)):=by omega
  rw [A9v,E8x (by omega)];simp only [esc,c0];simp
 | e+1,i,M+1,hi,hM=>by
  have K6:i<(l_ R):=by omega
  have c0:((i:Int)<(l_ R:Nat)):=by omega
  have w1:=E2 (a:=i) (by omega);obtain ⟨ad,a1,a2⟩:=hy i K6;have eg:R.getD i 0=R[i]:=by simp [List.getD,K6]
  rw [eg] at a2;rw [A9v,E8s K6];by_cases c1:R[i]=a
  ·rw [c1] at a2 ⊢;simp only [esc,c0,a1,a2,eq_self];simp
  ·have ih:=D1a (q:=q) (a:=a) hy hR e (i+1) M (by omega) (by omega);simp only [esc,c0,a1,a2,c1,w1];rw [ih];have:(a∈R[i]::R.drop (i+1))↔a∈R.drop (i+1):=by
    rw [E8J];constructor
    ·rintro (h | h)
     ·exact absurd h.symm c1
     ·exact h
    ·exact .inr
   simp only [this]
def C9E(hc:IsCl h cs c)(hR:c.row.length<=1000):B00 [.a cs,iV a] h=A4 (bV (decide (a∈c.row)),h):=by
 obtain ⟨xr,xi,xt,xb,xm,rfl,h1,_⟩:=hc.form;have key:∃ g',B0B 1100 [.a [xr,xi,xt,xb,xm,cI c.lost],iV a] (ro h)=A4 (bV (decide (a∈c.row)),g'):=by
  have h2:=h1.ro.more [rT [xr,xi,xt,xb,xm,cI c.lost]];have hl:=h2.len;have k:=D1a (q:=1100) (a:=a) (R:=c.row) (y:=xr) (h:=ro h++[rT [xr,xi,xt,xb,xm,cI c.lost]]) (λi hi=>by
   obtain ⟨id,off,e,_,hA,_⟩:=h2.sl (by omega);cases e;refine ⟨pV id (off+i*1),E4 hi,?_⟩;rw [Nat.mul_one];exact hA i _ (by rw [G6,E8k,E8h hi];rfl)) hR c.row.length 0 1100 (by omega) (by omega)
  rw [E8y] at k;refine ⟨ro h++[rT [xr,xi,xt,xb,xm,cI c.lost]],?_⟩
  ·rw [C4H];have l0:B9 (ro h++[rT [xr,xi,xt,xb,xm,cI c.lost]]) (pV (ro h).length 0)=A4 (.c xr):=by rw [J0];exact zN
   simp only [esc,l0,hl];exact k
 obtain ⟨g',e⟩:=key;exact B9F e rfl
def mN(O:Dev)(no:Int)(b:List UInt8):Dev:=if 0<=no/\no<(l_ O) then O.set no.toNat b else O
def cR:(mN O no b).length=(l_ O):=by unfold mN;split<;>simp
def okD.put(h:okD O)(hb:l_ b=256):okD (mN O no b):=by
 unfold mN;split
 ·exact h.set hb
 ·exact h
structure OutD(g:A9)(p id:Nat)(O:Dev)(h:A9):Prop where
 lo:Low (l_ g) g h
 gp:l_ g<=p
 gid:l_ g<=id
 ne:p≠id
 var:rd h p=rT [.sl id 0 (l_ O) 256]
 blk:rd h id=rT (E3 O)
def OutD.more{p id:Nat}(k:OutD g p id O h)(t:A9):OutD g p id O (h++t) :=
 ⟨k.lo.new t,k.gp,k.gid,k.ne,B6 k.var,B6 k.blk⟩
def OutD.set{p id:Nat}{O':Dev}(k:OutD g p id O h)(hl:O'.length=l_ O):OutD g p id O' (h.set id (rT (E3 O'))) :=
 ⟨k.lo.set k.gid _,k.gp,k.gid,k.ne,by rw [B7 (Ne.symm k.ne),hl];exact k.var,by rw [D3 (E1 k.blk)]⟩
def put_eq{p id:Nat}(k:OutD g p id O h)(hO:okD O)(hb:l_ b=256) :
  ∃ h',uB [iV no,.a (B4 b),pV p 0] h=A4 (.t [],h')/\OutD g p id (mN O no b) h'/\(l_ h)<=l_ h'/\∀ j,j<l_ h->j≠id->rd h' j=rd h j:=by
 obtain ⟨H,hH⟩:=xEq (h++[rT (B4 b)]);have kH:OutD g p id O H:=by rw [hH];exact k.more _
 have lV:B9 H (pV p 0)=A4 (sV id 0 (l_ O) 256):=B8 kH.var rfl rfl;have lB:C9 H 256 (pV (l_ h) 0)=A4 (.a (B4 b)):=C8 (by rw [hH,G3];rfl) (by rw [B5,hb]);have cl:cells? (.a (B4 b))=A4 (B4 b):=rfl;have same:∀ j,j<l_ h->rd H j=rd h j:=λj hj=>by rw [hH,D5 hj]
 have len:l_ H=l_ h+1:=by rw [hH];simp
 by_cases c0:0<=no
 ·by_cases c1:no<(l_ O:Nat)
  ·obtain ⟨i,rfl⟩:=E9m c0;have hi:i<(l_ O):=by omega
   have ad:F0 256 (sV id 0 (l_ O) 256) (iV (i:Int))=A4 (pV id (i*256)):=by rw [E4 hi];simp
   have sd:F7 H 256 (pV id (i*256)) (.a (B4 b))=A4 (H.set id (rT (E3 (O.set i b)))):=A4w kH.blk hO hb hi;have ep:mN O (i:Int) b=O.set i b:=by unfold mN;rw [C4 ⟨c0,c1⟩];simp
   rw [ep];refine ⟨_,uH (n:=0) (p:=(.t [],H.set id (rT (E3 (O.set i b))))) ?_,kH.set (by simp),by simp;omega,λj hj aZ=>by rw [B7 (Ne.symm aZ)];exact same j hj⟩;rw [uE];have c0':(i:Int)>=0:=c0;simp only [esc,cl,<-hH,c0',lV,c1,lB,ad,sd];rfl
  ·have ep:mN O no b=O:=by unfold mN;rw [C5 (by omega)]
   rw [ep];refine ⟨_,uH (n:=0) (p:=(.t [],H)) ?_,kH,by omega,λj hj aZ=>same j hj⟩;rw [uE];have c0':no>=0:=c0;simp only [esc,cl,<-hH,c0',lV,c1];rfl
 ·have ep:mN O no b=O:=by unfold mN;rw [C5 (by omega)]
  rw [ep];refine ⟨_,uH (n:=0) (p:=(.t [],H)) ?_,kH,by omega,λj hj aZ=>same j hj⟩;rw [uE];have c0':¬ no>=0:=c0;simp only [esc,cl,<-hH,c0'];rfl
def D2J(x:List Int):Prop:=x.length=11/\A5J (x.getD 0 0) (x.getD 1 0) (x.getD 2 0) (x.getD 3 0) (x.drop 4)=A5
def B2W(x:List Int):List UInt8:=cZ (x.getD 0 0) (x.getD 1 0) (x.getD 2 0) (x.getD 3 0) (x.drop 4)
def D0T{x:List Int}(h:x.length=11):encI x=D1 (x.getD 0 0) (x.getD 1 0) (x.getD 2 0) (x.getD 3 0) (x.drop 4):=by
 match x,h with
 | [a,b,c,d,e,f,g,i,j,k,l],_=>rfl
def B4Y{x:List Int}(h:x.length=11):(B2W x).length=32:=by
 unfold B2W cZ;rw [E8o,E8o,pI,vV,E9u,h,zeros_length]
def C4r(O:Dev):List Int->List (List UInt8)->Dev
 | no::l,b::m=>C4r (mN O no b) l m
 | _,_=>O
def B80(O:Dev)(no:Int):Nat->Dev
 | 0=>O
 | e+1=>B80 (mN O no (zeros 256)) (no+1) e
def C21(n:Int)(O:Dev)(i:Nat)(x:List Int):Dev :=
 if Q2 (l_ O) n i=A5 then mN O (aY (l_ O) n i) (H7 (blk O (aY (l_ O) n i)) (32*(kI (l_ O) n i).toNat) (B2W x)) else O
def C0H(n:Int):Dev->Nat->List (List Int)->Dev
 | O,_,[]=>O
 | O,i,x::l=>C0H n (C21 n O i x) (i+1) l
def tM:Nat->List Bool->List Nat
 | _,[]=>[]
 | i,b::l=>if b=A5 then i::tM (i+1) l else tM (i+1) l
def gQ(D:Dev)(n:Int)(c:Cl):Dev:=
 mN (C0H n (B80 (C4r D c.blocks c.made) (bO (l_ D) n) (nN (l_ D) n).toNat) 0 c.ino) 1 (cQ (tM 0 c.taken))
def C3g{m:List (List UInt8)}:C4r O [] m=O:=by cases m<;>rfl
def B5k:∀ {l:List Int} {m:List (List UInt8)} {O:Dev},okD O->(∀ b∈m,l_ b=256)->okD (C4r O l m)/\(C4r O l m).length=(l_ O)
 | [],_,O,h,_=>by rw [C3g];exact ⟨h,rfl⟩
 | _::_,[],O,h,_=>⟨h,rfl⟩
 | no::l,b::m,O,h,hm=>by
  obtain ⟨h1,h2⟩:=B5k (l:=l) (m:=m) (O:=mN O no b) (h.put (hm b (E8u ..))) λx hx=>hm x (E8q _ hx)
  exact ⟨h1,h2.trans cR⟩
def B0h:∀ {e:Nat} {no:Int} {O:Dev},okD O->okD (B80 O no e)/\(B80 O no e).length=(l_ O)
 | 0,_,O,h=>⟨h,rfl⟩
 | e+1,no,O,h=>by
  obtain ⟨h1,h2⟩:=B0h (e:=e) (no:=no+1) (h.put (no:=no) zeros_length);exact ⟨h1,h2.trans cR⟩
def D2v{x:List Int}(h:okD O)(hx:x.length=11)(hn:n<=128):okD (C21 n O i x)/\(C21 n O i x).length=(l_ O):=by
 unfold C21;split
 ·refine ⟨h.put ?_,cR⟩;rename_i hc;have hk:(kI (l_ O) n i).toNat<8:=by unfold kI;rw [hc];simp only [S8];omega
  rw [O6 (by rw [J6 h,B4Y hx];omega),J6 h]
 ·exact ⟨h,rfl⟩
def B42{n:Int}(hn:n<=128):∀ {l:List (List Int)} {i:Nat} {O:Dev},okD O->(∀ x∈l,x.length=11)->okD (C0H n O i l)/\(C0H n O i l).length=(l_ O)
 | [],_,O,h,_=>⟨h,rfl⟩
 | x::l,i,O,h,hx=>by
  have h1:=D2v (n:=n) (i:=i) h (hx x (E8u ..)) hn;have h2:=B42 (n:=n) hn (l:=l) (i:=i+1) h1.1 λy hy=>hx y (E8q _ hy)
  exact ⟨h2.1,h2.2.trans h1.2⟩
section
variable {D:Dev} {n m:Int} {f:Cell} {g:A9} {p id q pv pc:Nat} {xr xi xt xb xm:Cell} {lost:Int} {c:Cl}
def C2H{a b:Val}:aQ wP (.c (.f 29 [(p,0)])) [a,b] h=uB [a,b,pV p 0] h:=rfl
def E5H(hpc:rd g pc=rT [xr,xi,xt,xb,xm,cI lost]){bl:List Int}{md:List (List UInt8)}(hb:Has g (.c xb) 1 (l_ bl) (encI bl))(hm:Has g (.c xm) 256 md.length (E3 md))(hl:l_ bl=md.length)(hmd:∀ b∈md,l_ b=256)(hB:l_ bl<=1000000) :
  ∀ (e i M:Nat) (O:Dev) (h:A9),i+e=l_ bl->e<M->okD O->OutD g p id O h ->
  ∃ h' M',iK q M (pV pv 0) (pV pc 0) (pV p 0) (.c (.f 29 [(p,0)])) (.c xb) (iV (l_ bl:Nat)) (iV (i:Int)) h =
   iK q (M'+1) (pV pv 0) (pV pc 0) (pV p 0) (.c (.f 29 [(p,0)])) (.c xb) (iV (l_ bl:Nat)) (iV (l_ bl:Nat)) h'/\OutD g p id (C4r O (bl.drop i) (md.drop i)) h':=by
 intro e
 induction e with
 | zero =>
  intro i M O h hi hM hO k;obtain ⟨M,rfl⟩:=X0 M (by omega);have ei:i=(l_ bl):=by omega
  subst ei;refine ⟨h,M,rfl,?_⟩;rw [List.drop_length,C3g];exact k
 | succ e ih =>
  intro i M O h hi hM hO k;obtain ⟨M,rfl⟩:=X0 M (by omega);have K6:i<(l_ bl):=by omega
  have him:i<md.length:=by omega
  have c0:(i:Int)<(l_ bl:Nat):=by omega
  have c1:(i:Int)<(md.length:Nat):=by omega
  have w1:=E2 (a:=i) (by omega);have hb':=hb.since k.lo;have hm':=hm.since k.lo;obtain ⟨ib,ob,eb,_,hA,_⟩:=hb'.sl (by omega);cases eb;obtain ⟨im,om,em,_,_,hC⟩:=hm'.sl (by omega);cases em;have a1:F0 1 (sV ib ob (l_ bl) 1) (iV (i:Int))=A4 (pV ib (ob+i)):=by rw [E4 K6];simp
  have a2:B9 h (pV ib (ob+i))=A4 (iV bl[i]):=hA i _ (by rw [G6,E8h K6];rfl);have a3:B9 h (pV pc 4)=A4 (sV im om md.length 256):=B8 (k.lo.rd hpc) rfl rfl;have a4:F0 256 (sV im om md.length 256) (iV (i:Int))=A4 (pV im (om+i*256)):=E4 him;have okm:okD md:=hmd;have a5:C9 h 256 (pV im (om+i*256))=A4 (.a (B4 md[i])):=by
   rw [hC (i*256) 256 (by rw [H9 okm];omega),qS okm him]
  obtain ⟨h1,b1,b2,_⟩:=put_eq (no:=bl[i]) (b:=md[i]) k hO (hmd _ (E8M him));obtain ⟨h',M',e1,e2⟩:=ih (i+1) M _ h1 (by omega) (by omega) (hO.put (hmd _ (E8M him))) b2;rw [E8s K6,E8s him];refine ⟨h',M',?_,e2⟩;rw [oR];simp only [esc,c0,a1,a2,a3,c1,a4,a5,C2H,b1,A5s,w1];exact e1
def E5I(t0 tn:Int)(h0:0<=t0/\t0<=100)(hn:0<=tn/\tn<=100) :
  ∀ (e:Nat) (i:Int) (M:Nat) (O:Dev) (h:A9),i+e=t0+tn->t0<=i->e<M->okD O->OutD g p id O h ->
  ∃ h' M',iL q M (pV pv 0) (pV pc 0) (pV p 0) (.c (.f 29 [(p,0)])) (iV t0) (iV tn) (iV i) h =
   iL q (M'+1) (pV pv 0) (pV pc 0) (pV p 0) (.c (.f 29 [(p,0)])) (iV t0) (iV tn) (iV (t0+tn)) h'/\OutD g p id (B80 O i e) h':=by
 intro e
 induction e with
 | zero =>
  intro i M O h hi hi0 hM hO k;obtain ⟨M,rfl⟩:=X0 M (by omega);have ei:i=t0+tn:=by omega
  subst ei;exact ⟨h,M,rfl,k⟩
 | succ e ih =>
  intro i M O h hi hi0 hM hO k;obtain ⟨M,rfl⟩:=X0 M (by omega);have w0:E8r .i64 (t0+tn)=t0+tn:=wrap_i64 (by omega) (by omega);have w1:E8r .i64 (i+1)=i+1:=wrap_i64 (by omega) (by omega);have c0:i<t0+tn:=by omega
  have ef:F6 (B4 (zeros 256)) []=A4 (B4 (zeros 256)):=rfl;obtain ⟨h1,b1,b2,_⟩:=put_eq (no:=i) (b:=zeros 256) k hO zeros_length;obtain ⟨h',M',e1,e2⟩:=ih (i+1) M _ h1 (by omega) (by omega) (by omega) (hO.put zeros_length) b2;refine ⟨h',M',?_,e2⟩;rw [oS,G9];generalize B4 (zeros 256)=Z at *;simp only [esc,w0,c0,ef,C2H,b1,w1];exact e1
end
def D1P{b i:Int}(h:Q2 b n i=A5):2<=aY b n i/\aY b n i<b/\0<=kI b n i/\kI b n i<8:=by
 obtain ⟨h1,h2,h3⟩:=M8.1 h;obtain ⟨_,_,_,_,h4,h5⟩:=H8.1 h1;unfold aY kI;rw [h];simp only [S8];omega
section
variable {D:Dev} {n m:Int} {f:Cell} {g:A9} {p id q pv pc:Nat} {xr xi xt xb xm:Cell} {lost:Int} {c:Cl}
def E5J(hpv:rd g pv=rT (vwC (l_ D) n m f)){R:List (List Int)}(hx:Has g (.c xi) 11 (l_ R) (pJ R))(hR:∀ x∈R,D2J x)(hn:n<=128)(hB:l_ R<=1000000) :
  ∀ (e i M:Nat) (O:Dev) (h:A9),i+e=l_ R->e<M->okD O->l_ O=l_ D->OutD g p id O h ->
  ∃ h' M',iM q M (pV pv 0) (pV pc 0) (pV p 0) (.c (.f 29 [(p,0)])) (.c xi) (iV (l_ R:Nat)) (iV (i:Int)) h =
   iM q (M'+1) (pV pv 0) (pV pc 0) (pV p 0) (.c (.f 29 [(p,0)])) (.c xi) (iV (l_ R:Nat)) (iV (l_ R:Nat)) h'/\OutD g p id (C0H n O i (R.drop i)) h':=by
 intro e
 induction e with
 | zero =>
  intro i M O h hi hM hO hlen k;obtain ⟨M,rfl⟩:=X0 M (by omega);have ei:i=(l_ R):=by omega
  subst ei;refine ⟨h,M,rfl,?_⟩;rw [List.drop_length];exact k
 | succ e ih =>
  intro i M O h hi hM hO hlen k;obtain ⟨M,rfl⟩:=X0 M (by omega);have K6:i<(l_ R):=by omega
  have c0:(i:Int)<(l_ R:Nat):=by omega
  have w1:=E2 (a:=i) (by omega);obtain ⟨x,ex⟩:=xEq (R[i]);obtain ⟨xl,xm⟩:=hR R[i] (E8M K6);have h11:∀ x∈R,x.length=11:=λx hx=>(hR x hx).1
  have hx':=hx.since k.lo;obtain ⟨ii,oi,ei,_,_,hC⟩:=hx'.sl (by omega);cases ei;have a1:F0 11 (sV ii oi (l_ R) 11) (iV (i:Int))=A4 (pV ii (oi+i*11)):=E4 K6;have a2:C9 h 11 (pV ii (oi+i*11))=A4 (.a (encI R[i])):=by
   rw [hC (i*11) 11 (by rw [qV h11];omega),C70 h11 K6]
  rw [<-ex] at a2 xl xm;obtain ⟨G,hG⟩:=xEq (h++[rT (encI x)]);have st:F7 (h++[rT [o0,o0,o0,o0,o0,o0,o0,o0,o0,o0,o0]]) 11 (pV (l_ h) 0) (.a (encI x))=A4 G:=by
   rw [storeAll (n:=11) (cs:=[o0,o0,o0,o0,o0,o0,o0,o0,o0,o0,o0]) (by rw [G3];rfl) rfl (by rw [C1,xl]),fX,hG];rfl
  have kG:OutD g p id O G:=by rw [hG];exact k.more _
  have lv3:C9 G 3 (pV pv 0)=A4 (.a (L5 (l_ D) n m)):=by rw [S7 (kG.lo.rd hpv) (by simp [vwC]) rfl];rfl
  have hW:=A8q (b:=l_ D) (n:=n) (m:=m) (i:=(i:Int)) (h:=G);have lx:C9 G 11 (pV (l_ h) 0)=A4 (.a (encI x)):=C8 (by rw [hG,G3];rfl) (by rw [C1,xl]);rw [E8s K6,<-ex];have es:C0H n O i (x::R.drop (i+1))=C0H n (C21 n O i x) (i+1) (R.drop (i+1)):=rfl;rw [es];obtain ⟨okS,lenS⟩:=D2v (n:=n) (i:=i) (x:=x) hO xl hn;have lV:B9 G (pV p 0)=A4 (sV id 0 (l_ O) 256):=B8 kG.var rfl rfl;cases hc:Q2 (l_ D:Int) n (i:Int) with
  | false =>
   rw [hc] at hW;have e1:C21 n O i x=O:=by unfold C21;rw [hlen,hc];simp
   rw [e1] at okS lenS ⊢;obtain ⟨h',M',b1,b2⟩:=ih (i+1) M O G (by omega) (by omega) hO hlen kG;refine ⟨h',M',?_,b2⟩;rw [dJ];generalize encI x=X at *;generalize L5 (l_ D) n m=L at *;simp only [esc,c0,a1,a2,st,lv3,hW,oP,w1];exact b1
  | true =>
   rw [hc] at hW;obtain ⟨w2,wb,k0,k8⟩:=D1P hc;obtain ⟨wB,hwB⟩:=E9m (show 0<=aY (l_ D) n i by omega);obtain ⟨wK,hwK⟩:=E9m k0;rw [hwB,hwK] at hW;have hwl:wB<(l_ O):=by omega
   have cW:(wB:Int)<(l_ O:Nat):=by omega
   have hk8:wK<8:=by omega
   have ad:F0 256 (sV id 0 (l_ O) 256) (iV (wB:Int))=A4 (pV id (wB*256)):=by rw [E4 hwl];simp
   have lb:C9 G 256 (pV id (wB*256))=A4 (.a (B4 O[wB])):=by
    rw [S7 kG.blk (by rw [H9 hO];omega) rfl,qS hO hwl]
   have hT:=B7F (j:=wK) (k:=x.getD 0 0) (l:=x.getD 1 0) (s:=x.getD 2 0) (p:=x.getD 3 0) (d:=x.drop 4) (b:=O[wB]) (h:=G) (hO.at hwl) (by rw [E9u,xl]) hk8 xm;rw [<-D0T xl] at hT;have ei:cZ (x.getD 0 0) (x.getD 1 0) (x.getD 2 0) (x.getD 3 0) (x.drop 4)=B2W x:=rfl;rw [ei] at hT;have hbl:(H7 O[wB] (32*wK) (B2W x)).length=256:=by
    rw [O6 (by rw [hO.at hwl,B4Y xl];omega),hO.at hwl]
   have sd:F7 G 256 (pV id (wB*256)) (.a (B4 (H7 O[wB] (32*wK) (B2W x))))=A4 (G.set id (rT (E3 (O.set wB (H7 O[wB] (32*wK) (B2W x)))))):=A4w kG.blk hO hbl hwl;have e1:C21 n O i x=O.set wB (H7 O[wB] (32*wK) (B2W x)):=by
    unfold C21;rw [hlen,hc,C4 rfl,hwB,hwK,B4e hwl];unfold mN;rw [C4 ⟨by omega,cW⟩];simp
   have kS:=kG.set (O':=C21 n O i x) lenS;obtain ⟨h',M',b1,b2⟩:=ih (i+1) M _ _ (by omega) (by omega) okS (by rw [lenS,hlen]) kS;refine ⟨h',M',?_,b2⟩;rw [e1] at b1;rw [dJ];generalize encI x=X at *;generalize L5 (l_ D) n m=L at *;simp only [esc,c0,a1,a2,st,lv3,hW,lV,cW,ad,lb,lx,hT,sd,oP,w1];exact b1
def E0d{l:List Bool}(hi:i<l_ l):tM i (l.drop i)=if l[i]=A5 then i::tM (i+1) (l.drop (i+1)) else tM (i+1) (l.drop (i+1)):=by
 rw [E8s hi];rfl
def E5K{T:List Bool}{N:Nat}(hx:Has g (.c xt) 1 (l_ T) (fL T))(hT:l_ T<=2048)(hO:okD O) :
  ∀ (e i M:Nat) (S:List Nat) (sid:Nat) (h:A9),i+e=l_ T->e<M->l_ S<=i->(∀ x∈S,x<2048)->rd h sid=rT (encI (S.map λx:Nat=>(x:Int)))->l_ g<=sid->sid≠p->sid≠id->OutD g p id O h ->
  ∃ h',vQ q M (pV p 0) (.c (.f 29 [(p,0)])) (sV sid 0 (l_ S) 1) (.c xt) (iV (l_ T:Nat)) (iV (i:Int)) h=A4 (sV id 0 (l_ O) 256,h') /\
   OutD g p id (mN O 1 (cQ (S++tM i (T.drop i)))) h':=by
 intro e
 induction e with
 | zero =>
  intro i M S sid h hi hM hS hS2 hr hg n1 n2 k;obtain ⟨M,rfl⟩:=X0 M (by omega);have ei:i=(l_ T):=by omega
  subst ei;have c0:¬ ((l_ T:Nat):Int)<(l_ T:Nat):=by omega
  have hC:=A8k (v:=sV sid 0 (l_ S) 1) (nv:=l_ S) (l:=S) (h:=h) hS2 (by omega) (Has.tr hr (by simp [encI]) (A5K _));have hml:(cQ S).length=256:=by unfold cQ;rw [fU,zeros_length]
  obtain ⟨h1,b1,b2,_⟩:=put_eq (no:=1) (b:=cQ S) k hO hml;have lV:B9 h1 (pV p 0)=A4 (sV id 0 (mN O 1 (cQ S)).length 256):=B8 b2.var rfl rfl;rw [cR] at lV;refine ⟨h1,?_,?_⟩
  ·rw [dK];simp only [esc,c0,pC,hC,C2H,b1,lV]
  ·rw [List.drop_length];have:S++tM (l_ T) []=S:=by simp [tM]
   rw [this];exact b2
 | succ e ih =>
  intro i M S sid h hi hM hS hS2 hr hg n1 n2 k;obtain ⟨M,rfl⟩:=X0 M (by omega);have K6:i<(l_ T):=by omega
  have c0:(i:Int)<(l_ T:Nat):=by omega
  have w1:=E2 (a:=i) (by omega);have hx':=hx.since k.lo;obtain ⟨ii,oi,ei,_,hA,_⟩:=hx'.sl (by omega);cases ei;have a1:F0 1 (sV ii oi (l_ T) 1) (iV (i:Int))=A4 (pV ii (oi+i)):=by rw [E4 K6];simp
  have a2:B9 h (pV ii (oi+i))=A4 (bV T[i]):=hA i _ (by simp [fL,K6]);rw [E0d K6];cases hb:T[i] with
  | false =>
   rw [hb] at a2;obtain ⟨h',b1,b2⟩:=ih (i+1) M S sid h (by omega) (by omega) (by omega) hS2 hr hg n1 n2 k;refine ⟨h',?_,by simpa using b2⟩;rw [dK];simp only [esc,c0,a1,a2,oQ,w1];exact b1
  | true =>
   rw [hb] at a2;obtain ⟨h1,p1,p2,p3,p4⟩:=B5j (n:=l_ S) (sz:=1) (ys:=[cI (i:Int)]) hr (by simp [encI]) rfl (by omega) (by omega);have hpl:=E1 k.var;have E8d:=E1 k.blk;have kk:OutD g p id O h1:=⟨k.lo.trans (p4 (l_ g) hg (by have:=k.lo.2.1;omega)),k.gp,k.gid,k.ne,p3 _ _ (Ne.symm n1) k.var,p3 _ _ (Ne.symm n2) k.blk⟩;have er:encI (S.map λx:Nat=>(x:Int))++[cI (i:Int)]=encI ((S++[i]).map λx:Nat=>(x:Int)):=by simp [encI]
   rw [er] at p2;have ls:(S++[i]).length=l_ S+1:=by simp
   obtain ⟨h',b1,b2⟩:=ih (i+1) M (S++[i]) (l_ h+1) h1 (by omega) (by omega) (by rw [ls];omega) (λx hx=>by
    rcases E8U.1 hx with hx | hx
    ·exact hS2 x hx
    ·simp at hx;omega) p2 (by have:=k.lo.2.1;omega) (by omega) (by omega) kk
   rw [ls] at b1;refine ⟨h',?_,by simpa using b2⟩;have ef:F6 [o0] [(0,1,iV (i:Int))]=A4 [cI (i:Int)]:=rfl;rw [dK];simp only [esc,c0,a1,a2,ef,p1,oQ,w1];exact b1
structure ImgOk(D:Dev)(n:Int)(c:Cl):Prop where
 row:0<c.row.length
 tak:c.taken.length=(l_ D)
 ino:∀ x∈c.ino,D2J x
 il:c.ino.length<=1000
 bm:c.blocks.length=c.made.length
 bl:c.blocks.length<=1000000
 md:∀ b∈c.made,l_ b=256
def C65(hD:okD D)(hv:IsView h f D)(hm:P6 (l_ D) n=A5)(hc:IsCl h cs c)(ok:ImgOk D n c) :
  bY [.a (vwC (l_ D) n m f),.a cs] h=A4 (sV (l_ h) 0 (l_ D) 256,h++[rT (E3 (gQ D n c))]):=by
 obtain ⟨b16,b512,n8,n128,_,_⟩:=H8.1 hm;obtain ⟨xr,xi,xt,xb,xm,rfl,hr,hi,ht,hb,hmd⟩:=hc.form;obtain ⟨g,hg⟩:=xEq (ro h++[rT (vwC (l_ D) n m f),rT [xr,xi,xt,xb,xm,cI c.lost],rT []]);have lg:l_ g=(ro h).length+3:=by rw [hg];simp
 have rv:rd g (ro h).length=rT (vwC (l_ D) n m f):=by rw [hg,G3];rfl
 have rc:rd g ((ro h).length+1)=rT [xr,xi,xt,xb,xm,cI c.lost]:=by rw [hg,gP];rfl
 have hvg:IsView g f D:=by rw [hg];exact hv.ro.more _
 have hr':Has g (.c xr) 1 c.row.length (encI c.row):=by rw [hg];exact hr.ro.more _
 have hi':Has g (.c xi) 11 c.ino.length (pJ c.ino):=by rw [hg];exact hi.ro.more _
 have ht':Has g (.c xt) 1 c.taken.length (fL c.taken):=by rw [hg];exact ht.ro.more _
 have hb':Has g (.c xb) 1 c.blocks.length (encI c.blocks):=by rw [hg];exact hb.ro.more _
 have hm':Has g (.c xm) 256 c.made.length (E3 c.made):=by rw [hg];exact hmd.ro.more _
 have hI:=C97 (m:=m) hD hvg hm;obtain ⟨H,hH⟩:=xEq (g++[rT (E3 D),rT [.sl (l_ g) 0 (l_ D) 256]]);have k0:OutD g (l_ g+1) (l_ g) D H:=by
  refine ⟨by rw [hH];exact (Low.refl (E8m _)).new _,by omega,E8m _,by omega,?_,?_⟩
  ·rw [hH,gP];rfl
  ·rw [hH,G3];rfl
 obtain ⟨h1,M1,e1,k1⟩:=E5H (q:=1000002) (pv:=(ro h).length) rc hb' hm' ok.bm ok.md ok.bl c.blocks.length 0 1000002 D H (by omega) (by have:=ok.bl;omega) hD k0;obtain ⟨ok1,len1⟩:=B5k (l:=c.blocks) (m:=c.made) hD ok.md;obtain ⟨t0,t2,tn0,tn16⟩:=C3p (b:=l_ D) (n:=n);obtain ⟨tN,htN⟩:=E9m tn0;obtain ⟨h2,M2,e2,k2⟩:=E5I (q:=1000002) (pv:=(ro h).length) (pc:=(ro h).length+1) (bO (l_ D) n) (nN (l_ D) n) ⟨by omega,by omega⟩ ⟨by omega,by omega⟩ tN (bO (l_ D) n) 1000002 _ h1 (by omega) (by omega) (by omega) ok1 (by simpa using k1);obtain ⟨ok2,len2⟩:=B0h (e:=tN) (no:=bO (l_ D) n) ok1;obtain ⟨h3,M3,e3,k3⟩:=E5J (q:=1000002) (pc:=(ro h).length+1) rv hi' ok.ino n128 (by have:=ok.il;omega) c.ino.length 0 1000002 _ h2 (by omega) (by have:=ok.il;omega) ok2 (by rw [len2,len1]) k2;obtain ⟨ok3,len3⟩:=B42 (n:=n) n128 (l:=c.ino) (i:=0) ok2 (λx hx=>(ok.ino x hx).1);have k3':=(k3.more [rT ([]:List Cell)]);obtain ⟨h4,e4,k4⟩:=E5K (q:=1000002) (N:=0) (p:=l_ g+1) (id:=l_ g) (g:=g) ht' (by rw [ok.tak];omega) ok3 c.taken.length 0 1000002 [] h3.length (h3++[rT ([]:List Cell)]) (by omega) (by rw [ok.tak];omega) (by simp) (by simp) (by rw [G3];rfl) (by have:=k3.lo.2.1;omega) (by have:=E1 k3.var;omega) (by have:=E1 k3.blk;omega) (by simpa using k3');have eimg:gQ D n c=mN (C0H n (B80 (C4r D c.blocks c.made) (bO (l_ D) n) tN) 0 c.ino) 1 (cQ ([]++tM 0 (c.taken.drop 0))):=by
  unfold gQ;rw [htN];simp
 have lenF:(gQ D n c).length=(l_ D):=by rw [eimg,cR,len3,len2,len1]
 have key:jU 1000002 [.a (vwC (l_ D) n m f),.a [xr,xi,xt,xb,xm,cI c.lost]] (ro h)=A4 (sV (l_ g) 0 (l_ D) 256,h4):=by
  have l0:B9 g (pV ((ro h).length+1) 0)=A4 (.c xr):=B8 rc rfl (by rfl);have l2:B9 g (pV ((ro h).length+1) 2)=A4 (.c xt):=B8 rc rfl (by rfl);have lv0:B9 g (pV (ro h).length 0)=A4 (iV (l_ D:Nat)):=B8 rv rfl rfl;have lv4:C9 g 4 (pV (ro h).length 0)=A4 (.a (vwC (l_ D) n m f)):=C8 rv rfl;have s1:I8 (g++[rT (E3 D),rT [Cell.ns]]) (pV (l_ g+1) 0) (sV (l_ g) 0 (l_ D) 256)=A4 H:=by
   rw [I9 (cs:=[Cell.ns]) (by rw [gP];rfl) (by simp),B5r,hH];rfl
  have l3:B9 H (pV ((ro h).length+1) 3)=A4 (.c xb):=B8 (k0.lo.rd rc) rfl (by rfl);have mf:A32 29 [pV (l_ g+1) 0]=A4 (.c (.f 29 [(l_ g+1,0)])):=rfl;have n1:B9 h2 (pV ((ro h).length+1) 1)=A4 (.c xi):=B8 (k2.lo.rd rc) rfl (by rfl);have n2:B9 (h3++[rT ([]:List Cell)]) (pV ((ro h).length+1) 2)=A4 (.c xt):=B8 ((k3.lo.new _).rd rc) rfl (by rfl);have v3:C9 h1 3 (pV (ro h).length 0)=A4 (.a (L5 (l_ D) n m)):=by rw [S7 (k1.lo.rd rv) (by simp [vwC]) rfl];rfl
  have hTb:=A1R (b:=l_ D) (n:=n) (m:=m) (h:=h1);have c1:¬ ((c.row.length:Nat):Int)=0:=by have:=ok.row;omega
  have c2:((c.taken.length:Nat):Int)=(l_ D:Nat):=by rw [ok.tak]
  have lr:=hr'.len;have lt:=ht'.len;have lb:=(hb'.since k0.lo).len;have lx:=(hi'.since k2.lo).len;have lt3:=(ht'.since (k3.lo.new [rT ([]:List Cell)])).len;have cl1:cells? (.a (vwC (l_ D) n m f))=A4 (vwC (l_ D) n m f):=rfl;rw [A52];simp only [E8o,E8w,E8X,E8A,E8t,E89,E8I,cl1,bQ,C7,<-hg];generalize vwC (l_ D) n m f=V at *;have c00:((0:Nat):Int)=0:=rfl;rw [c00] at e1 e3 e4;rw [lenF.symm] at e4;simp only [esc,l0,lr,c1,l2,lt,lv0,c2,lv4,hI,s1,mf,l3,lb];refine e1.trans ?_;have cB:¬ ((c.blocks.length:Nat):Int)<(c.blocks.length:Nat):=by omega
  rw [oR];simp only [esc,cB,v3,hTb];refine e2.trans ?_;have wT:E8r .i64 (bO (l_ D) n+nN (l_ D) n)=bO (l_ D) n+nN (l_ D) n:=wrap_i64 (by omega) (by omega);have cT:¬ bO (l_ D) n+nN (l_ D) n<bO (l_ D) n+nN (l_ D) n:=by omega
  rw [oS];simp only [esc,wT,cT,n1,lx];refine e3.trans ?_;have cI:¬ ((c.ino.length:Nat):Int)<(c.ino.length:Nat):=by omega
  rw [dJ];simp only [esc,cI,n2,lt3];have eL:([]:List Nat).length=0:=rfl;rw [eL] at e4;rw [e4,lenF,len3,len2,len1]
 have ho:Out (l_ h) h4 (sV (l_ g) 0 (l_ D) 256) 256 (l_ D) (E3 (gQ D n c)):=by
  refine ⟨?_,l_ g,rfl,by rw [lg,G8];omega,?_⟩
  ·rw [H9,lenF];rw [eimg];refine okD.put ok3 ?_;unfold cQ;rw [fU,zeros_length]
  ·rw [eimg];exact k4.blk
 exact A46 key ho fQ
end
structure MayC(c:Cl):Prop where
 ino:∀ x∈c.ino,D2J x
 par:∀ i,0<=(c.par i).getD 0/\(c.par i).getD 0<=65535
 bm:c.blocks.length=c.made.length
 md:∀ b∈c.made,l_ b=256
def B8A(hm:P6 (l_ D) n=A5):V7 (K4 D n c no)=A5:=by
 rw [A7k];obtain ⟨_,b512,_⟩:=H8.1 hm;unfold K4 dL;cases hd:G7 (l_ D) n no with
 | false=>simp
 | true =>
  have:=D4B hd;cases c.taken.getD no.toNat A5 with
  | true=>simp
  | false=>simp;omega
def D7L{l:List Int}(h:l.all V7=A5)(hx:V7 x=A5):(l.set i x).all V7=A5:=by
 rw [E8O] at h ⊢;intro y hy;rcases List.mem_or_eq_of_mem_set hy with h1 | h1
 ·exact h y h1
 ·rw [h1];exact hx
def C7m{d:List Int}(hm:P6 (l_ D) n=A5):∀ {e k:Nat} {s:Cl × List Int},s.2.all V7=A5->(dW D n d e k s).2.all V7=A5
 | 0,_,s,h=>h
 | e+1,k,s,h=>by
  rw [dW];exact C7m hm (D7L h (B8A hm))
def D4h(hm:P6 (l_ D) n=A5):(I6 D n c ino).2.all V7=A5:=by
 have h1:=C7m (d:=drV D n ino) (e:=(min (T9 (szV D n ino)) 6).toNat) (k:=0) (s:=(c,zI 7)) hm (by show (zI 7).all V7=A5;decide);unfold I6 A2w;split
 ·exact D7L h1 (B8A hm)
 ·exact h1
def E0l{i:Int}:0<=szV D n i/\szV D n i<=34304:=by
 unfold szV;cases hc:B4x D n i with
 | false=>simp
 | true =>
  simp only [S8];unfold B4x cD A5J at hc;simp only [E8j] at hc;obtain ⟨_,h1,_⟩:=hc;split at h1
  ·unfold D1Q at h1;have:=of_decide_eq_true h1;omega
  ·unfold C1g at h1;simp only [E8j,decide_eq_true_eq] at h1;exact h1.2.2.2.1
def D9E{s:Int}{d:List Int}(hs:0<=s/\s<=34304)(hd:l_ d=7)(ha:d.all V7=A5)(hl:V7 l=A5):D2J (1::l::s::0::d):=by
 refine ⟨by simp [hd],?_⟩;show A5J 1 l s 0 d=A5;unfold A5J C1g;have h0:V7 0=A5:=by decide
 simp [hl,ha,h0,hs]
def E19(hp:V7 p=A5)(hn:V7 no=A5):D2J (2::1::0::p::no::zI 6):=by
 refine ⟨by simp [zI],?_⟩;show A5J 2 1 0 p (no::zI 6)=A5;unfold A5J C1g;have h1:V7 1=A5:=by decide
 have hz:(zI 6).all V7=A5:=by decide
 simp [E9p,hn,hz,hp,h1]
def D9F:D2J (zI 11):=⟨by simp [zI],by decide⟩
def C8d{α:Type}{l:List α}{x y:α}(h:y∈l.set i x):y∈l\/y=x:=List.mem_or_eq_of_mem_set h
section
variable {D:Dev} {n:Int} {c:Cl} {ino:Int}
def D86(hm:P6 (l_ D) n=A5)(h:MayC c):MayC (L9 D n c ino):=by
 have hs:=(pA (D:=D) (n:=n) (ino:=ino) (c:=c));refine ⟨λx hx=>?_,λi=>?_,?_,λb hb=>?_⟩
 ·rcases C8d hx with h1 | h1
  ·rw [hs.1.ino] at h1;exact h.ino x h1
  ·rw [h1];exact D9E E0l hs.2 (D4h hm) (by decide)
 ·have:(L9 D n c ino).par=c.par:=hs.1.par;rw [this];exact h.par i
 ·have e1:(L9 D n c ino).blocks=c.blocks:=hs.1.blocks;have e2:(L9 D n c ino).made=c.made:=hs.1.made;rw [e1,e2];exact h.bm
 ·have e2:(L9 D n c ino).made=c.made:=hs.1.made;rw [e2] at hb;exact h.md b hb
def MayC.same{c':Cl}(h:MayC c)(s:SameC c c'):MayC c':=⟨by rw [s.ino];exact h.ino,by rw [s.par];exact h.par,by rw [s.blocks,s.made];exact h.bm,by rw [s.made];exact h.md⟩
def MayC.md'(h:MayC c)(hb:l_ b=256):MayC (dY c no b):=by
 refine ⟨h.ino,h.par,?_,λx hx=>?_⟩
 ·show (c.blocks++[no]).length=(c.made++[b]).length;simp [h.bm]
 ·rcases E8U.1 (show x∈c.made++[b] from hx) with h1 | h1
  ·exact h.md x h1
  ·simp at h1;rw [h1];exact hb
def D85(hD:okD D)(hm:P6 (l_ D) n=A5)(h:MayC c):MayC (V4 D n c ino):=by
 have h1:=D86 (ino:=ino) hm h;unfold V4;split
 ·exact h1
 ·exact MayC.md' (h1.same (kC (D:=D) (n:=n) (many:=T9 (szV D n ino)) (e:=128) (k:=0) (s:=(L9 D n c ino,blk D ((I6 D n c ino).2.getD 6 0))))) (C2T (by omega) (J6 hD))
def E1m(hm:P6 (l_ D) n=A5)(h:MayC c):MayC (W0 D n c ino):=by
 have hs:=vT (D:=D) (n:=n) (ino:=ino) (c:=c);have hn:V7 (K5 D n c ino).2=A5:=by
  unfold K5;cases (decide (kdV D n ino=2)&&Q9 (blk D ((drV D n ino).getD 0 0))) with
  | true=>exact B8A hm
  | false=>show V7 0=A5;decide
 refine ⟨λx hx=>?_,λi=>?_,?_,λb hb=>?_⟩
 ·rcases C8d hx with h1 | h1
  ·rw [hs.ino] at h1;exact h.ino x h1
  ·rw [h1];exact E19 (A7k.2 (h.par ino)) hn
 ·have:(W0 D n c ino).par=c.par:=hs.par;rw [this];exact h.par i
 ·have e1:(W0 D n c ino).blocks=c.blocks:=hs.blocks;have e2:(W0 D n c ino).made=c.made:=hs.made;rw [e1,e2];exact h.bm
 ·have e2:(W0 D n c ino).made=c.made:=hs.made;rw [e2] at hb;exact h.md b hb
def D1K(hi:0<=ino/\ino<=65535):∀ {L:List Ent} {s:Cl × (List UInt8->Option Int)},MayC s.1->MayC (O7 D n ino s L).1
 | [],_,h=>h
 | x::L,s,h=>by
  have h1:MayC (J7 D n ino s x).1:=by
   unfold J7 T7;cases R0 D n s.1 x.2 with
   | false=>exact h
   | true =>
    simp only [S8];cases (s.1.par x.2).isSome with
    | true=>exact ⟨h.ino,h.par,h.bm,h.md⟩
    | false =>
     refine ⟨h.ino,λi=>?_,h.bm,h.md⟩;show 0<=(A1o s.1.par x.2 ino i).getD 0/\(A1o s.1.par x.2 ino i).getD 0<=65535;unfold A1o;split
     ·exact hi
     ·exact h.par i
  exact D1K hi (L:=L) (s:=J7 D n ino s x) h1
def C36{X:List Int}{K:List UInt8->Option Int}:∀ {L:List Int} {c:Cl},MayC c->MayC (P5 D X K c L)
 | [],_,h=>h
 | no::L,c,h=>by
  have hs:=A2m (D:=D) (X:=X) (no:=no) (K:=K) (l:=J2 (blk D no)) (s:=(c,dX []));have hl:=B8y (D:=D) (X:=X) (no:=no) (K:=K) (l:=J2 (blk D no)) (s:=(c,dX [])) (A7i (l:=[])) λx hx=>(C1j x hx).1
  have h1:MayC (V3 D X no K (c,dX []) (J2 (blk D no))).1:=⟨by rw [hs.ino];exact h.ino,by rw [hs.par];exact h.par,by rw [hs.blocks,hs.made];exact h.bm,by rw [hs.made];exact h.md⟩;exact C36 (L:=L) (c:=dN D X K c no) (h1.md' hl)
def E1k(hi:0<=ino/\ino<=65535)(hm:P6 (l_ D) n=A5)(h:MayC c):MayC (oY D n c ino):=by
 have h1:=E1m (ino:=ino) hm h;unfold oY;split
 ·exact h1
 ·unfold bE;have hb:=h1.same (bK (D:=D) (n:=n) (L:=J3 (bU (getD (blk D ((drV D n ino).getD 0 0))) (O5 (blk D ((drV D n ino).getD 0 0)) 32)) (C6 (P9 (getD (blk D ((drV D n ino).getD 0 0))) (O5 (blk D ((drV D n ino).getD 0 0)) 32)))) (s:=(W0 D n c ino,bU (getD (blk D ((drV D n ino).getD 0 0))) (O5 (blk D ((drV D n ino).getD 0 0)) 32))));refine C36 (MayC.md' (D1K (s:=(_,_)) hi hb) ?_);have hl:=C2E (D:=D) (n:=n) (L:=J3 (bU (getD (blk D ((drV D n ino).getD 0 0))) (O5 (blk D ((drV D n ino).getD 0 0)) 32)) (C6 (P9 (getD (blk D ((drV D n ino).getD 0 0))) (O5 (blk D ((drV D n ino).getD 0 0)) 32)))) (s:=(W0 D n c ino,bU (getD (blk D ((drV D n ino).getD 0 0))) (O5 (blk D ((drV D n ino).getD 0 0)) 32)));cases okX (P9 (getD (blk D ((drV D n ino).getD 0 0))) (O5 (blk D ((drV D n ino).getD 0 0)) 32)) (H5 D n (W0 D n c ino) (getD (blk D ((drV D n ino).getD 0 0))) (O5 (blk D ((drV D n ino).getD 0 0)) 32)).2 with
  | true=>exact A7a (hl.trans B4H)
  | false=>exact zeros_length
def E2m(hi:0<=ino/\ino<=65535)(hD:okD D)(hm:P6 (l_ D) n=A5)(h:MayC c):MayC (U4 D n c ino):=by
 unfold U4;split
 ·exact D85 hD hm h
 ·exact E1k hi hm h
def D8j(hD:okD D)(hm:P6 (l_ D) n=A5):∀ {e i:Nat} {c:Cl},RowW n c->MayC c->MayC (ofR D n e i c)
 | 0,_,_,_,h=>h
 | e+1,i,c,hr,h=>by
  obtain ⟨_,_,_,n128,_⟩:=H8.1 hm;unfold ofR;cases hc:c.row[i]? with
  | none=>exact h
  | some a =>
   have ha:=hr.rg a (E8H hc);exact D8j hD hm (iX hr) (E2m ⟨by omega,by omega⟩ hD hm h)
end
def E0N(D:Dev):IsView [rT (E3 D),rT [.sl 0 0 (l_ D) 256]] (.f 27 [(1,0)]) D :=
 ⟨1,0,A5,A5,rfl,rfl,rfl⟩
section
variable {D:Dev} {n:Int}
def Z8(hD:okD D)(hm:P6 (l_ D) n=A5):RowW n (F5 D n)/\Small (F5 D n) 128 (224*129) (33*129) (224*129)/\(∀ x∈(E7 D n).ino,x.length=11)/\(E7 D n).ino.length=(n+1).toNat/\(E7 D n).taken.length=(l_ D):=by
 obtain ⟨_,_,_,P,_,_,_,_,_,h1,h2⟩:=D0N (n:=n) (m:=0) hD (E0N D) hm;exact ⟨h1,h2,P.il,P.ilen,P.tlen⟩
def claimI_may:MayC (I5 D n):=by
 refine ⟨λx hx=>?_,λi=>?_,rfl,λb hb=>by cases hb⟩
 ·rw [List.eq_of_mem_replicate hx];exact D9F
 ·have e:((I5 D n).par i).getD 0=if i=1 then 1 else 0:=by
   show ((A1o (λ_=>A7) 1 1) i).getD 0=_;unfold A1o;split<;>rfl
  rw [e];split<;>omega
def D6p(hD:okD D)(hm:P6 (l_ D) n=A5):MayC (F5 D n):=by
 obtain ⟨_,_,_,n128,_⟩:=H8.1 hm;unfold F5;have hs:=ownR_same (c:=I5 D n) (k:=(aR (l_ D) n).toNat);refine D8j hD hm ?_ (claimI_may.same hs);refine RowW.same (c:=I5 D n) ⟨by simp [I5],λi=>?_,λi hi=>?_⟩ hs.row hs.par
 ·by_cases c1:i=1
  ·subst c1;simp [I5,A1o]
  ·simp [I5,A1o,c1]
 ·obtain ⟨_,_,n8,_⟩:=H8.1 hm;simp [I5] at hi;omega
def D9v(hl:∀ i,V7 ((c.lnk i).getD 0)=A5)(h:MayC c):MayC (aV c a):=by
 unfold aV;split
 ·rename_i h1;refine ⟨λx hx=>?_,h.par,h.bm,h.md⟩;rcases C8d hx with h2 | h2
  ·exact h.ino x h2
  ·have hin:c.ino.getD a.toNat []∈c.ino:=by
    by_cases hl:a.toNat<c.ino.length
    ·rw [E8k,E8h hl];exact E8M hl
    ·rw [E8k (l:=c.ino),E8P (by omega)] at h1;simp at h1
   obtain ⟨h3,h4⟩:=h.ino _ hin;generalize c.ino.getD a.toNat []=y at *;rw [h2]
   match y,h3 with
   | [y0,y1,y2,y3,y4,y5,y6,y7,y8,y9,y10],_ =>
    have e:y0=1:=h1;subst e;have h5:C1g 1 y1 y2 y3 [y4,y5,y6,y7,y8,y9,y10]=A5:=h4;refine ⟨rfl,?_⟩;show C1g 1 ((c.lnk a).getD 0) y2 y3 [y4,y5,y6,y7,y8,y9,y10]=A5;unfold C1g at h5 ⊢;simp only [E8j] at h5 ⊢;exact ⟨h5.1,hl a,h5.2.2⟩
 ·exact h
def C78:(aV c a).row=c.row/\(aV c a).taken=c.taken/\(aV c a).blocks=c.blocks/\(aV c a).made=c.made/\(aV c a).lost=c.lost/\(aV c a).lnk=c.lnk/\(aV c a).par=c.par:=by
 unfold aV;split<;>exact ⟨rfl,rfl,rfl,rfl,rfl,rfl,rfl⟩
def jN:∀ {L:List Int} {c:Cl},(cE c L).row=c.row/\(cE c L).taken=c.taken/\(cE c L).blocks=c.blocks/\(cE c L).made=c.made/\(cE c L).lost=c.lost/\(cE c L).lnk=c.lnk/\(cE c L).par=c.par
 | [],c=>⟨rfl,rfl,rfl,rfl,rfl,rfl,rfl⟩
 | a::L,c=>by
  obtain ⟨a1,a2,a3,a4,a5,a6,a7⟩:=jN (L:=L) (c:=aV c a);obtain ⟨b1,b2,b3,b4,b5,b6,b7⟩:=C78 (c:=c) (a:=a);exact ⟨a1.trans b1,a2.trans b2,a3.trans b3,a4.trans b4,a5.trans b5,a6.trans b6,a7.trans b7⟩
def C79:∀ {L:List Int} {c:Cl},(∀ i,V7 ((c.lnk i).getD 0)=A5)->MayC c->MayC (cE c L)
 | [],_,_,h=>h
 | a::L,c,hl,h=>C79 (L:=L) (c:=aV c a) (by rw [(C78 (c:=c) (a:=a)).2.2.2.2.2.1];exact hl) (D9v hl h)
def D6o(hD:okD D)(hm:P6 (l_ D) n=A5):MayC (E7 D n):=by
 obtain ⟨h1,h2,_⟩:=Z8 hD hm;refine C79 (λi=>?_) (D6p hD hm);rw [A7k];have:=h2.lnk i;omega
def D46:(wM c k).row=c.row:=ownR_same.row
def qT(hD:okD D)(hm:P6 (l_ D) n=A5):ImgOk D n (E7 D n):=by
 obtain ⟨h1,h2,h3,h4,h5⟩:=Z8 hD hm;obtain ⟨_,_,_,n128,_⟩:=H8.1 hm;have hc:=D6o hD hm;obtain ⟨s1,s2,s3,s4,s5,s6,s7⟩:=jN (L:=(F5 D n).row) (c:=F5 D n);have hr:1<=(F5 D n).row.length:=by
  have:(wM (I5 D n) (aR (l_ D) n).toNat).row.length<=(F5 D n).row.length:=D2V;rw [D46] at this;simpa [I5] using this
 refine ⟨?_,h5,hc.ino,by rw [h4];omega,hc.bm,?_,hc.md⟩
 ·show 0<(cE _ _).row.length;rw [s1];omega
 ·show (cE _ _).blocks.length<=_;rw [s3];have:=h2.blocks;omega
def C9D{m:Int}{f:Cell}(hD:okD D)(hv:IsView h f D)(hm:P6 (l_ D) n=A5)(hc:IsCl h cs (E7 D n)) :
  bY [.a (vwC (l_ D) n m f),.a cs] h=A4 (sV (l_ h) 0 (l_ D) 256,h++[rT (E3 (gQ D n (E7 D n)))]) :=
 C65 hD hv hm hc (qT hD hm)
end
def Cl.wl(c:Cl)(x:Int):Cl:={ c with lost:=x }
section
variable {D E:Dev} {n:Int} {c:Cl} {x:Int}
def E3z:dL D n (c.wl x) no=dL D n c no:=rfl
def B5V:K4 D n (c.wl x) no=K4 D n c no:=rfl
def B5S:J9 D n (c.wl x) no=(J9 D n c no).wl x:=by
 unfold J9;rw [E3z];cases dL D n c no<;>rfl
def D30(h:l_ E=l_ D):dL E n c no=dL D n c no:=by unfold dL;rw [h]
def A9x(h:l_ E=l_ D):K4 E n c no=K4 D n c no:=by unfold K4;rw [D30 h]
def A9w(h:l_ E=l_ D):J9 E n c no=J9 D n c no:=by unfold J9;rw [D30 h]
def bN:G7 (l_ D) n 0=A6:=by
 cases h:G7 (l_ D) n 0 with
 | false=>rfl
 | true =>
  obtain ⟨h1,h2,_⟩:=vX.1 h;unfold aR bO nN at h2;rw [h1] at h2;have:=H8.1 h1;simp only [S8] at h2;omega
def A9y:K4 D n c 0=0/\J9 D n c 0=c:=by
 unfold K4 J9 dL;rw [bN];exact ⟨rfl,rfl⟩
def B5W:K4 D n c (K4 D n c no)=K4 D n c no/\J9 D n c (K4 D n c no)=J9 D n c no:=by
 cases h:dL D n c no with
 | true =>
  have e:K4 D n c no=no:=by unfold K4;rw [h];rfl
  rw [e];exact ⟨e,rfl⟩
 | false =>
  have e:K4 D n c no=0:=by unfold K4;rw [h];rfl
  have e2:J9 D n c no=c:=by unfold J9;rw [h];rfl
  rw [e,e2];exact A9y
def B5U(h:K4 D n c no≠0):K4 D n c no=no/\dL D n c no=A5:=by
 cases hb:dL D n c no with
 | true=>exact ⟨by unfold K4;rw [hb];rfl,rfl⟩
 | false=>exact absurd (by unfold K4;rw [hb];rfl) h
def D7V{d:List Int}:∀ {e k:Nat} {c:Cl} {l:List Int},dW D n d e k (c.wl x,l)=((dW D n d e k (c,l)).1.wl x,(dW D n d e k (c,l)).2)
 | 0,_,_,_=>rfl
 | e+1,k,c,l=>by
  show dW D n d e (k+1) (J9 D n (c.wl x) (d.getD k 0),l.set k (K4 D n (c.wl x) (d.getD k 0)))=_;rw [B5S,B5V,D7V];rfl
def D37(h:l_ E=l_ D){d:List Int}:∀ {e k:Nat} {s:Cl × List Int},dW E n d e k s=dW D n d e k s
 | 0,_,_=>rfl
 | e+1,k,s=>by
  show dW E n d e (k+1) (J9 E n s.1 (d.getD k 0),s.2.set k (K4 E n s.1 (d.getD k 0)))=_;rw [A9w h,A9x h,D37 h];rfl
def gL{d:List Int}:∀ {e k:Nat} {s:Cl × List Int},j<k\/k+e<=j->(dW D n d e k s).2.getD j 0=s.2.getD j 0
 | 0,_,_,_=>rfl
 | e+1,k,s,h=>by
  show (dW D n d e (k+1) _).2.getD j 0=_;rw [gL (by omega)];show (s.2.set k _).getD j 0=_;rw [E8k,E9r (by omega),<-E8k]
def C7k{d d':List Int}:∀ {e k:Nat} {s:Cl × List Int},k+e<=s.2.length->(∀ j,k<=j->j<k+e->d'.getD j 0=(dW D n d e k s).2.getD j 0)->dW D n d' e k s=dW D n d e k s
 | 0,_,_,_,_=>rfl
 | e+1,k,s,hl,h=>by
  have h0:=h k (E8m _) (by omega);have e1:(dW D n d (e+1) k s).2.getD k 0=K4 D n s.1 (d.getD k 0):=by
   show (dW D n d e (k+1) (J9 D n s.1 (d.getD k 0),s.2.set k (K4 D n s.1 (d.getD k 0)))).2.getD k 0=_;rw [gL (by omega)];show (s.2.set k _).getD k 0=_;rw [E8k,E9n,C4 rfl,C4 (by omega)];rfl
  rw [e1] at h0;have ih:=C7k (d:=d) (d':=d') (e:=e) (k:=k+1) (s:=(J9 D n s.1 (d.getD k 0),s.2.set k (K4 D n s.1 (d.getD k 0)))) (by show k+1+e<=(s.2.set k _).length;rw [E80];omega) (λj h1 h2=>h j (by omega) (by omega));show dW D n d' e (k+1) (J9 D n s.1 (d'.getD k 0),s.2.set k (K4 D n s.1 (d'.getD k 0)))=dW D n d e (k+1) (J9 D n s.1 (d.getD k 0),s.2.set k (K4 D n s.1 (d.getD k 0)));rw [h0,B5W.1,B5W.2];exact ih
def A3p(D:Dev)(n sz:Int)(d:List Int)(c:Cl):Cl × List Int:=A2w D n d (T9 sz) (dW D n d (min (T9 sz) 6).toNat 0 (c,zI 7))
def A5w:I6 D n c ino=A3p D n (szV D n ino) (drV D n ino) c:=rfl
def E2i{sz:Int}{d:List Int}:A3p D n sz d (c.wl x)=((A3p D n sz d c).1.wl x,(A3p D n sz d c).2):=by
 unfold A3p A2w;rw [D7V];split
 ·rw [B5S,B5V]
 ·rfl
def D9M(h:l_ E=l_ D){sz:Int}{d:List Int}:A3p E n sz d c=A3p D n sz d c:=by
 unfold A3p A2w;rw [D37 h,A9w h,A9x h]
def D4Y{sz:Int}{d:List Int}:A3p D n sz (A3p D n sz d c).2 c=A3p D n sz d c:=by
 obtain ⟨m,hm⟩:=xEq ((min (T9 sz) 6).toNat);have m6:m<=6:=by omega
 obtain ⟨s,hs⟩:=xEq (dW D n d m 0 (c,zI 7));have sl:s.2.length=7:=by rw [hs,A07.2];simp [zI]
 have key:∀ d':List Int,(∀ j,j<6->d'.getD j 0=s.2.getD j 0)->dW D n d' m 0 (c,zI 7)=s:=by
  intro d' h;rw [hs];refine C7k (by simp [zI];omega) λj _ h2=>?_
  rw [h j (by omega),hs]
 have hN:A3p D n sz d c=A2w D n d (T9 sz) s:=by unfold A3p;rw [<-hm,<-hs]
 rw [hN];unfold A3p;rw [<-hm];by_cases h6:6<T9 sz
 ·have e1:A2w D n d (T9 sz) s=(J9 D n s.1 (d.getD 6 0),s.2.set 6 (K4 D n s.1 (d.getD 6 0))):=by unfold A2w;rw [C4 h6]
  rw [e1,key _ (λj hj=>by rw [E8k,E9r (by omega),<-E8k])];unfold A2w;rw [C4 h6];have e2:(s.2.set 6 (K4 D n s.1 (d.getD 6 0))).getD 6 0=K4 D n s.1 (d.getD 6 0):=by
   rw [E8k,E9n,C4 rfl,C4 (by omega)];rfl
  show (J9 D n s.1 ((s.2.set 6 (K4 D n s.1 (d.getD 6 0))).getD 6 0),s.2.set 6 (K4 D n s.1 ((s.2.set 6 (K4 D n s.1 (d.getD 6 0))).getD 6 0)))=_;rw [e2,B5W.1,B5W.2]
 ·have e1:A2w D n d (T9 sz) s=s:=by unfold A2w;rw [C5 h6]
  rw [e1,key _ (λj hj=>rfl)];unfold A2w;rw [C5 h6]
def E1E:R7 D n many (c.wl x,b) k=((R7 D n many (c,b) k).1.wl x,(R7 D n many (c,b) k).2):=by
 unfold R7;split
 ·rfl
 ·rw [B5S,B5V];split<;>rfl
def D4j:∀ {e k:Nat} {c:Cl} {b:List UInt8},M4 D n many e k (c.wl x,b)=((M4 D n many e k (c,b)).1.wl x,(M4 D n many e k (c,b)).2)
 | 0,_,_,_=>rfl
 | e+1,k,c,b=>by
  show M4 D n many e (k+1) (R7 D n many (c.wl x,b) k)=_;rw [E1E];exact D4j
def D0V(h:l_ E=l_ D):∀ {e k:Nat} {s:Cl × List UInt8},M4 E n many e k s=M4 D n many e k s
 | 0,_,_=>rfl
 | e+1,k,s=>by
  show M4 E n many e (k+1) (R7 E n many s k)=M4 D n many e (k+1) (R7 D n many s k);have:R7 E n many s k=R7 D n many s k:=by unfold R7;rw [A9w h,A9x h]
  rw [this];exact D0V h
def C0o{s:Cl × List UInt8}(hb:s.2.length=256)(hk:k<128)(hi:i<128) :
  ptP (R7 D n many s k).2 i=if i=k then (if ptP s.2 k≠0/\(k:Int)+6<many/\K4 D n s.1 (ptP s.2 k)≠0 then ptP s.2 k else 0) else ptP s.2 i:=by
 obtain ⟨V,hV⟩:=xEq (if ptP s.2 k≠0/\(k:Int)+6<many/\K4 D n s.1 (ptP s.2 k)≠0 then ptP s.2 k else 0);rw [<-hV];unfold R7;by_cases h0:ptP s.2 k=0
 ·rw [C4 h0];rw [C5 (λh=>h.1 h0)] at hV;by_cases e:i=k
  ·subst e;rw [C4 rfl,hV,h0]
  ·rw [C5 e]
 ·rw [C5 h0];have hz:ptP (H7 s.2 (2*k) (D6 2 0)) i=if i=k then 0 else ptP s.2 i:=E4b hb hk hi
  by_cases hm:(k:Int)+6<many
  ·rw [C4 hm,O4 hm,E8K];by_cases hc:K4 D n s.1 (ptP s.2 k)=0
   ·show ptP (bif !decide (K4 D n s.1 (ptP s.2 k)=0) then s.2 else H7 s.2 (2*k) (D6 2 0)) i=_;rw [C5 (λh=>h.2.2 hc)] at hV;rw [O4 hc,Bool.not_true,bZ,hz,hV]
   ·show ptP (bif !decide (K4 D n s.1 (ptP s.2 k)=0) then s.2 else H7 s.2 (2*k) (D6 2 0)) i=_;rw [C4 ⟨h0,hm,hc⟩] at hV;rw [W3 hc,Bool.not_false,S8,hV];by_cases e:i=k
    ·subst e;rw [C4 rfl]
    ·rw [C5 e]
  ·rw [C5 (λh=>hm h.2.1)] at hV;rw [C5 hm,W3 hm,Bool.false_and];show ptP (H7 s.2 (2*k) (D6 2 0)) i=_;rw [hz,hV]
def A65(hi:i<128):∀ {e k:Nat} {s:Cl × List UInt8},s.2.length=256->k+e<=128->i<k\/k+e<=i->ptP (M4 D n many e k s).2 i=ptP s.2 i
 | 0,_,_,_,_,_=>rfl
 | e+1,k,s,hb,hk,h=>by
  show ptP (M4 D n many e (k+1) (R7 D n many s k)).2 i=_;rw [A65 hi (A4t hb (by omega)) (by omega) (by omega),C0o hb (by omega) hi,C5 (by omega)]
def C4b{many:Int}:∀ {e k:Nat} {c:Cl} {b b':List UInt8},l_ b=256->b'.length=256->k+e<=128->(∀ j,k<=j->j<k+e->ptP b' j=ptP (M4 D n many e k (c,b)).2 j) ->
  M4 D n many e k (c,b')=((M4 D n many e k (c,b)).1,b')
 | 0,_,_,_,_,_,_,_,_=>rfl
 | e+1,k,c,b,b',hb,hb',hk,h=>by
  have hl:=A4t (D:=D) (n:=n) (many:=many) (s:=(c,b)) (k:=k) hb (by omega);have hp:ptP b' k=if ptP b k≠0/\(k:Int)+6<many/\K4 D n c (ptP b k)≠0 then ptP b k else 0:=by
   rw [h k (E8m _) (by omega)];show ptP (M4 D n many e (k+1) (R7 D n many (c,b) k)).2 k=_;rw [A65 (by omega) hl (by omega) (by omega),C0o (s:=(c,b)) hb (by omega) (by omega),C4 rfl]
  have key:R7 D n many (c,b') k=((R7 D n many (c,b) k).1,b'):=by
   by_cases h0:ptP b k=0
   ·rw [C5 (λq=>q.1 h0)] at hp;unfold R7;rw [C4 hp,C4 h0]
   ·by_cases hm:(k:Int)+6<many
    ·by_cases hc:K4 D n c (ptP b k)=0
     ·rw [C5 (λq=>q.2.2 hc)] at hp;have ec:J9 D n c (ptP b k)=c:=by
       cases hB:dL D n c (ptP b k) with
       | true =>
        have e9:K4 D n c (ptP b k)=ptP b k:=by unfold K4;rw [hB];rfl
        exact absurd (e9.symm.trans hc) h0
       | false=>unfold J9;rw [hB];rfl
      unfold R7;rw [C4 hp,C5 h0];show (c,b')=(if (k:Int)+6<many then J9 D n c (ptP b k) else c,b');rw [C4 hm,ec]
     ·rw [C4 ⟨h0,hm,hc⟩] at hp;unfold R7;rw [C5 (by rw [hp];exact h0),C5 h0];show (if (k:Int)+6<many then J9 D n c (ptP b' k) else c,bif decide ((k:Int)+6<many) && !decide (K4 D n c (ptP b' k)=0) then b' else H7 b' (2*k) (D6 2 0))=(if (k:Int)+6<many then J9 D n c (ptP b k) else c,b');rw [hp,O4 hm,W3 hc];rfl
    ·rw [C5 (λq=>hm q.2.1)] at hp;unfold R7;rw [C4 hp,C5 h0];show (c,b')=(if (k:Int)+6<many then J9 D n c (ptP b k) else c,b');rw [C5 hm]
  show M4 D n many e (k+1) (R7 D n many (c,b') k)=((M4 D n many e (k+1) (R7 D n many (c,b) k)).1,b');rw [key];exact C4b (b:=(R7 D n many (c,b) k).2) hl hb' (by omega) λj h1 h2=>h j (by omega) (by omega)
def D4i(hb:l_ b=256)(D2o:l_ D<=512):ptP (M4 D n many 128 0 (c,b)).2 0<512:=by
 have hl:=A4t (D:=D) (n:=n) (many:=many) (s:=(c,b)) (k:=0) hb (by omega);show ptP (M4 D n many 127 1 (R7 D n many (c,b) 0)).2 0<512;rw [A65 (by omega) hl (by omega) (by omega),C0o (s:=(c,b)) hb (by omega) (by omega),C4 rfl];split
 ·rename_i h;obtain ⟨_,hB⟩:=B5U h.2.2;unfold dL at hB;rw [E8j] at hB;have:=(vX.1 hB.1).2.2;show ptP b 0<512;have h2:ptP (c,b).2 0=ptP b 0:=rfl;rw [h2] at this;omega
 ·omega
end
def D3L{c:Nat}(h:A9h (C6 d) t i c=A5):Y4 d t i<=c:=by
 false_or_by_contra
 have:=B4c (d:=d) (t:=t) (p:=i) (c:=c) (by omega);rw [h] at this;cases this
def E26{c:Nat}(hi:i<C6 d)(hc:A9h (C6 d) t i c=A5\/fP d<=c)(h:∀ k,k<C6 d->toX t k=toX t i->k%2 ^ c=i%2 ^ c):B7J d t i=A5:=by
 have hb:Y4 d t i<=c:=by
  rcases hc with hc | hc
  ·exact D3L hc
  ·exact E83 B99 hc
 rw [A1p hi];exact λk hk hs=>C8e hb (h k hk hs)
structure Fair(d:Int)(t:List Int):Prop where
 len:l_ t=32
 fine:∀ i,i<C6 d->toX t i≠0->B8B (toX t i)=A5
 whole:∀ i,i<C6 d->toX t i≠0->B7J d t i=A5
 beyond:∀ i,C6 d<=i->toX t i=0
def E3K(ht:l_ t=32)(hr:A1j d t=A5):Fair d t:=by
 obtain ⟨h0,h5,hf⟩:=D1r.1 hr;have hm:=T5 d;unfold A9H at hf;rw [C4 ⟨h0,h5⟩] at hf;have hf:nL d t (C6 d)=t:=by simpa using hf
 have hk:∀ i,i<C6 d->toX t i≠0->zM d t i=A5:=by
  intro i hi hz;have:=A5U (d:=d) (t:=t) (i:=i) hm;rw [hf,C4 hi] at this;unfold zZ at this;cases c:zM d t i with
  | true=>rfl
  | false=>rw [c] at this;exact absurd this hz
 have later:∀ i j,i<j->j<C6 d->toX t j=toX t i->toX t j≠0->B7J d t j=A5:=by
  intro i j hij hj hs hz;obtain ⟨_,_,h3⟩:=A1d.1 (hk j hj hz);rcases h3 with h3 | h3
  ·exact absurd hs.symm (gM.1 h3 i hij)
  ·exact h3
 refine ⟨ht,λi hi hz=>(A1d.1 (hk i hi hz)).2.1,λi hi hz=>?_,λi hi=>?_⟩
 ·obtain ⟨_,_,h3⟩:=A1d.1 (hk i hi hz);rcases h3 with h3 | h3
  ·rw [A1p hi];intro k hkm hs;rcases Nat.lt_trichotomy k i with h | h | h
   ·exact absurd hs (gM.1 h3 k h)
   ·rw [h]
   ·have hw:=(A1p hkm).1 (later i k h hkm hs (by rw [hs];exact hz)) i hi hs.symm;have hb:=D3M hkm hi hw;rw [hb];exact hw.symm
  ·exact h3
 ·have:=A5U (d:=d) (t:=t) (i:=i) hm;rw [hf,C5 (by omega)] at this;exact this
def D5p(h0:0<=d)(h5:d<=5)(hf:Fair d t):A1j d t=A5:=by
 refine C4u h0 h5 ?_;unfold A9H;rw [C4 ⟨h0,h5⟩]
 congr 1
 refine D4l (T5 d) (λi hi=>?_) hf.len hf.beyond;by_cases hz:toX t i=0
 ·unfold zZ;rw [hz];cases zM d t i<;>rfl
 ·have:zM d t i=A5:=A1d.2 ⟨hz,hf.fine i hi hz,.inr (hf.whole i hi hz)⟩;unfold zZ;rw [this];rfl
def E4C{v:Int}:toX (t.set k v) i=if k=i/\i<(l_ t) then v else toX t i:=by
 unfold toX;rw [E8k,E8k,E9n];by_cases c:k=i
 ·subst c;by_cases c2:k<(l_ t)
  ·simp [c2]
  ·simp [c2]
 ·simp [c]
def C7x{a c:List UInt8}{w:Nat}{v:Int}:fieldN (R2 256 (a++D6 w v++c)) a.length w=v%256 ^ w:=by
 unfold fieldN R2;rw [E8t,E8t,List.drop_left,List.take_left' R4];exact B52 w v
def D62(hi:i<l_ t):pM t=pM (t.take i)++D6 2 t[i]++pM (t.drop (i+1)):=by
 have E6q:∀ a b:List Int,pM (a++b)=pM a++pM b:=by intro a b;simp [pM]
 have e:t=t.take i++([t[i]]++t.drop (i+1)):=by rw [List.singleton_append,<-E8s hi,List.take_append_drop]
 have h1:pM t=pM (t.take i++([t[i]]++t.drop (i+1))):=congrArg pM e;rw [h1,E6q,E6q,<-E8t]
 congr 2
def C7K(h0:0<=d)(h5:d<=5):getD (pH d t)=d:=by
 unfold getD pH A5F;have:=C7x (a:=magX) (c:=zeros 27++pM t) (w:=1) (v:=d);rw [show magX.length=4 from rfl] at this;rw [E8t (magX++D6 1 d),this];omega
def E1B:B8B n=A5↔0<=n/\n<=65535:=by unfold B8B;simp
def C7M(ht:l_ t=32)(hf:t.all B8B=A5):O5 (pH d t) 32=t:=by
 apply E9z;intro i;by_cases hi:i<32
 ·unfold O5;rw [E88 (by simpa using hi),List.getElem?_map,List.getElem?_range hi,E8h (by omega)];have:=C7x (a:=A5F d++pM (t.take i)) (c:=pM (t.drop (i+1))) (w:=2) (v:=t[i]);rw [E8t (A5F d),E8t (A5F d),<-D62 (by omega)] at this;have hl:(A5F d++pM (t.take i)).length=32+2*i:=by rw [E8o,A2v,A2E,E8Y];omega
  rw [hl] at this;have h1:=E1B.1 (E8O.1 hf t[i] (E8M (by omega)));rw [show t[i]%256 ^ 2=t[i] by omega] at this;show A4 (E5l (pH d t) i)=A4 t[i];rw [<-this];rfl
 ·rw [E8P (by rw [A2s (E8m _)];omega),E8P (by omega)]
def C7w(hf:Fair d t):t.all B8B=A5:=by
 rw [E8O];intro x hx;obtain ⟨i,hi⟩:=E9g.1 hx;have hl:=(E8p.1 hi).1;rw [C5R hl] at hi;have hi:=Option.some.inj hi;by_cases hz:toX t i=0
 ·rw [<-hi,hz];decide
 ·by_cases hm:i<C6 d
  ·rw [<-hi];exact hf.fine i hm hz
  ·exact absurd (hf.beyond i (by omega)) hz
def D4r(h0:0<=d)(h5:d<=5)(hf:Fair d t):okX d t=A5/\Q9 (pH d t)=A5:=by
 have ha:=C7w hf;have ho:okX d t=A5:=by unfold okX;rw [O4 h0,O4 h5,ha];rfl
 refine ⟨ho,?_⟩;unfold Q9;rw [C7K h0 h5,C7M hf.len ha,ho,O4 rfl,E8K,E8K];unfold C1h;rw [E8O];intro i hi;have:=List.mem_range'_1.1 hi;rw [hf.beyond i this.1];rfl
def D51:∀ {e i:Nat} {t:List Int},i+e<=l_ t->toX (A0I no e i t) j=if i<=j/\j<i+e/\toX t j=no then 0 else toX t j
 | 0,i,t,_=>by rw [C5 (by omega)];rfl
 | e+1,i,t,h=>by
  show toX (A0I no e (i+1) (if t.getD i 0=no then t.set i 0 else t)) j=_;have hl:(if t.getD i 0=no then t.set i 0 else t).length=(l_ t):=by split<;>simp
  rw [D51 (by rw [hl];omega)];have e1:toX (if t.getD i 0=no then t.set i 0 else t) j=if j=i/\toX t i=no then 0 else toX t j:=by
   by_cases c:t.getD i 0=no
   ·rw [C4 c,E4C];have c':toX t i=no:=c;by_cases e2:i=j
    ·subst e2;rw [C4 ⟨rfl,by omega⟩,C4 ⟨rfl,c'⟩]
    ·rw [C5 (λh=>e2 h.1),C5 (λh=>e2 h.1.symm)]
   ·rw [C5 c,C5 (λh=>c h.2)]
  by_cases e2:j=i
  ·subst e2;rw [C5 (by omega),e1];by_cases c:toX t j=no
   ·rw [C4 ⟨rfl,c⟩,C4 ⟨by omega,by omega,c⟩]
   ·rw [C5 (λh=>c h.2),C5 (λh=>c h.2.2)]
  ·have e3:toX (if t.getD i 0=no then t.set i 0 else t) j=toX t j:=by rw [e1,C5 (λh=>e2 h.1)]
   rw [e3];by_cases c:i+1<=j/\j<i+1+e/\toX t j=no
   ·rw [C4 c,C4 ⟨by omega,by omega,c.2.2⟩]
   ·rw [C5 c,C5 (λh=>c ⟨by omega,by omega,h.2.2⟩)]
structure LessQ(q:Int->Bool)(u T:List Int):Prop where
 len:l_ T=32
 get:∀ i,toX T i=if q (toX u i)=A5 then toX u i else 0
def E4B(h:l_ t<=i):toX t i=0:=by
 unfold toX;rw [E8k,E8P h];rfl
section
variable {d:Int} {q:Int->Bool} {u T:List Int}
def D84(hf:Fair d u)(h:LessQ q u T):Fair d T:=by
 have nz:∀ i,toX T i≠0->q (toX u i)=A5/\toX T i=toX u i:=λi hz=>by
  have:=h.get i;cases hq:q (toX u i) with
  | true=>rw [hq,C4 rfl] at this;exact ⟨rfl,this⟩
  | false=>rw [hq,C5 (by decide)] at this;exact absurd this hz
 refine ⟨h.len,λi hi hz=>?_,λi hi hz=>?_,λi hi=>?_⟩
 ·obtain ⟨_,e⟩:=nz i hz;rw [e] at hz ⊢;exact hf.fine i hi hz
 ·obtain ⟨hq,e⟩:=nz i hz;have hz':toX u i≠0:=by rw [<-e];exact hz
  have hw:=(A1p hi).1 (hf.whole i hi hz');refine E26 (c:=Y4 d u i) hi ?_ λk hk hs=>?_
  ·by_cases hb:Y4 d u i<fP d
   ·refine .inl (A5k.2 ⟨hz,λk hk hm=>?_⟩);have:=(A5k.1 (B5P hb)).2 k hk hm;rw [h.get k,h.get i,this]
   ·exact .inr (by omega)
  ·obtain ⟨_,e2⟩:=nz k (by rw [hs];exact hz);exact hw k hk (by rw [<-e2,hs,e])
 ·have:=h.get i;rw [hf.beyond i hi] at this;rw [this];split<;>rfl
def D0G(h:LessQ q u T){n:Nat}:J3 T n=(J3 u n).filter q:=by
 have nz:∀ i,yV T i=(yV u i&&q (toX u i)):=by
  intro i;unfold yV;have hi:=h.get i;cases hq:q (toX u i) with
  | false =>
   rw [hq,C5 (by decide)] at hi;rw [hi,Bool.and_false];rfl
  | true =>
   rw [hq,C4 rfl] at hi;rw [hi,Bool.and_true];by_cases hz:toX u i=0
   ·rw [hz];rfl
   ·congr 1
    rw [Bool.eq_iff_iff,gM,gM];constructor
    ·intro hk k hki e;refine hk k hki ?_;rw [h.get k,e,hq,C4 rfl,hi]
    ·intro hk k hki e;have hg:=h.get k;rw [hi] at e;cases hqk:q (toX u k) with
     | true=>rw [hqk,C4 rfl] at hg;exact hk k hki (by rw [<-hg,e])
     | false=>rw [hqk,C5 (by decide)] at hg;rw [hg] at e;exact hz e.symm
 unfold J3;rw [List.filter_map,List.filter_filter];have e1:(E8T n).filter (yV T)=(E8T n).filter λa=>(q∘toX u) a&&yV u a:=by
  refine List.filter_congr λx _=>?_
  rw [nz x,Bool.and_comm];rfl
 rw [e1];refine List.map_congr_left λx hx=>?_
 have hx:=(E8Z.1 hx).2;rw [E8j] at hx;have hq:q (toX u x)=A5:=hx.1;rw [h.get x,hq,C4 rfl]
end
def A2i{n:Nat}(h:x∈J3 t n):x≠0:=by
 unfold J3 at h;obtain ⟨i,hi,rfl⟩:=E8N.1 h;have:=(E8Z.1 hi).2;unfold yV at this;rw [E8j] at this;simpa using this.1
def C5E{n:Nat}:(J3 t n).Nodup:=by
 unfold J3;rw [List.Nodup,List.pairwise_map,List.pairwise_filter];refine List.Pairwise.imp ?_ (List.pairwise_lt_range (n:=n));intro a b hab ha hb e;unfold yV at hb;rw [E8j] at hb;exact gM.1 hb.2 a hab e
def C7A{l k:List Int}(h:List.Sublist k l)(hn:l.Nodup):l.filter (λx=>decide (x∈k))=k:=by
 induction h with
 | slnil=>rfl
 | @cons k l a h ih =>
  have ha:=List.nodup_cons.1 hn;have:a ∉ k:=λhk=>ha.1 (h.subset hk)
  rw [List.filter_cons,W3 this,C5 (by decide)];exact ih ha.2
 | @cons_cons k l a h ih =>
  have ha:=List.nodup_cons.1 hn;rw [List.filter_cons,O4 (E8u ..),C4 rfl]
  congr 1
  have e:l.filter (λx=>decide (x∈a::k))=l.filter λx=>decide (x∈k):=by
   refine List.filter_congr λx hx=>?_
   have:x≠a:=λe=>ha.1 (by rw [<-e];exact hx)
   simp [this]
  rw [e,ih ha.2]
section
variable {D E:Dev} {n:Int}
def J4(D:Dev)(n:Int)(c:Cl):List Int->List Int
 | []=>[]
 | no::L=>if dL D n c no=A5 then no::J4 D n (J9 D n c no) L else J4 D n c L
def cY(D:Dev)(n:Int)(c:Cl)(L:List Int):Cl:=L.foldl (J9 D n) c
def B1o(h:dL D n c no=A6):J9 D n c no=c:=by unfold J9;rw [h];rfl
def D7T(h:dL D n c no=A6):K4 D n c no=0:=by unfold K4;rw [h];rfl
def zB(h:dL D n c no=A5):K4 D n c no=no:=by unfold K4;rw [h];rfl
def keptL_sub:∀ {L:List Int} {c:Cl},List.Sublist (J4 D n c L) L
 | [],_=>.slnil
 | no::L,c=>by
  unfold J4;split
  ·exact keptL_sub.cons_cons _
  ·exact keptL_sub.cons _
def B43:∀ {L:List Int} {c:Cl},J4 D n c (J4 D n c L)=J4 D n c L
 | [],_=>rfl
 | no::L,c=>by
  cases h:dL D n c no with
  | true =>
   have e:J4 D n c (no::L)=no::J4 D n (J9 D n c no) L:=by show (if _ then _ else _)=_;rw [C4 h]
   rw [e];show (if dL D n c no=A5 then _ else _)=_;rw [C4 h,B43]
  | false =>
   have e:J4 D n c (no::L)=J4 D n c L:=by show (if _ then _ else _)=_;rw [C5 (by rw [h];decide)]
   rw [e,B43]
def C2M:∀ {L:List Int} {c:Cl},cY D n c (J4 D n c L)=cY D n c L
 | [],_=>rfl
 | no::L,c=>by
  cases h:dL D n c no with
  | true =>
   have e:J4 D n c (no::L)=no::J4 D n (J9 D n c no) L:=by show (if _ then _ else _)=_;rw [C4 h]
   rw [e];exact C2M (L:=L) (c:=J9 D n c no)
  | false =>
   have e:J4 D n c (no::L)=J4 D n c L:=by show (if _ then _ else _)=_;rw [C5 (by rw [h];decide)]
   rw [e,C2M];show _=cY D n (J9 D n c no) L;rw [B1o h]
def A9m:∀ {L:List Int} {c:Cl} {t:List Int},l_ t=32->L.Nodup->(∀ x∈L,x≠0) ->
  (W2 D n (c,t) L).1=cY D n c L/\LessQ (λx=>!(decide (x∈L) && !decide (x∈J4 D n c L))) t (W2 D n (c,t) L).2
 | [],c,t,ht,_,_=>⟨rfl,ht,λi=>by simp [W2]⟩
 | no::L,c,t,ht,hn,hz=>by
  obtain ⟨h1,h2⟩:=List.nodup_cons.1 hn;have Y8:=hz no (E8u ..);have hL:∀ x∈L,x≠0:=λx hx=>hz x (E8q _ hx)
  have hk:∀ {c},no ∉ J4 D n c L:=λh=>h1 (keptL_sub.subset h)
  cases h:dL D n c no with
  | true =>
   have e:W2 D n (c,t) (no::L)=W2 D n (J9 D n c no,t) L:=by
    show W2 D n (J9 D n c no,if K4 D n c no=0 then A0I no 32 0 t else t) L=_;rw [zB h,C5 Y8]
   have e2:J4 D n c (no::L)=no::J4 D n (J9 D n c no) L:=by show (if _ then _ else _)=_;rw [C4 h]
   obtain ⟨a1,a2⟩:=A9m (L:=L) (c:=J9 D n c no) ht h2 hL;rw [e,e2];refine ⟨a1,a2.len,λi=>?_⟩;rw [a2.get i];have:(!(decide (toX t i∈L) && !decide (toX t i∈J4 D n (J9 D n c no) L)))=(!(decide (toX t i∈no::L) && !decide (toX t i∈no::J4 D n (J9 D n c no) L))):=by
    by_cases e3:toX t i=no
    ·rw [e3,W3 h1,O4 (E8u ..),O4 (E8u ..)];rfl
    ·simp [e3]
   rw [this]
  | false =>
   have e:W2 D n (c,t) (no::L)=W2 D n (c,A0I no 32 0 t) L:=by
    show W2 D n (J9 D n c no,if K4 D n c no=0 then A0I no 32 0 t else t) L=_;rw [D7T h,C4 rfl,B1o h]
   have e2:J4 D n c (no::L)=J4 D n c L:=by show (if _ then _ else _)=_;rw [C5 (by rw [h];decide)]
   have hzl:(A0I no 32 0 t).length=32:=by rw [A4j,ht]
   have hza:∀ i,toX (A0I no 32 0 t) i=if toX t i=no then 0 else toX t i:=λi=>by
    rw [D51 (by omega)];by_cases c1:toX t i=no
    ·by_cases c2:i<32
     ·rw [C4 ⟨by omega,by omega,c1⟩,C4 c1]
     ·exact absurd (E4B (t:=t) (i:=i) (by omega)) (by rw [c1];exact Y8)
    ·rw [C5 (λh=>c1 h.2.2),C5 c1]
   obtain ⟨a1,a2⟩:=A9m (L:=L) (c:=c) hzl h2 hL;rw [e,e2];refine ⟨?_,a2.len,λi=>?_⟩
   ·rw [a1];show _=cY D n (J9 D n c no) L;rw [B1o h]
   ·rw [a2.get i,hza i];by_cases c1:toX t i=no
    ·have:(!(decide (toX t i∈no::L) && !decide (toX t i∈J4 D n c L)))=A6:=by
      rw [c1,O4 (E8u ..),W3 hk];rfl
     rw [this];have e0:(if toX t i=no then (0:Int) else toX t i)=0:=C4 c1;rw [e0];split<;>rfl
    ·rw [C5 c1];have:(!(decide (toX t i∈L) && !decide (toX t i∈J4 D n c L)))=(!(decide (toX t i∈no::L) && !decide (toX t i∈J4 D n c L))):=by simp [c1]
     rw [this]
def A6Y:∀ {L:List Int} {c:Cl} {t:List Int},(∀ x∈L,x≠0)->J4 D n c L=L->W2 D n (c,t) L=(cY D n c L,t)
 | [],_,_,_,_=>rfl
 | no::L,c,t,hz,h=>by
  have Y8:=hz no (E8u ..);cases hb:dL D n c no with
  | true =>
   have e2:J4 D n c (no::L)=no::J4 D n (J9 D n c no) L:=by show (if _ then _ else _)=_;rw [C4 hb]
   rw [e2] at h;have h:=(List.cons.inj h).2;have e:W2 D n (c,t) (no::L)=W2 D n (J9 D n c no,t) L:=by
    show W2 D n (J9 D n c no,if K4 D n c no=0 then A0I no 32 0 t else t) L=_;rw [zB hb,C5 Y8]
   rw [e,A6Y (λx hx=>hz x (E8q _ hx)) h];rfl
  | false =>
   have e2:J4 D n c (no::L)=J4 D n c L:=by show (if _ then _ else _)=_;rw [C5 (by rw [hb];decide)]
   rw [e2] at h;have:=keptL_sub (D:=D) (n:=n) (L:=L) (c:=c);rw [h] at this;have:=this.length_le;simp at this;omega
end
def C7i(h:A9z D=A5):P6 (l_ D) (uW D)=A5:=by
 unfold A9z at h;rw [E8j] at h;have h1:=h.1;unfold okS at h1;rw [E8j,of_decide_eq_true h.2] at h1;exact h1.1
section
variable (n m m2:Nat) (a0 a1 a2 x0 x2 x4 x5 x6 x7 x8 x9 x10 x13 x14 x15 x20 x21 x22 x42 x65 x66 x67:Val) (h:A9)
def jH:FD A8:=⟨px 0X11158f206f5803750000000051b24ff2e054a04f4921804ef6001a489390489012814893e048814102283b6e488186e16e1718240381048818044881d5c1714e4883b1c5019189433af18f488638f701c181b04881861a4881d4163e4818215011a07024513401215f42006050110290622301133c4183a4291c60195d5b591283002348964811d196001e20128f14892482e1375000011b22410322a1e023f01822131df11cf2462e41b11828061c2c1bf190010371a0181b19182114892482042,[],[.eqA A5 (E8l 256 (.i .u8)) (.t 27) (.t 31)],[.tmp 2,.tmp 3],[gG vO B5J,D8 B01 B7L,D8 bY wY]⟩
def A6B:=jH.R
def C0R:AtH:=jH.lj 0 n [m] [x0,x6,x20,x21,x22]
def D2L:AtH:=jH.lj 1 n [m] [x0,x6,x20,x21,x22]
def B38:=tT [⟨2,5,C0R⟩,⟨2,5,D2L⟩]
def B3t:=mR A6B jH B38 n [a0] h
def A21:=mL jH B38 0 n [m] [x0,x6,x20,x21,x22] h
def B2q:=mJ jH B38 1 n [m] [x0,x6,x20,x21,x22] h
def A6p:=jH.K Tryz.func19
def vL:=jH.S
def A83:E6k A6B vL:=A6p.out2
def J8:FD A8:=⟨px 0X7ef5a0558022180422a5051a3d50020450503d71181824301a191021cb1a01cb1e07f171cb6a1ac1cb70110320406f172d19a5d01a1dd3525cf180412294215031a070244133d01211af420260515a011ad4259f2764ff076239118b39065a01035f1b1801034f1b1862197c7e11101b30422a4051a3d50020440503d71181824301c19063691a0691e35c691f0691e35a691f01190220404851a7d423111a0422a3051a3d50020430503d7118182406320411c50411a192b53b42001a63a642e21b1901c2,[],[],[],[D8 eX tZ]⟩
def A3g:=J8.R
def A2B:AtH:=J8.lj 0 n [] [x0,x4,x5]
def A2C:AtH:=J8.lj 1 n [] [x0,x4,x5]
def A2D:AtH:=J8.lj 2 n [m] [x0,x6,x7,x42]
def B5c:AtH:=J8.lj 3 n [m] [x0,x6,x7,x42]
def bP:=tT [⟨1,3,A2B⟩,⟨1,3,A2C⟩,⟨2,4,A2D⟩,⟨2,4,B5c⟩]
def xP:=mR A3g J8 bP n [a0,a1,a2] h
def iU:=mJ J8 bP 0 n [] [x0,x4,x5] h
def A9Z:=mJ J8 bP 1 n [] [x0,x4,x5] h
def bH:=mL J8 bP 2 n [m] [x0,x6,x7,x42] h
def iW:=mJ J8 bP 3 n [m] [x0,x6,x7,x42] h
def A29:=J8.K Tryz.func58
def sD:=J8.Q
def yG:OfT A3g sD:=A29.of
def V9:FD A8:=⟨px 0X113022f1862e8181c91c371111113721c8f18b057a022180022a62dc550020462ce1bc2b518241bbf1ac030181904262df2f2ba2df76f42df3c0103f2a81ad0182d9633072022a72ac5500204729e1a82b5182419ff1980301a1902ad4d04262ad2f2882ad76f42ad3c011f81990182a9425518ff118df1c00461a11d4153b3918245031a37024613401212994202635110290421e81882b428f28d28b18282221113359f1a050027c5803180022a21dc550020421ce7c2b518247bf78003803b3b1bc1b791c41e9556201c1bc353101b18041b1d1ac10411ac519c1b691c60192468f5d00424319a119c65e1c41bb42255cf21b63b1b1b0423318a16f45a1c57842155111a070240181920410507c56a4b0519f4203006055112d42034af21863a191b01161023a3b0456850296c3e072b1523df2663e181b01235c43c1c429423bf13af2462e61b11828063a2c39f2f001137380181d191192012ef300581864a103a3b4711101722410323c2b025901823132af129f401182806292c28f1e0010371f071b19182113a21b250182,[],[.eqA A5 ([.i .i64,.i .i64,.i .i64,.i .i64,.i .i64,.i .i64,.i .i64,.i .i64,.i .i64,.i .i64,.i .i64]) (.t 57) (.t 58)],[.cellN 2 8,.tmp 3],[D8 vL A6p,gG vO B5J,D8 B01 B7L,D8 F9 J5,D8 B00 B89,gG sD A29,D8 A0X A8I]⟩
def B0O:=V9.R
def A8s:AtH:=V9.lj 0 n [m] [x2,x6,x8,x9,x10]
def C9X:AtH:=V9.lj 1 n [m] [x2,x6,x8,x9,x10]
def B7t:AtH:=V9.lj 2 n [m] [x2,x6,x9,x65,x66,x67]
def C9Y:AtH:=V9.lj 3 n [m] [x2,x6,x9,x65,x66,x67]
def yQ:=tT [⟨2,5,A8s⟩,⟨2,5,C9X⟩,⟨2,6,B7t⟩,⟨2,6,C9Y⟩]
def C4U:=mR B0O V9 yQ n [a0] h
def qZ:=mL V9 yQ 0 n [m] [x2,x6,x8,x9,x10] h
def A1f:=mJ V9 yQ 1 n [m] [x2,x6,x8,x9,x10] h
def iT:=mL V9 yQ 2 n [m] [x2,x6,x9,x65,x66,x67] h
def qY:=mJ V9 yQ 3 n [m] [x2,x6,x9,x65,x66,x67] h
def B0s:=V9.K Tryz.func21
def A3X:=V9.S
def B9R:G0 B0O A3X:=B0s.flat
def B0l:FD A8:=⟨px 0X139f2006020475c506020464e5060204548506020443a506020432c506020421e50411a62b2d02011201600622403803a3b4181831b42031103a2342,[],[.eqA A6 ([.i .i64,.i .i64,.i .i64,.i .i64,.i .i64,.i .i64,.i .i64,.i .i64]) (.t 3) (.t 4)],[.tmp 2],[]⟩
def B7S:=B0l.R
def C9n:=mR B7S B0l (tT []) n [a0] h
def C5V:=B0l.K Tryz.func57
def B8c:=B0l.S
def C49:G0 B7S B8c:=C5V.flat
def fE:FD A8:=⟨px 0X15af607f5a022a000000047259f1f056c02218002488661a4881d04881817a50406e578171824301c19061791a0794b687970791e058791f013018191045f1a05f1e03e5f1f0104124e1382c01f18d2522bf19f489629f18028191b04891861a4891d4161e2818215011a070245134012149420060511029381d033f3d3b528200231cf700448839710004881a5d41f05248864815301c2,[],[],[.tmp 6],[]⟩
def B0N:=fE.R
def B7s:AtH:=fE.lj 0 n [m] [x2,x7,x13,x14,x15]
def C9W:AtH:=fE.lj 1 n [m] [x2,x7,x13,x14,x15]
def B1k:=tT [⟨2,5,B7s⟩,⟨2,5,C9W⟩]
def C4T:=mR B0N fE B1k n [a0,a1,a2] h
def iS:=mL fE B1k 0 n [m] [x2,x7,x13,x14,x15] h
def qX:=mJ fE B1k 1 n [m] [x2,x7,x13,x14,x15] h
def B9d:=fE.K Tryz.func20
def A3W:=fE.S
def C2i:A3Q B0N A3W:=B9d.out
end
abbrev Wr:=Int × List UInt8
def wrC(w:Wr):List Cell:=cI w.1::B4 w.2
def vB(l:List Wr):List Cell:=(l.map wrC).flatten
def okW(l:List Wr):Prop:=∀ w∈l,w.2.length=256
def vA{w:Wr}(h:w.2.length=256):(wrC w).length=257:=by simp [wrC,B5,h]
def B0g{w:Wr}{l:List Wr}:vB (w::l)=wrC w++vB l:=rfl
def D50{l m:List Wr}:vB (l++m)=vB l++vB m:=by simp [vB]
def wL:∀ {l:List Wr},okW l->(vB l).length=l_ l*257
 | [],_=>rfl
 | w::l,h=>by
  rw [B0g,E8o,vA (h w (E8u ..)),wL λx hx=>h x (E8q _ hx),E8w];omega
def C8m:∀ (l:List Wr),noX (vB l)=A5
 | []=>rfl
 | w::l=>by
  have h1:=C8m l;have h2:=V6 w.2;unfold noX at *;rw [B0g,List.all_append,h1,wrC,E9p,h2];rfl
def C7F:∀ {l:List Wr},M9 (vB l)=A5
 | []=>rfl
 | w::l=>by
  rw [B0g,kD,C7F (l:=l),wrC,B8C,C7E];rfl
def D8E:∀ {l:List Wr} {i:Nat} (h:okW l) (hi:i<l_ l),((vB l).drop (i*257)).take 257=wrC l[i]
 | w::l,0,h,_=>by
  have:=vA (h w (E8u ..));simp only [B0g,Nat.zero_mul,E8y,List.getElem_cons_zero];rw [List.take_append_of_le_length (by omega),E8B (by omega)]
 | w::l,i+1,h,hi=>by
  have h1:=vA (h w (E8u ..));have:=D8E (l:=l) (i:=i) (λx hx=>h x (E8q _ hx)) (by simpa using hi);rw [B0g,show (i+1)*257=257+i*257 by omega,<-E9D,E9C h1];simpa using this
def U1:Dev->Dev->Nat->List Wr
 | w::W,d::D,i=>if w=d then U1 W D (i+1) else ((i:Int),w)::U1 W D (i+1)
 | _,_,_=>[]
def C1c:∀ {W D:Dev} {i:Nat},okD W->okW (U1 W D i)/\(U1 W D i).length<=W.length
 | [],_,_,_=>⟨λx hx=>by simp [U1] at hx,by simp [U1]⟩
 | _::_,[],_,_=>⟨λx hx=>by simp [U1] at hx,by simp [U1]⟩
 | w::W,d::D,i,h=>by
  obtain ⟨h1,h2⟩:=C1c (W:=W) (D:=D) (i:=i+1) h.cons.2;unfold U1;split
  ·exact ⟨h1,by simp;omega⟩
  ·exact ⟨λx hx=>by
    rcases E8J.1 hx with rfl | hx
    ·exact h.cons.1
    ·exact h1 x hx,by simpa using h2⟩
def E0I(hb:l_ b=256):F6 ([o0]++B4 (zeros 256)) [(0,1,iV a),(1,256,.a (B4 b))]=A4 (wrC (a,b)):=by
 have hl:(B4 b).length=256:=by rw [B5,hb]
 have hz:(B4 (zeros 256)).length=256:=by rw [B5,zeros_length]
 show _=A4 (cI a::B4 b);generalize B4 (zeros 256)=z at *;generalize B4 b=y at *;simp only [F6,bQ,D3S];rw [C4 ⟨rfl,by simp⟩];have e1:lay ([o0]++z) 0 [cI a]=cI a::z:=by simp [lay]
 rw [e1,C4 ⟨hl,by simp;omega⟩];have e2:lay (cI a::z) 1 y=cI a::y:=by
  simp [lay,hl];omega
 rw [e2]
def D8K{w:Wr}(hb:w.2.length=256):F6 ([o0]++B4 (zeros 256)) [(0,257,.a (wrC w))]=A4 (wrC w):=by
 have hl:=vA hb;have hz:([o0]++B4 (zeros 256)).length=257:=by simp [B5,zeros_length]
 generalize [o0]++B4 (zeros 256)=z at *;generalize wrC w=y at *;simp only [F6,bQ];rw [C4 ⟨hl,by omega⟩,lay_all (by omega)]
section
variable {D W:Dev} {n m:Int} {g:A9} {q:Nat} {x0 x20:Val}
def D8F(v:Val)(id:Nat):Prop:=∀ off n sz,v≠sV id off n sz
def C0p{n id:Nat}(hv:Has h v sz n cs)(ho:D8F v id)(hk:∀ i r,i≠id->rd h i=A4 r->rd h' i=A4 r):Has h' v sz n cs:=by
 rcases hv with hv | ⟨j,off,r,rfl,hr,h2⟩
 ·exact .inl hv
 ·exact .inr ⟨j,off,r,rfl,hk j r (λe=>ho off n sz (by rw [e])) hr,h2⟩
def C0q{n id:Nat}(hv:Has h v sz n cs)(hid:l_ h<=id):D8F v id:=by
 intro off k s e;rcases hv with ⟨e1,_⟩ | ⟨j,off,r,e1,hr,h2⟩
 ·rw [e1] at e;cases e
 ·rw [e1] at e;cases e;have:=E1 hr;omega
def D9Z{b:Nat}{hb:A9}(hD:okD D)(hW:okD W)(hWD:W.length=l_ D)(h5:l_ D<=1000000) :
  ∀ (e i M:Nat) (l:List Wr) (id:Nat) (h:A9),i+e=W.length->e<M->Low b hb h->b<=id->okW l->l_ l<=i->Has h x0 256 (l_ D) (E3 D)->Has h x20 256 W.length (E3 W)->D8F x0 id->D8F x20 id->rd h id=rT (vB l) ->
  ∃ cP h',C0R q M x0 (sV id 0 (l_ l) 257) x20 (iV (W.length:Nat)) (iV (i:Int)) h=A4 (.t [.c (.sl cP 0 (l++U1 (W.drop i) (D.drop i) i).length 257),.c o0],h') /\
   Low b hb h'/\b<=cP/\rd h' cP=rT (vB (l++U1 (W.drop i) (D.drop i) i)):=by
 intro e
 induction e with
 | zero =>
  intro i M l id h hi hM hlow hid hl hli h0 h20 n0 n20 hr;obtain ⟨M,rfl⟩:=X0 M (by omega);have c0:¬ (i:Int)<(W.length:Nat):=by omega
  have e1:U1 (W.drop i) (D.drop i) i=[]:=by rw [E8x (by omega)];rfl
  rw [e1,E8C];refine ⟨id,h,?_,hlow,hid,hr⟩;rw [A21];simp only [esc,c0]
 | succ e ih =>
  intro i M l id h hi hM hlow hid hl hli h0 h20 n0 n20 hr;obtain ⟨M,rfl⟩:=X0 M (by omega);have hiW:i<W.length:=by omega
  have hiD:i<(l_ D):=by omega
  have c0:(i:Int)<(W.length:Nat):=by omega
  have w1:=E2 (a:=i) (by omega);obtain ⟨_,_,e1,_,a1,b1⟩:=D2p h20 hW hiW;obtain ⟨G,hG⟩:=xEq (h++[rT (B4 W[i])]);have hlG:Low b hb G:=by rw [hG];exact hlow.new _
  have h0G:Has G x0 256 (l_ D) (E3 D):=by rw [hG];exact h0.more _
  have h20G:Has G x20 256 W.length (E3 W):=by rw [hG];exact h20.more _
  obtain ⟨_,_,e2,_,a2,b2⟩:=D2p h0G hD hiD;have st:F7 (h++[rT (B4 (zeros 256))]) 256 (pV (l_ h) 0) (.a (B4 W[i]))=A4 G:=by
   rw [storeAll (cs:=B4 (zeros 256)) (by rw [G3];rfl) (by rw [B5,zeros_length]) (by rw [B5,hW.at hiW]),fX,hG];rfl
  have lG:C9 G 256 (pV (l_ h) 0)=A4 (.a (B4 W[i])):=C8 (by rw [hG,G3];rfl) (by rw [B5,hW.at hiW]);have q1:=D0r (l:=W[i]) (m:=D[i]) (n:=256) (hW.at hiW) (hD.at hiD);have hrG:rd G id=rT (vB l):=by rw [hG];exact B6 hr
  have hbG:b<=(l_ G):=by have:=hlG.1;have:=hlG.2.1;omega
  have ed:U1 (W.drop i) (D.drop i) i=if W[i]=D[i] then U1 (W.drop (i+1)) (D.drop (i+1)) (i+1) else ((i:Int),W[i])::U1 (W.drop (i+1)) (D.drop (i+1)) (i+1):=by
   rw [E8s hiW,E8s hiD];rfl
  by_cases cw:W[i]=D[i]
  ·rw [ed,C4 cw];rw [O4 cw] at q1;obtain ⟨cP,h',f1,f2,f3,f4⟩:=ih (i+1) M l id G (by omega) (by omega) hlG hid hl (by omega) h0G h20G n0 n20 hrG;generalize l++U1 (W.drop (i+1)) (D.drop (i+1)) (i+1)=P at f1 f4 ⊢;refine ⟨cP,h',?_,f2,f3,f4⟩;rw [A21,G9];generalize B4 W[i]=x at *;generalize B4 D[i]=y at *;generalize B4 (zeros 256)=z at *;simp only [esc,c0,a1,b1,st,lG,a2,b2,q1,B2q,w1];exact f1
  ·rw [ed,C5 cw];rw [W3 cw] at q1;have hwl:((i:Int),W[i]).2.length=256:=hW.at hiW;obtain ⟨h1,p1,p2,p3,p4⟩:=B5j (n:=l_ l) (sz:=257) (ys:=wrC ((i:Int),W[i])) hrG (wL hl) (vA hwl) (by omega) (by omega);have tI:okW (l++[((i:Int),W[i])]):=λx hx=>by
    rcases E8U.1 hx with hx | hx
    ·exact hl x hx
    ·simp at hx;subst hx;exact hwl
   have ls:(l++[((i:Int),W[i])]).length=l_ l+1:=by simp
   obtain ⟨cP,h',f1,f2,f3,f4⟩:=ih (i+1) M (l++[((i:Int),W[i])]) (l_ G+1) h1 (by omega) (by omega) (hlG.trans (p4 b hid hbG)) (by omega) tI (by rw [ls];omega) (C0p h0G n0 p3) (C0p h20G n20 p3) (C0q h0G (by omega)) (C0q h20G (by omega)) (by rw [p2,D50];simp [vB]);rw [ls] at f1;rw [E8t] at f1 f4;have eP:[((i:Int),W[i])]++U1 (W.drop (i+1)) (D.drop (i+1)) (i+1)=((i:Int),W[i])::U1 (W.drop (i+1)) (D.drop (i+1)) (i+1):=rfl;rw [eP] at f1 f4;generalize l++((i:Int),W[i])::U1 (W.drop (i+1)) (D.drop (i+1)) (i+1)=P at f1 f4 ⊢;refine ⟨cP,h',?_,f2,f3,f4⟩;have ef:=E0I (a:=(i:Int)) (hW.at hiW);have ef2:=D8K hwl;rw [A21,G9];generalize wrC ((i:Int),W[i])=u at *;generalize B4 W[i]=x at *;generalize B4 D[i]=y at *;generalize B4 (zeros 256)=z at *;simp only [E89,E8I] at ef ef2;simp only [esc,c0,a1,b1,st,lG,a2,b2,q1,ef,ef2,p1,B2q,w1];exact f1
def C0w{D:Dev}{n:Int}(hD:okD D)(hm:P6 (l_ D) n=A5):okD (gQ D n (E7 D n))/\(gQ D n (E7 D n)).length=(l_ D):=by
 have okf:=qT hD hm;obtain ⟨_,_,_,n128,_⟩:=H8.1 hm;have h1:=B5k (l:=(E7 D n).blocks) (m:=(E7 D n).made) hD okf.md;have h2:=B0h (e:=(nN (l_ D) n).toNat) (no:=bO (l_ D) n) h1.1;have h3:=B42 (n:=n) n128 (l:=(E7 D n).ino) (i:=0) h2.1 λx hx=>(okf.ino x hx).1
 unfold gQ;refine ⟨h3.1.put ?_,by rw [cR,h3.2,h2.2,h1.2]⟩;unfold cQ;rw [fU,zeros_length]
def zO(hv:Has h v 256 (l_ D) (E3 D))(hD:okD D)(hn:A9z D=A5)(hl:l_ D<=1000000) :
  vL [v] h=A4 (.t [.c (.sl (l_ h) 0 (U1 (gQ D (uW D) (E7 D (uW D))) D 0).length 257),.c o0],h++[rT (vB (U1 (gQ D (uW D) (E7 D (uW D))) D 0))]):=by
 have hm:=C7i hn;obtain ⟨W,hWd⟩:=xEq (gQ D (uW D) (E7 D (uW D)));have key:∃ id g',A6B (l_ D+2) [v] (ro h)=A4 (.t [.c (.sl id 0 (U1 W D 0).length 257),.c o0],g')/\Out (ro h).length g' (sV id 0 (U1 W D 0).length 257) 257 (U1 W D 0).length (vB (U1 W D 0)):=by
  obtain ⟨f,t,hO,hV⟩:=B8Y (h:=ro h++[rT []]) (hv.ro.more _) hD hn (by omega);obtain ⟨H,hHe⟩:=xEq (ro h++[rT []]++t);rw [<-hHe] at hO hV;obtain ⟨n,en⟩:=xEq (uW D);rw [<-en] at hO hm hWd;generalize C7j D=m at *;have hvH:Has H v 256 (l_ D) (E3 D):=by rw [hHe];exact (hv.ro.more _).more _
  have hS5:F7 (H++[rT [o0,o0,.i .u64 0,.nf]]) 4 (pV (l_ H) 0) (.a (vwC (l_ D) n m f))=A4 (H++[rT (vwC (l_ D) n m f)]):=by rw [I3];rfl
  obtain ⟨K,hK⟩:=xEq (H++[rT (vwC (l_ D) n m f),rT []]);have k4:C9 K 4 (pV (l_ H) 0)=A4 (.a (vwC (l_ D) n m f)):=C8 (by rw [hK,G3];rfl) rfl;have hVK:IsView K f D:=by rw [hK];exact hV.more _
  obtain ⟨cs,t2,hC,hI,C9P⟩:=C32 (h:=K) hD hVK hm;have hq1:=U9 (h:=K) (h':=K++t2) (v:=.a cs) ⟨List.prefix_append _ _,λid x hid hx=>by
   rw [rd_some,E8L hid] at hx;exact E8O.1 C9P _ (E8H hx)⟩
  have hIm:=C9D (m:=m) hD (hVK.more t2) hm hI;rw [<-hWd] at hIm;have E1U:okD W/\W.length=(l_ D):=by rw [hWd];exact C0w hD hm
  obtain ⟨N,hN⟩:=xEq (K++t2++[rT (E3 W)]);have hq2:=U9 (h:=K++t2) (h':=N) (v:=sV (K++t2).length 0 (l_ D) 256) (by rw [hN];exact (Grows.rfl').new _);rw [<-hN] at hIm;have h20:Has N (sV (K++t2).length 0 W.length 256) 256 W.length (E3 W):=by
   rw [hN];exact Has.tr (by rw [G3];rfl) (H9 E1U.1) (dO _)
  have h0N:Has N v 256 (l_ D) (E3 D):=by rw [hN,hK];exact ((hvH.more _).more _).more _
  have lK:(ro h).length<=(l_ H):=by rw [hHe];simp only [E8o];omega
  have rN:rd N (l_ H+1)=rT (vB []):=by rw [hN,hK];refine B6 (B6 ?_);rw [gP];rfl
  have lN:N.length=l_ H+2+t2.length+1:=by rw [hN,hK];simp only [E8o,E8w,E8X]
  obtain ⟨cP,h',f1,f2,f3,f4⟩:=D9Z (q:=l_ D+2) (b:=(ro h).length) (hb:=N) hD E1U.1 E1U.2 hl W.length 0 (l_ D+2) [] (l_ H+1) N (by omega) (by omega) (Low.refl (by omega)) (by omega) (λx hx=>by cases hx) (by simp) h0N h20 (C0q hvH (by omega)) (by
   intro off k s e;simp only [Val.c.injEq,Cell.sl.injEq] at e;have e2:=e.1;rw [hK] at e2;simp only [E8o,E8w,E8X] at e2;omega) rN
  rw [E8I,E8y,E8y] at f1 f4;refine ⟨cP,h',?_,?_,cP,rfl,f3,f4⟩
  ·rw [B3t];have c00:((0:Nat):Int)=0:=rfl;have l00:([]:List Wr).length=0:=rfl;rw [c00,l00] at f1;have eK:H++[rT (vwC (l_ D) n m f)]++[rT []]=K:=by rw [hK];simp
   rw [E1U.2] at f1;generalize hV':vwC (l_ D) n m f=V at *;simp only [C7,hO,uS,E84,E8F,E85,dP,dQ,hS5,A9g,E8o,E8w,E8X,E8A];simp only [esc,eq_self] at *;simp only [<-hK,k4,hC,hq1,hIm,hq2,C7,A6U];exact f1
  ·exact wL (C1c E1U.1).1
 obtain ⟨id,g',e,ho⟩:=key;rw [<-hWd];exact A83 e (by rw [G8] at ho;exact ho) C7F rfl
end
def C9Z(hv:Has h v 256 (l_ D) (E3 D))(hD:okD D)(hn:A9z D=A6) :
  vL [v] h=A4 (.t [.c (.sl (l_ h) 0 0 257),.c (cI 13)],h++[rT []]):=by
 obtain ⟨t,hO⟩:=D5V (h:=ro h++[rT []]) (hv.ro.more _) hD hn;obtain ⟨H,hHe⟩:=xEq (ro h++[rT []]++t);rw [<-hHe] at hO;have lK:(ro h).length<=(l_ H):=by rw [hHe];simp only [E8o];omega
 have hS5:F7 (H++[rT [o0,o0,.i .u64 0,.nf]]) 4 (pV (l_ H) 0) (.a (vwC 0 0 0 .nf))=A4 (H++[rT (vwC 0 0 0 .nf)]):=by rw [I3];rfl
 have n13:¬ (13:Int)=0:=by decide
 have key:A6B 0 [v] (ro h)=A4 (.t [.c (.sl (l_ H+1) 0 0 257),.c (cI 13)],H++[rT (vwC 0 0 0 .nf),rT []]):=by
  rw [B3t];generalize vwC 0 0 0 .nf=V at *;simp only [esc,hO,hS5,n13]
 exact A83 (cs:=[]) key ⟨rfl,l_ H+1,rfl,by rw [G8] at lK;omega,by rw [gP];rfl⟩ rfl rfl
def A04(n:Int):Dev->Nat->List Wr->Dev
 | D,_,[]=>D
 | D,i,w::l=>A04 n (if (i:Int)<n then mN D w.1 w.2 else D) (i+1) l
def D0B:∀ {l:List Wr} {D:Dev} {i:Nat},okD D->okW l->okD (A04 n D i l)/\(A04 n D i l).length=(l_ D)
 | [],D,_,h,_=>⟨h,rfl⟩
 | w::l,D,i,h,hw=>by
  have h1:okD (if (i:Int)<n then mN D w.1 w.2 else D)/\(if (i:Int)<n then mN D w.1 w.2 else D).length=(l_ D):=by
   split
   ·exact ⟨h.put (hw w (E8u ..)),cR⟩
   ·exact ⟨h,rfl⟩
  obtain ⟨h2,h3⟩:=D0B (l:=l) (i:=i+1) h1.1 λx hx=>hw x (E8q _ hx)
  exact ⟨h2,h3.trans h1.2⟩
def E1N{l:List Wr}(hv:Has h v 257 (l_ l) (vB l))(hl:okW l)(hi:i<l_ l) :
  ∃ id off,v=sV id off (l_ l) 257/\id<l_ h/\F0 257 v (iV (i:Int))=A4 (pV id (off+i*257))/\C9 h 257 (pV id (off+i*257))=A4 (.a (wrC l[i])) /\
   B9 h (pV id (off+i*257))=A4 (iV (l[i]).1):=by
 obtain ⟨id,off,rfl,hid,h1,h2⟩:=hv.sl (by omega);have hat:=D8E hl hi;refine ⟨id,off,rfl,hid,E4 hi,?_,h1 _ _ ?_⟩
 ·rw [h2 (i*257) 257 (by rw [wL hl];omega),hat]
 ·have:(((vB l).drop (i*257)).take 257)[0]?=A4 (cI (l[i]).1):=by rw [hat];rfl
  rw [List.getElem?_take_of_lt (by omega),List.getElem?_drop] at this;simpa using this
section
variable {D:Dev} {n:Int} {q:Nat} {x13:Val}
def D6b{b:Nat}{hb:A9}{l:List Wr}(hl:okW l)(hll:l_ l<=1000000) :
  ∀ (e i M:Nat) (O:Dev) (id:Nat) (h:A9),i+e=l_ l->e<M->Low b hb h->b<=id->okD O->Has h x13 257 (l_ l) (vB l)->D8F x13 id->rd h id=rT (E3 O) ->
  ∃ h',B7s q M (iV n) (sV id 0 (l_ O) 256) x13 (iV (l_ l:Nat)) (iV (i:Int)) h=A4 (sV id 0 (l_ O) 256,h') /\
   Low b hb h'/\rd h' id=rT (E3 (A04 n O i (l.drop i))):=by
 intro e
 induction e with
 | zero =>
  intro i M O id h hi hM hlow hid hO h13 n13 hr;obtain ⟨M,rfl⟩:=X0 M (by omega);have c0:¬ (i:Int)<(l_ l:Nat):=by omega
  have e1:A04 n O i (l.drop i)=O:=by rw [E8x (by omega)];rfl
  rw [e1];refine ⟨h,?_,hlow,hr⟩;rw [iS];simp only [esc,c0]
 | succ e ih =>
  intro i M O id h hi hM hlow hid hO h13 n13 hr;obtain ⟨M,rfl⟩:=X0 M (by omega);have K6:i<(l_ l):=by omega
  have c0:(i:Int)<(l_ l:Nat):=by omega
  have w1:=E2 (a:=i) (by omega);obtain ⟨_,_,e1,_,a1,b1,_⟩:=E1N h13 hl K6;have hwl:=hl _ (E8M K6);obtain ⟨w,ew⟩:=xEq (l[i]);rw [<-ew] at b1 hwl;obtain ⟨G,hG⟩:=xEq (h++[rT (wrC w)]);have hlG:Low b hb G:=by rw [hG];exact hlow.new _
  have hrG:rd G id=rT (E3 O):=by rw [hG];exact B6 hr
  have h13G:Has G x13 257 (l_ l) (vB l):=by rw [hG];exact h13.more _
  have hz:([o0]++B4 (zeros 256)).length=257:=by simp [B5,zeros_length]
  have st:F7 (h++[rT ([o0]++B4 (zeros 256))]) 257 (pV (l_ h) 0) (.a (wrC w))=A4 G:=by
   rw [storeAll (by rw [G3];rfl) hz (vA hwl),fX,hG];rfl
  have rG:rd G (l_ h)=rT (wrC w):=by rw [hG,G3];rfl
  have l0:B9 G (pV (l_ h) 0)=A4 (iV w.1):=B8 rG rfl rfl;have l1:C9 G 256 (pV (l_ h) 1)=A4 (.a (B4 w.2)):=by
   rw [S7 rG (by have:=vA hwl;show 1+256<=(wrC w).length;omega) rfl];show A4 (Val.a ((B4 w.2).take 256))=_;rw [E8B (by rw [B5,hwl];exact E8m _)]
  have eA:A04 n O i (l.drop i)=A04 n (if (i:Int)<n then mN O w.1 w.2 else O) (i+1) (l.drop (i+1)):=by
   rw [E8s K6,<-ew];rfl
  rw [eA];by_cases ci:(i:Int)<n
  ·rw [C4 ci];by_cases c1:0<=w.1
   ·have c1':w.1>=0:=c1;by_cases c2:w.1<(l_ O:Nat)
    ·obtain ⟨k,hk⟩:=E9m c1;have hkl:k<(l_ O):=by omega
     have ad:F0 256 (sV id 0 (l_ O) 256) (iV w.1)=A4 (pV id (k*256)):=by rw [hk,E4 hkl];simp
     have sd:F7 G 256 (pV id (k*256)) (.a (B4 w.2))=A4 (G.set id (rT (E3 (O.set k w.2)))):=A4w hrG hO hwl hkl;have ep:mN O w.1 w.2=O.set k w.2:=by unfold mN;rw [C4 ⟨c1,c2⟩,hk];simp
     rw [ep];obtain ⟨h',f1,f2,f3⟩:=ih (i+1) M (O.set k w.2) id (G.set id (rT (E3 (O.set k w.2)))) (by omega) (by omega) (hlG.set hid _) hid (hO.set hwl) (C0p h13G n13 λj r hj hr=>by rw [B7 (Ne.symm hj)];exact hr) n13 (D3 (E1 hrG));rw [E80] at f1;refine ⟨h',?_,f2,f3⟩;rw [iS,G9];generalize wrC w=u at *;generalize B4 w.2=y at *;generalize B4 (zeros 256)=z at *;simp only [E89,E8I] at st;simp only [esc,c0,a1,b1,st,ci,l0,c1',c2,l1,ad,sd,qX,w1];exact f1
    ·have ep:mN O w.1 w.2=O:=by unfold mN;rw [C5 (by omega)]
     rw [ep];obtain ⟨h',f1,f2,f3⟩:=ih (i+1) M O id G (by omega) (by omega) hlG hid hO h13G n13 hrG;refine ⟨h',?_,f2,f3⟩;rw [iS,G9];generalize wrC w=u at *;generalize B4 w.2=y at *;generalize B4 (zeros 256)=z at *;simp only [E89,E8I] at st;simp only [esc,c0,a1,b1,st,ci,l0,c1',c2,qX,w1];exact f1
   ·have c1':¬ w.1>=0:=c1;have ep:mN O w.1 w.2=O:=by unfold mN;rw [C5 (by omega)]
    rw [ep];obtain ⟨h',f1,f2,f3⟩:=ih (i+1) M O id G (by omega) (by omega) hlG hid hO h13G n13 hrG;refine ⟨h',?_,f2,f3⟩;rw [iS,G9];generalize wrC w=u at *;generalize B4 w.2=y at *;generalize B4 (zeros 256)=z at *;simp only [E89,E8I] at st;simp only [esc,c0,a1,b1,st,ci,l0,c1',qX,w1];exact f1
  ·rw [C5 ci];obtain ⟨h',f1,f2,f3⟩:=ih (i+1) M O id G (by omega) (by omega) hlG hid hO h13G n13 hrG;refine ⟨h',?_,f2,f3⟩;rw [iS,G9];generalize wrC w=u at *;generalize B4 (zeros 256)=z at *;simp only [E89,E8I] at st;simp only [esc,c0,a1,b1,st,ci,qX,w1];exact f1
def C9V{l:List Wr}(hv:Has h v 256 (l_ D) (E3 D))(hD:okD D)(h13:Has h x13 257 (l_ l) (vB l))(hl:okW l)(hll:l_ l<=1000000)(hdl:l_ D<=1000000) :
  A3W [v,x13,iV n] h=A4 (sV (l_ h) 0 (l_ D) 256,h++[rT (E3 (A04 n D 0 l))]):=by
 obtain ⟨okA,lenA⟩:=D0B (n:=n) (i:=0) hD hl;obtain ⟨G,hG⟩:=xEq (ro h++[rT [],rT []]);have lG:l_ G=(ro h).length+2:=by rw [hG];simp
 have hvG:Has G v 256 (l_ D) (E3 D):=by rw [hG];exact hv.ro.more _
 have h13G:Has G x13 257 (l_ l) (vB l):=by rw [hG];exact h13.ro.more _
 have rI:rd G ((ro h).length+1)=rT []:=by rw [hG,gP];rfl
 have ho:Out (ro h).length G (sV ((ro h).length+1) 0 0 256) 256 0 []:=⟨rfl,(ro h).length+1,rfl,by omega,rI⟩;obtain ⟨id,v',h1,e1,e2,e3,e4,e5⟩:=ho.app (m:=l_ D) (by omega) hvG.add (by rw [H9 hD]) (by omega);rw [E8A,E8I] at e3;obtain ⟨_,id1,rfl,i1,i2⟩:=e3;have eid:id=(ro h).length+1:=by cases e1;rfl
 have h13h:Has h1 x13 257 (l_ l) (vB l):=C0p h13G (C0q h13.ro (by omega)) λj r hj hr=>e5 j r hr hj
 have id1n:id1≠(ro h).length+1\/True:=.inr trivial;have E5z:D8F x13 id1:=C0q h13.ro (by omega);obtain ⟨h',f1,f2,f3⟩:=D6b (n:=n) (q:=l_ l+1) (b:=(ro h).length) (hb:=h1) hl hll (l_ l) 0 (l_ l+1) D id1 h1 (by omega) (by omega) (Low.refl (by have:=e4.2.1;omega)) i1 hD h13h E5z i2;rw [E8y] at f3;have key:B0N (l_ l+1) [v,x13,iV n] (ro h)=A4 (sV id1 0 (l_ D) 256,h'):=by
  have ef:F6 [] []=A4 []:=rfl;have ll:=h13G.len;have c00:((0:Nat):Int)=0:=rfl;rw [c00] at f1;rw [C4T];simp only [esc,ef,<-hG,e2,ll];exact f1
 exact C2i key ⟨by rw [H9 okA,lenA],id1,rfl,by rw [G8] at i1;exact i1,f3⟩ fQ
def D4O{x:List Int}(hx:x.length=8)(hr:∀ a∈x,0<=a/\a<1000000000):B8c [.a (encI x)] h=A4 (iV (x.tail.sum),h):=by
 match x,hx with
 | [a,b,c,d,e,f,g,i],_ =>
  have ha:=hr a (by simp);have hb:=hr b (by simp);have hc:=hr c (by simp);have hd:=hr d (by simp);have he:=hr e (by simp);have hf:=hr f (by simp);have hg:=hr g (by simp);have hi:=hr i (by simp);have key:∀ k,∃ g',B7S 0 [.a (encI [a,b,c,d,e,f,g,i])] k=A4 (iV ([b,c,d,e,f,g,i].sum),g'):=λk=>by
   obtain ⟨K,hK⟩:=xEq (k++[rT (encI [a,b,c,d,e,f,g,i])]);have rK:rd K k.length=rT (encI [a,b,c,d,e,f,g,i]):=by rw [hK,G3];rfl
   have l8:C9 K 8 (pV k.length 0)=A4 (.a (encI [a,b,c,d,e,f,g,i])):=C8 rK rfl;have l1:B9 K (pV k.length 1)=A4 (iV b):=B8 rK rfl rfl;have l2:B9 K (pV k.length 2)=A4 (iV c):=B8 rK rfl rfl;have l3:B9 K (pV k.length 3)=A4 (iV d):=B8 rK rfl rfl;have l4:B9 K (pV k.length 4)=A4 (iV e):=B8 rK rfl rfl;have l5:B9 K (pV k.length 5)=A4 (iV f):=B8 rK rfl rfl;have l6:B9 K (pV k.length 6)=A4 (iV g):=B8 rK rfl rfl;have l7:B9 K (pV k.length 7)=A4 (iV i):=B8 rK rfl rfl;have ef:F6 [o0,o0,o0,o0,o0,o0,o0,o0] []=A4 (encI [0,0,0,0,0,0,0,0]):=rfl;have eq:=C6L (l:=[a,b,c,d,e,f,g,i]) (m:=[0,0,0,0,0,0,0,0]) (n:=8) rfl rfl;have er:E8l 8 (Sh.i .i64)=[Sh.i .i64,.i .i64,.i .i64,.i .i64,.i .i64,.i .i64,.i .i64,.i .i64]:=rfl;rw [er] at eq;have cl:cells? (.a (encI [a,b,c,d,e,f,g,i]))=A4 (encI [a,b,c,d,e,f,g,i]):=rfl;have w1:E8r .i64 (b+c)=b+c:=wrap_i64 (by omega) (by omega);have w2:E8r .i64 (b+c+d)=b+c+d:=wrap_i64 (by omega) (by omega);have w3:E8r .i64 (b+c+d+e)=b+c+d+e:=wrap_i64 (by omega) (by omega);have w4:E8r .i64 (b+c+d+e+f)=b+c+d+e+f:=wrap_i64 (by omega) (by omega);have w5:E8r .i64 (b+c+d+e+f+g)=b+c+d+e+f+g:=wrap_i64 (by omega) (by omega);have w6:E8r .i64 (b+c+d+e+f+g+i)=b+c+d+e+f+g+i:=wrap_i64 (by omega) (by omega);rw [C9n];by_cases c0:[a,b,c,d,e,f,g,i]=[0,0,0,0,0,0,0,0]
   ·rw [O4 c0] at eq;simp only [List.cons.injEq,and_true] at c0;obtain ⟨rfl,rfl,rfl,rfl,rfl,rfl,rfl,rfl⟩:=c0;generalize encI [0,0,0,0,0,0,0,0]=X at *;exact ⟨_,by simp only [esc,cl,<-hK,l8,ef,eq]<;>rfl⟩
   ·rw [W3 c0] at eq;have es:[b,c,d,e,f,g,i].sum=b+c+d+e+f+g+i:=by simp;omega
    rw [es];generalize encI [0,0,0,0,0,0,0,0]=X at *;generalize encI [a,b,c,d,e,f,g,i]=Y at *;exact ⟨_,by simp only [esc,cl,<-hK,l8,ef,eq,l1,l2,l3,l4,l5,l6,l7,w1,w2,w3,w4,w5,w6]<;>rfl⟩
  obtain ⟨g',e'⟩:=key (ro h);exact C49 e' rfl
end
def bump(s:List Int)(k:Nat):List Int:=s.set k (s.getD k 0+1)
def BndR(s:List Int)(B:Int):Prop:=l_ s=8/\∀ a∈s,0<=a/\a<=B
def BndR.mono{s:List Int}{B':Int}(h:BndR s B)(hb:B<=B'):BndR s B':=⟨h.1,λa ha=>⟨(h.2 a ha).1,Int.le_trans (h.2 a ha).2 hb⟩⟩
def BndR.at{s:List Int}(h:BndR s B)(hk:k<8):0<=s.getD k 0/\s.getD k 0<=B:=by
 have hl:=h.1;rw [E8k,E8h (by omega)];exact h.2 _ (E8M _)
def BndR.bump{s:List Int}(h:BndR s B)(hk:k<8):BndR (bump s k) (B+1):=by
 refine ⟨by simp [Go.Proofs.YtbipebfdappanaaGreat.bump,h.1],λa ha=>?_⟩;have hb:=h.at hk;rcases List.mem_or_eq_of_mem_set ha with h1 | h1
 ·have:=h.2 a h1;omega
 ·omega
def C9F:List Int->List Int->List Int->List Int
 | x::a,y::b,s=>C9F a b (if x≠0/\y=0 then bump s 5 else s)
 | _,_,s=>s
def C5v(was now s:List Int):List Int :=
 C9F (was.drop 4) (now.drop 4) (if now.getD 0 0=2/\was.getD 3 0≠now.getD 3 0 then bump (if was.getD 1 0≠now.getD 1 0 then bump s 3 else s) 4 else if was.getD 1 0≠now.getD 1 0 then bump s 3 else s)
def D02(kd:Int)(s:List Int):List Int:=if kd≠0 then bump s 2 else s
def B0a(D:Dev)(n i:Int):List Int:=kdV D n i::lnV D n i::szV D n i::paV D n i::drV D n i
def B1A(D:Dev)(n:Int)(c:Cl)(s:List Int)(i:Int):List Int:=if i∈c.row then C5v (B0a D n i) (c.ino.getD i.toNat []) s else D02 (kdV D n i) s
def A4b(D:Dev)(n:Int)(c:Cl):Nat->Int->List Int->List Int
 | 0,_,s=>s
 | e+1,i,s=>A4b D n c e (i+1) (B1A D n c s i)
def A1k(used taken:Bool)(s:List Int):List Int:=if taken=A5/\used=A6 then bump s 7 else if taken=A6/\used=A5 then bump s 6 else s
def A1T(D:Dev)(n:Int):List Bool->Nat->List Int->List Int
 | [],_,s=>s
 | t::l,i,s=>A1T D n l (i+1) (A1k (B7I D n (i:Int)) t s)
def B4z(D:Dev)(n:Int):List Int :=
 A1T D n (E7 D n).taken 0 (A4b D n (E7 D n) n.toNat 1 [((U1 (gQ D n (E7 D n)) D 0).length:Nat),(E7 D n).lost,0,0,0,0,0,0])
def E2B(D:Dev)(n i:Int):encI (B0a D n i)=A9R D n i:=by rw [nK];rfl
def B5m{i:Int}:(B0a D n i).length=11:=by simp [B0a,O0]
def D1t{i:Int}:B0a D n i=zI 11↔kdV D n i=0:=by
 constructor
 ·intro h;have:(B0a D n i).getD 0 0=(zI 11).getD 0 0:=by rw [h]
  simpa [B0a,zI] using this
 ·intro h;have hk:=D2z (D:=D) (n:=n) (i:=i);unfold B0a lnV szV paV drV;rw [h];cases hc:B4x D n i with
  | false=>rfl
  | true =>
   rw [hc,S8,h] at hk;have hc2:=hc;unfold B4x cD A5J at hc2;rw [<-hk] at hc2;simp only [E8j,if_true] at hc2;obtain ⟨_,h1,_⟩:=hc2;unfold D1Q at h1;obtain ⟨e1,e2,e3,e4⟩:=of_decide_eq_true h1;simp only [S8,e1,e2,e3,e4];rfl
def OnlyR(r:Nat)(h h':A9):Prop:=l_ h<=l_ h'/\∀ j,j<l_ h->j≠r->rd h' j=rd h j
def OnlyR.refl(r:Nat)(h:A9):OnlyR r h h:=⟨E8m _,λ_ _ _=>rfl⟩
def OnlyR.trans{h'':A9}(a:OnlyR r h h')(b:OnlyR r h' h''):OnlyR r h h'' :=
 ⟨E83 a.1 b.1,λj hj hr=>(b.2 j (by have:=a.1;omega) hr).trans (a.2 j hj hr)⟩
def OnlyR.more(a:OnlyR r h h')(t:A9):OnlyR r h (h'++t) :=
 ⟨by have:=a.1;simp;omega,λj hj hr=>by rw [D5 (by have:=a.1;omega)];exact a.2 j hj hr⟩
def OnlyR.set{x:Option Row}(a:OnlyR r h h')(hj:j=r\/(l_ h)<=j):OnlyR r h (h'.set j x) :=
 ⟨by simpa using a.1,λk hk hr=>by rw [B7 (by omega)];exact a.2 k hk hr⟩
section
variable {h:A9} {r:Nat} {s:List Int} {B:Int}
def A99(hr:rd h r=rT (encI s))(hs:l_ s=8)(hk:k<8):B9 h (pV r k)=A4 (iV (s.getD k 0)) :=
 B8 hr (by rw [G6,E8k,E8h (by omega)];rfl) rfl
def A4v(hr:rd h r=rT (encI s))(hs:l_ s=8)(hk:k<8):I8 h (pV r k) (iV (s.getD k 0+1))=A4 (h.set r (rT (encI (bump s k)))):=by
 rw [I9 hr (by rw [C1];omega),zH];rfl
def E07{ra rb:Nat}{a b:List Int}(ha:a.length=7)(hb:l_ b=7):∀ (e i M:Nat) (B:Int) (s:List Int) (h:A9),i+e=7->e<M->BndR s B->B+e<=1000000->rd h r=rT (encI s)->rd h ra=rT (encI a)->rd h rb=rT (encI b)->ra≠r->rb≠r ->
  ∃ h',A2D q M (pV r 0) (pV ra 0) (pV rb 0) (iV (i:Int)) h=A4 (.t [],h')/\rd h' r=rT (encI (C9F (a.drop i) (b.drop i) s))/\OnlyR r h h'/\BndR (C9F (a.drop i) (b.drop i) s) (B+e):=by
 intro e
 induction e with
 | zero =>
  intro i M B s h hi hM hB hB2 hr h1 h2 n1 n2;obtain ⟨M,rfl⟩:=X0 M (by omega);have c0:¬ (i:Int)<7:=by omega
  have e1:C9F (a.drop i) (b.drop i) s=s:=by rw [E8x (by omega)];rfl
  rw [e1];refine ⟨h,?_,hr,OnlyR.refl r h,hB.mono (by omega)⟩;rw [bH];simp only [esc,c0];rfl
 | succ e ih =>
  intro i M B s h hi hM hB hB2 hr h1 h2 n1 n2;obtain ⟨M,rfl⟩:=X0 M (by omega);have hia:i<a.length:=by omega
  have hib:i<(l_ b):=by omega
  have c0:(i:Int)<7:=by omega
  have w1:=E2 (a:=i) (by omega);have a1:∀ x,K2 7 1 (pV x 0) (iV (i:Int))=A4 (pV x i):=λx=>by rw [O2 (by omega)];simp
  have la:B9 h (pV ra i)=A4 (iV a[i]):=B8 h1 (by rw [G6,E8h hia];rfl) rfl;have lb:B9 h (pV rb i)=A4 (iV b[i]):=B8 h2 (by rw [G6,E8h hib];rfl) rfl;have ed:C9F (a.drop i) (b.drop i) s=C9F (a.drop (i+1)) (b.drop (i+1)) (if a[i]≠0/\b[i]=0 then bump s 5 else s):=by
   rw [E8s hia,E8s hib];rfl
  have l5:=A99 hr hB.1 (k:=5) (by omega);have s5:=A4v hr hB.1 (k:=5) (by omega);have h5:=hB.at (k:=5) (by omega);have w5:E8r .i64 (s.getD 5 0+1)=s.getD 5 0+1:=wrap_i64 (by omega) (by omega);rw [ed];by_cases ca:a[i]=0
  ·rw [C5 (λh=>h.1 ca)];obtain ⟨h',f1,f2,f3,f4⟩:=ih (i+1) M B s h (by omega) (by omega) hB (by omega) hr h1 h2 n1 n2;refine ⟨h',?_,f2,f3,f4.mono (by omega)⟩;rw [bH];simp only [esc,c0,a1,la,ca,iW,w1];exact f1
  ·by_cases cb:b[i]=0
   ·rw [C4 ⟨ca,cb⟩];obtain ⟨h',f1,f2,f3,f4⟩:=ih (i+1) M (B+1) (bump s 5) _ (by omega) (by omega) (hB.bump (by omega)) (by omega) (D3 (E1 hr)) (by rw [B7 (Ne.symm n1)];exact h1) (by rw [B7 (Ne.symm n2)];exact h2) n1 n2;refine ⟨h',?_,f2,(((OnlyR.refl r h).set (.inl rfl)).trans f3),f4.mono (by omega)⟩;rw [bH];simp only [esc,c0,a1,la,ca,lb,cb,l5,w5,s5,iW,w1];exact f1
   ·rw [C5 (λh=>cb h.2)];obtain ⟨h',f1,f2,f3,f4⟩:=ih (i+1) M B s h (by omega) (by omega) hB (by omega) hr h1 h2 n1 n2;refine ⟨h',?_,f2,f3,f4.mono (by omega)⟩;rw [bH];simp only [esc,c0,a1,la,ca,lb,cb,iW,w1];exact f1
end
def A0z(p:Slt->Bool)(cur:List UInt8)(l:List Slt):List UInt8:=l.foldl (λcur x=>bif p x then H7 cur (I1 x.1) (U0 x.2.1 x.2.2) else cur) cur
def clB(b:List UInt8)(p:Slt->Bool):List UInt8:=A0z p hdB (J2 b)
def A2y(b:List UInt8)(p:Slt->Bool)(k:Nat):Option Ent:=match O3 b k with
 | some x=>bif p (k,x) then A4 x else A7
 | none=>A7
def E6W(o:Option Ent)(cur:List UInt8)(k:Nat):List UInt8:=match o with
 | some x=>H7 cur (I1 k) (U0 x.1 x.2)
 | none=>cur
def B8I{p:Slt->Bool}(hx:O3 b k=A7):A2y b p k=A7:=by unfold A2y;rw [hx]
def B1E{p:Slt->Bool}{x:Ent}(hx:O3 b k=A4 x):A2y b p k=bif p (k,x) then A4 x else A7:=by unfold A2y;rw [hx]
def D1A{p:Slt->Bool}(hj:j<7):∀ (e k:Nat) (cur:List UInt8),k+e<=7->cur.length=256 ->
  jB (A0z p cur (Q5 b e k)) j=if k<=j/\j<k+e then E4Y (A2y b p j) (jB cur j) else jB cur j
 | 0,k,cur,h,hc=>by rw [C5 (by omega)];rfl
 | e+1,k,cur,h,hc=>by
  obtain ⟨cur',h'⟩:=xEq (E6W (A2y b p k) cur k);have hs:A0z p cur (Q5 b (e+1) k)=A0z p cur' (Q5 b e (k+1)):=by
   rw [h'];cases hx:O3 b k with
   | none =>
    have:A2y b p k=A7:=by unfold A2y;rw [hx]
    rw [Z9 hx,this];rfl
   | some x =>
    rw [aA hx];show A0z p (bif p (k,x) then H7 cur (I1 k) (U0 x.1 x.2) else cur) _=_;have:A2y b p k=bif p (k,x) then A4 x else A7:=by unfold A2y;rw [hx]
    rw [this];cases p (k,x)<;>rfl
  have hl:cur'.length=256:=by
   rw [h'];cases A2y b p k with
   | none=>exact hc
   | some x=>exact A33 (by omega) hc
  have hc':jB cur' j=if j=k then E4Y (A2y b p j) (jB cur j) else jB cur j:=by
   rw [h'];by_cases c:j=k
   ·subst c;rw [C4 rfl];cases A2y b p j with
    | none=>rfl
    | some x=>show jB (H7 cur (I1 j) (U0 x.1 x.2)) j=_;rw [D1z hc U8 hj hj,C4 rfl];rfl
   ·rw [C5 c];cases A2y b p k with
    | none=>rfl
    | some x=>show jB (H7 cur (I1 k) (U0 x.1 x.2)) j=_;rw [D1z hc U8 (by omega) hj,C5 c]
  rw [hs,D1A hj e (k+1) _ (by omega) hl,hc'];by_cases c:j=k
  ·subst c;rw [C5 (by omega),C4 rfl,C4 ⟨by omega,by omega⟩]
  ·rw [C5 c];by_cases c2:k+1<=j/\j<k+1+e
   ·rw [C4 c2,C4 ⟨by omega,by omega⟩]
   ·rw [C5 c2,C5 (by omega)]
section
variable {b:List UInt8} {p:Slt->Bool}
def D8o(hj:j<7):O3 (clB b p) j=A2y b p j:=by
 rw [D7f];unfold clB J2;rw [D1A hj 7 0 hdB (by omega) pF,C4 ⟨by omega,by omega⟩,E0h j hj];cases hx:O3 b j with
 | none=>rw [B8I hx];exact C4t
 | some x =>
  rw [B1E hx];cases p (j,x) with
  | true=>exact D93 (C3h hx)
  | false=>exact C4t
def C0N{b':List UInt8}:∀ (e k:Nat),(∀ j,k<=j->j<k+e->O3 b' j=A2y b p j)->Q5 b' e k=(Q5 b e k).filter p
 | 0,_,_=>rfl
 | e+1,k,h=>by
  have ih:=C0N e (k+1) λj h1 h2=>h j (by omega) (by omega)
  have h0:=h k (E8m _) (by omega);cases hx:O3 b k with
  | none=>rw [B8I hx] at h0;rw [Z9 hx,Z9 h0,ih]
  | some x =>
   rw [B1E hx] at h0;rw [aA hx,List.filter_cons];cases hp:p (k,x) with
   | true=>rw [hp] at h0;rw [aA h0,ih,C4 rfl]
   | false=>rw [hp] at h0;rw [Z9 h0,ih,C5 (by decide)]
def D8d:J2 (clB b p)=(J2 b).filter p:=C0N 7 0 λj _ h=>D8o (by omega)
def D71(hp:∀ y,p y=A5->U3 b y.2.1=A4 y)(nm:List UInt8):U3 (clB b p) nm=match U3 b nm with
  | some x=>bif p x then A4 x else A7
  | none=>A7:=by
 have hr:∀ j,j<7->O3 (clB b p) j=A2y b p j:=λj hj=>D8o hj
 have back:∀ j y,j<7->O3 (clB b p) j=A4 y->O3 b j=A4 y/\p (j,y)=A5:=by
  intro j y hj hy;rw [hr j hj] at hy;cases hx:O3 b j with
  | none=>rw [B8I hx] at hy;cases hy
  | some z =>
   rw [B1E hx] at hy;cases hq:p (j,z) with
   | true =>
    rw [hq] at hy;have:z=y:=Option.some.inj hy;subst this;exact ⟨rfl,hq⟩
   | false=>rw [hq] at hy;cases hy
 cases hf:U3 b nm with
 | none =>
  refine A5x 7 0 λj y _ h2 hy=>?_
  obtain ⟨h3,_⟩:=back j y (by omega) hy;exact B4F 7 0 hf j y (Nat.zero_le _) (by omega) h3
 | some x =>
  obtain ⟨h1,h2,_,h4,h5⟩:=A37 7 0 hf;show _=bif p x then A4 x else A7
  cases hq:p x with
  | true =>
   refine C4c (i:=x.1) (x:=x.2) ?_ h2 7 0 (Nat.zero_le _) (by omega) λj y _ hj2 hy=>?_
   ·rw [hr _ (by omega),B1E h1];have:(x.1,x.2)=x:=rfl;rw [this,hq];rfl
   ·obtain ⟨h6,_⟩:=back j y (by omega) hy;exact h5 j y (Nat.zero_le _) hj2 h6
  | false =>
   refine A5x 7 0 λj y _ hj2 hy e=>?_
   obtain ⟨h6,h7⟩:=back j y (by omega) hy;have:=hp (j,y) h7;rw [show ((j,y):Slt).2.1=nm from e,hf] at this;cases this;rw [h7] at hq;cases hq
def B45{p':Slt->Bool}:∀ {l:List Slt} {cur:List UInt8},(∀ y∈l,p y=A5->p' y=A5)->A0z p' cur (l.filter p)=A0z p cur l
 | [],_,_=>rfl
 | y::l,cur,h=>by
  have hl:=λz hz=>h z (E8q _ hz)
  rw [List.filter_cons];cases hq:p y with
  | true =>
   rw [C4 rfl];show A0z p' (bif p' y then H7 cur (I1 y.1) (U0 y.2.1 y.2.2) else cur) (l.filter p)=A0z p (bif p y then H7 cur (I1 y.1) (U0 y.2.1 y.2.2) else cur) l;rw [h y (E8u ..) hq,hq];exact B45 hl
  | false =>
   rw [C5 (by decide)];show _=A0z p (bif p y then H7 cur (I1 y.1) (U0 y.2.1 y.2.2) else cur) l;rw [hq];exact B45 hl
def E06{p':Slt->Bool}(h:∀ y∈J2 b,p y=A5->p' y=A5):clB (clB b p) p'=clB b p:=by
 have e:clB (clB b p) p'=A0z p' hdB (J2 (clB b p)):=rfl;rw [e,D8d];exact B45 h
def C2K{p':Slt->Bool}(h:∀ y∈J2 b,p' y=p y):clB b p'=clB b p:=by
 unfold clB A0z;generalize hdB=cur;generalize J2 b=l at h
 induction l generalizing cur with
 | nil=>rfl
 | cons y l ih =>
  rw [E9q,E9q,h y (E8u ..)];exact ih _ (λz hz=>h z (E8q _ hz))
def C7N(h:Q9 b=A5):ptP b 0=25705:=by
 unfold Q9 at h;rw [E8j,E8j] at h;have e:=of_decide_eq_true h.2.1;rw [<-e];unfold ptP fieldN pH R2 A5F magX;simp only [Nat.mul_zero,E8y,E89,List.take_succ_cons,E9i];rfl
def D9s{l:List Slt}:∀ {cur:List UInt8},(∀ x∈l,x.1<7)->cur.length=256->ptP (A0z p cur l) 0=ptP cur 0:=by
 induction l with
 | nil=>intro cur _ _;rfl
 | cons x l ih =>
  intro cur hl hc;have hx:=hl x (E8u ..);show ptP (A0z p (bif p x then H7 cur (I1 x.1) (U0 x.2.1 x.2.2) else cur) l) 0=_;cases p x with
  | false=>exact ih (λy hy=>hl y (E8q _ hy)) hc
  | true =>
   have:=ih (cur:=H7 cur (I1 x.1) (U0 x.2.1 x.2.2)) (λy hy=>hl y (E8q _ hy)) (A33 hx hc);refine this.trans ?_;unfold ptP fieldN;have hl:=D1b (l:=cur) (xs:=U0 x.2.1 x.2.2) (a:=I1 x.1) (c:=2*0) (n:=2) (by rw [U8,hc];unfold I1;omega) (.inl (by unfold I1;omega));rw [hl]
def E3y:Q9 (clB b p)=A6:=by
 cases h:Q9 (clB b p) with
 | false=>rfl
 | true =>
  have h1:=C7N h;unfold clB at h1;rw [D9s (λx hx=>(C1j x hx).1) pF] at h1;have:ptP hdB 0=27490:=by decide +kernel
  rw [this] at h1;cases h1
def D87(hb:l_ b=256)(D2o:l_ D<=512):Q9 (M4 D n many 128 0 (c,b)).2=A6:=by
 cases h:Q9 (M4 D n many 128 0 (c,b)).2 with
 | false=>rfl
 | true =>
  have h1:=C7N h;have:=D4i (D:=D) (n:=n) (many:=many) (c:=c) hb D2o;omega
end
def C0Q{x:Slt}:∀ (e k:Nat),k<=x.1->x.1<k+e->O3 b x.1=A4 x.2->x∈Q5 b e k
 | 0,k,h1,h2,_=>by omega
 | e+1,k,h1,h2,hx=>by
  by_cases c:x.1=k
  ·rw [<-c,aA hx];exact E8u ..
  ·have ih:=C0Q e (k+1) (by omega) (by omega) hx;cases hk:O3 b k with
   | none=>rw [Z9 hk];exact ih
   | some z=>rw [aA hk];exact E8q _ ih
section
variable {D E:Dev} {X L:List Int} {K:List UInt8->Option Int} {n:Int} {nm:List UInt8}
def zL(h:R8 X nm=no)(hz:no≠0):hmS D X nm=U3 (blk D no) nm:=by
 unfold hmS;rw [h,C5 hz]
def C0s{y:Slt}(h:hmS D X nm=A4 y):R8 X nm≠0/\y∈J2 (blk D (R8 X nm))/\y.2.1=nm/\1<=y.2.2:=by
 by_cases hz:R8 X nm=0
 ·unfold hmS at h;rw [C4 hz] at h;cases h
 ·rw [zL rfl hz] at h;obtain ⟨h1,h2,_,h4,_⟩:=A37 7 0 h;refine ⟨hz,C0Q 7 0 (Nat.zero_le _) (by omega) h1,h2,?_⟩;have:=C3h h1;unfold B6E at this;simp only [E8j,decide_eq_true_eq] at this;exact this.2.1
def B5O{x:Slt}:atH D X (no,x)=A5↔R8 X x.2.1=no/\hmS D X x.2.1=A4 x:=by
 unfold atH;rw [E8j,decide_eq_true_eq,decide_eq_true_eq]
def A1c{x:Slt}:V5 D X no K x=A5↔(R8 X x.2.1=no/\hmS D X x.2.1=A4 x)/\(K x.2.1).getD 0=x.2.2:=by
 unfold V5;rw [E8j,B5O,decide_eq_true_eq]
def pL(hz:∀ no∈L,no≠0):nm∈Q0 D X (yR D L)↔R8 X nm∈L/\(hmS D X nm).isSome=A5:=by
 unfold Q0 yR;constructor
 ·intro h;obtain ⟨⟨no,x⟩,he,rfl⟩:=E8N.1 h;obtain ⟨h1,h2⟩:=E8Z.1 he;obtain ⟨no',hL,h3⟩:=List.mem_flatMap.1 h1;obtain ⟨x',_,h4⟩:=E8N.1 h3;cases h4;obtain ⟨h5,h6⟩:=B5O.1 h2;exact ⟨by show R8 X x.2.1∈L;rw [h5];exact hL,by show (hmS D X x.2.1).isSome=A5;rw [h6];rfl⟩
 ·rintro ⟨h1,h2⟩;obtain ⟨y,hy⟩:=Option.isSome_iff_exists.1 h2;obtain ⟨_,h3,h4,_⟩:=C0s hy;refine E8N.2 ⟨(R8 X nm,y),E8Z.2 ⟨List.mem_flatMap.2 ⟨_,h1,E8N.2 ⟨y,h3,rfl⟩⟩,B5O.2 ?_⟩,h4⟩;rw [h4];exact ⟨rfl,hy⟩
structure Bk(D E:Dev)(X:List Int)(K:List UInt8->Option Int)(L:List Int):Prop where
 nz:∀ no∈L,no≠0
 blk:∀ no∈L,blk E no=blk D no\/blk E no=clB (blk D no) (V5 D X no K)
 kn:∀ s v,K s=A4 v->v=B4Q D X s
def B8H(hz:no≠0):∀ y,V5 D X no K y=A5->U3 (blk D no) y.2.1=A4 y:=by
 intro y hy;obtain ⟨⟨h1,h2⟩,_⟩:=A1c.1 hy;rw [<-zL h1 hz];exact h2
def Bk.home(h:Bk D E X K L)(hL:R8 X nm∈L):hmS E X nm=hmS D X nm\/hmS E X nm=A7/\K nm=A7:=by
 have hz:=h.nz _ hL;rw [zL rfl hz,zL rfl hz];rcases h.blk _ hL with e | e
 ·rw [e];exact .inl rfl
 ·rw [e,D71 (B8H hz) nm];cases hf:U3 (Go.Proofs.YtbipebfdappanaaGreat.blk D (R8 X nm)) nm with
  | none=>exact .inl rfl
  | some y =>
   have hy:hmS D X nm=A4 y:=by rw [zL rfl hz];exact hf
   obtain ⟨_,_,h4,h5⟩:=C0s hy;show (bif V5 D X (R8 X nm) K y then A4 y else A7)=A4 y\/(bif V5 D X (R8 X nm) K y then A4 y else A7)=A7/\_;cases hk:V5 D X (R8 X nm) K y with
   | true=>exact .inl rfl
   | false =>
    refine .inr ⟨rfl,?_⟩;cases hK:K nm with
    | none=>rfl
    | some v =>
     have hv:=h.kn nm v hK;have e2:B4Q D X nm=y.2.2:=by unfold B4Q;rw [hy];rfl
     have:V5 D X (R8 X nm) K y=A5:=A1c.2 ⟨⟨by rw [h4],by rw [h4];exact hy⟩,by rw [h4,hK,hv,e2];rfl⟩;rw [this] at hk;cases hk
def Bk.list(h:Bk D E X K L):S9 E X L=(S9 D X L).filter λe=>(hmS E X e.1).isSome:=by
 have e1:fY (Q0 E X (yR E L))=(fY (Q0 D X (yR D L))).filter λs=>(hmS E X s).isSome:=by
  refine E6f (C1l _) ((C1l _).filter _) λs=>?_
  rw [E8Z,fB,fB,pL h.nz,pL h.nz];constructor
  ·rintro ⟨h1,h2⟩;rcases h.home h1 with e | ⟨e,_⟩
   ·exact ⟨⟨h1,by rw [<-e];exact h2⟩,h2⟩
   ·rw [e] at h2;cases h2
  ·rintro ⟨⟨h1,_⟩,h2⟩;exact ⟨h1,h2⟩
 unfold S9;rw [e1,List.filter_map];show ((fY (Q0 D X (yR D L))).filter λs=>(hmS E X s).isSome).map _=((fY (Q0 D X (yR D L))).filter λs=>(hmS E X s).isSome).map _;refine List.map_congr_left λs hs=>?_
 obtain ⟨h1,h2⟩:=E8Z.1 hs;have h3:=((pL h.nz).1 ((fB _ _).1 h1)).1;rcases h.home h3 with e | ⟨e,_⟩
 ·show (s,B4Q E X s)=(s,B4Q D X s);unfold B4Q;rw [e]
 ·have h2:(hmS E X s).isSome=A5:=h2;rw [e] at h2;cases h2
def E2d:dX []=hdB:=by
 have e:D2S []=0:=by decide +kernel
 unfold dX;rw [C4 e];rfl
def C2L{no:Int}:∀ {l:List Slt} {s:Cl × List UInt8},∃ y,V3 D X no K s l=(s.1.wl y,A0z (V5 D X no K) s.2 l)
 | [],s=>⟨s.1.lost,rfl⟩
 | x::l,s=>by
  cases hk:V5 D X no K x with
  | true =>
   have e:fN D X no K s x=(s.1,H7 s.2 (I1 x.1) (U0 x.2.1 x.2.2)):=by unfold fN;rw [hk];rfl
   obtain ⟨y,hy⟩:=C2L (no:=no) (l:=l) (s:=(s.1,H7 s.2 (I1 x.1) (U0 x.2.1 x.2.2)));refine ⟨y,?_⟩;show V3 D X no K (fN D X no K s x) l=(_,A0z _ (bif V5 D X no K x then _ else _) l);rw [e,hk];exact hy
  | false =>
   have e:fN D X no K s x=(s.1.wl (s.1.lost+1),s.2):=by unfold fN;rw [hk];rfl
   obtain ⟨y,hy⟩:=C2L (no:=no) (l:=l) (s:=(s.1.wl (s.1.lost+1),s.2));refine ⟨y,?_⟩;show V3 D X no K (fN D X no K s x) l=(_,A0z _ (bif V5 D X no K x then _ else _) l);rw [e,hk];exact hy
def C0S:∃ y,dN D X K c no=(dY c no (clB (blk D no) (V5 D X no K))).wl y:=by
 obtain ⟨y,hy⟩:=C2L (D:=D) (X:=X) (K:=K) (no:=no) (l:=J2 (blk D no)) (s:=(c,dX []));refine ⟨y,?_⟩;unfold dN;rw [hy,E2d];rfl
def Bk.clear(h:Bk D E X K L)(hL:no∈L):clB (Go.Proofs.YtbipebfdappanaaGreat.blk E no) (V5 E X no K)=clB (Go.Proofs.YtbipebfdappanaaGreat.blk D no) (V5 D X no K):=by
 have hz:=h.nz _ hL;rcases h.blk _ hL with e | e
 ·rw [e];refine C2K λy _=>?_
  rw [Bool.eq_iff_iff,A1c,A1c];constructor
  ·rintro ⟨⟨h1,h2⟩,h3⟩;rw [zL h1 hz,e] at h2;exact ⟨⟨h1,by rw [zL h1 hz];exact h2⟩,h3⟩
  ·rintro ⟨⟨h1,h2⟩,h3⟩;rw [zL h1 hz] at h2;exact ⟨⟨h1,by rw [zL h1 hz,e];exact h2⟩,h3⟩
 ·rw [e];refine E06 λy _ hk=>?_
  obtain ⟨⟨h1,h2⟩,h3⟩:=A1c.1 hk;refine A1c.2 ⟨⟨h1,?_⟩,h3⟩;rw [zL h1 hz,e,D71 (B8H hz),B8H hz y hk];show (bif V5 D X no K y then A4 y else A7)=A4 y;rw [hk];rfl
def Bk.clears:∀ {L:List Int} (_:Bk D E X K L) {c:Cl} {x:Int},∃ x',P5 E X K (c.wl x) L=(P5 D X K c L).wl x'
 | [],_,c,x=>⟨x,rfl⟩
 | no::L,h,c,x=>by
  have h':Bk D E X K L:=⟨λa ha=>h.nz a (E8q _ ha),λa ha=>h.blk a (E8q _ ha),h.kn⟩;obtain ⟨y,hy⟩:=C0S (D:=D) (X:=X) (K:=K) (no:=no) (c:=c);obtain ⟨y2,hy2⟩:=C0S (D:=E) (X:=X) (K:=K) (no:=no) (c:=c.wl x);rw [h.clear (E8u ..)] at hy2;have e2:dN E X K (c.wl x) no=(dN D X K c no).wl y2:=by rw [hy2,hy];rfl
  show ∃ x',P5 E X K (dN E X K (c.wl x) no) L=(P5 D X K (dN D X K c no) L).wl x';rw [e2];exact Bk.clears h'
def E22{dir:Int}:T7 D n (c.wl x) dir ino=(T7 D n c dir ino).wl x:=by
 have e:R0 D n (c.wl x) ino=R0 D n c ino:=rfl;unfold T7;rw [e];cases R0 D n c ino with
 | false=>rfl
 | true =>
  show (bif (c.par ino).isSome then _ else _)=(bif (c.par ino).isSome then _ else _:Cl).wl x;cases (c.par ino).isSome<;>rfl
def A7p{a:Int}{s0:List UInt8}:∀ {L:List Ent} {s:Cl × (List UInt8->Option Int)},(∀ e∈L,e.1≠s0)->(O7 D n a s L).2 s0=s.2 s0
 | [],_,_=>rfl
 | e::L,s,h=>by
  have h1:=A7p (a:=a) (s0:=s0) (L:=L) (s:=J7 D n a s e) λx hx=>h x (E8q _ hx)
  refine h1.trans ?_;unfold J7;cases R0 D n s.1 e.2 with
  | false=>rfl
  | true =>
   show (B5z s.2 e.1 e.2) s0=_;unfold B5z;rw [C5 (λh2=>h e (E8u ..) h2.symm)]
def B7G{i:Int}:∀ {L:List Ent} {s:Cl × (List UInt8->Option Int)},i∈s.1.row->i∈(O7 D n a s L).1.row
 | [],_,h=>h
 | e::L,s,h=>by
  refine B7G (L:=L) (s:=J7 D n a s e) ?_;unfold J7;cases R0 D n s.1 e.2 with
  | false=>exact h
  | true =>
   show i∈(T7 D n s.1 a e.2).row;unfold T7;cases R0 D n s.1 e.2 with
   | false=>exact h
   | true =>
    show i∈(bif (s.1.par e.2).isSome then _ else _:Cl).row;cases (s.1.par e.2).isSome with
    | true=>exact h
    | false=>exact E8W _ h
def E0p{i:Int}(w:RowW n c)(h:R0 D n c i=A5):i∈(T7 D n c a i).row:=by
 unfold T7;rw [h];show i∈(bif (c.par i).isSome then A2A c i else C5s (A2A c i) a i).row;cases hp:(c.par i).isSome with
 | true=>exact (w.par i).1 hp
 | false=>exact E8V _ (E82.2 rfl)
def C8Y{Rf:List Int}{x:Int}{p:Ent->Bool}(hk:∀ i,i≠1->kdV E n i=kdV D n i\/(i ∉ Rf/\kdV E n i=0)) :
  ∀ {L:List Ent} {s:Cl × (List UInt8->Option Int)},RowW n s.1->(∀ i∈(O7 D n a s L).1.row,i∈Rf)->L.Pairwise (λe f=>e.1≠f.1)->(∀ e∈L,p e=A6->(O7 D n a s L).2 e.1=A7) ->
  O7 E n a (s.1.wl x,s.2) (L.filter p)=((O7 D n a s L).1.wl x,(O7 D n a s L).2)
 | [],_,_,_,_,_=>rfl
 | e::L,s,w,hR,hd,hp=>by
  obtain ⟨d1,d2⟩:=List.pairwise_cons.1 hd;have hp':∀ f∈L,p f=A6->(O7 D n a (J7 D n a s e) L).2 f.1=A7:=λf hf=>hp f (E8q _ hf)
  rw [List.filter_cons];cases hB:R0 D n s.1 e.2 with
  | true =>
   have et:J7 D n a s e=(T7 D n s.1 a e.2,B5z s.2 e.1 e.2):=by unfold J7;rw [hB];rfl
   have hKe:(O7 D n a s (e::L)).2 e.1=A4 e.2:=by
    show (O7 D n a (J7 D n a s e) L).2 e.1=_;rw [et,A7p (λf hf h=>d1 f hf h.symm)];show (if e.1=e.1 then A4 e.2 else s.2 e.1)=A4 e.2;rw [C4 rfl]
   have hpe:p e=A5:=by
    cases h:p e with
    | true=>rfl
    | false=>rw [hp e (E8u ..) h] at hKe;cases hKe
   rw [hpe,C4 rfl];have hin:e.2∈Rf:=hR _ (by
    show e.2∈(O7 D n a (J7 D n a s e) L).1.row;rw [et];exact B7G (E0p w hB))
   have ne1:e.2≠1:=λh=>by
    unfold R0 at hB;rw [O4 h] at hB;simp at hB
   have hkd:kdV E n e.2=kdV D n e.2:=(hk _ ne1).resolve_right λh=>h.1 hin
   have hBE:R0 E n (s.1.wl x) e.2=A5:=by
    unfold R0 at hB ⊢;rw [hkd];exact hB
   have eE:T7 E n (s.1.wl x) a e.2=(T7 D n s.1 a e.2).wl x:=by
    rw [<-E22];unfold T7;have:R0 D n (s.1.wl x) e.2=A5:=hB;rw [hBE,this]
   have etE:J7 E n a (s.1.wl x,s.2) e=((T7 D n s.1 a e.2).wl x,B5z s.2 e.1 e.2):=by
    unfold J7;show (bif R0 E n (s.1.wl x) e.2 then (T7 E n (s.1.wl x) a e.2,B5z s.2 e.1 e.2) else _)=_;rw [hBE,eE];rfl
   show O7 E n a (J7 E n a (s.1.wl x,s.2) e) (L.filter p)=((O7 D n a (J7 D n a s e) L).1.wl x,(O7 D n a (J7 D n a s e) L).2);rw [etE];have:=C8Y (x:=x) hk (L:=L) (s:=J7 D n a s e) (by rw [et];exact D1F w) hR d2 hp';rw [et] at this ⊢;exact this
  | false =>
   have et:J7 D n a s e=s:=by unfold J7;rw [hB];rfl
   have ih:=C8Y (x:=x) hk (L:=L) (s:=J7 D n a s e) (by rw [et];exact w) hR d2 hp';rw [et] at ih;have ef:O7 D n a s (e::L)=O7 D n a s L:=by show O7 D n a (J7 D n a s e) L=_;rw [et]
   rw [ef];cases hpe:p e with
   | false=>rw [C5 (by decide)];exact ih
   | true =>
    rw [C4 rfl];have hBE:R0 E n (s.1.wl x) e.2=A6:=by
     by_cases h1:e.2=1
     ·unfold R0;rw [O4 h1];rfl
     ·rcases hk _ h1 with h | ⟨_,h⟩
      ·unfold R0 at hB ⊢;rw [h];exact hB
      ·unfold R0;rw [O4 h];simp
    have etE:J7 E n a (s.1.wl x,s.2) e=(s.1.wl x,s.2):=by
     unfold J7;show (bif R0 E n (s.1.wl x) e.2 then _ else _)=_;rw [hBE];rfl
    show O7 E n a (J7 E n a (s.1.wl x,s.2) e) (L.filter p)=_;rw [etE];exact ih
end
def C0m(d:Int)(t:List Int):0<=P9 d t/\P9 d t<=5/\Fair (P9 d t) (bU d t):=by
 obtain ⟨e,u,h1,h2,h3,h4,h5,_⟩:=D9f d t;rw [B1v] at h1;obtain ⟨rfl,rfl⟩:=List.cons.inj h1;exact ⟨h4,h5,E3K h2 (C4u h4 h5 h3)⟩
def C7D(h0:0<=d)(h5:d<=5)(hf:Fair d t):P9 d t=d/\bU d t=t:=by
 have:=(D1r.1 (D5p h0 h5 hf)).2.2;rw [B1v] at this;exact List.cons.inj this
def iZ(c:Cl):List (Int × List UInt8):=c.blocks.zip c.made
def A1i(h:c.blocks.length=c.made.length):iZ (dY c no b)=iZ c++[(no,b)]:=by
 show (c.blocks++[no]).zip (c.made++[b])=_;rw [List.zip_append h];rfl
section
variable {D E:Dev} {n:Int} {c:Cl}
def D3P:∀ {L:List Int} {c:Cl} {t:List Int},W2 D n (c.wl x,t) L=((W2 D n (c,t) L).1.wl x,(W2 D n (c,t) L).2)
 | [],_,_=>rfl
 | no::L,c,t=>by
  show W2 D n (J9 D n (c.wl x) no,if K4 D n (c.wl x) no=0 then _ else _) L=_;rw [B5S,B5V];exact D3P
def D0H(h:l_ E=l_ D):∀ {L:List Int} {s:Cl × List Int},W2 E n s L=W2 D n s L
 | [],_=>rfl
 | no::L,s=>by
  show W2 E n (J9 E n s.1 no,if K4 E n s.1 no=0 then _ else _) L=_;rw [A9w h,A9x h];exact D0H h
def D3O(h:l_ E=l_ D):H5 E n (c.wl x) d t=((H5 D n c d t).1.wl x,(H5 D n c d t).2):=by
 unfold H5;rw [D0H h,D3P]
def B4f:Fair (P9 d t) (H5 D n c d t).2/\H5 D n c (P9 d t) (H5 D n c d t).2=H5 D n c d t/\P9 (P9 d t) (H5 D n c d t).2=P9 d t:=by
 obtain ⟨h0,h5,hf⟩:=C0m d t;obtain ⟨L,hL⟩:=xEq (J3 (bU d t) (C6 (P9 d t)));have nd:L.Nodup:=by rw [hL];exact C5E
 have nz:∀ x∈L,x≠0:=by rw [hL];exact λx=>A2i
 have eB:H5 D n c d t=W2 D n (c,bU d t) L:=by rw [hL];rfl
 obtain ⟨a1,a2⟩:=A9m (D:=D) (n:=n) (c:=c) hf.len nd nz;have fT:=D84 hf a2;obtain ⟨s1,s2⟩:=C7D h0 h5 fT;have ek:J3 (W2 D n (c,bU d t) L).2 (C6 (P9 d t))=J4 D n c L:=by
  rw [D0G a2,<-hL];have:L.filter (λx=>!(decide (x∈L) && !decide (x∈J4 D n c L)))=L.filter λx=>decide (x∈J4 D n c L):=List.filter_congr λx hx=>by simp [hx]
  rw [this];exact C7A keptL_sub nd
 rw [eB];refine ⟨fT,?_,s1⟩;unfold H5;rw [s1,s2,ek,A6Y (λx hx=>nz x (keptL_sub.subset hx)) B43,C2M,<-a1]
def C2O(h:(K5 D n c a).2=0):K5 D n c a=(c,0):=by
 unfold K5 at h ⊢;cases hb:(decide (kdV D n a=2)&&Q9 (blk D ((drV D n a).getD 0 0))) with
 | false=>rfl
 | true =>
  rw [hb] at h;have h:K4 D n c ((drV D n a).getD 0 0)=0:=h;show (J9 D n c _,K4 D n c _)=_;rw [h];cases hc:dL D n c ((drV D n a).getD 0 0) with
  | false=>rw [B1o hc]
  | true =>
   rw [zB hc] at h;rw [h] at hc;unfold dL at hc;rw [bN] at hc;cases hc
def A9B(h:(K5 D n c a).2≠0):kdV D n a=2/\Q9 (blk D ((drV D n a).getD 0 0))=A5/\(K5 D n c a).2=(drV D n a).getD 0 0/\dL D n c ((drV D n a).getD 0 0)=A5/\K5 D n c a=(J9 D n c ((drV D n a).getD 0 0),(drV D n a).getD 0 0):=by
 unfold K5 at h ⊢;cases hb:(decide (kdV D n a=2)&&Q9 (blk D ((drV D n a).getD 0 0))) with
 | false=>rw [hb] at h;exact absurd rfl h
 | true =>
  rw [hb] at h;have h:K4 D n c ((drV D n a).getD 0 0)≠0:=h;obtain ⟨h1,h2⟩:=B5U h;rw [E8j] at hb;refine ⟨of_decide_eq_true hb.1,hb.2,h1,h2,?_⟩;show (J9 D n c _,K4 D n c _)=_;rw [h1]
def D35(hl:l_ E=l_ D)(hE:(kdV E n a=kdV D n a/\drV E n a=drV D n a)\/(kdV E n a=2/\drV E n a=(K5 D n c a).2::zI 6))
  (hG:∀ no,G7 (l_ D) n no=A5->Q9 (blk E no)=A5->Q9 (blk D no)=A5) (hP:(K5 D n c a).2≠0->Q9 (blk E (K5 D n c a).2)=A5) :
  K5 E n (c.wl x) a=((K5 D n c a).1.wl x,(K5 D n c a).2):=by
 by_cases h0:(K5 D n c a).2=0
 ·rw [C2O h0];unfold K5;show _=(c.wl x,0);cases hb:(decide (kdV E n a=2)&&Q9 (blk E ((drV E n a).getD 0 0))) with
  | false=>rfl
  | true =>
   show (J9 E n (c.wl x) _,K4 E n (c.wl x) _)=_;rw [A9w hl,A9x hl,B5S,B5V];cases hc:dL D n c ((drV E n a).getD 0 0) with
   | false=>rw [B1o hc,D7T hc]
   | true =>
    exfalso;have hd:G7 (l_ D) n ((drV E n a).getD 0 0)=A5:=by
     unfold dL at hc;rw [E8j] at hc;exact hc.1
    rw [E8j] at hb;have hg:=hG _ hd hb.2;have hk:=of_decide_eq_true hb.1;rcases hE with ⟨e1,e2⟩ | ⟨_,e2⟩
    ·rw [e1] at hk;rw [e2] at hg hc hd;have:(K5 D n c a).2=(drV D n a).getD 0 0:=by
      unfold K5;rw [O4 hk,hg];show K4 D n c _=_;exact zB hc
     rw [h0] at this;rw [<-this,bN] at hd;cases hd
    ·rw [e2,h0] at hd;rw [show ((0:Int)::zI 6).getD 0 0=0 from rfl,bN] at hd;cases hd
 ·obtain ⟨h1,h2,h3,h4,h5⟩:=A9B h0;have hg:=hP h0;have e1:kdV E n a=2/\(drV E n a).getD 0 0=(drV D n a).getD 0 0:=by
   rcases hE with ⟨e1,e2⟩ | ⟨e1,e2⟩
   ·rw [e1,e2];exact ⟨h1,rfl⟩
   ·rw [e2,<-h3];exact ⟨e1,rfl⟩
  rw [h3] at hg;rw [h5];unfold K5;rw [e1.1,e1.2,hg];show (J9 E n (c.wl x) _,K4 E n (c.wl x) _)=_;rw [A9w hl,A9x hl,B5S,B5V,zB h4]
def D34(h:K5 E n (c.wl x) a=((K5 D n c a).1.wl x,(K5 D n c a).2)):W0 E n (c.wl x) a=(W0 D n c a).wl x:=by
 unfold W0;rw [h];rfl
def D1N{v:Int}{s0:List UInt8}:∀ {L:List Ent} {s:Cl × (List UInt8->Option Int)},(O7 D n a s L).2 s0=A4 v->s.2 s0=A4 v\/(s0,v)∈L
 | [],_,h=>.inl h
 | e::L,s,h=>by
  rcases D1N (L:=L) (s:=J7 D n a s e) h with h1 | h1
  ·unfold J7 at h1;cases hB:R0 D n s.1 e.2 with
   | false=>rw [hB] at h1;exact .inl h1
   | true =>
    rw [hB] at h1;have h1:(if s0=e.1 then A4 e.2 else s.2 s0)=A4 v:=h1;by_cases he:s0=e.1
    ·rw [C4 he] at h1;refine .inr ?_;cases h1;rw [he];exact E8u ..
    ·rw [C5 he] at h1;exact .inl h1
  ·exact .inr (E8q _ h1)
def D1e{e:Ent}(h:e∈S9 D X L):e.2=B4Q D X e.1:=by
 unfold S9 at h;obtain ⟨s,_,rfl⟩:=E8N.1 h;rfl
def B49:(S9 D X L).Pairwise λe f=>e.1≠f.1:=by
 unfold S9;rw [List.pairwise_map];refine List.Pairwise.imp ?_ (C1l (Q0 D X (yR D L)));intro a b h e;have e:a=b:=e;subst e;rw [A9k] at h;cases h
def C8V{a:Int}:∀ {L:List Ent} {s:Cl × (List UInt8->Option Int)},(O7 D n a s L).1.blocks=s.1.blocks/\(O7 D n a s L).1.made=s.1.made
 | [],_=>⟨rfl,rfl⟩
 | e::L,s=>by
  obtain ⟨h1,h2⟩:=C8V (a:=a) (L:=L) (s:=J7 D n a s e);have h3:(J7 D n a s e).1.blocks=s.1.blocks/\(J7 D n a s e).1.made=s.1.made:=by
   unfold J7 T7;cases R0 D n s.1 e.2 with
   | false=>exact ⟨rfl,rfl⟩
   | true =>
    show (bif (s.1.par e.2).isSome then A2A s.1 e.2 else C5s (A2A s.1 e.2) a e.2).blocks=_/\(bif (s.1.par e.2).isSome then A2A s.1 e.2 else C5s (A2A s.1 e.2) a e.2).made=_;cases (s.1.par e.2).isSome<;>exact ⟨rfl,rfl⟩
  exact ⟨h1.trans h3.1,h2.trans h3.2⟩
def D1H{a:Int}:∀ {L:List Ent} {s:Cl × (List UInt8->Option Int)},(O7 D n a s L).1.ino=s.1.ino
 | [],_=>rfl
 | e::L,s=>by
  have h1:=D1H (a:=a) (L:=L) (s:=J7 D n a s e);have h3:(J7 D n a s e).1.ino=s.1.ino:=by
   unfold J7 T7;cases R0 D n s.1 e.2 with
   | false=>rfl
   | true =>
    show (bif (s.1.par e.2).isSome then A2A s.1 e.2 else C5s (A2A s.1 e.2) a e.2).ino=_;cases (s.1.par e.2).isSome<;>rfl
  exact h1.trans h3
def C68{X:List Int}{K:List UInt8->Option Int}:∀ {L:List Int} {c:Cl},c.blocks.length=c.made.length ->
  iZ (P5 D X K c L)=iZ c++L.map (λno=>(no,clB (blk D no) (V5 D X no K)))/\(P5 D X K c L).blocks.length=(P5 D X K c L).made.length
 | [],c,h=>⟨by simp [P5],h⟩
 | no::L,c,h=>by
  obtain ⟨y,hy⟩:=C0S (D:=D) (X:=X) (K:=K) (no:=no) (c:=c);have hm:(dN D X K c no).blocks.length=(dN D X K c no).made.length:=by
   rw [hy];show (c.blocks++[no]).length=(c.made++[_]).length;simp [h]
  obtain ⟨h1,h2⟩:=C68 (X:=X) (K:=K) (L:=L) hm;refine ⟨?_,h2⟩;have e:P5 D X K c (no::L)=P5 D X K (dN D X K c no) L:=rfl;have e2:iZ (dN D X K c no)=iZ c++[(no,clB (blk D no) (V5 D X no K))]:=by rw [hy];exact A1i h
  rw [e,h1,e2,E9c,E8t];rfl
end
section
variable {D E:Dev} {n:Int} {c:Cl}
def A9l(h:c.blocks.length=c.made.length):
  iZ (bE D n c a no d t)=iZ c++(no,bif okX (P9 d t) (H5 D n c d t).2 then pH (P9 d t) (H5 D n c d t).2 else zeros 256)::(J3 (H5 D n c d t).2 (C6 (P9 d t))).map (λno=>(no,clB (blk D no) (V5 D (P9 d t::(H5 D n c d t).2) no (bodyT D n c a d t).2))) /\
   (bE D n c a no d t).blocks.length=(bE D n c a no d t).made.length:=by
 have hs:=bK (D:=D) (n:=n) (L:=J3 (bU d t) (C6 (P9 d t))) (s:=(c,bU d t));have eb:W2 D n (c,bU d t) (J3 (bU d t) (C6 (P9 d t)))=H5 D n c d t:=rfl;rw [eb] at hs;have ht:=C8V (D:=D) (n:=n) (a:=a) (L:=S9 D (P9 d t::(H5 D n c d t).2) (J3 (H5 D n c d t).2 (C6 (P9 d t)))) (s:=((H5 D n c d t).1,λ_=>A7));have et:O7 D n a ((H5 D n c d t).1,λ_=>A7) (S9 D (P9 d t::(H5 D n c d t).2) (J3 (H5 D n c d t).2 (C6 (P9 d t))))=bodyT D n c a d t:=rfl;rw [et] at ht;have hbm:(bodyT D n c a d t).1.blocks.length=(bodyT D n c a d t).1.made.length:=by
  rw [ht.1,ht.2];show (H5 D n c d t).1.blocks.length=(H5 D n c d t).1.made.length;rw [hs.blocks,hs.made];exact h
 have hp:iZ (bodyT D n c a d t).1=iZ c:=by
  unfold iZ;rw [ht.1,ht.2];show (H5 D n c d t).1.blocks.zip (H5 D n c d t).1.made=_;rw [hs.blocks,hs.made]
 unfold bE;obtain ⟨h1,h2⟩:=C68 (D:=D) (X:=P9 d t::(H5 D n c d t).2) (K:=(bodyT D n c a d t).2) (L:=J3 (H5 D n c d t).2 (C6 (P9 d t)))
  (c:=dY (bodyT D n c a d t).1 no (bif okX (P9 d t) (H5 D n c d t).2 then pH (P9 d t) (H5 D n c d t).2 else zeros 256)) (by
   show ((bodyT D n c a d t).1.blocks++[no]).length=((bodyT D n c a d t).1.made++[_]).length;simp [hbm])
 refine ⟨?_,h2⟩;rw [h1,A1i hbm,hp,E8t];rfl
def E0Z{Rf:List Int}{dE:Int}{tE:List Int}(hl:l_ E=l_ D)(w:RowW n c)(hbm:c.blocks.length=c.made.length)
  (hd:(dE=d/\tE=t)\/(dE=P9 d t/\tE=(H5 D n c d t).2))
  (hk:∀ i,i≠1->kdV E n i=kdV D n i\/(i ∉ Rf/\kdV E n i=0)) (hR:∀ i∈(bE D n c a no d t).row,i∈Rf)
  (hB:∀ q∈iZ (bE D n c a no d t),blk E q.1=blk D q.1\/blk E q.1=q.2) :
  ∃ x',bE E n (c.wl x) a no dE tE=(bE D n c a no d t).wl x':=by
 have hb:H5 E n (c.wl x) dE tE=((H5 D n c d t).1.wl x,(H5 D n c d t).2)/\P9 dE tE=P9 d t:=by
  obtain ⟨h1,h2,h3⟩:=B4f (D:=D) (n:=n) (c:=c) (d:=d) (t:=t);rcases hd with ⟨rfl,rfl⟩ | ⟨rfl,rfl⟩
  ·exact ⟨D3O hl,rfl⟩
  ·rw [D3O hl,h2,h3];exact ⟨rfl,rfl⟩
 obtain ⟨hb1,hb2⟩:=hb;rw [(A9l hbm).1] at hB;obtain ⟨s1,hs1⟩:=xEq (H5 D n c d t);obtain ⟨d',hd'⟩:=xEq (P9 d t);obtain ⟨X,hX⟩:=xEq (d'::s1.2);obtain ⟨L,hL⟩:=xEq (J3 s1.2 (C6 d'));have hsb:=bK (D:=D) (n:=n) (L:=J3 (bU d t) (C6 (P9 d t))) (s:=(c,bU d t));have eb:W2 D n (c,bU d t) (J3 (bU d t) (C6 (P9 d t)))=s1:=by rw [hs1];rfl
 rw [eb] at hsb;have w1:RowW n s1.1:=w.same hsb.row hsb.par;have eT:bodyT D n c a d t=O7 D n a (s1.1,λ_=>A7) (S9 D X L):=by
  unfold bodyT;rw [<-hs1,<-hd',<-hL,<-hX]
 have eTE:bodyT E n (c.wl x) a dE tE=O7 E n a (s1.1.wl x,λ_=>A7) (S9 E X L):=by
  unfold bodyT;rw [hb1,hb2,<-hs1,<-hd'];show O7 E n a (s1.1.wl x,λ_=>A7) (S9 E (d'::s1.2) (J3 s1.2 (C6 d')))=_;rw [<-hL,<-hX]
 have eC:bE D n c a no d t=P5 D X (bodyT D n c a d t).2 (dY (bodyT D n c a d t).1 no (bif okX d' s1.2 then pH d' s1.2 else zeros 256)) L:=by
  unfold bE;rw [<-hs1,<-hd',<-hL,<-hX]
 have eCE:bE E n (c.wl x) a no dE tE=P5 E X (bodyT E n (c.wl x) a dE tE).2 (dY (bodyT E n (c.wl x) a dE tE).1 no (bif okX d' s1.2 then pH d' s1.2 else zeros 256)) L:=by
  unfold bE;rw [hb1,hb2,<-hs1,<-hd'];show P5 E (d'::s1.2) _ (dY _ no (bif okX d' s1.2 then pH d' s1.2 else zeros 256)) (J3 s1.2 (C6 d'))=_;rw [<-hL,<-hX]
 rw [eC] at hR;rw [<-hs1,<-hd',<-hL,<-hX] at hB;obtain ⟨T,hT⟩:=xEq (bodyT D n c a d t);rw [<-hT] at hB eC eT hR;have bk:Bk D E X T.2 L:=by
  refine ⟨?_,λk hk=>?_,λs v hv=>?_⟩
  ·rw [hL];exact λk=>A2i
  ·exact hB (k,clB (blk D k) (V5 D X k T.2)) (E8V _ (E8q _ (E8N.2 ⟨k,hk,rfl⟩)))
  ·rw [eT] at hv;rcases D1N hv with h1 | h1
   ·cases h1
   ·exact D1e h1
 have E6o:bodyT E n (c.wl x) a dE tE=(T.1.wl x,T.2):=by
  rw [eTE,bk.list,eT];refine C8Y (s:=(s1.1,λ_=>A7)) hk w1 (λi hi=>hR i ?_) B49 λe he hp=>?_
  ·rw [oV.1];show i∈T.1.row;rw [eT];exact hi
  ·rw [<-eT];have he2:R8 X e.1∈L:=by
    unfold S9 at he;obtain ⟨s,hs,rfl⟩:=E8N.1 he;exact ((pL bk.nz).1 ((fB _ _).1 hs)).1
   rcases bk.home he2 with h1 | h1
   ·exfalso;unfold S9 at he;obtain ⟨s,hs,rfl⟩:=E8N.1 he;have h3:(hmS D X s).isSome=A5:=((pL bk.nz).1 ((fB _ _).1 hs)).2;have h1:hmS E X s=hmS D X s:=h1;have hp:(hmS E X s).isSome=A6:=hp;rw [h1,h3] at hp;cases hp
   ·exact h1.2
 rw [eCE,E6o,eC];exact Bk.clears bk (c:=dY T.1 no (bif okX d' s1.2 then pH d' s1.2 else zeros 256)) (x:=x)
end
section
variable {D E:Dev} {n:Int} {c:Cl}
def A4r(h:(K5 D n c a).2=0):oY D n c a=W0 D n c a:=by unfold oY;rw [C4 h]
def A06(h:(K5 D n c a).2≠0):oY D n c a=bE D n (W0 D n c a) a (K5 D n c a).2 (getD (blk D (K5 D n c a).2)) (O5 (blk D (K5 D n c a).2) 32):=by
 obtain ⟨_,_,h3,_⟩:=A9B h;unfold oY;rw [C5 h,h3]
def E3G{Rf:List Int}(hl:l_ E=l_ D)(w:RowW n c)(hbm:c.blocks.length=c.made.length)
  (hE:(kdV E n a=kdV D n a/\drV E n a=drV D n a)\/(kdV E n a=2/\drV E n a=(K5 D n c a).2::zI 6))
  (hG:∀ no,G7 (l_ D) n no=A5->Q9 (blk E no)=A5->Q9 (blk D no)=A5)
  (hk:∀ i,i≠1->kdV E n i=kdV D n i\/(i ∉ Rf/\kdV E n i=0)) (hR:∀ i∈(oY D n c a).row,i∈Rf)
  (hB:∀ q∈iZ (oY D n c a),blk E q.1=blk D q.1\/blk E q.1=q.2):∃ x',oY E n (c.wl x) a=(oY D n c a).wl x':=by
 have hs:=vT (D:=D) (n:=n) (ino:=a) (c:=c);have hib:(W0 D n c a).blocks.length=(W0 D n c a).made.length:=by
  show (K5 D n c a).1.blocks.length=(K5 D n c a).1.made.length;rw [hs.blocks,hs.made];exact hbm
 have wI:RowW n (W0 D n c a):=w.same hs.row hs.par;by_cases h0:(K5 D n c a).2=0
 ·have hp:=D35 (c:=c) (x:=x) hl hE hG (λh=>absurd h0 h);refine ⟨x,?_⟩;rw [A4r h0,A4r (by rw [hp];exact h0),D34 hp]
 ·obtain ⟨_,h2,h3,_⟩:=A9B h0;rw [<-h3] at h2;rw [A06 h0] at hB hR ⊢;obtain ⟨f0,f5,_⟩:=C0m (getD (blk D (K5 D n c a).2)) (O5 (blk D (K5 D n c a).2) 32);obtain ⟨fT,_,_⟩:=B4f (D:=D) (n:=n) (c:=W0 D n c a) (d:=getD (blk D (K5 D n c a).2)) (t:=O5 (blk D (K5 D n c a).2) 32);obtain ⟨g1,g2⟩:=D4r f0 f5 fT;have Y8:=hB (_,_) (by rw [(A9l hib).1];exact E8V _ (E8u ..));rw [g1] at Y8;have Y8:blk E (K5 D n c a).2=blk D (K5 D n c a).2\/blk E (K5 D n c a).2=pH (P9 (getD (blk D (K5 D n c a).2)) (O5 (blk D (K5 D n c a).2) 32)) (H5 D n (W0 D n c a) (getD (blk D (K5 D n c a).2)) (O5 (blk D (K5 D n c a).2) 32)).2:=Y8;have hp:=D35 (c:=c) (x:=x) hl hE hG (λ_=>by
   rcases Y8 with h | h
   ·rw [h];exact h2
   ·rw [h];exact g2)
  have hpE:(K5 E n (c.wl x) a).2=(K5 D n c a).2:=by rw [hp]
  rw [A06 (by rw [hpE];exact h0),hpE,D34 hp];refine E0Z hl wI hib ?_ hk hR hB;rcases Y8 with h | h
  ·rw [h];exact .inl ⟨rfl,rfl⟩
  ·rw [h];exact .inr ⟨C7K f0 f5,C7M fT.len (C7w fT)⟩
def E1y(hD:okD D)(hOE:okD E)(hl:l_ E=l_ D)(hbm:c.blocks.length=c.made.length)
  (hS:szV E n a=szV D n a) (hE:drV E n a=drV D n a\/drV E n a=(I6 D n c a).2)
  (hB:∀ q∈iZ (V4 D n c a),blk E q.1=blk D q.1\/blk E q.1=q.2):V4 E n (c.wl x) a=(V4 D n c a).wl x:=by
 have e1:I6 E n (c.wl x) a=((I6 D n c a).1.wl x,(I6 D n c a).2):=by
  rw [A5w,A5w,hS,D9M hl,E2i];rcases hE with h | h
  ·rw [h]
  ·rw [h,A5w,D4Y]
 have e2:L9 E n (c.wl x) a=(L9 D n c a).wl x:=by
  unfold L9;rw [e1,hS];rfl
 have hs:=pA (D:=D) (n:=n) (ino:=a) (c:=c);by_cases h0:(I6 D n c a).2.getD 6 0=0
 ·unfold V4;rw [C4 h0,e1,C4 h0,e2]
 ·obtain ⟨s,hs'⟩:=xEq (M4 D n (T9 (szV D n a)) 128 0 (L9 D n c a,blk D ((I6 D n c a).2.getD 6 0)));have eC:V4 D n c a=dY s.1 ((I6 D n c a).2.getD 6 0) s.2:=by
   unfold V4;rw [C5 h0,<-hs']
  have eE:V4 E n (c.wl x) a=dY (M4 E n (T9 (szV D n a)) 128 0 ((L9 D n c a).wl x,blk E ((I6 D n c a).2.getD 6 0))).1 ((I6 D n c a).2.getD 6 0) (M4 E n (T9 (szV D n a)) 128 0 ((L9 D n c a).wl x,blk E ((I6 D n c a).2.getD 6 0))).2:=by
   unfold V4;rw [e1,C5 h0,e2,hS]
  have hf:=kC (D:=D) (n:=n) (many:=T9 (szV D n a)) (e:=128) (k:=0) (s:=(L9 D n c a,blk D ((I6 D n c a).2.getD 6 0)));rw [<-hs'] at hf;have hfb:s.1.blocks.length=s.1.made.length:=by
   rw [hf.blocks,hf.made];show (I6 D n c a).1.blocks.length=(I6 D n c a).1.made.length;rw [hs.1.blocks,hs.1.made];exact hbm
  have key:s.2.length=256->M4 D n (T9 (szV D n a)) 128 0 (L9 D n c a,s.2)=(s.1,s.2):=by
   intro hb;have:=C4b (D:=D) (n:=n) (many:=T9 (szV D n a)) (e:=128) (k:=0) (c:=L9 D n c a) (b:=blk D ((I6 D n c a).2.getD 6 0)) (b':=s.2) (J6 hD) hb (by omega) λj _ _=>by rw [<-hs']
   rw [this,<-hs']
  have Y8:=hB ((I6 D n c a).2.getD 6 0,s.2) (by rw [eC,A1i hfb];exact E8V _ (E82.2 rfl));have Y8:blk E ((I6 D n c a).2.getD 6 0)=blk D ((I6 D n c a).2.getD 6 0)\/blk E ((I6 D n c a).2.getD 6 0)=s.2:=Y8;rw [eE,eC,D0V hl,D4j];rcases Y8 with h | h
  ·rw [h,<-hs'];rfl
  ·rw [h,key (by rw [<-h];exact J6 hOE)];rfl
def D1L:∀ {L:List Ent} {s:Cl × (List UInt8->Option Int)},s.1.row <+: (O7 D n a s L).1.row
 | [],s=>E9j _
 | e::L,s=>by
  have h3:s.1.row <+: (J7 D n a s e).1.row:=by
   unfold J7 T7;cases R0 D n s.1 e.2 with
   | false=>exact E9j _
   | true =>
    show s.1.row <+: (bif (s.1.par e.2).isSome then A2A s.1 e.2 else C5s (A2A s.1 e.2) a e.2).row;cases (s.1.par e.2).isSome with
    | true=>exact E9j _
    | false=>exact List.prefix_append _ _
  exact h3.trans (D1L (L:=L) (s:=J7 D n a s e))
structure Gro(c c':Cl)(a:Int):Prop where
 row:c.row <+: c'.row
 bm:c'.blocks.length=c'.made.length
 put:∀ q∈iZ c,q∈iZ c'
 il:c'.ino.length=c.ino.length
 ino:∀ j:Nat,j≠a.toNat->c'.ino.getD j []=c.ino.getD j []
def getD_set_ne{l:List (List Int)}{x:List Int}(h:j≠i):(l.set i x).getD j []=l.getD j []:=by
 rw [E8k,E9r (by omega),<-E8k]
def A68{l:List (List Int)}{x:List Int}(h:i<l_ l):(l.set i x).getD i []=x:=by
 rw [E8k,E9n,C4 rfl,C4 h];rfl
def D9C{c:Cl}:(dY c no b).ino=c.ino:=rfl
def C2D:(bE D n c a no d t).ino=c.ino:=by
 have hs:=bK (D:=D) (n:=n) (L:=J3 (bU d t) (C6 (P9 d t))) (s:=(c,bU d t));have eb:W2 D n (c,bU d t) (J3 (bU d t) (C6 (P9 d t)))=H5 D n c d t:=rfl;rw [eb] at hs;unfold bE;rw [C35,D9C];have:=D1H (D:=D) (n:=n) (a:=a) (L:=S9 D (P9 d t::(H5 D n c d t).2) (J3 (H5 D n c d t).2 (C6 (P9 d t)))) (s:=((H5 D n c d t).1,λ_=>A7));have et:O7 D n a ((H5 D n c d t).1,λ_=>A7) (S9 D (P9 d t::(H5 D n c d t).2) (J3 (H5 D n c d t).2 (C6 (P9 d t))))=bodyT D n c a d t:=rfl;rw [et] at this;rw [this];exact hs.ino
def D8Q:c.row <+: (bE D n c a no d t).row:=by
 have hs:=bK (D:=D) (n:=n) (L:=J3 (bU d t) (C6 (P9 d t))) (s:=(c,bU d t));have eb:W2 D n (c,bU d t) (J3 (bU d t) (C6 (P9 d t)))=H5 D n c d t:=rfl;rw [eb] at hs;unfold bE;rw [oV.1,C24];have:=D1L (D:=D) (n:=n) (a:=a) (L:=S9 D (P9 d t::(H5 D n c d t).2) (J3 (H5 D n c d t).2 (C6 (P9 d t)))) (s:=((H5 D n c d t).1,λ_=>A7));have et:O7 D n a ((H5 D n c d t).1,λ_=>A7) (S9 D (P9 d t::(H5 D n c d t).2) (J3 (H5 D n c d t).2 (C6 (P9 d t))))=bodyT D n c a d t:=rfl;rw [et] at this;have e:(H5 D n c d t).1.row=c.row:=hs.row;rw [<-e];exact this
def E1l(hbm:c.blocks.length=c.made.length):Gro c (W0 D n c a) a/\(a.toNat<c.ino.length->(W0 D n c a).ino.getD a.toNat []=2::1::0::(c.par a).getD 0::(K5 D n c a).2::zI 6):=by
 have hs:=vT (D:=D) (n:=n) (ino:=a) (c:=c);refine ⟨⟨?_,?_,?_,?_,λj hj=>?_⟩,λh=>?_⟩
 ·show c.row <+: (K5 D n c a).1.row;rw [hs.row];exact E9j _
 ·show (K5 D n c a).1.blocks.length=(K5 D n c a).1.made.length;rw [hs.blocks,hs.made];exact hbm
 ·show ∀ q∈iZ c,q∈(K5 D n c a).1.blocks.zip (K5 D n c a).1.made;rw [hs.blocks,hs.made];exact λq h=>h
 ·show ((K5 D n c a).1.ino.set _ _).length=_;rw [E80,hs.ino]
 ·show ((K5 D n c a).1.ino.set _ _).getD j []=_;rw [getD_set_ne hj,hs.ino]
 ·show ((K5 D n c a).1.ino.set _ _).getD a.toNat []=_;rw [A68 (by rw [hs.ino];exact h)]
def A9A(hbm:c.blocks.length=c.made.length):Gro c (oY D n c a) a/\(a.toNat<c.ino.length->(oY D n c a).ino.getD a.toNat []=2::1::0::(c.par a).getD 0::(K5 D n c a).2::zI 6):=by
 obtain ⟨g,hy⟩:=E1l (D:=D) (n:=n) (a:=a) hbm;by_cases h0:(K5 D n c a).2=0
 ·rw [A4r h0];exact ⟨g,hy⟩
 ·rw [A06 h0];obtain ⟨p1,p2⟩:=A9l (D:=D) (n:=n) (a:=a) (no:=(K5 D n c a).2) (d:=getD (blk D (K5 D n c a).2)) (t:=O5 (blk D (K5 D n c a).2) 32) g.bm;refine ⟨⟨g.row.trans D8Q,p2,λq hq=>?_,by rw [C2D];exact g.il,λj hj=>by rw [C2D];exact g.ino j hj⟩,λh=>by rw [C2D];exact hy h⟩;rw [p1];exact E8W _ (g.put q hq)
def A9G(hbm:c.blocks.length=c.made.length):Gro c (V4 D n c a) a/\(a.toNat<c.ino.length->(V4 D n c a).ino.getD a.toNat []=1::1::szV D n a::0::(I6 D n c a).2):=by
 have hs:=pA (D:=D) (n:=n) (ino:=a) (c:=c);have g:Gro c (L9 D n c a) a/\(a.toNat<c.ino.length->(L9 D n c a).ino.getD a.toNat []=1::1::szV D n a::0::(I6 D n c a).2):=by
  refine ⟨⟨?_,?_,?_,?_,λj hj=>?_⟩,λh=>?_⟩
  ·show c.row <+: (I6 D n c a).1.row;rw [hs.1.row];exact E9j _
  ·show (I6 D n c a).1.blocks.length=(I6 D n c a).1.made.length;rw [hs.1.blocks,hs.1.made];exact hbm
  ·show ∀ q∈iZ c,q∈(I6 D n c a).1.blocks.zip (I6 D n c a).1.made;rw [hs.1.blocks,hs.1.made];exact λq h=>h
  ·show ((I6 D n c a).1.ino.set _ _).length=_;rw [E80,hs.1.ino]
  ·show ((I6 D n c a).1.ino.set _ _).getD j []=_;rw [getD_set_ne hj,hs.1.ino]
  ·show ((I6 D n c a).1.ino.set _ _).getD a.toNat []=_;rw [A68 (by rw [hs.1.ino];exact h)]
 by_cases h0:(I6 D n c a).2.getD 6 0=0
 ·unfold V4;rw [C4 h0];exact g
 ·have hf:=kC (D:=D) (n:=n) (many:=T9 (szV D n a)) (e:=128) (k:=0) (s:=(L9 D n c a,blk D ((I6 D n c a).2.getD 6 0)));unfold V4;rw [C5 h0];obtain ⟨g,hy⟩:=g;have hfb:(M4 D n (T9 (szV D n a)) 128 0 (L9 D n c a,blk D ((I6 D n c a).2.getD 6 0))).1.blocks.length=(M4 D n (T9 (szV D n a)) 128 0 (L9 D n c a,blk D ((I6 D n c a).2.getD 6 0))).1.made.length:=by
   rw [hf.blocks,hf.made];exact g.bm
  dsimp only at hf;generalize M4 D n (T9 (szV D n a)) 128 0 (L9 D n c a,blk D ((I6 D n c a).2.getD 6 0))=s at hf hfb ⊢;refine ⟨⟨?_,?_,λq hq=>?_,?_,λj hj=>?_⟩,λh=>?_⟩
  ·show c.row <+: s.1.row;rw [hf.row];exact g.row
  ·show (s.1.blocks++[_]).length=(s.1.made++[_]).length;rw [E8o,E8o,hfb];rfl
  ·rw [A1i hfb];refine E8W _ ?_;show q∈s.1.blocks.zip s.1.made;rw [hf.blocks,hf.made];exact g.put q hq
  ·show s.1.ino.length=_;rw [hf.ino];exact g.il
  ·show s.1.ino.getD j []=_;rw [hf.ino];exact g.ino j hj
  ·show s.1.ino.getD a.toNat []=_;rw [hf.ino];exact hy h
def A2F(hbm:c.blocks.length=c.made.length):Gro c (U4 D n c a) a:=by
 unfold U4;split
 ·exact (A9G hbm).1
 ·exact (A9A hbm).1
end
def E66(D E:Dev)(n a:Int)(y:List Int):Prop:=(kdV E n a=kdV D n a/\szV E n a=szV D n a/\drV E n a=drV D n a)\/(kdV E n a=y.getD 0 0/\szV E n a=y.getD 2 0/\drV E n a=y.drop 4)
structure Half(D E:Dev)(n:Int)(F:Cl):Prop where
 okD:okD D
 okE:Go.Proofs.YtbipebfdappanaaGreat.okD E
 len:l_ E=(l_ D)
 ino:∀ a∈F.row,E66 D E n a (F.ino.getD a.toNat [])
 good:∀ no,G7 (l_ D) n no=A5->Q9 (blk E no)=A5->Q9 (blk D no)=A5
 kd:∀ i,i≠1->kdV E n i=kdV D n i\/(i ∉ F.row/\kdV E n i=0)
 put:∀ q∈iZ F,blk E q.1=blk D q.1\/blk E q.1=q.2
section
variable {D E:Dev} {n:Int} {F:Cl}
def E38(H:Half D E n F)(w:RowW n c)(hbm:c.blocks.length=c.made.length)(ha:a∈F.row)(hal:a.toNat<c.ino.length)
  (hy:F.ino.getD a.toNat []=(U4 D n c a).ino.getD a.toNat []) (hR:∀ i∈(U4 D n c a).row,i∈F.row) (hB:∀ q∈iZ (U4 D n c a),q∈iZ F) :
  ∃ x',U4 E n (c.wl x) a=(U4 D n c a).wl x':=by
 have hI:=H.ino a ha;rw [hy] at hI;by_cases hc:a≠1/\kdV D n a=1
 ·have e:U4 D n c a=V4 D n c a:=by unfold U4;rw [C4 hc]
  rw [e] at hI hB ⊢;have hyy:=(A9G (D:=D) (n:=n) (a:=a) hbm).2 hal;rw [hyy] at hI;have hcE:kdV E n a=1:=by
   rcases hI with ⟨h,_⟩ | ⟨h,_⟩
   ·rw [h];exact hc.2
   ·rw [h];rfl
  refine ⟨x,?_⟩;unfold U4;rw [C4 ⟨hc.1,hcE⟩];refine E1y H.okD H.okE H.len hbm ?_ ?_ λq hq=>H.put q (hB q hq)
  ·rcases hI with ⟨_,h,_⟩ | ⟨_,h,_⟩
   ·exact h
   ·rw [h];rfl
  ·rcases hI with ⟨_,_,h⟩ | ⟨_,_,h⟩
   ·exact .inl h
   ·exact .inr (by rw [h];rfl)
 ·have e:U4 D n c a=oY D n c a:=by unfold U4;rw [C5 hc]
  rw [e] at hI hB hR ⊢;have hyy:=(A9A (D:=D) (n:=n) (a:=a) hbm).2 hal;rw [hyy] at hI;have hcE:¬ (a≠1/\kdV E n a=1):=by
   rintro ⟨h1,h2⟩;rcases hI with ⟨h,_⟩ | ⟨h,_⟩
   ·rw [h] at h2;exact hc ⟨h1,h2⟩
   ·rw [h] at h2;exact absurd (show (2:Int)=1 from h2) (by decide)
  have eE:U4 E n (c.wl x) a=oY E n (c.wl x) a:=by unfold U4;rw [C5 hcE]
  rw [eE];refine E3G H.len w hbm ?_ H.good H.kd hR λq hq=>H.put q (hB q hq)
  rcases hI with ⟨h1,_,h3⟩ | ⟨h1,_,h3⟩
  ·exact .inl ⟨h1,h3⟩
  ·exact .inr ⟨h1,h3⟩
def C05:∀ {e i:Nat} {c:Cl},c.blocks.length=c.made.length->c.row <+: (ofR D n e i c).row/\(ofR D n e i c).blocks.length=(ofR D n e i c).made.length/\(∀ q∈iZ c,q∈iZ (ofR D n e i c))/\(ofR D n e i c).ino.length=c.ino.length
 | 0,_,c,h=>⟨E9j _,h,λ_ h=>h,rfl⟩
 | e+1,i,c,h=>by
  unfold ofR;cases hc:c.row[i]? with
  | none=>exact ⟨E9j _,h,λ_ h=>h,rfl⟩
  | some a =>
   have g:=A2F (D:=D) (n:=n) (a:=a) h;obtain ⟨h1,h2,h3,h4⟩:=C05 (e:=e) (i:=i+1) g.bm;exact ⟨g.row.trans h1,h2,λq hq=>h3 q (g.put q hq),h4.trans g.il⟩
def A1h{l m:List Int}(h:l <+: m)(hi:l[i]?=A4 a):m[i]?=A4 a:=by
 obtain ⟨t,rfl⟩:=h;rw [E88 (E8p.1 hi).1];exact hi
def B56{a:Int}(ha:1<=a):∀ {e i:Nat} {c:Cl},RowW n c->c.blocks.length=c.made.length->(∀ j,i<=j->(ofR D n e i c).row[j]?≠A4 a)->(ofR D n e i c).ino.getD a.toNat []=c.ino.getD a.toNat []
 | 0,_,_,_,_,_=>rfl
 | e+1,i,c,w,h,hn=>by
  unfold ofR at hn ⊢;cases hc:c.row[i]? with
  | none=>rfl
  | some b =>
   rw [hc] at hn;have g:=A2F (D:=D) (n:=n) (a:=b) h;have hg:=(C05 (D:=D) (n:=n) (e:=e) (i:=i+1) g.bm).1;have hb:=A1h (g.row.trans hg) hc;have aZ:b≠a:=λe=>hn i (E8m _) (by rw [<-e];exact hb)
   have hb1:=(w.rg b (E8H hc)).1;have ih:=B56 ha (e:=e) (i:=i+1) (iX w) g.bm λj hj=>hn j (by omega)
   exact ih.trans (g.ino _ (by omega))
def A96:∀ {e i:Nat} {c:Cl},RowW n c->RowW n (ofR D n e i c)
 | 0,_,_,h=>h
 | e+1,i,c,h=>by
  unfold ofR;cases hc:c.row[i]? with
  | none=>exact h
  | some a=>exact A96 (iX h)
def E2j:∀ {e i:Nat} {c:Cl} {x:Int},RowW n c->c.blocks.length=c.made.length->c.ino.length=(n+1).toNat->Half D E n (ofR D n e i c)->∃ x',ofR E n e i (c.wl x)=(ofR D n e i c).wl x'
 | 0,_,c,x,_,_,_,_=>⟨x,rfl⟩
 | e+1,i,c,x,w,h,K6,H=>by
  unfold ofR at H ⊢;show ∃ x',(match c.row[i]? with
   | none=>c.wl x
   | some a=>ofR E n e (i+1) (U4 E n (c.wl x) a))=_
  cases hc:c.row[i]? with
  | none=>exact ⟨x,rfl⟩
  | some a =>
   rw [hc] at H;have H:Half D E n (ofR D n e (i+1) (U4 D n c a)):=H;have g:=A2F (D:=D) (n:=n) (a:=a) h;obtain ⟨h1,h2,h3,h4⟩:=C05 (D:=D) (n:=n) (e:=e) (i:=i+1) g.bm;have hrg:=w.rg a (E8H hc);have hat:=A1h (g.row.trans h1) hc;have wF:=A96 (D:=D) (n:=n) (e:=e) (i:=i+1) (iX (D:=D) (ino:=a) w);have D9i:=B56 (D:=D) (n:=n) hrg.1 (e:=e) (i:=i+1) (iX (D:=D) (ino:=a) w) g.bm λj hj he=>by
    have:=(List.getElem?_inj (E8p.1 hat).1 wF.nd).1 (hat.trans he.symm);omega
   obtain ⟨x1,e1⟩:=E38 (x:=x) H w h (E8H hat) (by omega) D9i (λi hi=>h1.subset hi) h3;show ∃ x',ofR E n e (i+1) (U4 E n (c.wl x) a)=(ofR D n e (i+1) (U4 D n c a)).wl x';rw [e1];exact E2j (iX w) g.bm (g.il.trans K6) H
end
def wC:List Int->List (List UInt8)->Int->List UInt8->List UInt8
 | no::l,b::m,x,a=>wC l m x (if no=x then b else a)
 | _,_,_,a=>a
def D7z(ino:List (List Int))(b:Nat):Nat->Nat->List UInt8->List UInt8
 | 0,_,a=>a
 | e+1,k,a=>D7z ino b e (k+1) (H7 a (32*k) (B2W (ino.getD (b+k) [])))
def C93(D:Dev)(n:Int)(c:Cl)(i:Nat):List UInt8 :=
 if B7c (l_ D) n i=3 then D7z c.ino (8*(i-2)+1) 8 0 (zeros 256) else wC c.blocks c.made i (D.getD i [])
def C1d(hi:i<l_ O):(mN O no b)[i]?=if no=i then A4 b else O[i]? := by
 unfold mN;by_cases h:0<=no/\no<(l_ O)
 ·rw [C4 h,E9n];by_cases e:no=i
  ·rw [C4 (by omega),C4 (by omega),C4 e]
  ·rw [C5 (by omega),C5 e]
 ·rw [C5 h,C5 (by omega)]
def D1o{i:Nat}:∀ {l:List Int} {m:List (List UInt8)} {O:Dev},i<l_ O->(C4r O l m)[i]?=(O[i]?).map (wC l m i)
 | [],_,O,hi=>by rw [C3g,E8h hi];rfl
 | _::_,[],O,hi=>by rw [E8h hi];exact E8h hi
 | no::l,b::m,O,hi=>by
  have ih:=D1o (i:=i) (l:=l) (m:=m) (O:=mN O no b) (by rw [cR];exact hi);rw [C1d hi] at ih;refine ih.trans ?_;rw [E8h hi];split<;>rename_i e
  ·show A4 _=A4 (wC l m i (if no=i then b else O[i]));rw [C4 e]
  ·show A4 _=A4 (wC l m i (if no=i then b else O[i]));rw [C5 e]
def C9h{i:Nat}:∀ {e:Nat} {no:Int} {O:Dev},i<l_ O->(B80 O no e)[i]?=if no<=i/\i<no+e then A4 (zeros 256) else O[i]?
 | 0,no,O,hi=>by rw [C5 (by omega)];rfl
 | e+1,no,O,hi=>by
  have ih:=C9h (i:=i) (e:=e) (no:=no+1) (O:=mN O no (zeros 256)) (by rw [cR];exact hi);rw [C1d hi] at ih;refine ih.trans ?_;by_cases h1:no=i
  ·rw [C5 (by omega),C4 h1,C4 (by omega)]
  ·rw [C5 h1];by_cases h2:no+1<=i/\i<no+1+e
   ·rw [C4 h2,C4 (by omega)]
   ·rw [C5 h2,C5 (by omega)]
def stI(b n:Int)(j:Nat)(i:Nat)(x:List Int)(a:List UInt8):List UInt8 :=
 if Q2 b n i=A5/\aY b n i=j then H7 a (32*(kI b n i).toNat) (B2W x) else a
def foldI(b n:Int)(j:Nat):Nat->List (List Int)->List UInt8->List UInt8
 | _,[],a=>a
 | i,x::l,a=>foldI b n j (i+1) l (stI b n j i x a)
def D08{n:Int}{j:Nat}(hn:n<=128):∀ {l:List (List Int)} {i:Nat} {O:Dev},okD O->(∀ x∈l,x.length=11)->j<l_ O->(C0H n O i l)[j]?=(O[j]?).map (foldI (l_ O) n j i l)
 | [],_,O,h,_,hj=>by rw [E8h hj];exact E8h hj
 | x::l,i,O,h,hx,hj=>by
  obtain ⟨h1,h2⟩:=D2v (n:=n) (i:=i) h (hx x (E8u ..)) hn;have ih:=D08 (n:=n) (j:=j) hn (l:=l) (i:=i+1) (O:=C21 n O i x) h1 (λy hy=>hx y (E8q _ hy)) (by rw [h2];exact hj);rw [h2] at ih;refine ih.trans ?_;have e:(C21 n O i x)[j]?=A4 (stI (l_ O) n j i x O[j]):=by
   unfold C21 stI;cases hc:Q2 (l_ O) n i with
   | false=>rw [C5 (by decide),C5 (λe=>by cases e.1)];exact E8h hj
   | true =>
    rw [C4 rfl,C1d hj];by_cases e:aY (l_ O) n i=j
    ·rw [C4 e,C4 ⟨rfl,e⟩,e,B4e hj]
    ·rw [C5 e,C5 (λq=>e q.2)];exact E8h hj
  rw [e,E8h hj];rfl
section
variable {b n:Int} {j:Nat}
def B1x:∀ {l m:List (List Int)} {i:Nat} {a:List UInt8},foldI b n j i (l++m) a=foldI b n j (i+l_ l) m (foldI b n j i l a)
 | [],m,i,a=>rfl
 | x::l,m,i,a=>by
  show foldI b n j (i+1) (l++m) _=foldI b n j (i+(l_ l+1)) m (foldI b n j (i+1) l _);rw [B1x,show i+1+l_ l=i+(l_ l+1) by omega]
def B1y:∀ {l:List (List Int)} {i:Nat} {a:List UInt8},(∀ k:Nat,i<=k->k<i+l_ l->¬ (Q2 b n k=A5/\aY b n k=j))->foldI b n j i l a=a
 | [],i,a,_=>rfl
 | x::l,i,a,h=>by
  have e:stI b n j i x a=a:=by unfold stI;rw [C5 (h i (E8m _) (by simp))]
  show foldI b n j (i+1) l (stI b n j i x a)=a;rw [e];exact B1y λk h1 h2=>h k (by omega) (by simp at h2 ⊢;omega)
def D0X(hm:P6 b n=A5)(hj:2<=j)(hn:8*(j-2)+8<=n.toNat){ino:List (List Int)} :
  ∀ {e k:Nat} {a:List UInt8},k+e=8->8*(j-2)+9<=ino.length->foldI b n j (8*(j-2)+1+k) ((ino.drop (8*(j-2)+1+k)).take e) a=D7z ino (8*(j-2)+1) e k a
 | 0,k,a,_,_=>by rw [E9i];rfl
 | e+1,k,a,hk,hl=>by
  have W4:8*(j-2)+1+k<ino.length:=by omega
  rw [E8s W4,List.take_succ_cons];obtain ⟨_,_,n8,_⟩:=H8.1 hm;have hi:Q2 b n ((8*(j-2)+1+k:Nat):Int)=A5:=M8.2 ⟨hm,by omega,by omega⟩;have hw:aY b n ((8*(j-2)+1+k:Nat):Int)=j:=by unfold aY;rw [hi];simp only [S8];omega
  have hk2:(kI b n ((8*(j-2)+1+k:Nat):Int)).toNat=k:=by unfold kI;rw [hi];simp only [S8];omega
  have es:stI b n j (8*(j-2)+1+k) ino[8*(j-2)+1+k] a=H7 a (32*k) (B2W (ino.getD (8*(j-2)+1+k) [])):=by
   unfold stI;rw [C4 ⟨hi,hw⟩,hk2,E8k,E8h W4];rfl
  show foldI b n j (8*(j-2)+1+k+1) _ (stI b n j _ _ a)=D7z ino (8*(j-2)+1) e (k+1) _;rw [es];exact D0X hm hj hn (k:=k+1) (by omega) hl
end
def E6b{l:List (List Int)}:l=l.take q++((l.drop q).take 8++l.drop (q+8)):=by
 have e:l.drop (q+8)=(l.drop q).drop 8:=by rw [E9D]
 rw [e,List.take_append_drop,List.take_append_drop]
def C0v(hD:okD D)(hm:P6 (l_ D) n=A5)(ok:ImgOk D n c)(K6:c.ino.length=(n+1).toNat)(hi:i<l_ D) :
  (gQ D n c)[i]?=A4 (if i=1 then cQ (tM 0 c.taken) else C93 D n c i):=by
 obtain ⟨b16,b512,n8,n128,nm8,nb⟩:=H8.1 hm;have hx:∀ x∈c.ino,x.length=11:=λx hx=>(ok.ino x hx).1
 obtain ⟨ok1,l1⟩:=B5k (l:=c.blocks) (m:=c.made) hD ok.md;obtain ⟨ok2,l2⟩:=B0h (e:=(nN (l_ D) n).toNat) (no:=bO (l_ D) n) ok1;obtain ⟨ok3,l3⟩:=B42 (n:=n) n128 (l:=c.ino) (i:=0) ok2 hx;have eF:bO (l_ D) n=2:=by unfold bO;rw [hm];rfl
 have eN:nN (l_ D) n=n/8:=by unfold nN;rw [hm];rfl
 unfold gQ;rw [C1d (by rw [l3,l2,l1];exact hi)];by_cases h1:i=1
 ·rw [C4 (by omega),C4 h1]
 ·rw [C5 (by omega),C5 h1,D08 n128 ok2 hx (by rw [l2,l1];exact hi),l2,l1,C9h (by rw [l1];exact hi),D1o hi,E8h hi,eF,eN];unfold C93;have eD:D.getD i []=D[i]:=by rw [E8k,E8h hi];rfl
  by_cases ha:B7c (l_ D) n i=3
  ·have h3:2<=i/\((i:Int)-2)*8<n:=by
    unfold B7c at ha;split at ha
    ·split at ha
     ·omega
     ·split at ha<;>omega
    ·omega
   rw [C4 ha,C4 (by omega)];have hs:c.ino=c.ino.take (8*(i-2)+1)++((c.ino.drop (8*(i-2)+1)).take 8++c.ino.drop (8*(i-2)+1+8)):=E6b;show A4 (foldI (l_ D) n i 0 c.ino (zeros 256))=_;rw [hs,B1x,B1x];have t1:(c.ino.take (8*(i-2)+1)).length=8*(i-2)+1:=by rw [E8Y];omega
   have t2:((c.ino.drop (8*(i-2)+1)).take 8).length=8:=by rw [E8Y,E9u];omega
   rw [B1y (l:=c.ino.take (8*(i-2)+1)),t1,E8A,t2]
   ·have:=D0X (b:=l_ D) (n:=n) (j:=i) hm h3.1 (by omega) (ino:=c.ino) (e:=8) (k:=0) (a:=zeros 256) rfl (by omega);rw [E9y] at this;rw [this,B1y,<-hs];intro k k1 k2 q;have q2:=q.2;unfold aY at q2;rw [q.1] at q2;simp only [S8] at q2;omega
   ·intro k k1 k2 q;have q2:=q.2;unfold aY at q2;rw [q.1] at q2;simp only [S8] at q2;rw [t1] at k2;have:=(M8.1 q.1).2.1;omega
  ·rw [C5 ha,C5 (λq=>ha ?_)]
   ·show A4 (foldI (l_ D) n i 0 c.ino _)=_;rw [B1y,eD];intro k k1 k2 q;refine ha ?_;have q2:=q.2;unfold aY at q2;rw [q.1] at q2;simp only [S8] at q2;obtain ⟨_,q3,q4⟩:=M8.1 q.1;unfold B7c;rw [C4 ⟨hm,by omega,by omega⟩,C5 (by omega),C4 (by omega)]
   ·unfold B7c;rw [C4 ⟨hm,by omega,by omega⟩,C5 (by omega),C4 (by omega)]
def pK{w:Nat}{v:Int}(h0:0<=v)(h1:v<256 ^ w):((le (D6 w v):Nat):Int)=v:=by
 rw [B52,Int.emod_eq_of_lt h0 h1]
def B4D{a w:Nat}{x:List UInt8}{y z:List UInt8}(hx:x.length=a)(hy:y.length=w):fieldN (x++(y++z)) a w=((le y:Nat):Int):=by
 unfold fieldN;rw [E9C hx,List.take_left' hy]
def D6O{d:List Int}(hi:i<l_ d):tJ d=tJ (d.take i)++(D6 2 d[i]++tJ (d.drop (i+1))):=by
 have h:d=d.take i++(d[i]::d.drop (i+1)):=by rw [<-E8s hi,List.take_append_drop]
 have e:tJ (d.take i++(d[i]::d.drop (i+1)))=tJ (d.take i)++(D6 2 d[i]++tJ (d.drop (i+1))):=by
  simp only [tJ,E9e,List.flatten_append,E9c,List.flatten_cons]
 rw [<-e,<-h]
def C8a{k s:Int}{d:List Int}(hm:A5J k l s p d=A5):(0<=k/\k<=2)/\(0<=l/\l<=65535)/\(0<=s/\s<=34304)/\(0<=p/\p<=65535)/\∀ x∈d,0<=x/\x<=65535:=by
 unfold A5J at hm;split at hm
 ·have:=of_decide_eq_true hm;obtain ⟨rfl,rfl,rfl,rfl⟩:=this;refine ⟨by omega,by omega,by omega,by omega,λx hx=>?_⟩;have:=(List.mem_replicate.1 hx).2;omega
 ·unfold C1g at hm;simp only [E8j,decide_eq_true_eq,A7k,E8O] at hm;obtain ⟨h1,h2,h3,h4,h5⟩:=hm;exact ⟨h1,h2,h4,h3,h5⟩
def D2n{k s:Int}{d:List Int}(hd:l_ d=7)(hm:A5J k l s p d=A5) :
  B2U (cZ k l s p d)=k/\B4N (cZ k l s p d)=l/\B4P (cZ k l s p d)=s/\B4O (cZ k l s p d)=p/\bW (cZ k l s p d)=d:=by
 obtain ⟨h1,h2,h3,h4,h5⟩:=C8a hm;have eK:cZ k l s p d=[]++(D6 1 k++(zeros 1++D6 2 l++D6 4 s++D6 2 p++tJ d++zeros 8)):=by simp [cZ,A59]
 have eL:cZ k l s p d=(D6 1 k++zeros 1)++(D6 2 l++(D6 4 s++D6 2 p++tJ d++zeros 8)):=by simp [cZ,A59]
 have eS:cZ k l s p d=(D6 1 k++zeros 1++D6 2 l)++(D6 4 s++(D6 2 p++tJ d++zeros 8)):=by simp [cZ,A59]
 have eP:cZ k l s p d=(D6 1 k++zeros 1++D6 2 l++D6 4 s)++(D6 2 p++(tJ d++zeros 8)):=by simp [cZ,A59]
 refine ⟨?_,?_,?_,?_,?_⟩
 ·unfold B2U;rw [eK,B4D (by simp) (by simp),pK h1.1 (by omega)]
 ·unfold B4N;rw [eL,B4D (by simp) (by simp),pK h2.1 (by omega)]
 ·unfold B4P;rw [eS,B4D (by simp) (by simp),pK h3.1 (by omega)]
 ·unfold B4O;rw [eP,B4D (by simp) (by simp),pK h4.1 (by omega)]
 ·refine E9z λi=>?_
  by_cases hi:i<7
  ·rw [C2Y hi,E8h (by omega)];have mK:=h5 d[i] (E8M (by omega));have e:cZ k l s p d=(A59 k l s p++tJ (d.take i))++(D6 2 d[i]++(tJ (d.drop (i+1))++zeros 8)):=by
    unfold cZ;rw [D6O (d:=d) (i:=i) (by omega)];simp
   rw [e,B4D (by rw [E8o,pI,vV,E8Y];omega) (by simp),pK mK.1 (by omega)]
  ·rw [E8P (by rw [M7];omega),E8P (by omega)]
def D0O{k s:Int}{d:List Int}(hd:l_ d=7)(hm:A5J k l s p d=A5):cD (cZ k l s p d)=A5/\oU (cZ k l s p d)=D1 k l s p d:=by
 obtain ⟨h1,h2,h3,h4,h5⟩:=D2n hd hm;have hc:cD (cZ k l s p d)=A5:=by
  unfold cD;rw [h1,h2,h3,h4,h5,hm];simp
 refine ⟨hc,?_⟩;unfold oU;rw [hc,h1,h2,h3,h4,h5];rfl
def E2z{xs:List UInt8}(hb:l_ b=256)(hx:l_ xs=32)(hj:j<8)(hi:i<8):jD (H7 b (32*j) xs) i=if i=j then xs else jD b i:=by
 have hl:(H7 b (32*j) xs).length=256:=by rw [O6 (by omega),hb]
 apply E9z;intro n;by_cases hn:n<32
 ·have e1:∀ c:List UInt8,(jD c i)[n]?=c[32*i+n]? := λc=>by simp [jD,hn]
  rw [e1,C76 (by omega),hx];by_cases c:i=j
  ·subst c;rw [C4 (by omega),C4 rfl]
   congr 1;omega
  ·rw [C5 (by omega),C5 c,e1]
 ·have h1:=A2G (b:=H7 b (32*j) xs) hl hi;have h2:=A2G hb hi;rw [E8P (by omega),E8P];split<;>omega
def B57:∀ {l:List Int} {m:List (List UInt8)} {a:List UInt8},x ∉ l->wC l m x a=a
 | [],m,a,_=>by cases m<;>rfl
 | _::_,[],a,_=>rfl
 | no::l,b::m,a,h=>by
  show wC l m x (if no=x then b else a)=a;rw [C5 (λe=>h (by rw [<-e];exact E8u ..))];exact B57 λh2=>h (E8q _ h2)
def D5c:∀ {l:List Int} {m:List (List UInt8)} {a:List UInt8},l.Nodup->(x,b)∈l.zip m->wC l m x a=b
 | [],_,_,_,h=>by cases h
 | _::_,[],_,_,h=>by cases h
 | no::l,b'::m,a,hn,h=>by
  obtain ⟨h1,h2⟩:=List.nodup_cons.1 hn;show wC l m x (if no=x then b' else a)=b;rcases E8J.1 (show (x,b)∈(no,b')::l.zip m from h) with e | h3
  ·cases e;rw [C4 rfl];exact B57 h1
  ·exact D5c h2 h3
def D5d{x:Int}:∀ {l:List Int} {m:List (List UInt8)},(∀ a,wC l m x a=a)\/∃ b,∀ a,wC l m x a=b
 | [],m=>.inl λa=>by cases m<;>rfl
 | _::_,[]=>.inl λa=>rfl
 | no::l,b::m=>by
  rcases D5d (x:=x) (l:=l) (m:=m) with h | ⟨b',h⟩
  ·by_cases e:no=x
   ·refine .inr ⟨b,λa=>?_⟩;show wC l m x (if no=x then b else a)=b;rw [C4 e,h]
   ·refine .inl λa=>?_
    show wC l m x (if no=x then b else a)=a;rw [C5 e,h]
  ·exact .inr ⟨b',λa=>h _⟩
def D67{l:List Int}{m:List (List UInt8)}{a:List UInt8}:wC l m x (wC l m x a)=wC l m x a:=by
 rcases D5d (x:=x) (l:=l) (m:=m) with h | ⟨b',h⟩
 ·rw [h,h]
 ·rw [h,h]
def D5N{ino:List (List Int)}{b:Nat}(hi:i<8):∀ {e k:Nat} {a:List UInt8},a.length=256->k+e<=8->(∀ j,j<8->(ino.getD (b+j) []).length=11) ->
  jD (D7z ino b e k a) i=if k<=i/\i<k+e then B2W (ino.getD (b+i) []) else jD a i
 | 0,k,a,_,_,_=>by rw [C5 (by omega)];rfl
 | e+1,k,a,ha,hk,h=>by
  have hx:=B4Y (h k (by omega));show jD (D7z ino b e (k+1) (H7 a (32*k) (B2W (ino.getD (b+k) [])))) i=_;rw [D5N hi (by rw [O6 (by rw [ha,hx];omega),ha]) (by omega) h,E2z ha hx (by omega) hi];by_cases e1:i=k
  ·subst e1;rw [C5 (by omega),C4 rfl,C4 (by omega)]
  ·rw [C5 e1];by_cases c:k+1<=i/\i<k+1+e
   ·rw [C4 c,C4 (by omega)]
   ·rw [C5 c,C5 (by omega)]
section
variable {D:Dev} {n:Int} {c:Cl}
def B50(hD:okD D)(hm:P6 (l_ D) n=A5)(ok:ImgOk D n c):(gQ D n c).length=(l_ D):=by
 obtain ⟨_,_,_,n128,_⟩:=H8.1 hm;have hx:∀ x∈c.ino,x.length=11:=λx hx=>(ok.ino x hx).1
 obtain ⟨ok1,l1⟩:=B5k (l:=c.blocks) (m:=c.made) hD ok.md;obtain ⟨ok2,l2⟩:=B0h (e:=(nN (l_ D) n).toNat) (no:=bO (l_ D) n) ok1;obtain ⟨ok3,l3⟩:=B42 (n:=n) n128 (l:=c.ino) (i:=0) ok2 hx;unfold gQ;rw [cR,l3,l2,l1]
def C5L(hD:okD D)(hm:P6 (l_ D) n=A5)(ok:ImgOk D n c)(K6:c.ino.length=(n+1).toNat)(hi:i<l_ D) :
  blk (gQ D n c) i=if i=1 then cQ (tM 0 c.taken) else C93 D n c i:=by
 have h:=C0v hD hm ok K6 hi;have hl:=B50 hD hm ok;rw [B4e (by rw [hl];exact hi)];rw [E8h (by rw [hl];exact hi)] at h;exact Option.some.inj h
def D2t(hD:okD D)(hm:P6 (l_ D) n=A5)(ok:ImgOk D n c)(K6:c.ino.length=(n+1).toNat)(hd:G7 (l_ D) n no=A5) :
  blk (gQ D n c) no=wC c.blocks c.made no (blk D no):=by
 obtain ⟨_,h2,h3⟩:=vX.1 hd;obtain ⟨b16,b512,n8,n128,nm8,nb⟩:=H8.1 hm;have hF:aR (l_ D) n=2+n/8:=by unfold aR bO nN;rw [hm];rfl
 obtain ⟨k,rfl⟩:=E9m (show 0<=no by omega);rw [C5L hD hm ok K6 (by omega),C5 (by omega)];unfold C93;rw [C5 ?_]
 ·congr 1
  rw [B4e (by omega),E8k,E8h (by omega)];rfl
 ·unfold B7c;rw [C4 ⟨hm,by omega,by omega⟩,C5 (by omega),C5 (by omega)];decide
def C5M(hD:okD D)(hm:P6 (l_ D) n=A5)(ok:ImgOk D n c)(K6:c.ino.length=(n+1).toNat){i:Int}(hi:Q2 (l_ D) n i=A5) :
  uZ (gQ D n c) n i=B2W (c.ino.getD i.toNat []):=by
 obtain ⟨w2,wb,k0,k8⟩:=D1P hi;obtain ⟨_,i1,i2⟩:=M8.1 hi;obtain ⟨b16,b512,n8,n128,nm8,nb⟩:=H8.1 hm;unfold uZ;rw [B50 hD hm ok];have hB:aY (l_ D) n i=2+(i-1)/8:=by unfold aY;rw [hi];rfl
 have hK:kI (l_ D) n i=(i-1)%8:=by unfold kI;rw [hi];rfl
 obtain ⟨k,hk⟩:=E9m (show 0<=aY (l_ D) n i by omega);rw [hk,C5L hD hm ok K6 (by omega),C5 (by omega)];unfold C93;rw [C4 (by unfold B7c;rw [C4 ⟨hm,by omega,by omega⟩,C5 (by omega),C4 (by omega)])];rw [D5N (by omega) zeros_length (by omega) ?_,C4 (by omega)]
 ·congr 2;omega
 ·intro j hj;rw [E8k,E8h (by omega)];exact (ok.ino _ (E8M _)).1
end
def E25{E:Dev}{i:Int}(hl:l_ E=l_ D)(h:uZ E n i=uZ D n i):kdV E n i=kdV D n i/\szV E n i=szV D n i/\drV E n i=drV D n i:=by
 unfold kdV szV drV B4x;rw [hl,h];exact ⟨rfl,rfl,rfl⟩
def D5U{E:Dev}{i:Int}{y:List Int}(hi:Q2 (l_ E) n i=A5)(hy:D2J y)(h:uZ E n i=B2W y):kdV E n i=y.getD 0 0/\szV E n i=y.getD 2 0/\drV E n i=y.drop 4:=by
 obtain ⟨hl,hm⟩:=hy;have hd:(y.drop 4).length=7:=by rw [E9u,hl]
 obtain ⟨g1,g2,g3,g4,g5⟩:=D2n hd hm;obtain ⟨hc,_⟩:=D0O hd hm;unfold kdV szV drV B4x;rw [hi,h];unfold B2W;rw [hc,g1,g3,g5];exact ⟨rfl,rfl,rfl⟩
end Go.Proofs.YtbipebfdappanaaGreat
