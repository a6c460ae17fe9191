/- What the proof of this claim leans on, part 2. -/
import Derived.Test.YtbnkgnfhgbhblaaGreatFMendCutsp1
set_option linter.all false
set_option maxRecDepth 100000
open Go Go.Esc
noncomputable section
open Bool renaming and_eq_true→D9v,false_and→D9L,false_eq_true→E0v,not_eq_true'→E0e,or_eq_true→E0y,true_and→D9R,false→A6,true→A5
open Int renaming cast_ofNat_Int→E0r,toNat_natCast→D9N
open IntKind renaming wrap→D9B
open List renaming all_cons→E0j,all_eq_true→E0k,append_assoc→D9C,append_nil→D9Q,cons_append→D99,drop_drop→E0t,drop_eq_getElem_cons→D9E,drop_left'→E0s,drop_of_length_le→D9K,drop_zero→D9O,ext_getElem?→E0q,flatten_cons→E0l,getD_eq_getElem?_getD→D9z,getElem?_append_left→D94,getElem?_append_right→D9P,getElem?_cons_succ→D9Z,getElem?_drop→E0u,getElem?_eq_getElem→D9u,getElem?_eq_none→D9W,getElem?_map→E0C,getElem?_take_of_lt→D97,getElem_mem→D9Y,length_append→D9A,length_cons→D9G,length_filter_le→E0m,length_replicate→D9X,length_set→E0c,length_take→D91,map_cons→E0d,mem_cons_of_mem→D9F,mem_cons_self→D9I,mem_of_getElem?→D9S,nil_append→D9U,prefix_refl→E0a,range→D90,range'→E0g,replicate→D9w,replicate_succ→D92,set_append_right→D96,set_cons_zero→E0w,take_left'→E0x,take_of_length_le→D9M,take_succ_eq_append_getElem→D9V,take_zero→E0z
open Nat renaming add_mul→E0A,add_zero→E0D,le_refl→D9x,le_trans→D93,min→E0J,min_eq_left→E0F,mod_eq_of_lt→E0G,sub_self→E0p,zero_add→D9T,zero_le→E0I
open Option renaming bind_eq_some_iff→D9t,bind_some→D9H,isSome_some→D98,map_eq_some_iff→D9J,map_some→E0b,none→A7,some→A4
open Option.some renaming injEq→D9y
open Prod.mk renaming injEq→D9D
open Go.Proofs.Tryz renaming prog→A8
namespace Go.Esc
section
variable {P:Program} {R:Type}
def A0C {h:A9} {n0:Nat} {slot:Option Nat} {r:Row}:h.length<=(bU h n0 slot r).2.length:=by
 cases slot<;>simp [bU]
def C9x {E:J9} (hE:dR P E) {q:Bool} {hr:A9} {n0:Nat} {slot:Option Nat} {o:AOp} {e:Env} {h h':A9} {v:Val}
  (C7:aop E q hr n0 slot o e h (λv h=>A4 (v,h))=A4 (v,h')):h.length<=h'.length:=by
 cases o<;>simp only [aop] at C7
 case store1 a x =>
  simp only [D9t,D9y,D9D] at C7;obtain ⟨h2,hp,_,rfl⟩:=C7;unfold H1 at hp;split at hp
  ·simp only [D9t] at hp;obtain ⟨r,_,hp⟩:=hp;split at hp<;>cases hp
   simp
  ·cases hp
 case storeN n a x =>
  simp only [D9t,D9y,D9D] at C7;obtain ⟨h2,hp,_,rfl⟩:=C7;unfold E9 at hp;split at hp
  ·simp only [D9t] at hp;obtain ⟨r,_,hp⟩:=hp;split at hp<;>cases hp
   simp
  ·cases hp
 case app sz a x =>
  simp only [D9t,D9y] at C7;obtain ⟨⟨v',h2⟩,hp,vO⟩:=C7;cases vO;simp only [qK,D9t] at hp;obtain ⟨ys,_,hp⟩:=hp;split at hp
  ·split at hp<;>cases hp
   simp
  ·simp only [D9t] at hp;obtain ⟨r,_,hp⟩:=hp;split at hp<;>cases hp
   simp
  ·cases hp
 case copy sz a x =>
  simp only [D9t,D9y] at C7;obtain ⟨⟨v',h2⟩,hp,vO⟩:=C7;cases vO;simp only [B9G] at hp;split at hp
  ·cases hp
  simp only [D9t] at hp;obtain ⟨ys,_,hp⟩:=hp;split at hp
  ·simp only [D9t] at hp;obtain ⟨r,_,hp⟩:=hp;split at hp<;>cases hp
   simp
  ·cases hp
 case appZ sz zero x y =>
  simp only [D9t,D9y] at C7;obtain ⟨⟨v',h2⟩,hp,vO⟩:=C7;cases vO;unfold B9E at hp;simp only [D9t] at hp;obtain ⟨n,_,hp⟩:=hp;split at hp
  ·cases hp;simp
  ·simp only [D9t] at hp;obtain ⟨r,_,hp⟩:=hp;split at hp<;>cases hp
   simp
  ·cases hp
 case call f args =>
  simp only [D9t,D9y] at C7;obtain ⟨⟨v',h2⟩,hp,vO⟩:=C7;cases vO;have hE1:E f (args.map e.ev) h=A4 (v',h2):=by
   cases q with
   | false=>simpa using hp
   | true =>
    simp only [cond_true,quiet,D9t] at hp;obtain ⟨p',g1,g2⟩:=hp;split at g2
    ·cases g2;exact g1
    ·cases g2
  exact (hE _ _ _ _ _ hE1).2.2
 case callV f args =>
  simp only [D9t,D9y] at C7;obtain ⟨⟨v',h2⟩,hp,vO⟩:=C7;cases vO;have hE0:qT E (e.ev f) (args.map e.ev) h=A4 (v',h2):=by
   cases q with
   | false=>simpa using hp
   | true =>
    simp only [cond_true,quiet,D9t] at hp;obtain ⟨p',g1,g2⟩:=hp;split at g2
    ·cases g2;exact g1
    ·cases g2
  unfold qT at hE0;split at hE0
  ·exact (hE _ _ _ _ _ hE0).2.2
  ·cases hE0
 case mv=>cases C7;exact D9x _
 case nilrow=>cases C7;exact A0C
 case alloc=>cases C7;exact A0C
 case mkMap=>cases C7;exact A0C
 case mput =>
  simp only [D9t,D9y,D9D] at C7;obtain ⟨w,hp,_,rfl⟩:=C7;unfold xK at hp;split at hp
  ·simp only [D9t] at hp;obtain ⟨_,_,_,_,_,_,_,_,hp⟩:=hp;split at hp
   ·cases hp;simp
   ·cases hp
  ·cases hp
 case mset =>
  simp only [D9t,D9y,D9D] at C7;obtain ⟨w,hp,_,rfl⟩:=C7;unfold C5D at hp;split at hp
  ·simp only [D9t] at hp;obtain ⟨_,_,_,_,_,_,hp⟩:=hp;split at hp
   ·simp only [D9t,D9y] at hp;obtain ⟨_,_,rfl⟩:=hp;simp
   ·cases hp
  ·cases hp
 case ment =>
  simp only [D9t,D9y] at C7;obtain ⟨w,hp,vO⟩:=C7;cases vO;unfold C5C at hp;split at hp
  ·simp only [D9t] at hp;obtain ⟨_,_,_,_,_,_,hp⟩:=hp;split at hp
   ·simp only [D9y] at hp;split at hp
    ·cases hp;exact D9x _
    ·cases hp;simp
   ·cases hp
  ·cases hp
 case box =>
  simp only [D9t,D9y,D9D] at C7;obtain ⟨_,_,_,rfl⟩:=C7;exact A0C
 case buildSl =>
  simp only [D9t,D9y,D9D] at C7;obtain ⟨_,_,_,rfl⟩:=C7;exact A0C
 case s2b =>
  simp only [D9t,D9y,D9D] at C7;obtain ⟨_,_,_,rfl⟩:=C7;exact A0C
 case mkSl =>
  simp only [D9t,D9y,D9D] at C7;obtain ⟨_,_,_,rfl⟩:=C7;exact A0C
 all_goals
  simp only [D9t,D9y,D9D] at C7;obtain ⟨_,_,_,rfl⟩:=C7;exact D9x _
def C2R {E:J9} (hE:dR P E) {q:Bool} {hr:A9} {n0:Nat} {o:AOper} {e:Env} {h h':A9} {v:Val}
  (C7:U0 E q hr n0 o e h (λv h=>A4 (v,h))=A4 (v,h')):h.length<=h'.length:=by
 unfold U0 at C7;split at C7
 ·exact C9x hE C7
 ·simp only [D9t,D9y] at C7;obtain ⟨⟨v',h2⟩,hp,vO⟩:=C7;cases vO;unfold gd at hp;split at hp
  ·rename_i x _;cases hx:(x==_) with
   | true=>rw [hx] at hp;exact C9x hE hp
   | false=>rw [hx] at hp;cases hp;exact D9x _
  ·cases hp;exact D9x _
  ·cases hp
def put_defers (a:Act) (d:Option Nat) (V:Value):(a.put d V).defers=a.defers:=by cases d<;>rfl
def B8E {N L:Nat} {ops:Array Oper} {E:J9} (hE:dR P E):∀ (l:List Nat) (aos:List AOper) (e:Env) (h:A9) (k:Env->A9->Option R) (r:R),
  All2 (λi ao=>∃ o,ops[i]?=A4 o/\W9 P N ops o ao=A5/\ao.slot=A7) l aos->A71 E aos e h k=A4 r->L<=h.length ->
  ∃ e' h',k e' h'=A4 r/\L<=h'.length/\A9j P N L (λQ=>wpOps P ops Q l) e h .normal e' h'
 | [],[],e,h,k,r,_,C7,hL=>⟨e,h,C7,hL,fun Γ μ a w hs hi hN hd Q hq=>hq μ a w (Mu.le_refl _) (λ_ _=>rfl) hs hi hN hd⟩
 | i::l,ao::aos,e,h,k,r,⟨⟨o,ho,hc,C6C⟩,C6A⟩,C7,hL=>by
  rw [C2S] at C7;obtain ⟨v,h1,hk,B3C⟩:=D2n hE hc C7;have hl1:=C2R hE B3C;obtain ⟨e',h',hk',hL',sI⟩:=B8E hE l aos (e.put ao.dst v) h1 k r C6A hk (D93 hL hl1);refine ⟨e',h',hk',hL',fun Γ μ a w hs hi hN hd Q hq=>?_⟩;show wpOps P ops Q (i::l) a w;rw [wpOps_cons];unfold wpOp;rw [ho];have zC:o.dst=ao.dst/\wS N o.dst=A5:=by
   simp only [W9,D9v,decide_eq_true_eq] at hc;exact ⟨hc.1.1.1,hc.1.1.2⟩
  have T1:∀ t,o.dst=A4 t->t<a.tmps.size:=by
   intro t ht;have:=zC.2;rw [ht] at this;simp [wS] at this;exact Nat.lt_of_lt_of_le this hN
  refine A3I (hr:=h) (n0:=0) hE hc B3C hs hi (λ_ _ h=>h) (by rw [C6C];trivial) ?_;intro V w' μ' gX hv hi' aQ;rw [C6C] at aQ;refine sI Γ μ' (a.put o.dst V) w' ?_ hi' (by rw [Act.size_put];exact hN) (by rw [put_defers];exact hd) Q ?_
  ·rw [<-zC.1];exact (hs.mono gX).put T1 hv
  ·intro μ2 a2 w2 h2 h3 h4 h5 h6 h7;exact hq μ2 a2 w2 (Mu.le_trans gX h2) (λid hid=>by rw [h3 id hid];exact aQ id (by omega) (λ_ h=>by cases h)) h4 h5 h6 h7
 | [],_::_,_,_,_,_,h,_,_=>h.elim
 | _::_,[],_,_,_,_,h,_,_=>h.elim
end
def B7f {o:Oper} {p:Nat}:p∈V4 o↔∃ e∈o.after,Region.binds .any e=A5/\e.on=p:=by
 unfold V4;simp only [List.mem_map,List.mem_filter,Array.mem_toList_iff];constructor
 ·rintro ⟨e,⟨h1,h2⟩,rfl⟩;exact ⟨e,h1,h2,rfl⟩
 ·rintro ⟨e,h1,h2,rfl⟩;exact ⟨e,⟨h1,h2⟩,rfl⟩
def kW {ops:Array Oper} {listed:Array Bool} {i:Nat}:i∈Region.ready .any ops listed↔∃ o,ops[i]?=A4 o/\listed.getD i A5=A6/\∀ p∈V4 o,listed.getD p A6=A5:=by
 unfold Region.ready;simp only [List.mem_filter,List.mem_range,D9v,E0e];constructor
 ·rintro ⟨h1,h2,h3⟩;have ho:ops[i]?=A4 ops[i]:=by simp [h1]
  refine ⟨ops[i],ho,h2,λp hp=>?_⟩;rw [ho] at h3;simp only [E0b,Option.getD_some,Array.all_eq_true_iff_forall_mem] at h3;obtain ⟨e,he,hb,rfl⟩:=B7f.1 hp;have:=h3 e he;rw [hb] at this;simpa using this
 ·rintro ⟨o,ho,h2,h3⟩;refine ⟨(Array.getElem?_eq_some_iff.1 ho).1,h2,?_⟩;rw [ho];simp only [E0b,Option.getD_some,Array.all_eq_true_iff_forall_mem];intro e he;cases hb:Region.binds .any e with
  | false=>rfl
  | true=>simpa using h3 e.on (B7f.2 ⟨e,he,hb,rfl⟩)
def O7 {listed:Array Bool} {i:Nat} (hi:i<listed.size):(λk=>(listed.setIfInBounds i A5).getD k A6)=mE (λk=>listed.getD k A6) i:=by
 funext k
 unfold mE;by_cases h:k=i
 ·subst h;simp [Array.getD,hi]
 ·simp [Array.getElem?_setIfInBounds_ne (Ne.symm h),h]
def getD_both {listed:Array Bool} {i:Nat} (hi:i<listed.size):listed.getD i A5=listed.getD i A6:=by simp [Array.getD,hi]
def A5S {ops:Array Oper} {listed:Array Bool} (T1:∀ (i:Nat) (o:Oper),ops[i]?=A4 o->∀ p∈V4 o,p<i) (hs:listed.size=ops.size):∀ (i:Nat),i<ops.size->listed.getD i A6=A6->Region.ready .any ops listed≠[]:=by
 intro i
 induction i using Nat.strongRecOn with
 | _ i ih =>
  intro hi hu;have ho:ops[i]?=A4 ops[i]:=by simp [hi]
  by_cases h:∀ p∈V4 ops[i],listed.getD p A6=A5
  ·have:i∈Region.ready .any ops listed:=kW.2 ⟨_,ho,by rw [getD_both (by omega)];exact hu,h⟩;intro e;rw [e] at this;cases this
  ·have:∃ p,p∈V4 ops[i]/\listed.getD p A6=A6:=by
    false_or_by_contra
    rename_i hn;exact h λp hp=>by
     cases hv:listed.getD p A6 with
     | true=>rfl
     | false=>exact absurd ⟨p,hp,hv⟩ hn
   obtain ⟨p,hp,hv⟩:=this;have hpi:=T1 i _ ho p hp;exact ih p hpi (by omega) hv
def left (n:Nat) (listed:Array Bool):Nat:=((D90 n).filter λi=>!listed.getD i A6).length
def B3U {n:Nat} {listed:Array Bool} {i:Nat} (hi:i<n) (hs:listed.size=n) (hu:listed.getD i A6=A6):left n (listed.setIfInBounds i A5)+1<=left n listed:=by
 unfold left;have e:(D90 n).filter (λk=>!(listed.setIfInBounds i A5).getD k A6)=((D90 n).filter λk=>!listed.getD k A6).filter (λk=>decide (k≠i)):=by
  rw [List.filter_filter];apply List.filter_congr;intro k hk;have:=congrFun (O7 (listed:=listed) (i:=i) (by omega)) k
  try simp only at this
  rw [this];unfold mE;by_cases h:k=i<;>simp [h]
 rw [e];have hm:i∈(D90 n).filter λk=>!listed.getD k A6:=by
  rw [List.mem_filter];exact ⟨by simpa using hi,by rw [hu];rfl⟩
 have:=List.length_filter_lt_length_iff_exists (l:=(D90 n).filter λk=>!listed.getD k A6) (p:=λk=>decide (k≠i));have h2:=this.2 ⟨i,hm,by simp⟩;omega
section
variable {P:Program} {ops:Array Oper} {Q:Exit->Act->World->Prop}
def A0D (T1:∀ (i:Nat) (o:Oper),ops[i]?=A4 o->∀ p∈V4 o,p<i) {A:Nat} (D59:∀ i,A<=i->i<ops.size->∀ j,j<i->((N7 ops).getD i 0).testBit j=A5) :
  ∀ (k i fuel:Nat) (listed:Array Bool) (a:Act) (w:World),i+k=ops.size->A<=i->listed.size=ops.size->(∀ j,j<ops.size->listed.getD j A6=decide (j<i))->k<=fuel ->
   wpOps P ops Q (E0g i k) a w->wpAny P .any ops Q fuel listed a w
 | 0,i,fuel,listed,a,w,hik,hA,hs,hl,hf,h=>by
  have hr:Region.ready .any ops listed=[]:=by
   apply List.eq_nil_iff_forall_not_mem.2;intro x hx;obtain ⟨o,ho,h2,_⟩:=kW.1 hx;have T1:=(Array.getElem?_eq_some_iff.1 ho).1;rw [getD_both (by omega),hl x T1] at h2;simp at h2;omega
  cases fuel with
  | zero=>exact ⟨hr,h⟩
  | succ f=>exact ⟨λ_=>h,λx hx=>by rw [hr] at hx;cases hx⟩
 | k+1,i,fuel,listed,a,w,hik,hA,hs,hl,hf,h=>by
  obtain ⟨f,rfl⟩:∃ f,fuel=f+1:=⟨fuel-1,by omega⟩;refine ⟨λhe=>absurd he (A5S T1 hs i (by omega) (by rw [hl i (by omega)];simp)),λx hx=>?_⟩;obtain ⟨o,ho,h2,h3⟩:=kW.1 hx;have hxn:=(Array.getElem?_eq_some_iff.1 ho).1;rw [getD_both (by omega),hl x hxn] at h2;simp at h2;have hxi:x=i:=by
   by_cases e:x=i
   ·exact e
   ·have hd:=tC (done:=λj=>listed.getD j A6) T1 (λj oj hj hdj p hp=>by
     have hjn:=(Array.getElem?_eq_some_iff.1 hj).1
     try simp only at hdj
     rw [hl j hjn] at hdj;have:=T1 j oj hj p hp;show listed.getD p A6=A5;rw [hl p (by omega)];simp at hdj ⊢;omega) x o ho h3 i (D59 x (by omega) hxn i (by omega))
    try simp only at hd
    rw [hl i (by omega)] at hd;simp at hd
  subst hxi;rw [List.range'_succ,wpOps_cons] at h;refine wpOp_mono (λa' w' h'=>?_) h;refine A0D T1 D59 k (x+1) f _ a' w' (by omega) (by omega) (by simpa using hs) (λj hj=>?_) (by omega) h';have:=congrFun (O7 (listed:=listed) (i:=x) (by omega)) j
  try simp only at this
  rw [this];unfold mE;show (decide (j=x)||listed.getD j A6)=_;rw [hl j hj];by_cases e:j=x
  ·subst e;simp
  ·simp only [e,decide_false,Bool.false_or];have:(j<x)↔(j<x+1):=by omega
   simp only [this]
end
def Inv.pad {Γ:Ctx} {μ:Mu} {h:A9} {w:World} (hi:Inv Γ μ h w) (m:Nat):Inv Γ μ (h++D9w m A7) w:=by
 have rJ:∀ id x,rd (h++D9w m A7) id=A4 x->rd h id=A4 x:=by
  intro id x hx;by_cases hl:id<h.length
  ·rwa [E2 hl] at hx
  ·unfold rd at hx;rw [D9P (by omega),List.getElem?_replicate] at hx;split at hx<;>cases hx
 exact ⟨λid x hx=>hi.rows id x (rJ id x hx),λi j x y z z' hx hy=>hi.sep i j x y z z' (rJ _ _ hx) (rJ _ _ hy),λi x y hx=>hi.own i x y (rJ _ _ hx),λid hid=>hi.dom id (by simp at hid;omega),hi.ctx⟩
def D44 {P:Program} {N L:Nat} {ops:Array Oper} {m id:Nat} {l r:List AOper} {E:J9} (hE:dR P E) {e:Env} {h:A9} {R:Type} {k:Env->A9->Option R} {res:R}
  (hc:yW P N ops m l r=A5) (hc2:B3p ops l.length r.length=A5) (hL:L<=h.length)
  (C7:B0s E h h.length l e (h++D9w m A7) (λe h=>A71 E r e h k)=A4 res) :
  ∃ e' h',k e' h'=A4 res/\L<=h'.length/\A9j P N L ((Code.region id ops A5).wp P) e h .normal e' h':=by
 have D:=A5p hc;have last:=B92 hc2 D.size;obtain ⟨es,hs,vs,he,h0,ht,hk⟩:=C1B l _ _ C7;have C8B:All2 (λi ao=>∃ o,ops[i]?=A4 o/\W9 P N ops o ao=A5/\ao.slot=A7) (E0g l.length r.length) r:=by
  refine All2.of_get (by simp) λi x ao hx hao=>?_
  have hi:i<r.length:=(List.getElem?_eq_some_iff.1 hao).1;rw [List.getElem?_range' hi] at hx;simp at hx;subst hx;have T1:l.length+i<ops.size:=by rw [D.size];omega
  refine ⟨ops[l.length+i],by simp [T1],?_,D.rslot ao (D9S hao)⟩;refine D.oper (l.length+i) _ ao (by simp [T1]) ?_;rw [D9P (by omega)];simpa using hao
 have hbl:=iR D ht h0 (k:=l.length) (D9x _);obtain ⟨e',h',hk',hL',sI⟩:=B8E (L:=L) hE _ r (es l.length) (hs l.length) k res C8B hk (by omega);refine ⟨e',h',hk',hL',fun Γ μ0 a w hs0 hi hN hd Q hq=>wp_region_any D.follows ?_⟩;have whole:∀ (listed:Array Bool) (a:Act) (w:World) (q:Nat) (μ:Mu),Sim Γ l h.length N e es hs vs μ0 (λi=>listed.getD i A6) q μ a w->(∀ j,j<l.length->listed.getD j A6=A5)->wpOps P ops Q (E0g l.length r.length) a w:=by
  intro listed a w q μ S jB;have C2e:SEnv μ (es l.length) a:=by
   intro t;by_cases hw:∃ (j:Nat) (aj:AOper),l[j]?=A4 aj/\aj.dst=A4 t
   ·obtain ⟨j,aj,lZ,hdj⟩:=hw;have hjl:=(List.getElem?_eq_some_iff.1 lZ).1;rw [oL D ht lZ hdj l.length hjl (D9x _)];exact S.envD j aj t lZ (jB j hjl) hdj
   ·have aK:∀ (j:Nat) (aj:AOper),l[j]?=A4 aj->aj.dst≠A4 t:=λj aj lZ hdj=>hw ⟨j,aj,lZ,hdj⟩
    rw [vJ ht he l.length (D9x _) λj aj _ lZ=>aK j aj lZ];exact S.envO t λj aj lZ _=>aK j aj lZ
  have hlen:(hs l.length).length=(hs q).length:=by
   have hql:=S.qle;have:=vU D ht (q:=q) (l.length-q) (by omega) λk ak h1 h2 nP=>by
    cases hck:U6 ak.op with
    | false=>rfl
    | true =>
     have:=(S.calls k ak nP hck).1 (jB k (by omega));omega
   rwa [show q+(l.length-q)=l.length by omega] at this
  have C3f:HD (hs l.length) (und l h.length λi=>listed.getD i A6) (hs q).length=hs l.length:=by
   refine vM (by rw [H4,hlen]) λid hid=>?_
   rw [H4] at hid;have hu:und l h.length (λi=>listed.getD i A6) id=A6:=by
    cases hu:und l h.length (λi=>listed.getD i A6) id with
    | false=>rfl
    | true =>
     obtain ⟨k,hk,ao,j,nP,_⟩:=V6.1 hu;have:=jB k (List.getElem?_eq_some_iff.1 nP).1;rw [this] at hk;cases hk
   rw [sJ,if_pos ⟨hid,hu⟩]
  have hinv:=S.inv;rw [C3f] at hinv;exact sI Γ μ a w C2e hinv S.size S.defers Q fun μ' a' w' g1 g2 g3 g4 g5 g6=>hq μ' a' w' (Mu.le_trans S.le g1) (λid hid=>(g2 id hid).trans (S.keep id (by omega))) g3 g4 g5 g6
 have main:∀ (fuel:Nat) (listed:Array Bool) (a:Act) (w:World) (q:Nat) (μ:Mu),listed.size=ops.size->left ops.size listed<=fuel ->
   (∀ j,l.length<=j->j<ops.size->listed.getD j A6=A6)->(∀ (i:Nat) (o:Oper),ops[i]?=A4 o->listed.getD i A6=A5->∀ p∈V4 o,listed.getD p A6=A5) ->
   Sim Γ l h.length N e es hs vs μ0 (λi=>listed.getD i A6) q μ a w->wpAny P .any ops Q fuel listed a w:=by
  intro fuel
  induction fuel with
  | zero =>
   intro listed a w q μ hsz B0I bM bN S;have jB:∀ j,j<ops.size->listed.getD j A6=A5:=by
    intro j hj;cases hv:listed.getD j A6 with
    | true=>rfl
    | false =>
     have hm:j∈(D90 ops.size).filter λi=>!listed.getD i A6:=by rw [List.mem_filter];exact ⟨by simpa using hj,by rw [hv];rfl⟩
     have:=List.length_pos_of_mem hm;unfold left at B0I;omega
   have hr0:r.length=0:=by
    cases hr:r.length with
    | zero=>rfl
    | succ x =>
     have h1:=jB l.length (by rw [D.size];omega);have h2:=bM l.length (D9x _) (by rw [D.size];omega);rw [h1] at h2;cases h2
   refine A0D D.dir last 0 l.length 0 listed a w (by rw [D.size];omega) (D9x _) hsz (λj hj=>?_) (D9x _) ?_
   ·rw [jB j hj];have:j<l.length:=by rw [D.size] at hj;omega
    simp [this]
   ·have:=whole listed a w q μ S λj hj=>jB j (by rw [D.size];omega)
    rw [hr0] at this;exact this
  | succ fuel ih =>
   intro listed a w q μ hsz B0I bM bN S;by_cases jB:∀ j,j<l.length->listed.getD j A6=A5
   ·refine A0D D.dir last r.length l.length (fuel+1) listed a w D.size.symm (D9x _) hsz (λj hj=>?_) ?_ (whole listed a w q μ S jB)
    ·by_cases hjl:j<l.length
     ·rw [jB j hjl];simp [hjl]
     ·rw [bM j (by omega) hj];simp [hjl]
    ·refine D93 ?_ B0I;unfold left;have:((D90 ops.size).filter λi=>!listed.getD i A6)=E0g l.length r.length:=by
      rw [D.size,List.range_add,List.filter_append];have e1:(D90 l.length).filter (λi=>!listed.getD i A6)=[]:=by
       rw [List.filter_eq_nil_iff];intro j hj;rw [jB j (by simpa using hj)];simp
      rw [e1,D9U,List.range'_eq_map_range,List.filter_eq_self.2];intro j hj;obtain ⟨x,hx,rfl⟩:=List.mem_map.1 hj;rw [bM _ (by omega) (by rw [D.size];simp at hx;omega)];rfl
     rw [this];simp
   ·have hex:∃ j,j<l.length/\listed.getD j A6=A6:=by
     false_or_by_contra
     rename_i hn;exact jB λj hj=>by
      cases hv:listed.getD j A6 with
      | true=>rfl
      | false=>exact absurd ⟨j,hj,hv⟩ hn
    obtain ⟨j,hj,hv⟩:=hex;refine ⟨λhre=>absurd hre (A5S D.dir hsz j (by rw [D.size];omega) hv),λi hi=>?_⟩;obtain ⟨o,ho,h2,h3⟩:=kW.1 hi;have hin:=(Array.getElem?_eq_some_iff.1 ho).1;rw [getD_both (by omega)] at h2;have hah:=tC (done:=λi=>listed.getD i A6) D.dir bN i o ho h3;have L8:i<l.length:=by
     by_cases e1:i<l.length
     ·exact e1
     ·have:=hah j (last i (by omega) hin j (by omega))
      try simp only at this
      rw [hv] at this;cases this
    have nQ:∀ k,listed.getD k A6=A5->∀ b,((N7 ops).getD k 0).testBit b=A5->listed.getD b A6=A5:=by
     intro k hk b hb;by_cases hkn:k<ops.size
     ·have hok:ops[k]?=A4 ops[k]:=by simp [hkn]
      exact tC (done:=λi=>listed.getD i A6) D.dir bN k _ hok (bN k _ hok hk) b hb
     ·have:listed.getD k A6=A6:=by simp [Array.getD,show ¬ k<listed.size by omega]
      rw [this] at hk;cases hk
    have jC:=C7x D hE ht h0 he S (i:=i) (ao:=l[i]) (o:=o) (D9u L8) ho h2 hah nQ
     (next:=wpAny P .any ops Q fuel (listed.setIfInBounds i A5)) (Q:=Q) (by
      intro V w' μ' q' S';rw [<-O7 (by omega)] at S';refine ih (listed.setIfInBounds i A5) _ w' q' μ' (by simpa using hsz) (by have:=B3U hin hsz h2;omega) ?_ ?_ S'
      ·intro k hk hkn;have:=congrFun (O7 (listed:=listed) (i:=i) (by omega)) k
       try simp only at this
       rw [this,V1 _ _ (by omega)];exact bM k hk hkn
      ·intro k ok hok hdk p hp;have e1:=congrFun (O7 (listed:=listed) (i:=i) (by omega)) k;have e2:=congrFun (O7 (listed:=listed) (i:=i) (by omega)) p
       try simp only at e1 e2
       rw [e1] at hdk;rw [e2];have B0H:listed.getD p A6=A5:=by
        by_cases e3:k=i
        ·subst e3;rw [ho] at hok;cases hok;exact h3 p hp
        ·rw [V1 _ _ e3] at hdk;exact bN k ok hok hdk p hp
       unfold mE;show (decide (p=i)||listed.getD p A6)=A5;rw [B0H];simp)
    unfold wpOp;rw [ho];exact jC
 have hgd:∀ i:Nat,(Array.replicate ops.size A6).getD i A6=A6:=by intro i;simp [Array.getD]
 have D6P:(λi=>(Array.replicate ops.size A6).getD i A6)=λ_=>A6:=funext hgd
 refine main ops.size (Array.replicate ops.size A6) a _ 0 μ0 (by simp) ?_ (λj _ _=>hgd j) (λi o _ hd=>by rw [hgd] at hd;cases hd) ?_
 ·unfold left;exact D93 (E0m _ _) (by simp)
 ·rw [D6P];have D6T:HD (hs l.length) (und l h.length λ_=>A6) (hs 0).length=h++D9w m A7:=by
   rw [h0];refine vM (by rw [H4]) λid hid=>?_
   rw [H4] at hid;rw [sJ];by_cases ho:∃ i,A1a l h.length i id
   ·obtain ⟨i,ho⟩:=ho;have hu:und l h.length (λ_=>A6) id=A5:=V6.2 ⟨i,rfl,ho⟩;rw [hu];have:=A4h D ht h0 ho 0 (E0I _);rw [h0] at this;rw [this];simp
   ·have aK:∀ i,0<=i->¬ A1a l h.length i id:=λi _ hi=>ho ⟨i,hi⟩
    have hu:und l h.length (λ_=>A6) id=A6:=by
     cases hu:und l h.length (λ_=>A6) id with
     | false=>rfl
     | true=>obtain ⟨i,_,hi⟩:=V6.1 hu;exact absurd ⟨i,hi⟩ ho
    rw [if_pos ⟨hid,hu⟩];have:=mS D ht (k:=0) (id:=id) (by rw [h0];exact hid) aK l.length (by omega);rw [D9T,h0] at this;exact this
  refine ⟨E0I _,λi ao _ _=>⟨λh=>(by cases h),λh=>(by omega)⟩,λi ao d _ h=>(by cases h),λt _=>hs0 t,?_,λid hid=>?_,Mu.le_refl _,λ_ _=>rfl,hN,hd⟩
  ·rw [D6T];exact (hi.pad m).world rfl rfl rfl λ_ _=>rfl
  ·obtain ⟨i,_,ao,j,_,_,rfl⟩:=V6.1 hid;exact hi.dom _ (by omega)
def B8O:AOp->Bool
 | .mv _ | .pick .. | .bin .. | .eqA .. | .eqB .. | .eqN .. | .nilc _ | .un .. | .conv .. | .convS _ | .fAddr .. | .iAddrA .. | .iAddrL .. | .fld1 .. | .fldN .. | .idxA1 .. | .idxAN .. | .idxS .. | .ext .. | .len _ | .lenS _ | .max .. | .min ..=>A5
 | _=>A6
def D4J {E:J9} {q:Bool} {hr:A9} {n0:Nat} {slot:Option Nat} {o:AOp} {e:Env} {h h':A9} {v:Val} (hp:B8O o=A5)
  (C7:aop E q hr n0 slot o e h (λv h=>A4 (v,h))=A4 (v,h')):∀ (q2:Bool) (hr2:A9) (n2:Nat) (slot2:Option Nat) (h2:A9),aop E q2 hr2 n2 slot2 o e h2 (λv h=>A4 (v,h))=A4 (v,h2):=by
 intro q2 hr2 n2 slot2 h2;cases o<;>simp [B8O] at hp<;>simp only [aop] at C7 ⊢
 case mv=>cases C7;rfl
 all_goals
  simp only [D9t,D9y,D9D] at C7;obtain ⟨_,h1,rfl,rfl⟩:=C7;rw [h1];rfl
def C4G:AOp->Bool
 | .load1 _ | .loadN ..=>A5
 | _=>A6
def D2k {E:J9} {q:Bool} {n0:Nat} {slot:Option Nat} {o:AOp} {e:Env} {h:A9} {v:Val} (hp:C4G o=A5) (hr:A5N h o e=A4 v):aop E q h n0 slot o e h (λv h=>A4 (v,h))=A4 (v,h):=by
 cases o<;>simp [C4G] at hp<;>simp only [A5N] at hr<;>simp only [aop,hr]<;>rfl
def C83 {o:AOp} {e e':Env} {h:A9} (he:∀ x∈o.opds,e.ev x=e'.ev x):A5N h o e=A5N h o e':=by
 cases o<;>simp only [AOp.opds] at he<;>simp only [A5N]
 ·rw [he _ (by simp)]
 ·rw [he _ (by simp)]
def C1i:AOp->AOp->Bool
 | .load1 (.t a),.load1 (.t b)=>decide (a=b)
 | .loadN n (.t a),.loadN m (.t b)=>decide (n=m)&&decide (a=b)
 | _,_=>A6
def C7s {o p:AOp} (h:C1i o p=A5):o=p/\C4G p=A5:=by
 unfold C1i at h;split at h
 ·have:=of_decide_eq_true h;subst this;exact ⟨rfl,rfl⟩
 ·rw [D9v] at h;have h1:=of_decide_eq_true h.1;have h2:=of_decide_eq_true h.2;subst h1 h2;exact ⟨rfl,rfl⟩
 ·cases h
def B90 (s:AOper) (chk:List (Nat × AOp)) (o:AOper):Bool :=
 decide (o.guard=A7)&&decide (o.slot=A7) && !U6 o.op && !T6 o.op &&
 (match o.dst with
  | some d=>!(s.reads.contains d)&&(B8O o.op||chk.any λc=>decide (c.1=d)&&C1i c.2 o.op)
  | none=>A6) &&
 (match s.dst with | some d=>!(o.reads.contains d) | none=>A5)
def D0H (ops:Array Oper) (l:List AOper) (s:AOper) (chk:List (Nat × AOp)) (r:List AOper):Bool :=
 let cl:=N7 ops
 l.zipIdx.all (λp=>(cl.getD l.length 0).testBit p.2||B90 s chk p.1) &&
 l.all (λo=>match s.dst with | some d=>decide (o.dst≠A4 d) | none=>A5) &&
 l.zipIdx.all (λp=>l.zipIdx.all λq=>match q.1.dst with | some d=>!(p.1.reads.contains d)||((cl.getD p.2 0).testBit q.2&&decide (q.2<p.2)) | none=>A5) &&
 B3p ops (l.length+1) r.length
def D11 (ops:Array Oper) (l:List AOper):Prop:=∀ (i j:Nat) ai aj d,l[i]?=A4 ai->l[j]?=A4 aj->aj.dst=A4 d->d∈ai.reads->((N7 ops).getD i 0).testBit j=A5/\j<i
structure Float1 (s:AOper) (chk:List (Nat × AOp)) (o:AOper):Prop where
 guard:o.guard=A7
 slot:o.slot=A7
 call:U6 o.op=A6
 T6:T6 o.op=A6
 dst:∃ d,o.dst=A4 d/\d ∉ s.reads/\(B8O o.op=A5\/(C4G o.op=A5/\(d,o.op)∈chk))
 reads:∀ d,s.dst=A4 d->d ∉ o.reads
def C5X {s:AOper} {chk:List (Nat × AOp)} {o:AOper} (h:B90 s chk o=A5):Float1 s chk o:=by
 simp only [B90,D9v,decide_eq_true_eq,E0e] at h;obtain ⟨⟨⟨⟨⟨h1,h2⟩,h3⟩,h4⟩,h5⟩,h6⟩:=h;refine ⟨h1,h2,h3,h4,?_,λd hd=>?_⟩
 ·split at h5
  ·rename_i d hd;simp only [D9v,E0e,E0y] at h5;refine ⟨d,hd,λhm=>?_,?_⟩
   ·have:=h5.1;rw [List.contains_iff_mem.2 hm] at this;cases this
   ·rcases h5.2 with h | h
    ·exact .inl h
    ·right
     rw [List.any_eq_true] at h;obtain ⟨c,hc,h⟩:=h;simp only [D9v,decide_eq_true_eq] at h;obtain ⟨e1,e2⟩:=C7s h.2;refine ⟨e2,?_⟩;have:c=(d,o.op):=by cases c;simp at h e1;simp [h.1,e1]
     rw [<-this];exact hc
  ·cases h5
 ·rw [hd] at h6;simp only [E0e] at h6;intro hm;rw [List.contains_iff_mem.2 hm] at h6;cases h6
def C5z {R:Type} {e:Env} {h:A9} {k:Option R} {res:R}:∀ {l:List (Nat × AOp)},again l e h k=A4 res->k=A4 res/\∀ c∈l,A5N h c.2 e=A4 (e.get c.1)
 | [],hr=>⟨hr,by simp⟩
 | c::l,hr=>by
  rw [B9J] at hr;unfold agn at hr;split at hr
  ·rename_i hc;obtain ⟨h1,h2⟩:=C5z hr;exact ⟨h1,λx hx=>by rcases List.mem_cons.1 hx with e | hx;subst e;exact hc;exact h2 x hx⟩
  ·cases hr
structure Sim2 (Γ:Ctx) (l:List AOper) (s:AOper) (n0 N:Nat) (e:Env) (vs:Nat->Val) (v:Val) (μ0:Mu) (done:Nat->Bool) (h2:A9) (μ:Mu) (a:Act) (w:World):Prop where
 envD:∀ (i:Nat) ao d,l[i]?=A4 ao->done i=A5->ao.dst=A4 d->RV μ (vs i) (a.tmps.getD d undef)
 envO:∀ t,(∀ (i:Nat) ao,l[i]?=A4 ao->done i=A5->ao.dst≠A4 t)->s.dst≠A4 t->RV μ (e.get t) (a.tmps.getD t undef)
 envS:∀ d,s.dst=A4 d->RV μ v (a.tmps.getD d undef)
 inv:Inv Γ μ h2 w
 le:μ0.le μ
 keep:∀ id,id<n0 -> μ id = μ0 id
 size:N<=a.tmps.size
 defers:a.defers = Γ.ds
def A8x {a:Act} {dst:Option Nat} {V:Value} {t:Nat} (h:dst≠A4 t):(a.put dst V).tmps.getD t undef=a.tmps.getD t undef:=by
 cases hd:dst with
 | none=>rfl
 | some d =>
  rw [hd] at h;simp [Act.put,Array.getElem?_setIfInBounds_ne (show d≠t from λe=>h (by rw [e]))]
def B0G {a:Act} {d N:Nat} {V:Value} (h:wS N (A4 d)=A5) (hN:N<=a.tmps.size):(a.put (A4 d) V).tmps.getD d undef=V:=by
 have T1:d<a.tmps.size:=by
  simp [wS] at h;exact Nat.lt_of_lt_of_le h hN
 simp [Act.put,Array.getD,T1]
section
variable {P:Program} {N m:Nat} {ops:Array Oper} {l r:List AOper} {s:AOper} {chk:List (Nat × AOp)} {E:J9} {hr:A9} {e:Env} {es:Nat->Env} {hs:Nat->A9} {vs:Nat->Val} {Γ:Ctx} {μ0:Mu}
def D45 (D:DrawOk P N ops m l (s::r)) (hR:D11 ops l) (ht:Trace E hr hr.length l es hs vs) (he:es 0=e) {i t:Nat} {ao:AOper} (ha:l[i]?=A4 ao) (hm:t∈ao.reads):(es l.length).get t=(es i).get t:=by
 have L8:i<l.length:=(List.getElem?_eq_some_iff.1 ha).1;by_cases hw:∃ (j:Nat) (aj:AOper),l[j]?=A4 aj/\aj.dst=A4 t
 ·obtain ⟨j,aj,lZ,hd⟩:=hw;obtain ⟨_,h2⟩:=hR i j ao aj t ha lZ hd hm;rw [oL D ht lZ hd i h2 (by omega),oL D ht lZ hd l.length (by omega) (D9x _)]
 ·have aK:∀ (j:Nat) (aj:AOper),l[j]?=A4 aj->aj.dst≠A4 t:=λj aj lZ hd=>hw ⟨j,aj,lZ,hd⟩
  rw [vJ ht he i (by omega) λj aj _ lZ=>aK j aj lZ,vJ ht he l.length (D9x _) λj aj _ lZ=>aK j aj lZ]
def D1L (D:DrawOk P N ops m l (s::r)) (hR:D11 ops l) (hE:dR P E) (ht:Trace E hr hr.length l es hs vs) (he:es 0=e) {v:Val} {h2:A9} (hag:∀ c∈chk,A5N h2 c.2 (es l.length)=A4 ((es l.length).get c.1))
  {done:Nat->Bool} {μ:Mu} {a:Act} {w:World} (S:Sim2 Γ l s hr.length N e vs v μ0 done h2 μ a w) {i:Nat} {ao:AOper} {o:Oper} (ha:l[i]?=A4 ao) (ho:ops[i]?=A4 o) (hnd:done i=A6) (hf:Float1 s chk ao)
  (C9Q:∀ (k:Nat) ak d,l[k]?=A4 ak->s.dst=A4 d->ak.dst≠A4 d)
  (hah:∀ b,((N7 ops).getD i 0).testBit b=A5->done b=A5)
  {next:Act->World->Prop} {Q:Exit->Act->World->Prop} (hn:∀ V w' μ',Sim2 Γ l s hr.length N e vs v μ0 (mE done i) h2 μ' (a.put o.dst V) w'->next (a.put o.dst V) w') :
  if Region.wanted o (yielded ops a.tmps) then o.wp P a w next Q\/(o.asks P a w/\LetsOut Q) else next (a.put o.dst undef) w:=by
 have L8:i<l.length:=(List.getElem?_eq_some_iff.1 ha).1;have hco:W9 P N ops o ao=A5:=D.oper i o ao ho (by rw [D94 L8];exact ha);have zC:o.dst=ao.dst/\wS N o.dst=A5:=by
  simp only [W9,D9v,decide_eq_true_eq] at hco;exact ⟨hco.1.1.1,hco.1.1.2⟩
 obtain ⟨d,hd,hds,D3g⟩:=hf.dst;have C2e:SEnv μ ((es i).keep ao.reads) a:=by
  intro t;rw [Env.get_keep_mem];split
  ·rename_i lQ;by_cases hw:∃ (j:Nat) (aj:AOper),l[j]?=A4 aj/\aj.dst=A4 t
   ·obtain ⟨j,aj,lZ,hdj⟩:=hw;obtain ⟨h1,h3⟩:=hR i j ao aj t ha lZ hdj lQ;rw [oL D ht lZ hdj i h3 (by omega)];exact S.envD j aj t lZ (hah j h1) hdj
   ·have aK:∀ (j:Nat) (aj:AOper),l[j]?=A4 aj->aj.dst≠A4 t:=λj aj lZ hd=>hw ⟨j,aj,lZ,hd⟩
    rw [vJ ht he i (by omega) λj aj _ lZ=>aK j aj lZ];exact S.envO t (λj aj lZ _=>aK j aj lZ) λsI=>hf.reads t sI lQ
  ·trivial
 have jC:=ht.step i ao ha;have B3C:U0 E A5 h2 hr.length ao (es i) h2 (λv h=>A4 (v,h))=A4 (vs i,h2):=by
  unfold U0 at jC ⊢;rw [hf.guard] at jC ⊢;simp only at jC ⊢;rcases D3g with hp | ⟨hp,lQ⟩
  ·exact D4J hp jC _ _ _ _ _
  ·refine D2k hp ?_;have h1:=hag _ lQ;simp only at h1;rw [oL D ht ha hd l.length L8 (D9x _)] at h1;rw [<-h1];refine C83 λx hx=>?_
   cases x with
   | v x=>rfl
   | t n=>exact (D45 D hR ht he ha (List.mem_append_left _ (List.mem_filterMap.2 ⟨.t n,hx,rfl⟩))).symm
 rw [B5E (e':=(es i).keep ao.reads) λt ht'=>by rw [Env.get_keep_mem,if_pos ht']] at B3C;refine A3I (hr:=h2) (n0:=hr.length) hE hco B3C C2e S.inv (λ_ _ h=>h) (by rw [hf.slot];trivial) ?_;intro V w' μ' gX hv hinv aQ;rw [hf.slot] at aQ;refine hn V w' μ' ⟨?_,?_,?_,hinv,Mu.le_trans S.le gX,?_,by rw [Act.size_put];exact S.size,by rw [put_defers];exact S.defers⟩
 ·intro k ak d' nP hdk hd';by_cases e1:k=i
  ·subst e1;rw [ha] at nP;cases nP;rw [zC.1,hd'];rw [B0G (by rw [<-hd',<-zC.1];exact zC.2) S.size];exact hv
  ·rw [V1 _ _ e1] at hdk;rw [A8x (by rw [zC.1];exact λh=>(D.apart i k ao ak ha nP (Ne.symm e1)).1 d' h hd')];exact (S.envD k ak d' nP hdk hd').mono gX
 ·intro t aK sI;have h1:=aK i ao ha (tD _ _);rw [A8x (by rw [zC.1];exact h1)];refine (S.envO t (λk ak nP hdk=>?_) sI).mono gX;by_cases e1:k=i
  ·subst e1;rw [hnd] at hdk;cases hdk
  ·exact aK k ak nP (by rw [V1 _ _ e1];exact hdk)
 ·intro d' hd';rw [A8x (by rw [zC.1];exact C9Q i ao d' ha hd')];exact (S.envS d' hd').mono gX
 ·intro id hid;by_cases hl:id<h2.length
  ·rw [<-S.keep id hid];exact aQ id hl λj hj=>by cases hj
  ·have h1:=S.inv.dom id (by omega);have h3:=S.keep id hid;rw [h1] at h3;have h4:=hinv.dom id (by omega);rw [h4,<-h3]
end
def C28 {P:Program} {N L:Nat} {ops:Array Oper} {m:Nat} {l r:List AOper} {s:AOper} {chk:List (Nat × AOp)} {E:J9} (hE:dR P E) {e:Env} {h:A9} {R:Type} {k:Env->A9->Option R} {res:R}
  (hc:yW P N ops m l (s::r)=A5) (hcs:D0H ops l s chk r=A5) (hL:L<=h.length)
  (C7:B0s E h h.length l e (h++D9w m A7) (λe h=>U0 E A6 h 0 s e h λv h2=>again chk e h2 (A71 E r (e.put s.dst v) h2 k))=A4 res) :
  ∃ e' h',k e' h'=A4 res/\L<=h'.length/\A9j P N L (λQ a w=>wpAny P .any ops Q ops.size (Array.replicate ops.size A6) a { w with drawn:=w.drawn+1 }) e h .normal e' h':=by
 have D:=A5p hc;simp only [D0H,D9v,E0k] at hcs;obtain ⟨⟨⟨hfl,hdi⟩,D8V⟩,hla⟩:=hcs;have hR:D11 ops l:=by
  intro i j ai aj d hi hj hd hr;have:=D8V (ai,i) (mem_zipIdx hi) (aj,j) (mem_zipIdx hj);simp only [hd,E0y,E0e,D9v,decide_eq_true_eq] at this;rcases this with this | this
  ·have hc:ai.reads.contains d=A5:=by simpa using hr
   rw [hc] at this;cases this
  ·exact this
 have hsz:ops.size=l.length+(r.length+1):=by rw [D.size];simp
 have last:=B92 hla (by rw [hsz];omega);have D6O:∀ (i:Nat) ao,l[i]?=A4 ao->((N7 ops).getD l.length 0).testBit i=A6->Float1 s chk ao:=by
  intro i ao ha hb;have:=hfl (ao,i) (mem_zipIdx ha);simp only [E0y] at this;rcases this with h | h
  ·rw [hb] at h;cases h
  ·exact C5X h
 have C9Q:∀ (k:Nat) ak d,l[k]?=A4 ak->s.dst=A4 d->ak.dst≠A4 d:=by
  intro k ak d nP hd;have:=hdi ak (D9S nP);rw [hd] at this;simpa using this
 obtain ⟨es,hs,vs,he,h0,ht,hk⟩:=C1B l _ _ C7;rw [B9O] at hk;simp only [D9t] at hk;obtain ⟨⟨v,h2⟩,B3C,hk⟩:=hk;obtain ⟨hk,hag⟩:=C5z hk;simp only at hk hag;have hnl:l.length<ops.size:=by omega
 have hos:ops[l.length]?=A4 ops[l.length]:=by simp [hnl]
 have D7N:W9 P N ops ops[l.length] s=A5:=D.oper l.length _ s hos (by rw [D9P (D9x _)];simp);have D3l:s.slot=A7:=D.rslot s (by simp);have C6B:ops[l.length].dst=s.dst/\wS N ops[l.length].dst=A5:=by
  have:=D7N;simp only [W9,D9v,decide_eq_true_eq] at this;exact ⟨this.1.1.1,this.1.1.2⟩
 have C8B:All2 (λi ao=>∃ o,ops[i]?=A4 o/\W9 P N ops o ao=A5/\ao.slot=A7) (E0g (l.length+1) r.length) r:=by
  refine All2.of_get (by simp) λi x ao hx hao=>?_
  have hi:i<r.length:=(List.getElem?_eq_some_iff.1 hao).1;rw [List.getElem?_range' hi] at hx;simp at hx;subst hx;have T1:l.length+1+i<ops.size:=by omega
  refine ⟨ops[l.length+1+i],by simp [T1],?_,D.rslot ao (D9F _ (D9S hao))⟩;refine D.oper (l.length+1+i) _ ao (by simp [T1]) ?_;rw [D9P (by omega),show l.length+1+i-l.length=i+1 by omega];simpa using hao
 have hbl:=iR D ht h0 (k:=l.length) (D9x _);have hl2:=C2R hE B3C;obtain ⟨e',h',hk',hL',sI⟩:=B8E (L:=L) hE _ r ((es l.length).put s.dst v) h2 k res C8B hk (by omega);refine ⟨e',h',hk',hL',fun Γ μ0 a w hs0 hi hN hd Q hq=>?_⟩;have whole:∀ (listed:Array Bool) (a:Act) (w:World) (μ:Mu),Sim2 Γ l s h.length N e vs v μ0 (λi=>listed.getD i A6) h2 μ a w->(∀ j,j<l.length->listed.getD j A6=A5)->wpOps P ops Q (E0g (l.length+1) r.length) a w:=by
  intro listed a w μ S jB;have C2e:SEnv μ ((es l.length).put s.dst v) a:=by
   intro t;have main:s.dst≠A4 t->RV μ ((es l.length).get t) (a.tmps.getD t undef):=by
    intro Z5;by_cases hw:∃ (j:Nat) (aj:AOper),l[j]?=A4 aj/\aj.dst=A4 t
    ·obtain ⟨j,aj,lZ,hdj⟩:=hw;have hjl:=(List.getElem?_eq_some_iff.1 lZ).1;rw [oL D ht lZ hdj l.length hjl (D9x _)];exact S.envD j aj t lZ (jB j hjl) hdj
    ·have aK:∀ (j:Nat) (aj:AOper),l[j]?=A4 aj->aj.dst≠A4 t:=λj aj lZ hdj=>hw ⟨j,aj,lZ,hdj⟩
     rw [vJ ht he l.length (D9x _) λj aj _ lZ=>aK j aj lZ];exact S.envO t (λj aj lZ _=>aK j aj lZ) Z5
   cases hsd:s.dst with
   | none=>exact main (by rw [hsd];simp)
   | some d =>
    by_cases e1:d=t
    ·subst e1;rw [Env.get_put_same];exact S.envS d hsd
    ·rw [Env.get_put_other _ _ _ _ e1];exact main (by rw [hsd];simpa using e1)
  exact sI Γ μ a w C2e S.inv S.size S.defers Q fun μ' a' w' g1 g2 g3 g4 g5 g6=>hq μ' a' w' (Mu.le_trans S.le g1) (λid hid=>(g2 id hid).trans (S.keep id (by omega))) g3 g4 g5 g6
 have main2:∀ (fuel:Nat) (listed:Array Bool) (a:Act) (w:World) (μ:Mu),listed.size=ops.size->left ops.size listed<=fuel->listed.getD l.length A6=A5 ->
   (∀ j,l.length<j->j<ops.size->listed.getD j A6=A6)->(∀ (j:Nat) ao,l[j]?=A4 ao->listed.getD j A6=A6->Float1 s chk ao) ->
   (∀ (i:Nat) (o:Oper),ops[i]?=A4 o->listed.getD i A6=A5->∀ p∈V4 o,listed.getD p A6=A5) ->
   Sim2 Γ l s h.length N e vs v μ0 (λi=>listed.getD i A6) h2 μ a w->wpAny P .any ops Q fuel listed a w:=by
  intro fuel
  induction fuel with
  | zero =>
   intro listed a w μ hls B0I hsd bM D6N bN S;have jB:∀ j,j<ops.size->listed.getD j A6=A5:=by
    intro j hj;cases hv:listed.getD j A6 with
    | true=>rfl
    | false =>
     have hm:j∈(D90 ops.size).filter λi=>!listed.getD i A6:=by rw [List.mem_filter];exact ⟨by simpa using hj,by rw [hv];rfl⟩
     have:=List.length_pos_of_mem hm;unfold left at B0I;omega
   have hr0:r.length=0:=by
    cases hr:r.length with
    | zero=>rfl
    | succ x =>
     have h1:=jB (l.length+1) (by omega);have h3:=bM (l.length+1) (by omega) (by omega);rw [h1] at h3;cases h3
   refine A0D D.dir last 0 (l.length+1) 0 listed a w (by omega) (D9x _) hls (λj hj=>?_) (D9x _) ?_
   ·rw [jB j hj];have:j<l.length+1:=by omega
    simp [this]
   ·have:=whole listed a w μ S λj hj=>jB j (by omega)
    rw [hr0] at this;exact this
  | succ fuel ih =>
   intro listed a w μ hls B0I hsd bM D6N bN S;by_cases jB:∀ j,j<l.length->listed.getD j A6=A5
   ·refine A0D D.dir last r.length (l.length+1) (fuel+1) listed a w (by omega) (D9x _) hls (λj hj=>?_) ?_ (whole listed a w μ S jB)
    ·by_cases hjl:j<l.length+1
     ·have:listed.getD j A6=A5:=by
       by_cases e1:j=l.length
       ·subst e1;exact hsd
       ·exact jB j (by omega)
      rw [this];simp [hjl]
     ·rw [bM j (by omega) hj];simp [hjl]
    ·refine D93 ?_ B0I;unfold left;have:((D90 ops.size).filter λi=>!listed.getD i A6)=E0g (l.length+1) r.length:=by
      rw [show ops.size=(l.length+1)+r.length by omega,List.range_add,List.filter_append];have e1:(D90 (l.length+1)).filter (λi=>!listed.getD i A6)=[]:=by
       rw [List.filter_eq_nil_iff];intro j hj;have hj:j<l.length+1:=by simpa using hj
       have:listed.getD j A6=A5:=by
        by_cases e1:j=l.length
        ·subst e1;exact hsd
        ·exact jB j (by omega)
       rw [this];simp
      rw [e1,D9U,List.range'_eq_map_range,List.filter_eq_self.2];intro j hj;obtain ⟨x,hx,rfl⟩:=List.mem_map.1 hj;rw [bM _ (by omega) (by simp at hx;omega)];rfl
     rw [this];simp
   ·have hex:∃ j,j<l.length/\listed.getD j A6=A6:=by
     false_or_by_contra
     rename_i hn;exact jB λj hj=>by
      cases hv:listed.getD j A6 with
      | true=>rfl
      | false=>exact absurd ⟨j,hj,hv⟩ hn
    obtain ⟨j,hj,hv⟩:=hex;refine ⟨λhre=>absurd hre (A5S D.dir hls j (by omega) hv),λi hi=>?_⟩;obtain ⟨o,ho,h3,h4⟩:=kW.1 hi;have hin:=(Array.getElem?_eq_some_iff.1 ho).1;rw [getD_both (by omega)] at h3;have hah:=tC (done:=λi=>listed.getD i A6) D.dir bN i o ho h4;have L8:i<l.length:=by
     by_cases e1:i<l.length
     ·exact e1
     ·by_cases e2:i=l.length
      ·subst e2;rw [hsd] at h3;cases h3
      ·have:=hah j (last i (by omega) hin j (by omega))
       try simp only at this
       rw [hv] at this;cases this
    have hao:=D9u L8;have jC:=D1L D hR hE ht he hag S (i:=i) (ao:=l[i]) (o:=o) hao ho h3 (D6N i l[i] hao h3) C9Q hah
     (next:=wpAny P .any ops Q fuel (listed.setIfInBounds i A5)) (Q:=Q) (by
      intro V w' μ' S';rw [<-O7 (by omega)] at S';refine ih (listed.setIfInBounds i A5) _ w' μ' (by simpa using hls) (by have:=B3U hin hls h3;omega) ?_ ?_ ?_ ?_ S'
      ·have:=congrFun (O7 (listed:=listed) (i:=i) (by omega)) l.length
       try simp only at this
       rw [this,V1 _ _ (by omega)];exact hsd
      ·intro k hk hkn;have:=congrFun (O7 (listed:=listed) (i:=i) (by omega)) k
       try simp only at this
       rw [this,V1 _ _ (by omega)];exact bM k hk hkn
      ·intro k ak nP hdk;have e1:=congrFun (O7 (listed:=listed) (i:=i) (by omega)) k
       try simp only at e1
       rw [e1] at hdk;by_cases e2:k=i
       ·subst e2;rw [tD] at hdk;cases hdk
       ·rw [V1 _ _ e2] at hdk;exact D6N k ak nP hdk
      ·intro k ok hok hdk p hp;have e1:=congrFun (O7 (listed:=listed) (i:=i) (by omega)) k;have e2:=congrFun (O7 (listed:=listed) (i:=i) (by omega)) p
       try simp only at e1 e2
       rw [e1] at hdk;rw [e2];have B0H:listed.getD p A6=A5:=by
        by_cases e3:k=i
        ·subst e3;rw [ho] at hok;cases hok;exact h4 p hp
        ·rw [V1 _ _ e3] at hdk;exact bN k ok hok hdk p hp
       unfold mE;show (decide (p=i)||listed.getD p A6)=A5;rw [B0H];simp)
    unfold wpOp;rw [ho];exact jC
 have main:∀ (fuel:Nat) (listed:Array Bool) (a:Act) (w:World) (q:Nat) (μ:Mu),listed.size=ops.size->left ops.size listed<=fuel ->
   (∀ j,l.length<=j->j<ops.size->listed.getD j A6=A6)->(∀ (i:Nat) (o:Oper),ops[i]?=A4 o->listed.getD i A6=A5->∀ p∈V4 o,listed.getD p A6=A5) ->
   Sim Γ l h.length N e es hs vs μ0 (λi=>listed.getD i A6) q μ a w->wpAny P .any ops Q fuel listed a w:=by
  intro fuel
  induction fuel with
  | zero =>
   intro listed a w q μ hls B0I bM bN S;have hv:=bM l.length (D9x _) hnl;have hm:l.length∈(D90 ops.size).filter λi=>!listed.getD i A6:=by rw [List.mem_filter];exact ⟨by simpa using hnl,by rw [hv];rfl⟩
   have:=List.length_pos_of_mem hm;unfold left at B0I;omega
  | succ fuel ih =>
   intro listed a w q μ hls B0I bM bN S;have hv:=bM l.length (D9x _) hnl;refine ⟨λhre=>absurd hre (A5S D.dir hls l.length hnl hv),λi hi=>?_⟩;obtain ⟨o,ho,h3,h4⟩:=kW.1 hi;have hin:=(Array.getElem?_eq_some_iff.1 ho).1;rw [getD_both (by omega)] at h3;have hah:=tC (done:=λi=>listed.getD i A6) D.dir bN i o ho h4;have nQ:∀ k,listed.getD k A6=A5->∀ b,((N7 ops).getD k 0).testBit b=A5->listed.getD b A6=A5:=by
    intro k hk b hb;by_cases hkn:k<ops.size
    ·have hok:ops[k]?=A4 ops[k]:=by simp [hkn]
     exact tC (done:=λi=>listed.getD i A6) D.dir bN k _ hok (bN k _ hok hk) b hb
    ·have:listed.getD k A6=A6:=by simp [Array.getD,show ¬ k<listed.size by omega]
     rw [this] at hk;cases hk
   have C6w:∀ k ok,ops[k]?=A4 ok->(listed.setIfInBounds i A5).getD k A6=A5->∀ p∈V4 ok,(listed.setIfInBounds i A5).getD p A6=A5:=by
    intro k ok hok hdk p hp;have e1:=congrFun (O7 (listed:=listed) (i:=i) (by omega)) k;have e2:=congrFun (O7 (listed:=listed) (i:=i) (by omega)) p
    try simp only at e1 e2
    rw [e1] at hdk;rw [e2];have B0H:listed.getD p A6=A5:=by
     by_cases e3:k=i
     ·subst e3;rw [ho] at hok;cases hok;exact h4 p hp
     ·rw [V1 _ _ e3] at hdk;exact bN k ok hok hdk p hp
    unfold mE;show (decide (p=i)||listed.getD p A6)=A5;rw [B0H];simp
   by_cases L8:i<l.length
   ·have jC:=C7x D hE ht h0 he S (i:=i) (ao:=l[i]) (o:=o) (D9u L8) ho h3 hah nQ
     (next:=wpAny P .any ops Q fuel (listed.setIfInBounds i A5)) (Q:=Q) (by
      intro V w' μ' q' S';rw [<-O7 (by omega)] at S';refine ih (listed.setIfInBounds i A5) _ w' q' μ' (by simpa using hls) (by have:=B3U hin hls h3;omega) ?_ C6w S';intro k hk hkn;have:=congrFun (O7 (listed:=listed) (i:=i) (by omega)) k
      try simp only at this
      rw [this,V1 _ _ (by omega)];exact bM k hk hkn)
    unfold wpOp;rw [ho];exact jC
   ·have hie:i=l.length:=by
     by_cases e1:i=l.length
     ·exact e1
     ·have:=hah l.length (last i (by omega) hin l.length (by omega))
      try simp only at this
      rw [hv] at this;cases this
    subst hie;have hoo:o=ops[l.length]:=by rw [hos] at ho;cases ho;rfl
    have B0H:∀ (j:Nat) aj,l[j]?=A4 aj->listed.getD j A6=A6->Float1 s chk aj:=by
     intro j aj lZ hdj;refine D6O j aj lZ ?_;cases hb:((N7 ops).getD l.length 0).testBit j with
     | false=>rfl
     | true =>
      have:=hah j hb
      try simp only at this
      rw [hdj] at this;cases this
    have hlen:(hs l.length).length=(hs q).length:=by
     have hql:=S.qle;have:=vU D ht (q:=q) (l.length-q) (by omega) λk ak h1 h2 nP=>by
      cases hck:U6 ak.op with
      | false=>rfl
      | true =>
       have hd1:listed.getD k A6=A5:=by
        cases hd2:listed.getD k A6 with
        | true=>rfl
        | false=>have:=(B0H k ak nP hd2).call;rw [hck] at this;cases this
       have:=(S.calls k ak nP hck).1 hd1;omega
     rwa [show q+(l.length-q)=l.length by omega] at this
    have C3f:HD (hs l.length) (und l h.length λi=>listed.getD i A6) (hs q).length=hs l.length:=by
     refine vM (by rw [H4,hlen]) λid hid=>?_
     rw [H4] at hid;have hu:und l h.length (λi=>listed.getD i A6) id=A6:=by
      cases hu:und l h.length (λi=>listed.getD i A6) id with
      | false=>rfl
      | true =>
       obtain ⟨k,hk,ao,j,nP,hj,_⟩:=V6.1 hu;have:=(B0H k ao nP hk).slot;rw [hj] at this;cases this
     rw [sJ,if_pos ⟨hid,hu⟩]
    have hinv:=S.inv;rw [C3f] at hinv;have C2e:SEnv μ ((es l.length).keep s.reads) a:=by
     intro t;rw [Env.get_keep_mem];split
     ·rename_i lQ;by_cases hw:∃ (j:Nat) (aj:AOper),l[j]?=A4 aj/\aj.dst=A4 t
      ·obtain ⟨j,aj,lZ,hdj⟩:=hw;have hjl:=(List.getElem?_eq_some_iff.1 lZ).1;rw [oL D ht lZ hdj l.length hjl (D9x _)];refine S.envD j aj t lZ ?_ hdj;cases hd2:listed.getD j A6 with
       | true=>rfl
       | false =>
        obtain ⟨d,h5,h6,_⟩:=(B0H j aj lZ hd2).dst;rw [hdj] at h5;cases h5;exact absurd lQ h6
      ·have aK:∀ (j:Nat) (aj:AOper),l[j]?=A4 aj->aj.dst≠A4 t:=λj aj lZ hdj=>hw ⟨j,aj,lZ,hdj⟩
       rw [vJ ht he l.length (D9x _) λj aj _ lZ=>aK j aj lZ];exact S.envO t λj aj lZ _=>aK j aj lZ
     ·trivial
    have D6a:=B3C;rw [B5E (e':=(es l.length).keep s.reads) λt ht'=>by rw [Env.get_keep_mem,if_pos ht']] at D6a;unfold wpOp;rw [ho];subst hoo;refine A3I (hr:=hs l.length) (n0:=0) hE D7N D6a C2e hinv (λ_ _ h=>h) (by rw [D3l];trivial) ?_;intro V w' μ' gX hv' D7X aQ;rw [D3l] at aQ;have C9P:=O7 (listed:=listed) (i:=l.length) (by omega);refine main2 fuel (listed.setIfInBounds l.length A5) _ w' μ' (by simpa using hls) (by have:=B3U hin hls h3;omega) ?_ ?_ ?_ C6w ?_
    ·have:=congrFun C9P l.length
     try simp only at this
     rw [this];exact tD _ _
    ·intro k hk hkn;have:=congrFun C9P k
     try simp only at this
     rw [this,V1 _ _ (by omega)];exact bM k (by omega) hkn
    ·intro k ak nP hdk;have hkl:=(List.getElem?_eq_some_iff.1 nP).1;have:=congrFun C9P k
     try simp only at this
     rw [this,V1 _ _ (by omega)] at hdk;exact B0H k ak nP hdk
    ·have hsame:∀ k:Nat,k<l.length->(listed.setIfInBounds l.length A5).getD k A6=listed.getD k A6:=by
      intro k hkl;have:=congrFun C9P k
      try simp only at this
      rw [this,V1 _ _ (by omega)]
     refine ⟨?_,?_,?_,D7X,Mu.le_trans S.le gX,?_,by rw [Act.size_put];exact S.size,by rw [put_defers];exact S.defers⟩
     ·intro k ak d nP hdk hd;have hkl:=(List.getElem?_eq_some_iff.1 nP).1
      try simp only at hdk
      rw [hsame k hkl] at hdk;rw [A8x (by rw [C6B.1];exact λh=>C9Q k ak d nP h hd)];exact (S.envD k ak d nP hdk hd).mono gX
     ·intro t aK sI;rw [A8x (by rw [C6B.1];exact sI)];refine (S.envO t λk ak nP hdk=>aK k ak nP ?_).mono gX;have hkl:=(List.getElem?_eq_some_iff.1 nP).1
      try simp only
      rw [hsame k hkl];exact hdk
     ·intro d hd;rw [C6B.1,hd,B0G (by rw [<-hd,<-C6B.1];exact C6B.2) S.size];exact hv'
     ·intro id hid;rw [<-S.keep id hid];exact aQ id (by omega) λj hj=>by cases hj
 have hgd:∀ i:Nat,(Array.replicate ops.size A6).getD i A6=A6:=by intro i;simp [Array.getD]
 have D6P:(λi=>(Array.replicate ops.size A6).getD i A6)=λ_=>A6:=funext hgd
 refine main ops.size (Array.replicate ops.size A6) a _ 0 μ0 (by simp) ?_ (λj _ _=>hgd j) (λi o _ hd=>by rw [hgd] at hd;cases hd) ?_
 ·unfold left;exact D93 (E0m _ _) (by simp)
 ·rw [D6P];have D6T:HD (hs l.length) (und l h.length λ_=>A6) (hs 0).length=h++D9w m A7:=by
   rw [h0];refine vM (by rw [H4]) λid hid=>?_
   rw [H4] at hid;rw [sJ];by_cases ho:∃ i,A1a l h.length i id
   ·obtain ⟨i,ho⟩:=ho;have hu:und l h.length (λ_=>A6) id=A5:=V6.2 ⟨i,rfl,ho⟩;rw [hu];have:=A4h D ht h0 ho 0 (E0I _);rw [h0] at this;rw [this];simp
   ·have aK:∀ i,0<=i->¬ A1a l h.length i id:=λi _ hi=>ho ⟨i,hi⟩
    have hu:und l h.length (λ_=>A6) id=A6:=by
     cases hu:und l h.length (λ_=>A6) id with
     | false=>rfl
     | true=>obtain ⟨i,_,hi⟩:=V6.1 hu;exact absurd ⟨i,hi⟩ ho
    rw [if_pos ⟨hid,hu⟩];have:=mS D ht (k:=0) (id:=id) (by rw [h0];exact hid) aK l.length (by omega);rw [D9T,h0] at this;exact this
  refine ⟨E0I _,λi ao _ _=>⟨λh=>(by cases h),λh=>(by omega)⟩,λi ao d _ h=>(by cases h),λt _=>hs0 t,?_,λid hid=>?_,Mu.le_refl _,λ_ _=>rfl,hN,hd⟩
  ·rw [D6T];exact (hi.pad m).world rfl rfl rfl λ_ _=>rfl
  ·obtain ⟨i,_,ao,j,_,_,rfl⟩:=V6.1 hid;exact hi.dom _ (by omega)
def sw (k i:Nat):Nat:=if i=k then k+1 else if i=k+1 then k else i
def D0p (k i:Nat):sw k (sw k i)=i:=by unfold sw;split<;>(try split)<;>(try split)<;>omega
def D0o {k i n:Nat} (hk:k+1<n):sw k i<n↔i<n:=by unfold sw;split<;>(try split)<;>omega
def D7v {k i j:Nat} (h:sw k i=sw k j):i=j:=by rw [<-D0p k i,h,D0p]
def swO (k:Nat) (o:Oper):Oper:={ o with after:=o.after.map λe=>{ e with on:=sw k e.on },guard:=o.guard.map λg=>(sw k g.1,g.2) }
def swp (k:Nat) (ops:Array Oper):Array Oper:=((D90 ops.size).map λi=>swO k (ops.getD (sw k i) default)).toArray
def swp_size (k:Nat) (ops:Array Oper):(swp k ops).size=ops.size:=by simp [swp]
def C9k {k:Nat} {ops:Array Oper} (hk:k+1<ops.size) (i:Nat):(swp k ops)[sw k i]?=(ops[i]?).map (swO k):=by
 by_cases hi:i<ops.size
 ·have h1:sw k i<ops.size:=(D0o hk).2 hi;unfold swp;simp [h1,hi,D0p]
 ·have h1:¬ sw k i<ops.size:=λh=>hi ((D0o hk).1 h)
  rw [Array.getElem?_eq_none (by rw [swp_size];omega),Array.getElem?_eq_none (by omega)];rfl
def B7D (k:Nat) (o:Oper):V4 (swO k o)=(V4 o).map (sw k):=by
 unfold V4 swO;simp only [Array.toList_map];rw [List.filter_map,List.map_map,List.map_map]
 congr 1
def C9j {k:Nat} {ops:Array Oper} (hk:k+1<ops.size) (o:Oper) (t:Array Value):Region.wanted (swO k o) (yielded (swp k ops) t)=Region.wanted o (yielded ops t):=by
 unfold Region.wanted swO;cases hg:o.guard with
 | none=>rfl
 | some g =>
  obtain ⟨j,b⟩:=g;simp only [E0b];unfold yielded;rw [C9k hk];cases ops[j]?<;>rfl
def D5Y {P:Program} {k:Nat} {ops:Array Oper} (hk:k+1<ops.size) {Q:Exit->Act->World->Prop} {i:Nat} {a:Act} {w:World} {K:Act->World->Prop}:wpOp P (swp k ops) Q (sw k i) K a w=wpOp P ops Q i K a w:=by
 unfold wpOp;rw [C9k hk];cases hi:ops[i]? with
 | none=>rfl
 | some o =>
  simp only [E0b];rw [C9j hk];rfl
def C1f {k:Nat} {ops:Array Oper} (hk:k+1<ops.size) {l l':Array Bool} (hl:∀ i b,l'.getD (sw k i) b=l.getD i b) (i:Nat):sw k i∈Region.ready .any (swp k ops) l'↔i∈Region.ready .any ops l:=by
 rw [kW,kW,C9k hk];constructor
 ·rintro ⟨o',h1,h2,h3⟩;cases ho:ops[i]? with
  | none=>rw [ho] at h1;cases h1
  | some o =>
   rw [ho] at h1;cases h1;refine ⟨o,rfl,by rw [<-hl];exact h2,λp hp=>?_⟩;rw [<-hl];exact h3 _ (by rw [B7D];exact List.mem_map.2 ⟨p,hp,rfl⟩)
 ·rintro ⟨o,h1,h2,h3⟩;refine ⟨swO k o,by rw [h1];rfl,by rw [hl];exact h2,λp hp=>?_⟩;rw [B7D] at hp;obtain ⟨q,hq,rfl⟩:=List.mem_map.1 hp;rw [hl];exact h3 q hq
def C47 {k:Nat} {ops:Array Oper} (hk:k+1<ops.size) {l l':Array Bool} (hl:∀ i b,l'.getD (sw k i) b=l.getD i b) (h:Region.ready .any ops l=[]):Region.ready .any (swp k ops) l'=[]:=by
 rw [List.eq_nil_iff_forall_not_mem];intro i hi;have:=(C1f hk hl (sw k i)).1 (by rw [D0p];exact hi);rw [h] at this;cases this
def C7P {P:Program} {k:Nat} {ops:Array Oper} (hk:k+1<ops.size) {Q:Exit->Act->World->Prop}:∀ (fuel:Nat) (l l':Array Bool) (a:Act) (w:World),l.size=ops.size->l'.size=ops.size->(∀ i b,l'.getD (sw k i) b=l.getD i b) ->
  wpAny P .any (swp k ops) Q fuel l' a w->wpAny P .any ops Q fuel l a w
 | 0,l,l',a,w,s1,s2,hl,h=>by
  refine ⟨?_,h.2⟩;rw [List.eq_nil_iff_forall_not_mem];intro i hi;have:=(C1f hk hl i).2 hi;rw [h.1] at this;cases this
 | fuel+1,l,l',a,w,s1,s2,hl,h=>by
  refine ⟨λhe=>h.1 (C47 hk hl he),λi hi=>?_⟩;have h1:=h.2 (sw k i) ((C1f hk hl i).2 hi);rw [D5Y hk] at h1;have T1:i<ops.size:=by
   obtain ⟨o,ho,_⟩:=kW.1 hi;exact (Array.getElem?_eq_some_iff.1 ho).1
  have D8O:sw k i<l'.size:=by rw [s2];exact (D0o hk).2 T1
  refine wpOp_mono (λa w hh=>C7P hk fuel _ _ a w (by simpa using s1) (by simpa using s2) (λj b=>?_) hh) h1;by_cases e:j=i
  ·subst e;simp [Array.getD,D8O,show j<l.size by omega]
  ·have e2:sw k j≠sw k i:=λh=>e (D7v h)
   rw [Array.getD_eq_getD_getElem?,Array.getD_eq_getD_getElem?,Array.getElem?_setIfInBounds_ne (Ne.symm e2),Array.getElem?_setIfInBounds_ne (Ne.symm e),<-Array.getD_eq_getD_getElem?,<-Array.getD_eq_getD_getElem?];exact hl j b
def D2U {P:Program} {N L:Nat} {ops:Array Oper} {m id:Nat} {l r:List AOper} {s:AOper} {chk:List (Nat × AOp)} {E:J9} (hE:dR P E) {e:Env} {h:A9} {R:Type} {k:Env->A9->Option R} {res:R}
  (hc:(yW P N ops m l (s::r)&&D0H ops l s chk r)=A5\/(decide (l.length<ops.size)&&decide (0<l.length)&&yW P N (swp (l.length-1) ops) m l (s::r)&&D0H (swp (l.length-1) ops) l s chk r)=A5) (hL:L<=h.length)
  (C7:B0s E h h.length l e (h++D9w m A7) (λe h=>U0 E A6 h 0 s e h λv h2=>again chk e h2 (A71 E r (e.put s.dst v) h2 k))=A4 res) :
  ∃ e' h',k e' h'=A4 res/\L<=h'.length/\A9j P N L ((Code.region id ops A5).wp P) e h .normal e' h':=by
 rcases hc with hc | hc
 ·rw [D9v] at hc;obtain ⟨e',h',h1,h2,h3⟩:=C28 hE hc.1 hc.2 hL C7;exact ⟨e',h',h1,h2,fun Γ μ0 a w g1 g2 g3 g4 Q hq=>wp_region_any (A5p hc.1).follows (h3 Γ μ0 a w g1 g2 g3 g4 Q hq)⟩
 ·simp only [D9v,decide_eq_true_eq] at hc;obtain ⟨⟨⟨hs,h0⟩,hc⟩,hcs⟩:=hc;obtain ⟨e',h',h1,h2,h3⟩:=C28 hE hc hcs hL C7;refine ⟨e',h',h1,h2,fun Γ μ0 a w g1 g2 g3 g4 Q hq=>wp_region_any (A5p hc).follows ?_⟩;have hk:l.length-1+1<ops.size:=by omega
  refine C7P hk _ _ (Array.replicate ops.size A6) a _ (by simp) (by simp) (λi b=>?_) ?_
  ·simp only [Array.getD,Array.size_replicate,D0o hk];split<;>simp
  ·have:=h3 Γ μ0 a w g1 g2 g3 g4 Q hq;simpa only [swp_size] using this
def B5O (P:Program) (N:Nat) (ops:Array Oper):List Oper->List AOper->Bool
 | [],[]=>A5
 | o::r,a::l=>W9 P N ops o a&&decide (a.slot=A7)&&B5O P N ops r l
 | _,_=>A6
def V3 (P:Program) (N:Nat):Code->ACode->Bool
 | c,.skip=>(match c with | .skip=>A5 | _=>A6)
 | c,.ops l=>(match c with | .region _ ops false=>B5O P N ops ops.toList l | _=>A6)
 | c,.draw m l r=>(match c with | .region _ ops true=>yW P N ops m l r&&B3p ops l.length r.length | _=>A6)
 | c,.drawS m l s chk r=>(match c with | .region _ ops true=>(yW P N ops m l (s::r)&&D0H ops l s chk r)||(decide (l.length<ops.size)&&decide (0<l.length)&&yW P N (swp (l.length-1) ops) m l (s::r)&&D0H (swp (l.length-1) ops) l s chk r) | _=>A6)
 | c,.seq _ a b=>(match c with | .seq x y=>V3 P N x a&&V3 P N y b | _=>A6)
 | c,.cond q a b=>(match c with | .cond z x y=>D6 z q&&V3 P N x a&&V3 P N y b | _=>A6)
 | c,.block id a=>(match c with | .block bQ x=>decide (bQ=id)&&V3 P N x a | _=>A6)
 | c,.loop _ a=>(match c with | .loop x=>V3 P N x a | _=>A6)
 | c,.exit id=>(match c with | .exit bQ=>decide (bQ=id) | _=>A6)
 | c,.ret=>(match c with | .ret=>A5 | _=>A6)
def Z8 (P:Program):List ResultVar->List ARes->Bool
 | [],[]=>A5
 | .tmp t::r,.tmp t'::l=>decide (t=t')&&Z8 P r l
 | .cell t ty::r,.cell1 t'::l=>decide (t=t')&&decide (iQ P ty=A4 A6)&&Z8 P r l
 | .cell t ty::r,.cellN t' n::l=>decide (t=t')&&decide (iQ P ty=A4 A5)&&decide (O2 P ty=A4 n)&&Z8 P r l
 | _,_=>A6
def B91 (P:Program) (fn:Func) (f:AFn):Bool :=
 (match fn.body with | some c => V3 P fn.ntmps c f.code | none => false) && Z8 P fn.results.toList f.res && !(fn.name == "runtime.NumGoroutine")
section
variable {P:Program} {R:Type}
def C23 {N:Nat} {ops:Array Oper}:∀ (pre:List Oper) (os:List Oper) (aos:List AOper),ops.toList=pre++os->B5O P N ops os aos=A5 ->
  All2 (λi ao=>∃ o,ops[i]?=A4 o/\W9 P N ops o ao=A5/\ao.slot=A7) (E0g pre.length os.length) aos
 | pre,[],[],_,_=>trivial
 | pre,o::os,ao::aos,he,hc=>by
  simp only [B5O,D9v,decide_eq_true_eq] at hc;rw [D9G,List.range'_succ];refine ⟨⟨o,?_,hc.1.1,hc.1.2⟩,?_⟩
  ·rw [<-Array.getElem?_toList,he];simp
  ·have:=C23 (pre++[o]) os aos (by rw [he];simp) hc.2;simpa using this
 | _,[],_::_,_,h=>by simp [B5O] at h
 | _,_::_,[],_,h=>by simp [B5O] at h
def C7W {N L:Nat} {E:J9} (hE:dR P E) (n:Nat):∀ (ac:ACode) (c:Code) (k:AExit->Env->A9->Option R) (e:Env) (h:A9) (r:R),
  V3 P N c ac=A5->aex E n ac k e h=A4 r->L<=h.length->∃ x e' h',k x e' h'=A4 r/\L<=h'.length/\A9j P N L (c.wp P) e h x e' h':=by
 intro ac
 induction ac with
 | skip =>
  intro c k e h r hc C7 hL;unfold V3 at hc;split at hc
  ·exact ⟨.normal,e,h,C7,hL,fun Γ μ a w hs hi hN hd Q hq=>wp_skip (hq μ a w (Mu.le_refl _) (λ_ _=>rfl) hs hi hN hd)⟩
  ·cases hc
 | ops l =>
  intro c k e h r hc C7 hL;unfold V3 at hc;split at hc
  ·rename_i id ops;simp only [aex,D4j] at C7;obtain ⟨e',h',hk,hL',sI⟩:=B8E hE _ l e h _ r (C23 [] ops.toList l rfl hc) C7 hL;refine ⟨.normal,e',h',hk,hL',fun Γ μ a w hs hi hN hd Q hq=>wp_region ?_⟩;have:=sI Γ μ a w hs hi hN hd Q hq;simpa [List.range_eq_range'] using this
  ·cases hc
 | draw m l r' =>
  intro c k e h r hc C7 hL;unfold V3 at hc;split at hc
  ·rename_i id ops;simp only [aex,C9d] at C7;rw [D9v] at hc;obtain ⟨e',h',hk,hL',sI⟩:=D44 (id:=id) hE hc.1 hc.2 hL C7;exact ⟨.normal,e',h',hk,hL',sI⟩
  ·cases hc
 | drawS m l s chk r' =>
  intro c k e h r hc C7 hL;unfold V3 at hc;split at hc
  ·rename_i id ops;simp only [aex,C5b] at C7;obtain ⟨e',h',hk,hL',sI⟩:=D2U (id:=id) hE (by simpa only [E0y] using hc) hL C7;exact ⟨.normal,e',h',hk,hL',sI⟩
  ·cases hc
 | seq keep a b iha ihb =>
  intro c k e h r hc C7 hL;unfold V3 at hc;split at hc
  ·rename_i x y;simp only [D9v] at hc;simp only [aex,C7B,D5h] at C7;obtain ⟨x1,e1,h1,hk1,hL1,A6O⟩:=iha x _ e h r hc.1 C7 hL;cases x1 with
   | normal =>
    change hold (aex E n b k (e1.keep keep) h1)=A4 r at hk1;simp only [hold] at hk1;obtain ⟨x2,e2,h2,hk2,hL2,D6W⟩:=ihb y k (e1.keep keep) h1 r hc.2 hk1 hL1;refine ⟨x2,e2,h2,hk2,hL2,fun Γ μ a w hs hi hN hd Q hq=>wp_seq (A6O Γ μ a w hs hi hN hd _ ?_)⟩;intro μ1 a1 w1 g1 g2 g3 g4 g5 g6;exact D6W Γ μ1 a1 w1 (g3.keep keep) g4 g5 g6 Q fun μ2 a2 w2 f1 f2 f3 f4 f5 f6=>hq μ2 a2 w2 (Mu.le_trans g1 f1) (λid hid=>(f2 id hid).trans (g2 id hid)) f3 f4 f5 f6
   | exit id=>exact ⟨.exit id,e1,h1,hk1,hL1,fun Γ μ a w hs hi hN hd Q hq=>wp_seq (A6O Γ μ a w hs hi hN hd _ hq)⟩
   | ret=>exact ⟨.ret,e1,h1,hk1,hL1,fun Γ μ a w hs hi hN hd Q hq=>wp_seq (A6O Γ μ a w hs hi hN hd _ hq)⟩
  ·cases hc
 | cond q a b iha ihb =>
  intro c k e h r hc C7 hL;unfold V3 at hc;split at hc
  ·rename_i z x y;simp only [D9v] at hc;simp only [aex,C1m,cnd] at C7;split at C7
   ·rename_i t uR;have hz:∀ {μ:Mu} {a:Act},SEnv μ e a->a.eval z=.bool t:=by
     intro μ a hs;have:RV μ _ _:=C5 hc.1.1 hs;rw [uR] at this;exact this
    cases t with
    | true =>
     obtain ⟨x1,e1,h1,hk1,hL1,A6O⟩:=iha x k e h r hc.1.2 C7 hL;exact ⟨x1,e1,h1,hk1,hL1,fun Γ μ a w hs hi hN hd Q hq=>wp_cond_true (hz hs) (A6O Γ μ a w hs hi hN hd Q hq)⟩
    | false =>
     obtain ⟨x1,e1,h1,hk1,hL1,A6O⟩:=ihb y k e h r hc.2 C7 hL;exact ⟨x1,e1,h1,hk1,hL1,fun Γ μ a w hs hi hN hd Q hq=>wp_cond_false (hz hs) (A6O Γ μ a w hs hi hN hd Q hq)⟩
   ·cases C7
  ·cases hc
 | block id a iha =>
  intro c k e h r hc C7 hL;unfold V3 at hc;split at hc
  ·rename_i bQ x;simp only [D9v,decide_eq_true_eq] at hc;obtain ⟨rfl,hc⟩:=hc;simp only [aex,B4r,C8E] at C7;obtain ⟨x1,e1,h1,hk1,hL1,A6O⟩:=iha x _ e h r hc C7 hL;cases x1 with
   | normal=>exact ⟨.normal,e1,h1,hk1,hL1,fun Γ μ a w hs hi hN hd Q hq=>wp_block (A6O Γ μ a w hs hi hN hd _ hq)⟩
   | exit i =>
    change (bif Nat.beq i bQ then k .normal e1 h1 else k (.exit i) e1 h1)=A4 r at hk1;cases hb:Nat.beq i bQ with
    | true =>
     rw [hb] at hk1;have hi':=Nat.eq_of_beq_eq_true hb;subst hi';exact ⟨.normal,e1,h1,hk1,hL1,fun Γ μ a w hs hi hN hd Q hq=>wp_block (A6O Γ μ a w hs hi hN hd _ fun μ1 a1 w1 g1 g2 g3 g4 g5 g6=>by
      show (if i=i then Q .normal a1 w1 else _);rw [if_pos rfl];exact hq μ1 a1 w1 g1 g2 g3 g4 g5 g6)⟩
    | false =>
     rw [hb] at hk1;have Z5:i≠bQ:=by intro e;subst e;simp at hb
     exact ⟨.exit i,e1,h1,hk1,hL1,fun Γ μ a w hs hi hN hd Q hq=>wp_block (A6O Γ μ a w hs hi hN hd _ fun μ1 a1 w1 g1 g2 g3 g4 g5 g6=>by
      show (if i=bQ then _ else Q (.exit i) a1 w1);rw [if_neg Z5];exact hq μ1 a1 w1 g1 g2 g3 g4 g5 g6)⟩
   | ret=>exact ⟨.ret,e1,h1,hk1,hL1,fun Γ μ a w hs hi hN hd Q hq=>wp_block (A6O Γ μ a w hs hi hN hd _ hq)⟩
  ·cases hc
 | loop keep a iha =>
  intro c k e h r hc C7 hL;unfold V3 at hc;split at hc
  ·rename_i x;simp only [aex,C1n] at C7;have key:∀ (m:Nat) (e:Env) (h:A9),A5m (aex E n a) keep k m e h=A4 r->L<=h.length ->
     ∃ x1 e' h',k x1 e' h'=A4 r/\L<=h'.length/\A9j P N L (λQ=>Code.rounds P x Q m) e h x1 e' h':=by
    intro m
    induction m with
    | zero=>intro e h C7;rw [B60] at C7;cases C7
    | succ m ih =>
     intro e h C7 hL;rw [B6Z] at C7;obtain ⟨x1,e1,h1,hk1,hL1,A6O⟩:=iha x _ e h r hc C7 hL;cases x1 with
     | normal =>
      simp only at hk1;obtain ⟨x2,e2,h2,hk2,hL2,D6W⟩:=ih (e1.keep keep) h1 hk1 hL1;refine ⟨x2,e2,h2,hk2,hL2,fun Γ μ a w hs hi hN hd Q hq=>?_⟩;show Code.rounds P x Q (m+1) a w;rw [rounds_succ];refine A6O Γ μ a w hs hi hN hd _ ?_;intro μ1 a1 w1 g1 g2 g3 g4 g5 g6;exact D6W Γ μ1 a1 w1 (g3.keep keep) g4 g5 g6 Q fun μ2 a2 w2 f1 f2 f3 f4 f5 f6=>hq μ2 a2 w2 (Mu.le_trans g1 f1) (λid hid=>(f2 id hid).trans (g2 id hid)) f3 f4 f5 f6
     | exit id=>exact ⟨.exit id,e1,h1,hk1,hL1,fun Γ μ a w hs hi hN hd Q hq=>by
       show Code.rounds P x Q (m+1) a w;rw [rounds_succ];exact A6O Γ μ a w hs hi hN hd _ hq⟩
     | ret=>exact ⟨.ret,e1,h1,hk1,hL1,fun Γ μ a w hs hi hN hd Q hq=>by
       show Code.rounds P x Q (m+1) a w;rw [rounds_succ];exact A6O Γ μ a w hs hi hN hd _ hq⟩
   obtain ⟨x1,e1,h1,hk1,hL1,A6O⟩:=key n (e.keep keep) h C7 hL;exact ⟨x1,e1,h1,hk1,hL1,fun Γ μ a w hs hi hN hd Q hq=>wp_loop_rounds n (A6O Γ μ a w (hs.keep keep) hi hN hd Q hq)⟩
  ·cases hc
 | exit id =>
  intro c k e h r hc C7 hL;unfold V3 at hc;split at hc
  ·simp at hc;subst hc;exact ⟨.exit _,e,h,C7,hL,fun Γ μ a w hs hi hN hd Q hq=>wp_exit (hq μ a w (Mu.le_refl _) (λ_ _=>rfl) hs hi hN hd)⟩
  ·cases hc
 | ret =>
  intro c k e h r hc C7 hL;unfold V3 at hc;split at hc
  ·exact ⟨.ret,e,h,C7,hL,fun Γ μ a w hs hi hN hd Q hq=>wp_ret (hq μ a w (Mu.le_refl _) (λ_ _=>rfl) hs hi hN hd)⟩
  ·cases hc
def A83 (tmps:Array Value):ResultVar->Sem Value
 | .tmp t=>pure (tmps.getD t undef)
 | .cell a t=>do loadVar t (<-asAddr (tmps.getD a undef))
def C3v {Γ:Ctx} {μ:Mu} {e:Env} {h:A9} {a:Act} {w:World} {q:ResultVar} {q':ARes} {v:Val} (hs:SEnv μ e a) (hi:Inv Γ μ h w) (hc:Z8 P [q] [q']=A5) (hv:D0z e h q'=A4 v) :
  ∃ V,(A83 a.tmps q).run P w=.ok V w/\RV μ v V:=by
 cases q with
 | tmp t =>
  cases q' with
  | tmp t' =>
   simp [Z8] at hc;subst hc;simp [D0z] at hv;subst hv;exact ⟨_,rfl,hs t⟩
  | cell1 t'=>simp [Z8] at hc
  | cellN t' n=>simp [Z8] at hc
 | cell t ty =>
  cases q' with
  | tmp t'=>simp [Z8] at hc
  | cell1 t' =>
   simp [Z8] at hc;obtain ⟨rfl,mO⟩:=hc;simp only [D0z] at hv;obtain ⟨V,h1,h2⟩:=C3F (P:=P) (w:=w) mO hi.rows (hs t) hv;refine ⟨V,?_,h2⟩;rw [<-h1];have:∃ b,a.tmps.getD t undef=.pointer (A4 b):=by
    unfold B8 at hv;split at hv
    ·rename_i uR;have:=hs t;rw [uR] at this;obtain ⟨b,n,_,h3⟩:=this;exact ⟨_,h3⟩
    ·cases hv
   obtain ⟨b,hb⟩:=this;simp only [A83,hb,Instr.loadAt,asAddr,Instr.sureAddr,pure_bind]
  | cellN t' n =>
   simp [Z8] at hc;obtain ⟨⟨rfl,mO⟩,hsz⟩:=hc;simp only [D0z] at hv;obtain ⟨V,h1,h2⟩:=C3G (P:=P) (w:=w) mO hsz hi.rows (hs t) hv;refine ⟨V,?_,h2⟩;rw [<-h1];have:∃ b,a.tmps.getD t undef=.pointer (A4 b):=by
    unfold D3 at hv;split at hv
    ·rename_i uR;have:=hs t;rw [uR] at this;obtain ⟨b,n,_,h3⟩:=this;exact ⟨_,h3⟩
    ·cases hv
   obtain ⟨b,hb⟩:=this;simp only [A83,hb,Instr.loadAt,asAddr,Instr.sureAddr,pure_bind]
def B68 {q:ResultVar} {r:List ResultVar} {q':ARes} {l:List ARes} (h:Z8 P (q::r) (q'::l)=A5):Z8 P [q] [q']=A5/\Z8 P r l=A5:=by
 cases q<;>cases q'<;>simp_all [Z8]
def C2O {Γ:Ctx} {μ:Mu} {e:Env} {h:A9} {a:Act} {w:World} (hs:SEnv μ e a) (hi:Inv Γ μ h w):∀ {qs:List ResultVar} {ls:List ARes} {ps:List Part},Z8 P qs ls=A5->B6Y e h ls=A4 ps ->
  ∃ Vs:List Value,(qs.mapM (A83 a.tmps)).run P w=.ok Vs w/\All2 (RP μ) ps Vs
 | [],[],ps,_,hv=>by simp [B6Y] at hv;subst hv;exact ⟨[],rfl,trivial⟩
 | q::qs,q'::ls,ps,hc,hv=>by
  simp only [B6Y,D9t,D9J] at hv;obtain ⟨v,hv1,p,hp,l,hl,rfl⟩:=hv;obtain ⟨h1,h2⟩:=B68 hc;obtain ⟨V,h3,h4⟩:=C3v hs hi h1 hv1;obtain ⟨Vs,h5,h6⟩:=C2O hs hi h2 hl;refine ⟨V::Vs,?_,RP.ofVal h4 hp,h6⟩;rw [List.mapM_cons];simp [h3,h5]
 | [],_::_,_,h,_=>by simp [Z8] at h
 | _::_,[],_,h,_=>by simp [Z8] at h
def C7i {fn:Func} {tmps:Array Value} {w:World}:(results fn tmps).run P w=((fn.results.toList.mapM (A83 tmps)).run P w).andThen λvs w=>.ok (if h:vs.toArray.size=1 then vs.toArray[0] else .tuple vs.toArray) w:=by
 unfold results;rw [Array.mapM_eq_mapM_toList];simp only [Sem.run_bind,Sem.run_map];have key:∀ g:ResultVar->Sem Value,(∀ q,g q=A83 tmps q)->((((List.mapM g fn.results.toList).run P w).andThen λa w'=>Result.ok a.toArray w').andThen λa w'=>(pure (if h:a.size=1 then a[0] else Value.tuple a):Sem Value).run P w') =
   ((fn.results.toList.mapM (A83 tmps)).run P w).andThen λvs w=>.ok (if h:vs.toArray.size=1 then vs.toArray[0] else .tuple vs.toArray) w:=by
  intro g hg;rw [funext hg];cases (fn.results.toList.mapM (A83 tmps)).run P w<;>rfl
 exact key _ λq=>by cases q<;>rfl
def B1G {Γ:Ctx} {μ:Mu} {e:Env} {h h':A9} {a:Act} {w:World} {fn:Func} {rs:List ARes} {v:Val} (hs:SEnv μ e a) (hi:Inv Γ μ h w) (hc:Z8 P fn.results.toList rs=A5) (hv:kD rs e h=A4 (v,h')) :
  ∃ V,(results fn a.tmps).run P w=.ok V w/\RV μ v V/\h'=h:=by
 rw [C7i];unfold kD at hv;split at hv
 ·rename_i q';simp only [D9J,D9D] at hv;obtain ⟨_,h1,rfl,rfl⟩:=hv;cases hq:fn.results.toList with
  | nil=>rw [hq] at hc;simp [Z8] at hc
  | cons q r =>
   cases r with
   | cons q2 r=>rw [hq] at hc;have:=(B68 hc).2;simp [Z8] at this
   | nil =>
    rw [hq] at hc;obtain ⟨V,h3,h4⟩:=C3v hs hi hc h1;refine ⟨V,?_,h4,rfl⟩;rw [List.mapM_cons];simp [h3]
 ·rename_i Z5;simp only [D9J,D9D] at hv;obtain ⟨l,h1,rfl,rfl⟩:=hv;obtain ⟨Vs,h3,h4⟩:=C2O hs hi hc h1;refine ⟨.tuple Vs.toArray,?_,⟨Vs,rfl,h4⟩,rfl⟩;rw [h3];have hl:Vs.length≠1:=by
   rw [<-h4.length];intro h0;have:∀ (ls:List ARes) (ps:List Part),B6Y e h ls=A4 ps->ls.length=ps.length:=by
    intro ls
    induction ls with
    | nil=>intro ps h;simp [B6Y] at h;subst h;rfl
    | cons x r ih =>
     intro ps h;simp only [B6Y,D9t,D9J] at h;obtain ⟨_,_,_,_,l',hl',rfl⟩:=h;simp [ih l' hl']
   have h5:=this _ _ h1;rw [h0] at h5;cases rs with
   | nil=>simp at h5
   | cons q r =>
    cases r with
    | nil=>exact Z5 q rfl
    | cons _ _=>simp at h5
  simp [hl]
def C08:∀ (args:List Val) (i t:Nat),(params i args).get t=if i<=t then (args[t-i]?).getD .un else .un
 | [],i,t=>by simp [params,Env.get]
 | v::r,i,t=>by
  simp only [params,Env.get];by_cases h:i=t
  ·subst h;simp
  ·have hb:Nat.beq i t=A6:=by cases hb:Nat.beq i t with
    | false=>rfl
    | true=>exact absurd (Nat.eq_of_beq_eq_true hb) h
   rw [hb,cond_false,C08 r (i+1) t];by_cases h2:i<=t
   ·have:t-i=(t-(i+1))+1:=by omega
    rw [if_pos h2,if_pos (by omega),this,D9Z]
   ·rw [if_neg h2,if_neg (by omega)]
def Inv.ds {Γ:Ctx} {μ:Mu} {h:A9} {w:World} (ds:List Deferred) (hi:Inv Γ μ h w):Inv { Γ with ds:=ds } μ h w :=
 ⟨hi.rows,hi.sep,hi.own,hi.dom,⟨hi.ctx.os,hi.ctx.tape,hi.ctx.output,hi.ctx.block⟩⟩
def C5I {μ:Mu} {args:List Val} {V:List Value} (hargs:All2 (RV μ) args V) (n:Nat):SEnv μ (params 0 args) { tmps:=V.toArray++Array.replicate n undef,defers:=[] }:=by
 intro t;rw [C08];simp only [E0I,if_true,Nat.sub_zero];cases ha:args[t]? with
 | none=>trivial
 | some x =>
  obtain ⟨X,h2,h3⟩:=hargs.get t x ha;have T1:=(List.getElem?_eq_some_iff.1 h2).1;have:(V.toArray++Array.replicate n undef).getD t undef=X:=by
   rw [Array.getD_eq_getD_getElem?,Array.getElem?_append_left (by simpa using T1)];simp [h2]
  rw [this];exact h3
def D55 {E:J9} (hE:dR P E) {f:FuncId} {fn:Func} {af:AFn} (hf:P.funcs[f]?=A4 fn) (hc:B91 P fn af=A5) {n:Nat} {args:List Val} {h h':A9} {v:Val} (C7:af.run E n args h=A4 (v,h')) :
  iD P f/\h.length<=h'.length/\∃ c,fn.body=A4 c/\∀ (Γ:Ctx) (μ:Mu) (w:World) (V:List Value),Inv Γ μ h w->All2 (RV μ) args V ->
   c.wp P (bodyPost P fn λe w'=>∃ V' μ',e=.returned V' /\ μ.le μ'/\RV μ' v V'/\Inv Γ μ' h' w'/\∀ id,id<h.length -> μ' id = μ id) { tmps:=V.toArray++Array.replicate (fn.ntmps-V.toArray.size) undef,defers:=[] } w:=by
 simp only [B91,D9v,E0e] at hc;obtain ⟨⟨hb,hr⟩,C6y⟩:=hc;cases B7m:fn.body with
 | none=>rw [B7m] at hb;cases hb
 | some c =>
  rw [B7m] at hb;unfold AFn.run at C7;obtain ⟨x,e',h1,hk,hL,sI⟩:=C7W (L:=h.length) hE n af.code c af.fin (params 0 args) h (v,h') hb C7 (D9x _);have hlen:h.length<=h'.length:=by
   cases x with
   | normal=>simp only [AFn.fin] at hk;unfold kD at hk;split at hk<;>simp at hk<;>obtain ⟨_,_,_,rfl⟩:=hk<;>exact hL
   | ret=>simp only [AFn.fin] at hk;unfold kD at hk;split at hk<;>simp at hk<;>obtain ⟨_,_,_,rfl⟩:=hk<;>exact hL
   | exit=>simp [AFn.fin] at hk
  refine ⟨⟨fn,hf,C6y,by simp [B7m]⟩,hlen,c,rfl,?_⟩;intro Γ μ w V hi hargs;refine sI { Γ with ds:=[] } μ _ w (C5I hargs _) (hi.ds []) ?_ rfl _ ?_
  ·simp;omega
  ·intro μ' a' w' g1 g2 g3 g4 g5 g6;have fin:∀ hk:kD af.res e' h1=A4 (v,h'),a'.defers=[]/\∃ v_1,(results fn a'.tmps).run P w'=.ok v_1 w'/\∃ V' μ',Ending.returned v_1=.returned V' /\ μ.le μ'/\RV μ' v V'/\Inv Γ μ' h' w'/\∀ id,id<h.length -> μ' id = μ id:=by
    intro hk;obtain ⟨V',h2,h3,h4⟩:=B1G g3 g4 hr hk;subst h4;exact ⟨g6,V',h2,V',μ',rfl,g1,h3,g4.ds Γ.ds,g2⟩
   cases x with
   | normal=>exact fin hk
   | ret=>exact fin hk
   | exit=>simp [AFn.fin] at hk
def D7I {E:J9} (hE:dR P E) {f:FuncId} {fn:Func} {af:AFn} (hf:P.funcs[f]?=A4 fn) (hc:B91 P fn af=A5) {n:Nat} {args:List Val} {h h':A9} {v:Val} (C7:af.run E n args h=A4 (v,h')) :
  iD P f/\CallOk P f args h v h'/\h.length<=h'.length:=by
 obtain ⟨h1,h2,c,hb,hw⟩:=D55 hE hf hc C7;exact ⟨h1,fun Γ μ w V hi hargs=>calls_of_wp hf hb (hw Γ μ w V hi hargs),h2⟩
end
end Go.Esc
namespace Go.Esc
open Go Go.ChangeShapes Go.WideShapes Go.ChangeAt Go.RowKit
def C0b (W:World):Ctx:=⟨λb=>W.heap[b]?,W.os,W.tape,W.output,[]⟩
def C4l {W w:World} (h:(C0b W).ok w):Below W.heap.size W w:=by
 have hb:∀ k,k<W.heap.size->w.heap[k]?=W.heap[k]? := by
  intro k hk;have e:W.heap[k]?=A4 W.heap[k]:=by simp [hk]
  rw [e];exact h.block k _ e
 refine ⟨h.os,h.tape,h.output,?_,hb⟩;rcases Nat.eq_zero_or_pos W.heap.size with h0 | h0
 ·omega
 ·have:=hb (W.heap.size-1) (by omega);have e:W.heap[W.heap.size-1]?=A4 (W.heap[W.heap.size-1]'(by omega)):=by simp
  rw [e] at this;have:=(Array.getElem?_eq_some_iff.1 this).1;omega
def C2h {W w:World} {may:MemPlace->Prop} (h:Below W.heap.size W w):W.keptBut w may:=by
 refine ⟨h.os,h.output,λi hi=>?_⟩;rw [h.block i hi];cases W.heap[i]? with
 | none=>rfl
 | some o=>cases o<;>simp
section
variable {H:Type} {enc:TypeId × Value->H} {P:Program}
def C2T (hl:laidOutB P=A5) {W W':World} (hb:Below W.heap.size W W'):∀ {ts:List TypeId} {vs:List Value} {ds:List (DataW H)} {ps:List MemPlace},
  (∀ t∈ts,P.readableRec t=A5/\t<P.types.size)->(∀ x∈ps,x.block<W.heap.size)->DataW.TrodAll enc P W 0 (λ_=>A5) A5 ts vs ds ps->DataW.TrodAll enc P W' 0 (λb=>decide (b<W.heap.size)) A5 ts vs ds ps
 | [],[],[],_,_,_,h=>h
 | t::ts,v::vs,d::ds,_,hts,T1,⟨p,q,h1,h2,e⟩=>by
  subst e;exact ⟨p,q,Below.trod hl (hts t (by simp)).1 (hts t (by simp)).2 h1 hb (λx hx=>T1 x (List.mem_append_left _ hx)),C2T hl hb (λt ht=>hts t (by simp [ht])) (λx hx=>T1 x (List.mem_append_right _ hx)) h2,rfl⟩
 | [],_::_,_,_,_,_,h=>by cases h
 | [],[],_::_,_,_,_,h=>by cases h
 | _::_,[],_,_,_,_,h=>by cases h
 | _::_,_::_,[],_,_,_,h=>by cases h
def D1y {f:Func} {s:ChangeSpec} {apart:Bool} {tb:TypeId} {W W':World} {args:Array Value} {ds gs:List (DataW H)} {before:List MemPlace}
  (hl:laidOutB P=A5) (hts:∀ t∈f.params.toList,P.readableRec t=A5/\t<P.types.size) (hr:f.resultTypes = #[tb]) (hb:P.underlying tb=A4 .bool) (hv:s.vars=[])
  (hs:∀ ds:List (DataW H),ds.length=f.params.toList.length->s.fn H ds={ results:=[.lit (.bool A5)],args:=ds })
  (hW:DataW.Whole enc P f.params.toList s.vars apart W args.toList ds gs before) (hB:Below W.heap.size W W') :
  s.post enc P f apart A5 A6 A6 W args (.bool A5) W':=by
 have T1:=hW.lt;obtain ⟨p,q,h1,h2,h3,h4,h5⟩:=id hW;rw [hv] at h2;obtain ⟨rfl,rfl⟩:=trodVars_none h2;rw [D9Q] at h3;subst h3;have hd:ds.length=f.params.toList.length:=(trodAll_length h1).2;have hfn:s.fn H (ds++[])={ results:=[.lit (.bool A5)],args:=ds }:=by rw [D9Q];exact hs ds hd
 refine ⟨ds,[],before,[],before,[],hW,?_,?_,?_,World.keptBut_mono (λ_ h=>h) (C2h hB),λh=>by cases h⟩
 ·rw [hfn,hr];exact trodAll_mk1 (shut_bool hb A5)
 ·rw [hfn];exact C2T hl hB hts T1 h1
 ·rw [hfn,hv];exact rfl
end
def D30 {C:Checked} {os:Os} {H:Type} {enc:TypeId × Value->H} {f:FuncId} {fn:Func} {s:ChangeSpec} {conds:List PathCond} {tb:TypeId}
  (own:ownKnob C.prog.godebug=A7) (started:os.Started) (D7b:C.prog.inits.idxOf? f=A7) (hfn:C.prog.funcs[f]?=A4 fn)
  (witness:∃ (w:World) (tape:Tape) (i:Input),w.os=os/\(w.forCall tape i).Shaped C.prog/\i.vars=[]/\Input.okWide C.prog (w.forCall tape i) .any w.heap.size f i /\
   s.pre6 enc C.prog fn conds A6 (w.forCall tape i).memory i.args/\Assume.holds {} C.prog (lone (Frame.enter C.prog f i.args .normal) [] (w.forCall tape i)))
  (hl:laidOutB C.prog=A5) (hts:∀ t∈fn.params.toList,C.prog.readableRec t=A5/\t<C.prog.types.size) (hr:fn.resultTypes = #[tb]) (hb:C.prog.underlying tb=A4 .bool) (hv:s.vars=[])
  (hs:∀ ds:List (DataW H),ds.length=fn.params.toList.length->s.fn H ds={ results:=[.lit (.bool A5)],args:=ds })
  (walk:∀ (W:World) (base:Nat) (args:Array Value) (ds:List (DataW H)) (ps:List MemPlace),
   (∀ (j:Nat) t v,fn.params[j]?=A4 t->args[j]?=A4 v->Value.okWide C.prog W .any base t v) ->
   DataW.TrodAll enc C.prog W 0 (λ_=>A5) A5 fn.params.toList args.toList ds ps ->
   ∃ vals h μ h',Inv (C0b W) μ h W/\All2 (RV μ) vals args.toList/\CallOk C.prog f vals h (.c (.b A5)) h') :
  ReturnsInHanded {} C os f .any (s.pre6 enc C.prog fn conds A6) (s.post enc C.prog fn A6 A5 A6 A6):=by
 refine returnsInHanded_of_change own started D7b hfn witness ?_;intro W base args ds gs before vP hW _ _;obtain ⟨p,q,hA,_⟩:=id hW;obtain ⟨vals,h,μ,h',hi,hv2,hc⟩:=walk W base args ds p (λj t v h1 h2=>vP j t v h1 h2) hA;refine (hc (C0b W) μ W args.toList hi hv2).mono λe W' ⟨V',μ',he,_,hV,hi',_⟩=>?_
 have:V'=.bool A5:=hV;subst this;exact ⟨_,he,D1y hl hts hr hb hv hs hW (C4l hi'.ctx)⟩
def Inv.nought (W:World):Inv (C0b W) (λ_=>Option.none) [] W where
 rows:=λid r h=>by simp [rd] at h
 sep:=λid bQ r r' x x' h=>by simp [rd] at h
 own:=λid r x h=>by simp [rd] at h
 dom:=λ_ _=>rfl
 ctx:=⟨rfl,rfl,rfl,λ_ _ h=>h⟩
end Go.Esc
namespace Go.Esc
section
variable {R:Type} {E:J9}
def D2l {q:Bool} {hr:A9} {n0:Nat} {slot:Option Nat} {o:AOp} {e:Env} {h:A9} {k k':Val->A9->Option R} (hk:∀ v h p,k v h=A4 p->k' v h=A4 p) {p:R}
  (hp:aop E q hr n0 slot o e h k=A4 p):aop E q hr n0 slot o e h k'=A4 p:=by
 cases o<;>simp only [aop,D9t] at hp ⊢ <;> first | exact hk _ _ _ hp | (obtain ⟨x,hx,hp⟩:=hp;exact ⟨x,hx,hk _ _ _ hp⟩)
def B1E {q:Bool} {hr:A9} {n0:Nat} {o:AOper} {e:Env} {h:A9} {k k':Val->A9->Option R} (hk:∀ v h p,k v h=A4 p->k' v h=A4 p) {p:R}
  (hp:U0 E q hr n0 o e h k=A4 p):U0 E q hr n0 o e h k'=A4 p:=by
 unfold U0 at hp ⊢;cases hg:o.guard with
 | none=>rw [hg] at hp;exact D2l hk hp
 | some g =>
  rw [hg] at hp;simp only [D9t] at hp ⊢;obtain ⟨x,hx,hp⟩:=hp;exact ⟨x,hx,hk _ _ _ hp⟩
def A9l {k k':Env->A9->Option R} (hk:∀ e h p,k e h=A4 p->k' e h=A4 p):∀ {l:List AOper} {e:Env} {h:A9} {p:R},A71 E l e h k=A4 p->A71 E l e h k'=A4 p
 | [],_,_,_,hp=>hk _ _ _ hp
 | o::l,e,h,p,hp=>by
  rw [C2S] at hp ⊢;exact B1E (λv h p=>A9l hk) hp
def B1B {hr:A9} {n0:Nat} {k k':Env->A9->Option R} (hk:∀ e h p,k e h=A4 p->k' e h=A4 p):∀ {l:List AOper} {e:Env} {h:A9} {p:R},B0s E hr n0 l e h k=A4 p->B0s E hr n0 l e h k'=A4 p
 | [],_,_,_,hp=>hk _ _ _ hp
 | o::l,e,h,p,hp=>by
  rw [B9H] at hp ⊢;exact B1E (λv h p=>B1B hk) hp
def KLe (k k':A9L R):Prop:=∀ x e h p,k x e h=A4 p->k' x e h=A4 p
def D7E (s s':Sm R):Prop:=∀ k k':A9L R,KLe k k'->∀ e h p,s k e h=A4 p->s' k' e h=A4 p
def C2U {c c':Sm R} (hc:D7E c c') {keep:List Nat} {k k':A9L R} (hk:KLe k k'):∀ {n n':Nat},n<=n'->∀ e h p,A5m c keep k n e h=A4 p->A5m c' keep k' n' e h=A4 p
 | 0,_,_,e,h,p,hp=>by rw [B60] at hp;cases hp
 | n+1,0,hn,e,h,p,hp=>by omega
 | n+1,n'+1,hn,e,h,p,hp=>by
  rw [B6Z] at hp ⊢;refine hc _ _ (λx e h p hp=>?_) e h p hp;cases x with
  | normal=>exact C2U hc hk (by omega) _ _ _ hp
  | exit id=>exact hk _ _ _ _ hp
  | ret=>exact hk _ _ _ _ hp
def B9K {e:Env} {h:A9} {k k':Option R} {p:R} (hk:k=A4 p->k'=A4 p):∀ {l:List (Nat × AOp)},again l e h k=A4 p->again l e h k'=A4 p
 | [],hp=>hk hp
 | c::l,hp=>by
  rw [B9J] at hp ⊢;unfold agn at hp ⊢;split at hp
  ·rename_i hc;rw [if_pos hc];exact B9K hk hp
  ·cases hp
def B1C {n n':Nat} (hn:n<=n'):∀ c:ACode,D7E (R:=R) (aex E n c) (aex E n' c)
 | .skip=>λk k' hk e h p hp=>hk _ _ _ _ hp
 | .ops l=>λk k' hk e h p hp=>A9l (λe h p hp=>hk _ _ _ _ hp) hp
 | .draw m l r=>λk k' hk e h p hp=>B1B (λe h p hp=>A9l (λe h p hp=>hk _ _ _ _ hp) hp) hp
 | .drawS m l s chk r=>λk k' hk e h p hp=>B1B (λe h p hp=>B1E (λv h p hp=>B9K (λhp=>A9l (λe h p hp=>hk _ _ _ _ hp) hp) hp) hp) hp
 | .seq keep a b=>λk k' hk e h p hp=>by
  refine B1C hn a _ _ (λx e h p hp=>?_) e h p hp;cases x with
  | normal=>exact B1C hn b k k' hk _ _ _ hp
  | exit id=>exact hk _ _ _ _ hp
  | ret=>exact hk _ _ _ _ hp
 | .cond c a b=>λk k' hk e h p hp=>by
  change cnd (e.ev c) (aex E n a k e h) (aex E n b k e h)=A4 p at hp;change cnd (e.ev c) (aex E n' a k' e h) (aex E n' b k' e h)=A4 p;unfold cnd at hp ⊢;split at hp
  ·rename_i x _;cases x
   ·exact B1C hn b k k' hk _ _ _ hp
   ·exact B1C hn a k k' hk _ _ _ hp
  ·cases hp
 | .block id a=>λk k' hk e h p hp=>by
  refine B1C hn a _ _ (λx e h p hp=>?_) e h p hp;cases x with
  | normal=>exact hk _ _ _ _ hp
  | ret=>exact hk _ _ _ _ hp
  | exit i =>
   change (bif Nat.beq i id then k .normal e h else k (.exit i) e h)=A4 p at hp;change (bif Nat.beq i id then k' .normal e h else k' (.exit i) e h)=A4 p;cases hb:Nat.beq i id with
   | true=>simp only [hb,cond_true] at hp ⊢;exact hk _ _ _ _ hp
   | false=>simp only [hb,cond_false] at hp ⊢;exact hk _ _ _ _ hp
 | .loop keep a=>λk k' hk e h p hp=>C2U (B1C hn a) hk hn _ _ _ hp
 | .exit id=>λk k' hk e h p hp=>hk _ _ _ _ hp
 | .ret=>λk k' hk e h p hp=>hk _ _ _ _ hp
def D37 {f:AFn} {n n':Nat} (hn:n<=n') {args:List Val} {h:A9} {p:Val × A9} (hp:f.run E n args h=A4 p):f.run E n' args h=A4 p :=
 B1C hn f.code _ _ (λ_ _ _ _ h=>h) _ _ _ hp
open Classical in
def Lim (f:AFn) (E:J9) (args:List Val) (h:A9):Option (Val × A9) :=
 if H:∃ p n,f.run E n args h=A4 p then A4 H.choose else A7
def D6n {f:AFn} {n:Nat} {args:List Val} {h:A9} {p:Val × A9} (hp:f.run E n args h=A4 p):Lim f E args h=A4 p:=by
 have H:∃ p n,f.run E n args h=A4 p:=⟨p,n,hp⟩;unfold Lim;rw [dif_pos H];obtain ⟨m,hm⟩:=H.choose_spec;have h1:=D37 (Nat.le_max_left n m) hp;have h2:=D37 (Nat.le_max_right n m) hm;rw [h1] at h2;exact h2.symm
def C9r {f:AFn} {args:List Val} {h:A9} {p:Val × A9} (hp:Lim f E args h=A4 p):∃ n,f.run E n args h=A4 p:=by
 unfold Lim at hp;split at hp
 ·rename_i H;cases hp;exact H.choose_spec
 ·cases hp
end
def bnd {α β:Type} (x:Option α) (f:α -> Option β):Option β:=x.bind f
def mp {α β:Type} (x:Option α) (f:α -> β):Option β:=x.map f
@[congr] theorem D8r {α β:Type} {x x':Option α} {f:α -> Option β} (h:x=x'):bnd x f=bnd x' f:=by rw [h]
@[congr] theorem D9l {α β:Type} {x x':Option α} {f:α -> β} (h:x=x'):mp x f=mp x' f:=by rw [h]
@[congr] theorem D8s {R:Type} {v v':Val} {a b:Option R} (h:v=v'):cnd v a b=cnd v' a b:=by rw [h]
@[congr] theorem D9b {v v':Val} {w:Bool} {a b:Option (Val × A9)} (h:v=v'):gd v w a b=gd v' w a b:=by rw [h]
@[congr] theorem D8q {R:Type} {x x':Option Val} {v v':Val} {k:Option R} (h:x=x') (h2:v=v'):agn x v k=agn x' v' k:=by rw [h,h2]
def D2g {R:Type} {v:Val} {k:Option R}:agn (A4 v) v k=k:=Eq.trans (if_pos rfl) rfl
@[simp] theorem E4 {α β:Type} {a:α} {f:α -> Option β}:bnd (A4 a) f=f a:=Eq.trans rfl rfl
@[simp] theorem C94 {α β:Type} {a:α} {f:α -> β}:mp (A4 a) f=A4 (f a):=Eq.trans rfl rfl
section
variable {R:Type} {k:IntKind} {a b:Int} {s t:List UInt8} {h:A9}
@[simp] theorem D4E:C5A (.c (.s s))=A4 (.c (.i .i64 s.length)):=rfl
@[simp] theorem A1N {id off len sz:Nat}:C1Y (.c (.sl id off len sz))=A4 (.c (.i .i64 len)):=rfl
@[simp] theorem D4F:C1Y (.c .ns)=A4 (.c (.i .i64 0)):=rfl
@[simp] theorem P6:K6 .add (.c (.i k a)) (.c (.i k b))=A4 (.c (.i k (k.wrap (a+b)))):=by simp [K6,A8C]
@[simp] theorem D2a:K6 .sub (.c (.i k a)) (.c (.i k b))=A4 (.c (.i k (k.wrap (a-b)))):=by simp [K6,A8C]
@[simp] theorem D17:K6 .mul (.c (.i k a)) (.c (.i k b))=A4 (.c (.i k (k.wrap (a*b)))):=by simp [K6,A8C]
@[simp] theorem D18 (hb:b≠0):K6 .quo (.c (.i k a)) (.c (.i k b))=A4 (.c (.i k (k.wrap (a.tdiv b)))):=by simp [K6,A8C,hb]
@[simp] theorem D19 (hb:b≠0):K6 .rem (.c (.i k a)) (.c (.i k b))=A4 (.c (.i k (a.tmod b))):=by simp [K6,A8C,hb]
def C5w:K6 .and (.c (.i k a)) (.c (.i k b))=A4 (.c (.i k (k.wrap (BitVec.ofInt k.bits a &&& BitVec.ofInt k.bits b).toNat))):=by simp [K6,A8C]
def C4d:K6 .or (.c (.i k a)) (.c (.i k b))=A4 (.c (.i k (k.wrap (BitVec.ofInt k.bits a ||| BitVec.ofInt k.bits b).toNat))):=by simp [K6,A8C]
def D2b:K6 .xor (.c (.i k a)) (.c (.i k b))=A4 (.c (.i k (k.wrap (BitVec.ofInt k.bits a ^^^ BitVec.ofInt k.bits b).toNat))):=by simp [K6,A8C]
@[simp] theorem mD:K6 .eql (.c (.i k a)) (.c (.i k b))=A4 (.c (.b (decide (a=b)))):=by simp [K6,A8C];rfl
@[simp] theorem B3e:K6 .neq (.c (.i k a)) (.c (.i k b))=A4 (.c (.b (decide (a≠b)))):=by simp [K6,A8C];by_cases h:a=b<;>simp [h]
@[simp] theorem H7:K6 .lss (.c (.i k a)) (.c (.i k b))=A4 (.c (.b (decide (a<b)))):=by simp [K6,A8C]
@[simp] theorem D16:K6 .leq (.c (.i k a)) (.c (.i k b))=A4 (.c (.b (decide (a<=b)))):=by simp [K6,A8C]
@[simp] theorem D15:K6 .gtr (.c (.i k a)) (.c (.i k b))=A4 (.c (.b (decide (b<a)))):=by simp [K6,A8C]
@[simp] theorem D14:K6 .geq (.c (.i k a)) (.c (.i k b))=A4 (.c (.b (decide (b<=a)))):=by simp [K6,A8C]
@[simp] theorem D0u:K6 .eql (.c (.s s)) (.c (.s t))=A4 (.c (.b (decide (s=t)))):=by simp [K6,D4d];by_cases h:s=t<;>simp [h]
@[simp] theorem D0w:K6 .neq (.c (.s s)) (.c (.s t))=A4 (.c (.b (decide (s≠t)))):=by simp [K6,D4d];by_cases h:s=t<;>simp [h]
@[simp] theorem D0v:K6 .lss (.c (.s s)) (.c (.s t))=A4 (.c (.b (S5 s t))):=by simp [K6,D4d]
@[simp] theorem A5n {x:Bool}:aun .not (.c (.b x))=A4 (.c (.b (!x))):=rfl
@[simp] theorem D4A {n:Bool}:C4f A5 n (.c .nf)=A4 (.c (.b (!n))):=Eq.trans rfl rfl
@[simp] theorem D6q {n:Bool} {f:Nat} {cs:List (Nat × Nat)}:C4f A5 n (.c (.f f cs))=A4 (.c (.b n)):=Eq.trans rfl rfl
@[simp] theorem D4B {n:Bool}:C4f A6 n (.c .np)=A4 (.c (.b (!n))):=Eq.trans rfl rfl
@[simp] theorem D6r {n:Bool} {id off:Nat}:C4f A6 n (.c (.p id off))=A4 (.c (.b n)):=Eq.trans rfl rfl
@[simp] theorem D4I {id off:Nat}:A3H (.c (.p id off))=A4 (.c (.p id off)):=Eq.trans rfl rfl
@[simp] theorem D4P:aun .neg (.c (.i k a))=A4 (.c (.i k (k.wrap (0-a)))):=rfl
@[simp] theorem D6p {x y:Bool}:C7U A6 (.c (.b x)) (.c (.b y))=A4 (.c (.b (x==y))):=rfl
@[simp] theorem D6o {x y:Bool}:C7U A5 (.c (.b x)) (.c (.b y))=A4 (.c (.b (!(x==y)))):=rfl
@[simp] theorem D4z {k':IntKind}:C5x k (.c (.i k' a))=A4 (.c (.i k (k.wrap a))):=rfl
@[simp] theorem A5l {x:Bool} {u v:Val}:C5H (.c (.b x)) u v=A4 (bif x then u else v):=rfl
@[simp] theorem D56 {w:Bool} {u v:Option (Val × A9)}:gd .no w u v=v:=Eq.trans rfl rfl
@[simp] theorem C9N {u v:Option (Val × A9)}:gd (.c (.b A5)) A5 u v=u:=Eq.trans rfl rfl
@[simp] theorem D26 {u v:Option (Val × A9)}:gd (.c (.b A5)) A6 u v=v:=Eq.trans rfl rfl
@[simp] theorem D25 {u v:Option (Val × A9)}:gd (.c (.b A6)) A5 u v=v:=Eq.trans rfl rfl
@[simp] theorem C9M {u v:Option (Val × A9)}:gd (.c (.b A6)) A6 u v=u:=Eq.trans rfl rfl
@[simp] theorem fD {u v:Option R}:cnd (.c (.b A5)) u v=u:=Eq.trans rfl rfl
@[simp] theorem dT {u v:Option R}:cnd (.c (.b A6)) u v=v:=Eq.trans rfl rfl
@[simp] theorem D4D {i:Nat}:B9L (.c (.s s)) (.c (.i k i))=(s[i]?).map λb=>.c (.i .u8 b.toNat):=by simp [B9L]
@[simp] theorem A5k {l:List Part} {i:Nat}:D2e (.t l) i=(l[i]?).map ofPart:=rfl
@[simp] theorem rD {x:Cell}:ofPart (.c x)=.c x:=rfl
@[simp] theorem rC {l:List Cell}:ofPart (.a l)=.a l:=rfl
@[simp] theorem D5u {x:Cell}:oR (.c x)=A4 (.c x):=rfl
@[simp] theorem C99 {l:List Cell}:oR (.a l)=A4 (.a l):=rfl
@[simp] theorem C5U {x:Cell}:cells? (.c x)=A4 [x]:=rfl
@[simp] theorem fC {l:List Cell}:cells? (.a l)=A4 l:=rfl
@[simp] theorem D7w {u v:Option Val}:B8D [u,v] h=bnd u λu=>bnd (oR u) λp=>bnd v λv=>bnd (oR v) λq=>A4 (.t [p,q],h):=by
 cases u with
 | none=>rfl
 | some u=>cases v with
  | none=>cases hu:oR u<;>simp [B8D,C1G,hu]<;>rfl
  | some v=>cases hu:oR u<;>cases hv:oR v<;>simp [B8D,C1G,hu,hv]<;>rfl
@[simp] theorem D7x {u v w:Option Val}:B8D [u,v,w] h=bnd u λu=>bnd (oR u) λp=>bnd v λv=>bnd (oR v) λq=>bnd w λw=>bnd (oR w) λr=>A4 (.t [p,q,r],h):=by
 cases u with
 | none=>rfl
 | some u=>cases v with
  | none=>cases hu:oR u<;>simp [B8D,C1G,hu]<;>rfl
  | some v=>cases w with
   | none=>cases hu:oR u<;>cases hv:oR v<;>simp [B8D,C1G,hu,hv]<;>rfl
   | some w=>cases hu:oR u<;>cases hv:oR v<;>cases hw:oR w<;>simp [B8D,C1G,hu,hv,hw]<;>rfl
def wrap_i64 (h1:-9223372036854775808<=a) (h2:a<9223372036854775808):D9B .i64 a=a:=by
 change (if (A5&&decide (a%18446744073709551616>=9223372036854775808))=A5 then a%18446744073709551616-18446744073709551616 else a%18446744073709551616)=a;by_cases h:a%18446744073709551616>=9223372036854775808
 ·simp only [h,decide_true,D9R,if_true];omega
 ·simp only [h,decide_false,Bool.and_false,E0v,if_false];omega
def wrap_u64 (h1:0<=a) (h2:a<18446744073709551616):D9B .u64 a=a:=by
 simp only [D9B,IntKind.bits,IntKind.signed,D9L];have e1:(2:Int) ^ 64=18446744073709551616:=rfl;rw [e1];simp only [E0v,if_false];omega
def wrap_u32 (h1:0<=a) (h2:a<4294967296):D9B .u32 a=a:=by
 simp only [D9B,IntKind.bits,IntKind.signed,D9L];have e1:(2:Int) ^ 32=4294967296:=rfl;rw [e1];simp only [E0v,if_false];omega
def wrap_u8 (h1:0<=a) (h2:a<256):D9B .u8 a=a:=by
 simp only [D9B,IntKind.bits,IntKind.signed,D9L];have e1:(2:Int) ^ 8=256:=rfl;rw [e1];simp only [E0v,if_false];omega
end
def Grows.rfl' {h:A9}:Grows h h:=⟨E0a _,λid x hid hx=>by have:=D7 hx;omega⟩
def Grows.trans' {a b c:A9} (h1:Grows a b) (h2:Grows b c):Grows a c:=by
 refine ⟨h1.1.trans h2.1,λid x hid hx=>?_⟩;by_cases hb:b.length<=id
 ·exact h2.2 id x hb hx
 ·refine h1.2 id x hid ?_;obtain ⟨t,rfl⟩:=h2.1;rw [<-hx];unfold rd;rw [D94 (by omega)]
def Grows.len {a b:A9} (h1:Grows a b):a.length<=b.length:=h1.1.length_le
def Grows.new {a b:A9} (h1:Grows a b) (cs:List Cell):Grows a (b++[A4 ⟨cs,A5⟩]):=by
 refine h1.trans' ⟨List.prefix_append _ _,λid x hid hx=>?_⟩;unfold Go.Esc.rd at hx;rw [D9P hid] at hx;cases hj:id-b.length with
 | zero=>rw [hj] at hx;simp at hx;subst hx;rfl
 | succ j=>rw [hj] at hx;simp at hx
def Y7 {h h':A9} {v:Val} (hg:Grows h h'):quiet h (A4 (v,h'))=A4 (v,h'):=by
 unfold quiet;simp only [D9H];rw [if_pos];exact hg
def O8 {h:A9} {r:Row}:rd (h++[A4 r]) h.length=A4 r:=by
 unfold rd;simp
section
variable {h:A9} {id off n sz:Nat} {cs xs:List Cell} {x:Cell} {k:IntKind} {rw:Bool}
def B9 (hr:rd h id=A4 ⟨cs,rw⟩) {c:Cell} (hc:cs[off]?=A4 c) (hd:(rw || !c.isX)=A5):B8 h (.c (.p id off))=A4 (.c c):=by
 simp [B8,hr,hc,hd]
def T2 (hr:rd h id=A4 ⟨cs,rw⟩) (hl:off+n<=cs.length) (hd:(rw||noX ((cs.drop off).take n))=A5):D3 h n (.c (.p id off))=A4 (.a ((cs.drop off).take n)):=by
 simp only [D3,hr,D9H];rw [if_pos ⟨hl,hd⟩]
def C9 (hr:rd h id=A4 ⟨cs,A5⟩) (hl:cs.length=n):D3 h n (.c (.p id 0))=A4 (.a cs):=by
 rw [T2 hr (by omega) rfl,D9O,D9M (by omega)]
def I3 (hr:rd h id=A4 ⟨cs,A5⟩) (hl:off<cs.length):H1 h (.c (.p id off)) (.c x)=A4 (h.set id (A4 ⟨cs.set off x,A5⟩)):=by
 simp [H1,hr,hl]
def B6p (hr:rd h id=A4 ⟨cs,A5⟩) (hx:xs.length=n) (hl:off+n<=cs.length):E9 h n (.c (.p id off)) (.a xs)=A4 (h.set id (A4 ⟨lay cs off xs,A5⟩)):=by
 simp [E9,hr,hl,hx]
def lay_all (hx:xs.length=cs.length):lay cs 0 xs=xs:=by simp [lay,hx]
def storeAll (hr:rd h id=A4 ⟨cs,A5⟩) (hl:cs.length=n) (hx:xs.length=n):E9 h n (.c (.p id 0)) (.a xs)=A4 (h.set id (A4 ⟨xs,A5⟩)):=by
 rw [B6p hr hx (by omega),lay_all (by omega)]
def K3 {j:Nat} (hj:j<n):I5 n sz (.c (.p id off)) (.c (.i k j))=A4 (.c (.p id (off+j*sz))):=by
 simp only [I5];rw [if_pos ⟨by omega,by omega⟩];simp
def D8 {len j:Nat} (hj:j<len):E5 sz (.c (.sl id off len sz)) (.c (.i k j))=A4 (.c (.p id (off+j*sz))):=by
 simp only [E5];rw [if_pos ⟨by omega,by omega,trivial⟩];simp
def B3D {l:List Cell} {j:Nat} (hj:j<n):A2U n (.a l) (.c (.i k j))=(l[j]?).map .c:=by
 simp only [A2U];rw [if_pos ⟨by omega,by omega⟩];simp
end
def iY (l:List UInt8) (i:Nat) (x:UInt8):(B4 l).set i (.i .u8 x.toNat)=B4 (l.set i x):=by simp [B4,List.map_set]
def qX (l:List UInt8) (i:Nat):(B4 l)[i]?=(l[i]?).map λx=>.i .u8 x.toNat:=by simp [B4]
def A1S (l m:List UInt8):B4 (l++m)=B4 l++B4 m:=by simp [B4]
def D0N (l:List UInt8) (n:Nat):(B4 l).drop n=B4 (l.drop n):=by simp [B4]
def D0O (l:List UInt8) (n:Nat):(B4 l).take n=B4 (l.take n):=by simp [B4]
def zeros (n:Nat):List UInt8:=D9w n 0
@[simp] theorem zeros_length {n:Nat}:(zeros n).length=n:=by simp [zeros]
def F7 (n:Nat):D9w n (Cell.i .u8 0)=B4 (zeros n):=by simp [B4,zeros]
def R7 (l:List UInt8):noX (B4 l)=A5:=by simp [noX,B4,Cell.isX]
def D2W {l m:List UInt8}:B4 l=B4 m↔l=m:=by
 constructor
 ·intro h;refine List.map_inj_right (λx y e=>?_) |>.1 h
  simp at e;exact UInt8.toNat_inj.1 (by omega)
 ·rintro rfl;rfl
def Cell.flat:Cell->Bool
 | .b _=>A5
 | .i _ _=>A5
 | .s _=>A5
 | .np=>A5
 | .ns=>A5
 | .nf=>A5
 | .nm=>A5
 | _=>A6
def K1 (l:List Cell):Bool:=l.all Cell.flat
def Row.dim (r:Row):List Cell:=bif r.head then r.cells.map λ_=>.dark else r.cells
def ro (h:A9):A9:=h.map λr=>r.map λr=>⟨r.dim,A6⟩
def Row.dim_own (r:Row):(Row.mk r.dim A6).own=A6:=by
 obtain ⟨cs,w⟩:=r;unfold Row.dim;cases hh:Row.head ⟨cs,w⟩ with
 | false=>simpa [Row.own,Row.head] using hh
 | true =>
  cases cs with
  | nil=>rfl
  | cons c cs=>rfl
def G5 {h:A9}:(ro h).length=h.length:=by simp [ro]
def C7g {h:A9} {id:Nat}:rd (ro h) id=(rd h id).map λr=>⟨r.dim,A6⟩:=by
 unfold rd ro;rw [E0C];cases h[id]? with
 | none=>rfl
 | some x=>cases x<;>rfl
def B4l {h:A9} {id:Nat} {r:Row} (hr:rd h id=A4 r) (hh:r.head=A6):rd (ro h) id=A4 ⟨r.cells,A6⟩:=by
 rw [C7g,hr];show A4 (Row.mk r.dim A6)=_;unfold Row.dim;rw [hh];rfl
def D3e {cs:List Cell} {w:Bool} (h:noX cs=A5):(Row.mk cs w).head=A6:=by
 cases cs with
 | nil=>rfl
 | cons c cs=>cases c<;>first | rfl | (simp [noX,Cell.isX] at h)
def B4m {h:A9} {id:Nat} {cs:List Cell} {w:Bool} (hr:rd h id=A4 ⟨cs,w⟩) (hx:noX cs=A5):rd (ro h) id=A4 ⟨cs,A6⟩:=B4l hr (D3e hx)
def newRow (h:A9) (id:Nat):Bool :=
 match rd h id with
 | some r=>r.rw&&K1 r.cells
 | none=>A6
def Cell.low (b:Nat):Cell->Bool
 | .p id _=>decide (id<b)
 | .sl id _ _ _=>decide (id<b)
 | .f _ caps=>caps.all λq=>decide (q.1<b)
 | .m id=>decide (id<b)
 | c=>c.flat
def M6 (h:A9) (b:Nat):List Nat->List Cell->Option (List Cell × List Nat)
 | seen,[]=>A4 ([],seen)
 | seen,c::r=>if c.low b=A5 then (M6 h b seen r).map λp=>(c::p.1,p.2) else
  match c with
  | .sl id off len sz=>if b<=id/\id ∉ seen/\newRow h id=A5 then (M6 h b (seen++[id]) r).map λp=>(.sl (b+seen.length) off len sz::p.1,p.2) else A7
  | _=>A7
def eJ (h:A9) (b:Nat):List Nat->List Part->Option (List Part × List Nat)
 | seen,[]=>A4 ([],seen)
 | seen,.c x::r=>(M6 h b seen [x]).bind λp=>match p.1 with
  | [y]=>(eJ h b p.2 r).map λq=>(.c y::q.1,q.2)
  | _=>A7
 | seen,.a l::r=>(M6 h b seen l).bind λp=>(eJ h b p.2 r).map λq=>(.a p.1::q.1,q.2)
def S8 (h:A9) (b:Nat):Val->Option (Val × List Nat)
 | .c x=>(M6 h b [] [x]).bind λp=>match p.1 with
  | [y]=>A4 (.c y,p.2)
  | _=>A7
 | .a l=>(M6 h b [] l).map λp=>(.a p.1,p.2)
 | .t l=>(eJ h b [] l).map λp=>(.t p.1,p.2)
 | _=>A7
def C1A (F:List Val->A9->Option (Val × A9)) (args:List Val) (h:A9):Option (Val × A9) :=
 (F args (ro h)).bind λp=>(S8 p.2 h.length p.1).map λq=>(q.1,h++q.2.map (rd p.2))
def tidy (F:List Val->A9->Option (Val × A9)) (args:List Val) (h:A9):Option (Val × A9) :=
 match C1A F args h with
 | some r=>A4 r
 | none=>F args h
def RC.flat {μ μ':Mu} {c:Cell} {V:Value} (hf:c.flat=A5) (h:RC μ c V):RC μ' c V:=by
 cases c<;>first | exact h | cases hf
def RC.low {μ μ':Mu} {b:Nat} (hb:∀ id,id<b -> μ' id = μ id) {c:Cell} {V:Value} (hf:c.low b=A5) (h:RC μ c V):RC μ' c V:=by
 cases c with
 | p id off =>
  obtain ⟨x,n,h1,h2⟩:=h;exact ⟨x,n,by rw [hb id (of_decide_eq_true hf)];exact h1,h2⟩
 | sl id off len sz =>
  rcases h with ⟨x,n,cap,h1,h2⟩ | h
  ·exact .inl ⟨x,n,cap,by rw [hb id (of_decide_eq_true hf)];exact h1,h2⟩
  ·exact .inr h
 | f fn caps =>
  obtain ⟨cs,h1,h2⟩:=h;refine ⟨cs,h1,?_⟩;have hf':(caps.all λq=>decide (q.1<b))=A5:=hf
  clear h1 hf
  induction caps generalizing cs with
  | nil=>cases cs with
   | nil=>trivial
   | cons=>exact h2.elim
  | cons q r ih=>cases cs with
   | nil=>exact h2.elim
   | cons V vs =>
    rw [E0j,D9v] at hf';obtain ⟨x,n,g1,g2⟩:=h2.1;exact ⟨⟨x,n,by rw [hb q.1 (of_decide_eq_true hf'.1)];exact g1,g2⟩,ih vs h2.2 hf'.2⟩
 | m id =>
  obtain ⟨x,n,h1,h2⟩:=h;exact ⟨x,n,by rw [hb id (of_decide_eq_true hf)];exact h1,h2⟩
 | _=>exact RC.flat hf h
def Cell.low_of_flat {b:Nat} {c:Cell} (h:c.flat=A5):c.low b=A5:=by
 cases c<;>first | exact h | cases h
def B1U {c:Cell} {l:List Cell}:K1 (c::l)=(c.flat&&K1 l):=rfl
def All2.flat {μ μ':Mu}:∀ {l:List Cell} {vs:List Value},K1 l=A5->All2 (RC μ) l vs->All2 (RC μ') l vs
 | [],[],_,_=>trivial
 | c::l,V::vs,hf,⟨h1,h2⟩=>by
  rw [B1U,D9v] at hf;exact ⟨h1.flat hf.1,All2.flat hf.2 h2⟩
 | [],_::_,_,h=>h.elim
 | _::_,[],_,h=>h.elim
structure Good (h:A9) (b:Nat) (ids:List Nat):Prop where
 nd:ids.Nodup
 ok:∀ id∈ids,b<=id/\∃ r,rd h id=A4 r/\r.rw=A5/\K1 r.cells=A5
def Good.nil {h:A9} {b:Nat}:Good h b []:=⟨List.nodup_nil,λ_ h=>by cases h⟩
def Good.snoc {h:A9} {b:Nat} {ids:List Nat} (hg:Good h b ids) {id:Nat} (h1:b<=id) (h2:id ∉ ids) (h3:newRow h id=A5):Good h b (ids++[id]):=by
 refine ⟨?_,λi hi=>?_⟩
 ·rw [List.nodup_append];exact ⟨hg.nd,by simp,λa ha c hc e=>by simp at hc;subst hc;subst e;exact h2 ha⟩
 ·rw [List.mem_append] at hi;rcases hi with hi | hi
  ·exact hg.ok i hi
  ·simp at hi;subst hi;refine ⟨h1,?_⟩;unfold newRow at h3;cases hr:rd h i with
   | none=>rw [hr] at h3;cases h3
   | some r=>rw [hr] at h3;rw [D9v] at h3;exact ⟨r,rfl,h3.1,h3.2⟩
def nu (μ μ':Mu) (b:Nat) (ids:List Nat):Mu:=λid=>if id<b then μ id else (ids[id-b]?).bind μ'
def A3M {h:A9} {b:Nat} {μ μ':Mu} (hlow:∀ id,id<b -> μ' id = μ id):∀ (l:List Cell) (seen:List Nat) (l2:List Cell) (fin:List Nat),M6 h b seen l=A4 (l2,fin)->Good h b seen ->
  Good h b fin/\seen <+: fin/\∀ ids,fin <+: ids->∀ vs:List Value,All2 (RC μ') l vs->All2 (RC (nu μ μ' b ids)) l2 vs:=by
 intro l
 induction l with
 | nil =>
  intro seen l2 fin hc hg;simp only [M6,D9y,D9D] at hc;obtain ⟨rfl,rfl⟩:=hc;exact ⟨hg,E0a _,λids _ vs hv=>by cases vs with
   | nil=>trivial
   | cons=>exact hv.elim⟩
 | cons c r ih =>
  intro seen l2 fin hc hg;unfold M6 at hc;split at hc
  ·rename_i hf;simp only [D9J,D9D] at hc;obtain ⟨p,hp,rfl,rfl⟩:=hc;obtain ⟨h1,h2,h3⟩:=ih seen p.1 p.2 hp hg;refine ⟨h1,h2,λids hi vs hv=>?_⟩;cases vs with
   | nil=>exact hv.elim
   | cons V vs=>exact ⟨RC.low (b:=b) (λid hid=>by unfold nu;rw [if_pos hid];exact (hlow id hid).symm) hf hv.1,h3 ids hi vs hv.2⟩
  ·split at hc
   ·rename_i id off len sz _;split at hc
    ·rename_i A0O;simp only [D9J,D9D] at hc;obtain ⟨p,hp,rfl,rfl⟩:=hc;obtain ⟨h1,h2,h3⟩:=ih _ p.1 p.2 hp (hg.snoc A0O.1 A0O.2.1 A0O.2.2);refine ⟨h1,(List.prefix_append _ _).trans h2,λids hi vs hv=>?_⟩;cases vs with
     | nil=>exact hv.elim
     | cons V vs =>
      refine ⟨?_,h3 ids hi vs hv.2⟩;have hn:nu μ μ' b ids (b+seen.length) = μ' id:=by
       unfold nu;rw [if_neg (by omega),Nat.add_sub_cancel_left];obtain ⟨t,ht⟩:=h2.trans hi;rw [<-ht,D9C,D9P (D9x _)];simp
      rcases hv.1 with ⟨x,n,cap,g1,g2⟩ | g
      ·exact .inl ⟨x,n,cap,by rw [hn];exact g1,g2⟩
      ·exact .inr g
    ·cases hc
   ·cases hc
def D0E {h:A9} {b:Nat} {μ μ':Mu} (hlow:∀ id,id<b -> μ' id = μ id):∀ (l:List Part) (seen:List Nat) (l2:List Part) (fin:List Nat),eJ h b seen l=A4 (l2,fin)->Good h b seen ->
  Good h b fin/\seen <+: fin/\∀ ids,fin <+: ids->∀ vs:List Value,All2 (RP μ') l vs->All2 (RP (nu μ μ' b ids)) l2 vs:=by
 intro l
 induction l with
 | nil =>
  intro seen l2 fin hc hg;simp only [eJ,D9y,D9D] at hc;obtain ⟨rfl,rfl⟩:=hc;exact ⟨hg,E0a _,λids _ vs hv=>by cases vs with
   | nil=>trivial
   | cons=>exact hv.elim⟩
 | cons c r ih =>
  intro seen l2 fin hc hg;cases c with
  | c x =>
   simp only [eJ,D9t] at hc;obtain ⟨⟨l3,f3⟩,hp,hc⟩:=hc;obtain ⟨h1,h2,h3⟩:=A3M (μ:=μ) (μ':=μ') hlow [x] seen l3 f3 hp hg;split at hc
   ·rename_i y uR;simp only at uR;subst uR;simp only [D9J,D9D] at hc;obtain ⟨q,hq,rfl,rfl⟩:=hc;obtain ⟨g1,g2,g3⟩:=ih f3 q.1 q.2 hq h1;refine ⟨g1,h2.trans g2,λids hi vs hv=>?_⟩;cases vs with
    | nil=>exact hv.elim
    | cons V vs=>exact ⟨(h3 ids (g2.trans hi) [V] ⟨hv.1,trivial⟩).1,g3 ids hi vs hv.2⟩
   ·cases hc
  | a x =>
   simp only [eJ,D9t] at hc;obtain ⟨⟨l3,f3⟩,hp,hc⟩:=hc;obtain ⟨h1,h2,h3⟩:=A3M (μ:=μ) (μ':=μ') hlow x seen l3 f3 hp hg;simp only [D9J,D9D] at hc;obtain ⟨q,hq,rfl,rfl⟩:=hc;obtain ⟨g1,g2,g3⟩:=ih f3 q.1 q.2 hq h1;refine ⟨g1,h2.trans g2,λids hi vs hv=>?_⟩;cases vs with
   | nil=>exact hv.elim
   | cons V vs =>
    obtain ⟨Vs,hV,h4⟩:=hv.1;exact ⟨⟨Vs,hV,h3 ids (g2.trans hi) Vs h4⟩,g3 ids hi vs hv.2⟩
def D0F {h:A9} {b:Nat} {μ μ':Mu} (hlow:∀ id,id<b -> μ' id = μ id) {v v2:Val} {fin:List Nat} (hc:S8 h b v=A4 (v2,fin)):Good h b fin/\∀ V,RV μ' v V->RV (nu μ μ' b fin) v2 V:=by
 cases v with
 | c x =>
  simp only [S8,D9t] at hc;obtain ⟨⟨l3,f3⟩,hp,hc⟩:=hc;obtain ⟨h1,h2,h3⟩:=A3M (μ:=μ) (μ':=μ') hlow [x] [] l3 f3 hp Good.nil;split at hc
  ·rename_i y uR;simp only at uR;subst uR;simp only [D9y,D9D] at hc;obtain ⟨rfl,rfl⟩:=hc;exact ⟨h1,λV hV=>(h3 _ (E0a _) [V] ⟨hV,trivial⟩).1⟩
  ·cases hc
 | a l =>
  simp only [S8,D9J,D9D] at hc;obtain ⟨p,hp,rfl,rfl⟩:=hc;obtain ⟨h1,h2,h3⟩:=A3M (μ:=μ) (μ':=μ') hlow l [] p.1 p.2 hp Good.nil;refine ⟨h1,λV hV=>?_⟩;obtain ⟨vs,e,h4⟩:=hV;exact ⟨vs,e,h3 _ (E0a _) vs h4⟩
 | t l =>
  simp only [S8,D9J,D9D] at hc;obtain ⟨p,hp,rfl,rfl⟩:=hc;obtain ⟨h1,h2,h3⟩:=D0E (μ:=μ) (μ':=μ') hlow l [] p.1 p.2 hp Good.nil;refine ⟨h1,λV hV=>?_⟩;obtain ⟨vs,e,h4⟩:=hV;exact ⟨vs,e,h3 _ (E0a _) vs h4⟩
 | un=>simp [S8] at hc
 | no=>simp [S8] at hc
def C41 (μ:Mu) (h:A9) (b:Nat):Prop:=∃ id r n,rd h id=A4 r /\ μ id=A4 (b,n)
open Classical in
def Ctx.hold (Γ:Ctx) (μ:Mu) (h:A9) (w:World):Ctx:={ Γ with F:=λb=>if C41 μ h b then w.heap[b]? else Γ.F b }
def Inv.hold {Γ:Ctx} {μ:Mu} {h:A9} {w:World} (hi:Inv Γ μ h w):Inv (Γ.hold μ h w) μ (ro h) w where
 rows id r hr:=by
  rw [C7g,D9J] at hr;obtain ⟨r0,h0,rfl⟩:=hr;have hth:=hi.rows id r0 h0;have this:=hth;unfold RowOk at this ⊢;cases hm:μ id with
  | none =>
   rw [hm] at this;show r0.dim=[];unfold Row.dim;rw [this];cases r0.head<;>rfl
  | some x =>
   rw [hm] at this;obtain ⟨o,ho⟩:=hth.there hm;have T1:=(Array.getElem?_eq_some_iff.1 ho).1;cases hh:r0.head with
   | true =>
    refine .inr (.inr ⟨rfl,T1,?_⟩);show r0.dim.all Cell.isD=A5;unfold Row.dim;rw [hh];simp [Cell.isD]
   | false =>
    have hd:r0.dim=r0.cells:=by unfold Row.dim;rw [hh];rfl
    rw [hd];rcases this with ⟨C,elem,fz,h1,h2,h3,h4⟩ | ⟨es,E,h1,_⟩ | ⟨h1,h2,h3⟩
    ·refine .inl ⟨C,elem,fz,h1,h2,h3.mono λc V hc=>?_,λhf=>by cases hf⟩;rcases hc with hc | ⟨_,hc⟩
     ·exact .inl hc
     ·exact .inr ⟨rfl,hc⟩
    ·rw [h1,Row.head_mrow] at hh;cases hh
    ·exact .inr (.inr ⟨rfl,h2,h3⟩)
 sep id bQ r r' x x' hr hr' hw:=by
  rw [C7g,D9J] at hr;obtain ⟨r0,h0,rfl⟩:=hr;rw [Row.dim_own] at hw;cases hw
 own id r x hr hw:=by
  rw [C7g,D9J] at hr;obtain ⟨r0,h0,rfl⟩:=hr;rw [Row.dim_own] at hw;cases hw
 dom id hl:=hi.dom id (by simpa [G5] using hl)
 ctx:=⟨hi.ctx.os,hi.ctx.tape,hi.ctx.output,λb o ho=>by
  unfold Ctx.hold at ho;simp only at ho;split at ho
  ·exact ho
  ·exact hi.ctx.block b o ho⟩
def Inv.held {Γ:Ctx} {μ μ':Mu} {h h':A9} {w w':World} (hi:Inv Γ μ h w) (hj:Inv (Γ.hold μ h w) μ' h' w') {ids:List Nat} (hg:Good h' h.length ids) :
  Inv Γ (nu μ μ' h.length ids) (h++ids.map (rd h')) w':=by
 have same:∀ b,C41 μ h b->w'.heap[b]?=w.heap[b]? := by
  intro b hb;have hb':=hb;obtain ⟨id,r,n,hr,hm⟩:=hb;obtain ⟨o,h1⟩:=(hi.rows id r hr).there hm;have h2:(Γ.hold μ h w).F b=A4 o:=by
   unfold Ctx.hold;simp only;rw [if_pos hb'];exact h1
  rw [hj.ctx.block b _ h2,h1]
 have lo:∀ id,id<h.length->nu μ μ' h.length ids id = μ id:=λid hl=>by unfold nu;rw [if_pos hl]
 have gX:μ.le (nu μ μ' h.length ids):=λid x hx=>by
  by_cases hl:id<h.length
  ·rw [lo id hl];exact hx
  ·rw [hi.dom id (by omega)] at hx;cases hx
 have get:∀ id r,rd (h++ids.map (rd h')) id=A4 r->(id<h.length/\rd h id=A4 r)\/(∃ j,ids[id-h.length]?=A4 j/\h.length<=id/\rd h' j=A4 r/\nu μ μ' h.length ids id = μ' j/\j∈ids/\r.rw=A5/\K1 r.cells=A5):=by
  intro id r hr;by_cases hl:id<h.length
  ·rw [E2 hl] at hr;exact .inl ⟨hl,hr⟩
  ·right
   unfold rd at hr;rw [D9P (by omega),E0C] at hr;cases hj':ids[id-h.length]? with
   | none=>rw [hj'] at hr;cases hr
   | some j =>
    rw [hj'] at hr;change rd h' j=A4 r at hr;have lQ:j∈ids:=D9S hj';obtain ⟨_,r2,hr2,h1,h2⟩:=hg.ok j lQ;rw [hr] at hr2;cases hr2;refine ⟨j,rfl,by omega,hr,?_,lQ,h1,h2⟩;unfold nu;rw [if_neg hl,hj'];rfl
 have fnew:∀ j r x,rd h' j=A4 r->r.rw=A5 -> μ' j=A4 x->¬ C41 μ h x.1 /\ Γ.F x.1=A7:=by
  intro j r x hr hw hx;have h1:=hj.own j r x hr (Row.own_rw hw) hx;unfold Ctx.hold at h1;simp only at h1;split at h1
  ·rename_i hb;obtain ⟨id,r0,n,hr0,hm⟩:=hb;obtain ⟨o,h2⟩:=(hi.rows id r0 hr0).there hm;rw [h2] at h1;cases h1
  ·exact ⟨‹_›,h1⟩
 refine ⟨?_,?_,?_,?_,?_⟩
 ·intro id r hr;rcases get id r hr with ⟨hl,hr⟩ | ⟨j,hj1,hl,hr,hn,lQ,hw,hf⟩
  ·exact (hi.rows id r hr).mono gX (lo id hl) λx hx=>same _ ⟨id,r,x.2,hr,hx⟩
  ·have:=hj.rows j r hr;unfold RowOk at this ⊢;rw [hn];cases hm:μ' j with
   | none=>rw [hm] at this;exact this
   | some x =>
    obtain ⟨C,elem,fz,h1,h2,h3,h4⟩:=(hj.rows j r hr).mem hm hw;refine .inl ⟨C,elem,fz,h1,h2,?_,h4⟩;rw [hw] at h3 ⊢;have h5:=RL.all h3 (by simp);exact (All2.flat (μ':=nu μ μ' h.length ids) hf h5).mono λ_ _=>.inl
 ·intro id bQ r r' x x' hr hr' hw Z5 hx hx';rcases get id r hr with ⟨hl,hr⟩ | ⟨j,hj1,hl,hr,hn,lQ,hw2,hf⟩
  ·rw [lo id hl] at hx;rcases get bQ r' hr' with ⟨hl',hr'⟩ | ⟨j',D7Y,hl',hr',hn',D71,D75,hf'⟩
   ·rw [lo bQ hl'] at hx';exact hi.sep id bQ r r' x x' hr hr' hw Z5 hx hx'
   ·rw [hn'] at hx';intro e;exact (fnew j' r' x' hr' D75 hx').1 (e ▸ ⟨id,r,x.2,hr,hx⟩)
  ·rw [hn] at hx;rcases get bQ r' hr' with ⟨hl',hr'⟩ | ⟨j',D7Y,hl',hr',hn',D71,D75,hf'⟩
   ·rw [lo bQ hl'] at hx';intro e;exact (fnew j r x hr hw2 hx).1 (e ▸ ⟨bQ,r',x'.2,hr',hx'⟩)
   ·rw [hn'] at hx';refine hj.sep j j' r r' x x' hr hr' hw (λe=>?_) hx hx';subst e;have h1:=List.getElem?_eq_some_iff.1 hj1;have h2:=List.getElem?_eq_some_iff.1 D7Y;have:=(List.getElem_inj hg.nd).1 (h1.2.trans h2.2.symm);omega
 ·intro id r x hr hw hx;rcases get id r hr with ⟨hl,hr⟩ | ⟨j,hj1,hl,hr,hn,lQ,hw2,hf⟩
  ·rw [lo id hl] at hx;exact hi.own id r x hr hw hx
  ·rw [hn] at hx;exact (fnew j r x hr hw2 hx).2
 ·intro id hl;simp only [D9A,List.length_map] at hl;unfold nu;rw [if_neg (by omega),D9W (by omega)];rfl
 ·refine ⟨hj.ctx.os,hj.ctx.tape,hj.ctx.output,λb o ho=>?_⟩;by_cases hb:C41 μ h b
  ·rw [same b hb];exact hi.ctx.block b o ho
  ·refine hj.ctx.block b o ?_;unfold Ctx.hold;simp only;rw [if_neg hb];exact ho
def D1V {P:Program} {f:FuncId} {F:List Val->A9->Option (Val × A9)} (hF:∀ args h v h2,F args h=A4 (v,h2)->iD P f/\CallOk P f args h v h2/\h.length<=h2.length)
  {args:List Val} {h:A9} {v:Val} {h2:A9} (he:C1A F args h=A4 (v,h2)):iD P f/\CallOk P f args h v h2/\h.length<=h2.length:=by
 simp only [C1A,D9t,D9J,D9D] at he;obtain ⟨p,hp,q,hq,rfl,rfl⟩:=he;obtain ⟨h1,h2,h3⟩:=hF args (ro h) p.1 p.2 hp;refine ⟨h1,fun Γ μ w V hi hv=>?_,by simp⟩;refine (h2 (Γ.hold μ h w) μ w V hi.hold hv).mono λe w' ⟨V',μ',he,_,hV,hi',hl⟩=>?_
 obtain ⟨hg,hR⟩:=D0F (μ:=μ) (μ':=μ') (λid hid=>hl id (by simpa [G5] using hid)) (v2:=q.1) (fin:=q.2) hq;refine ⟨V',nu μ μ' h.length q.2,he,λid x hx=>?_,hR V' hV,hi.held hi' hg,λid hl=>by unfold nu;rw [if_pos hl]⟩;by_cases hl:id<h.length
 ·unfold nu;rw [if_pos hl];exact hx
 ·rw [hi.dom id (by omega)] at hx;cases hx
def D5U {P:Program} {f:FuncId} {F:List Val->A9->Option (Val × A9)} (hF:∀ args h v h2,F args h=A4 (v,h2)->iD P f/\CallOk P f args h v h2/\h.length<=h2.length)
  (args:List Val) (h:A9) (v:Val) (h2:A9) (he:tidy F args h=A4 (v,h2)):iD P f/\CallOk P f args h v h2/\h.length<=h2.length:=by
 unfold tidy at he;split at he
 ·rename_i r hr;cases he;exact D1V hF hr
 ·exact hF args h v h2 he
def B4x {F:List Val->A9->Option (Val × A9)} {args:List Val} {h h':A9} {v v2:Val} {ids:List Nat} (he:F args (ro h)=A4 (v,h')) (hc:S8 h' h.length v=A4 (v2,ids)) :
  tidy F args h=A4 (v2,h++ids.map (rd h')):=by
 have:C1A F args h=A4 (v2,h++ids.map (rd h')):=by
  unfold C1A;rw [he];simp [hc]
 unfold tidy;rw [this]
def Val.flat:Val->Bool
 | .c x=>x.flat
 | .a l=>K1 l
 | .t l=>l.all λp=>match p with
  | .c x=>x.flat
  | .a l=>K1 l
 | _=>A6
def dS {h:A9} {b:Nat} {seen:List Nat}:∀ {l:List Cell},K1 l=A5->M6 h b seen l=A4 (l,seen)
 | [],_=>rfl
 | c::l,hf=>by
  rw [B1U,D9v] at hf;have ih:=dS (h:=h) (b:=b) (seen:=seen) hf.2;unfold M6;rw [if_pos (Cell.low_of_flat hf.1),ih];rfl
def A8a {h:A9} {b:Nat} {seen:List Nat}:∀ {l:List Part},(l.all λp=>match p with | .c x=>x.flat | .a l=>K1 l)=A5->eJ h b seen l=A4 (l,seen)
 | [],_=>rfl
 | .c x::l,hf=>by
  simp only [E0j,D9v] at hf;have ih:=A8a (h:=h) (b:=b) (seen:=seen) hf.2;have h1:M6 h b seen [x]=A4 ([x],seen):=dS (by simpa [K1] using hf.1);simp [eJ,h1,ih]
 | .a x::l,hf=>by
  simp only [E0j,D9v] at hf;have ih:=A8a (h:=h) (b:=b) (seen:=seen) hf.2;have h1:M6 h b seen x=A4 (x,seen):=dS hf.1;simp [eJ,h1,ih]
def C5T {h:A9} {b:Nat} {v:Val} (hf:v.flat=A5):S8 h b v=A4 (v,[]):=by
 cases v with
 | c x =>
  have h1:M6 h b [] [x]=A4 ([x],[]):=dS (by simp only [K1,E0j,List.all_nil,Bool.and_true];exact hf);simp [S8,h1]
 | a l =>
  have h1:M6 h b [] l=A4 (l,[]):=dS hf;simp [S8,h1]
 | t l =>
  have h1:eJ h b [] l=A4 (l,[]):=A8a hf;simp [S8,h1]
 | un=>cases hf
 | no=>cases hf
def D1W {F:List Val->A9->Option (Val × A9)} {args:List Val} {h h':A9} {v:Val} (he:F args (ro h)=A4 (v,h')) (hf:v.flat=A5):tidy F args h=A4 (v,h):=by
 have:=B4x he (C5T (h:=h') (b:=h.length) hf);simpa using this
def B8u (b:Nat) (l:List Cell):Bool:=l.all (Cell.low b)
def Val.low (b:Nat):Val->Bool
 | .c x=>x.low b
 | .a l=>B8u b l
 | .t l=>l.all λp=>match p with
  | .c x=>x.low b
  | .a l=>B8u b l
 | _=>A6
def A0F {h:A9} {b:Nat} {seen:List Nat}:∀ {l:List Cell},B8u b l=A5->M6 h b seen l=A4 (l,seen)
 | [],_=>rfl
 | c::l,hf=>by
  have hf:(c.low b&&B8u b l)=A5:=hf;rw [D9v] at hf;have ih:=A0F (h:=h) (b:=b) (seen:=seen) hf.2;unfold M6;rw [if_pos hf.1,ih];rfl
def B1K {h:A9} {b:Nat} {seen:List Nat}:∀ {l:List Part},(l.all λp=>match p with | .c x=>x.low b | .a l=>B8u b l)=A5->eJ h b seen l=A4 (l,seen)
 | [],_=>rfl
 | .c x::l,hf=>by
  simp only [E0j,D9v] at hf;have ih:=B1K (h:=h) (b:=b) (seen:=seen) hf.2;have h1:M6 h b seen [x]=A4 ([x],seen):=A0F (by simpa [B8u] using hf.1);simp [eJ,h1,ih]
 | .a x::l,hf=>by
  simp only [E0j,D9v] at hf;have ih:=B1K (h:=h) (b:=b) (seen:=seen) hf.2;have h1:M6 h b seen x=A4 (x,seen):=A0F hf.1;simp [eJ,h1,ih]
def D4p {F:List Val->A9->Option (Val × A9)} {args:List Val} {h h':A9} {v:Val} (he:F args (ro h)=A4 (v,h')) (hf:v.low h.length=A5):tidy F args h=A4 (v,h):=by
 have hc:S8 h' h.length v=A4 (v,[]):=by
  cases v with
  | c x =>
   have h1:M6 h' h.length [] [x]=A4 ([x],[]):=A0F (by simp only [B8u,E0j,List.all_nil,Bool.and_true];exact hf);simp [S8,h1]
  | a l =>
   have h1:M6 h' h.length [] l=A4 (l,[]):=A0F hf;simp [S8,h1]
  | t l =>
   have h1:eJ h' h.length [] l=A4 (l,[]):=B1K hf;simp [S8,h1]
  | un=>cases hf
  | no=>cases hf
 have:=B4x he hc;simpa using this
@[simp] theorem D77 {b:Nat}:B8u b []=A5:=rfl
@[simp] theorem D7z {b:Nat} {c:Cell} {l:List Cell}:B8u b (c::l)=(c.low b&&B8u b l):=rfl
@[simp] theorem D89 {b:Nat} {x:Cell}:(Val.c x).low b=x.low b:=rfl
@[simp] theorem D88 {b:Nat} {l:List Cell}:(Val.a l).low b=B8u b l:=rfl
@[simp] theorem D9a {b:Nat} {l:List Part}:(Val.t l).low b=l.all λp=>match p with | .c x=>x.low b | .a l=>B8u b l:=rfl
@[simp] theorem D84 {b id off len sz:Nat}:(Cell.sl id off len sz).low b=decide (id<b):=rfl
@[simp] theorem D9j {b:Nat} {k:IntKind} {n:Int}:(Cell.i k n).low b=A5:=rfl
@[simp] theorem D9i {b:Nat} {x:Bool}:(Cell.b x).low b=A5:=rfl
@[simp] theorem D9k {b:Nat} {x:List UInt8}:(Cell.s x).low b=A5:=rfl
@[simp] theorem D83 {b:Nat}:Cell.ns.low b=A5:=rfl
@[simp] theorem D01:K1 []=A5:=rfl
@[simp] theorem C6o {c:Cell} {l:List Cell}:K1 (c::l)=(c.flat&&K1 l):=rfl
@[simp] theorem kJ {l m:List Cell}:K1 (l++m)=(K1 l&&K1 m):=by simp [K1]
@[simp] theorem C0p {l:List UInt8}:K1 (B4 l)=A5:=by simp [K1,B4,Cell.flat]
@[simp] theorem D8t {x:Bool}:(Cell.b x).flat=A5:=rfl
@[simp] theorem D8u {k:IntKind} {n:Int}:(Cell.i k n).flat=A5:=rfl
@[simp] theorem D8v {x:List UInt8}:(Cell.s x).flat=A5:=rfl
@[simp] theorem D8l:Cell.ns.flat=A5:=rfl
@[simp] theorem D8k:Cell.np.flat=A5:=rfl
@[simp] theorem D8n {x:Cell}:(Val.c x).flat=x.flat:=rfl
@[simp] theorem D8m {l:List Cell}:(Val.a l).flat=K1 l:=rfl
@[simp] theorem D8o {l:List Part}:(Val.t l).flat=l.all λp=>match p with | .c x=>x.flat | .a l=>K1 l:=rfl
@[simp] theorem C80 {h:A9} {v:Val}:quiet h (A4 (v,h))=A4 (v,h):=Y7 Grows.rfl'
section
variable {h:A9} {l:List (Option Row)} {k id:Nat}
@[simp] theorem dW:rd (h++l) (h.length+k)=(l[k]?).join:=by
 unfold rd;rw [D9P (by omega),Nat.add_sub_cancel_left]
@[simp] theorem I1:rd (h++l) h.length=(l[0]?).join:=dW (k:=0)
@[simp] theorem A5R {x:Option Row}:(h++l).set (h.length+k) x=h++l.set k x:=by
 rw [D96 _ _ (by omega),Nat.add_sub_cancel_left]
@[simp] theorem nC {x:Option Row}:(h++l).set h.length x=h++l.set 0 x:=A5R (k:=0)
end
section
variable {h:A9} {id off n sz:Nat} {cs xs:List Cell} {x:Cell} {k:IntKind} {rw:Bool}
def D2c {j:Int} (h0:0<=j) (h1:j<n):I5 n sz (.c (.p id off)) (.c (.i k j))=A4 (.c (.p id (off+j.toNat*sz))):=by
 simp only [I5];rw [if_pos ⟨h0,h1⟩]
end
def Has (h:A9) (v:Val) (sz n:Nat) (cs:List Cell):Prop :=
 (v=.c .ns/\n=0/\cs=[])\/∃ id off r,v=.c (.sl id off n sz)/\rd h id=A4 r/\cs.length=n*sz/\off+n*sz<=r.cells.length/\(r.cells.drop off).take (n*sz)=cs/\noX cs=A5
section
variable {h:A9} {v:Val} {sz n:Nat} {cs:List Cell}
def Has.length (hv:Has h v sz n cs):cs.length=n*sz:=by
 rcases hv with ⟨_,rfl,rfl⟩ | ⟨_,_,_,_,_,hl,_⟩
 ·simp
 ·exact hl
def Has.ro (hv:Has h v sz n cs):Has (ro h) v sz n cs:=by
 rcases hv with hv | ⟨id,off,r,rfl,hr,h1,h2,h3,h4⟩
 ·exact .inl hv
 ·cases hh:r.head with
  | false=>exact .inr ⟨id,off,⟨r.cells,A6⟩,rfl,B4l hr hh,h1,h2,h3,h4⟩
  | true =>
   have hx:=Row.head_isX hh;have D73:cs=[]:=by
    cases hcs:cs with
    | nil=>rfl
    | cons c cs' =>
     exfalso;have lQ:c∈r.cells:=List.mem_of_mem_drop (List.mem_of_mem_take (by rw [h3,hcs];simp));have h5:c.isX=A6:=by
      have:=List.all_eq_true.1 h4 c (by rw [hcs];simp);simpa using this
     rw [hx c lQ] at h5;cases h5
   have hd:r.dim.length=r.cells.length:=by unfold Row.dim;rw [hh];simp
   have hn:n*sz=0:=by rw [<-h1,D73];rfl
   exact .inr ⟨id,off,⟨r.dim,A6⟩,rfl,by rw [C7g,hr];rfl,h1,by show off+n*sz<=r.dim.length;rw [hd];exact h2,by rw [hn,E0z,D73],h4⟩
def Has.more (hv:Has h v sz n cs) (l:A9):Has (h++l) v sz n cs:=by
 rcases hv with hv | ⟨id,off,r,rfl,hr,h1,h2,h3,h4⟩
 ·exact .inl hv
 ·exact .inr ⟨id,off,r,rfl,B6 hr,h1,h2,h3,h4⟩
def Has.len (hv:Has h v sz n cs):C1Y v=A4 (.c (.i .i64 n)):=by
 rcases hv with ⟨rfl,rfl,rfl⟩ | ⟨id,off,r,rfl,_⟩<;>rfl
def Has.cells (hv:Has h v sz n cs):kY h v=A4 cs:=by
 rcases hv with ⟨rfl,rfl,rfl⟩ | ⟨id,off,r,rfl,hr,h1,h2,h3,h4⟩
 ·rfl
 ·simp only [kY,hr,D9H];rw [if_pos ⟨h2,by rw [h3,h4];simp⟩,h3]
def Has.add (hv:Has h v sz n cs):Q2 h sz v=A4 cs:=by
 have:=hv.cells;rcases hv with ⟨rfl,rfl,rfl⟩ | ⟨id,off,r,rfl,_⟩
 ·rfl
 ·simp only [Q2,if_true];exact this
def B66:∀ l:List UInt8,bytes? (B4 l)=A4 l
 | []=>rfl
 | x::l=>by
  have h1:=x.toNat_lt;have e:C2Z (.i .u8 x.toNat)=A4 x:=by
   simp only [C2Z];rw [if_pos ⟨by omega,by omega⟩];simp
  change (C2Z (.i .u8 x.toNat)).bind (λy=>(bytes? (B4 l)).map λl=>y::l)=_;rw [e,B66 l];rfl
def Has.str {l:List UInt8} (hv:Has h v 1 n (B4 l)):B1A h v=A4 (.c (.s l)):=by
 have:=hv.cells;rcases hv with ⟨rfl,rfl,e⟩ | ⟨id,off,r,rfl,_⟩
 ·have:l=[]:=by simpa [B4] using e
  subst this;rfl
 ·simp only [B1A,if_true,this,D9H,B66,E0b]
def Has.sl (hv:Has h v sz n cs) (hn:0<n):∃ id off,v=.c (.sl id off n sz)/\id<h.length /\
  (∀ j c,cs[j]?=A4 c->B8 h (.c (.p id (off+j)))=A4 (.c c))/\∀ j m,j+m<=cs.length->D3 h m (.c (.p id (off+j)))=A4 (.a ((cs.drop j).take m)):=by
 rcases hv with ⟨rfl,rfl,rfl⟩ | ⟨id,off,r,rfl,hr,h1,h2,h3,h4⟩
 ·omega
 ·refine ⟨id,off,rfl,D7 hr,λj c hc=>?_,λj m hj=>?_⟩
  ·have T1:j<cs.length:=(List.getElem?_eq_some_iff.1 hc).1;have hx:c.isX=A6:=by
    have:=List.all_eq_true.1 h4 c (D9S hc);simpa using this
   refine B9 (cs:=r.cells) (rw:=r.rw) hr ?_ (by simp [hx]);rw [<-h3,D97 (by omega),E0u] at hc;exact hc
  ·have e:((cs.drop j).take m)=(r.cells.drop (off+j)).take m:=by
    rw [<-h3,List.drop_take,List.take_take,E0t]
    congr 1
    omega
   rw [e];refine T2 (cs:=r.cells) (rw:=r.rw) hr (by omega) ?_;rw [<-e];have:noX ((cs.drop j).take m)=A5:=by
    refine List.all_eq_true.2 λc hc=>List.all_eq_true.1 h4 c ?_
    exact List.mem_of_mem_drop (List.mem_of_mem_take hc)
   simp [this]
end
def Has.row {h:A9} {id sz n:Nat} {cs:List Cell} {rw:Bool} (hr:rd h id=A4 ⟨cs,rw⟩) (hl:cs.length=n*sz) (hx:noX cs=A5):Has h (.c (.sl id 0 n sz)) sz n cs :=
 .inr ⟨id,0,_,rfl,hr,hl,by simp [hl],by simp [<-hl],hx⟩
def Out (b:Nat) (h:A9) (v:Val) (sz n:Nat) (cs:List Cell):Prop :=
 cs.length=n*sz/\∃ id,v=.c (.sl id 0 n sz)/\b<=id/\rd h id=A4 ⟨cs,A5⟩
def Low (b:Nat) (h h':A9):Prop:=b<=h.length/\h.length<=h'.length/\∀ id,id<b->rd h' id=rd h id
def Low.refl {b:Nat} {h:A9} (hb:b<=h.length):Low b h h:=⟨hb,D9x _,λ_ _=>rfl⟩
def Low.trans {b:Nat} {h h' h'':A9} (h1:Low b h h') (h2:Low b h' h''):Low b h h'' :=
 ⟨h1.1,D93 h1.2.1 h2.2.1,λid hid=>(h2.2.2 id hid).trans (h1.2.2 id hid)⟩
def Low.new {b:Nat} {h h':A9} (h1:Low b h h') (l:A9):Low b h (h'++l) :=
 ⟨h1.1,by have:=h1.2.1;simp;omega,λid hid=>by rw [E2 (by have:=h1.1;have:=h1.2.1;omega)];exact h1.2.2 id hid⟩
def Low.set {b:Nat} {h h':A9} (h1:Low b h h') {id:Nat} (hid:b<=id) (x:Option Row):Low b h (h'.set id x) :=
 ⟨h1.1,by simpa using h1.2.1,λj hj=>by rw [B7 (by omega)];exact h1.2.2 j hj⟩
def Has.low {b:Nat} {h h':A9} {v:Val} {sz n:Nat} {cs:List Cell} (h1:Low b h h') (hv:Has h v sz n cs) (hb:∀ id off m,v=.c (.sl id off m sz)->id<b):Has h' v sz n cs:=by
 rcases hv with hv | ⟨id,off,r,rfl,hr,h2⟩
 ·exact .inl hv
 ·exact .inr ⟨id,off,r,rfl,by rw [h1.2.2 id (hb id off n rfl)];exact hr,h2⟩
def Out.app {b:Nat} {h:A9} {v y:Val} {sz n m:Nat} {cs ys:List Cell} (ho:Out b h v sz n cs) (hsz:0<sz) (hy:Q2 h sz y=A4 ys) (hm:ys.length=m*sz) (hn:n+m<=1073741824) :
  ∃ id v' h',v=.c (.sl id 0 n sz)/\qK h sz v y=A4 (v',h')/\Out b h' v' sz (n+m) (cs++ys)/\Low b h h'/\(∀ i r,rd h i=A4 r->i≠id->rd h' i=A4 r):=by
 have hd:ys.length/sz=m:=by rw [hm];exact Nat.mul_div_cancel m hsz
 obtain ⟨hl,id,rfl,D8C,hr⟩:=ho;have T1:=D7 hr;refine ⟨id,_,h.set id A7++[A4 ⟨cs++ys,A5⟩],rfl,by simp only [qK,hy,hr,D9H,hd];rw [if_pos ⟨trivial,trivial,hl.symm,trivial,hn⟩],⟨by simp [hl,hm,E0A],h.length,rfl,by omega,?_⟩,((Low.refl (by omega)).set D8C A7).new _,λi r hi Z5=>?_⟩
 ·have:=O8 (h:=h.set id A7) (r:=⟨cs++ys,A5⟩)
  rwa [E0c] at this
 ·have T1:=D7 hi;rw [E2 (by simpa using T1),B7 (Ne.symm Z5)];exact hi
def oQ {h:A9} {id:Nat} {cs:List Cell} (hr:rd h id=A4 ⟨cs,A5⟩) (hf:K1 cs=A5):newRow h id=A5:=by simp [newRow,hr,hf]
def D2w {h:A9} {b id off n sz:Nat} {cs:List Cell} (hb:b<=id) (hr:rd h id=A4 ⟨cs,A5⟩) (hf:K1 cs=A5):S8 h b (.c (.sl id off n sz))=A4 (.c (.sl b off n sz),[id]):=by
 have:¬ id<b:=by omega
 simp [S8,M6,hb,this,oQ hr hf]
def D4q {F:List Val->A9->Option (Val × A9)} {args:List Val} {h h':A9} {v:Val} {sz n:Nat} {cs:List Cell} (he:F args (ro h)=A4 (v,h')) (ho:Out h.length h' v sz n cs) (hf:K1 cs=A5) :
  tidy F args h=A4 (.c (.sl h.length 0 n sz),h++[A4 ⟨cs,A5⟩]):=by
 obtain ⟨hl,id,rfl,hb,hr⟩:=ho;rw [B4x he (D2w hb hr hf)];simp [hr]
def D1X {F:List Val->A9->Option (Val × A9)} {args:List Val} {h h':A9} {v':Nat} {c:Cell} {sz n:Nat} {cs:List Cell} (he:F args (ro h)=A4 (.t [.c (.sl v' 0 n sz),.c c],h')) (ho:Out h.length h' (.c (.sl v' 0 n sz)) sz n cs) (hf:K1 cs=A5) (hc:c.flat=A5) :
  tidy F args h=A4 (.t [.c (.sl h.length 0 n sz),.c c],h++[A4 ⟨cs,A5⟩]):=by
 obtain ⟨hl,id,e,hb,hr⟩:=ho;cases e;have e2:M6 h' h.length [v'] [c]=A4 ([c],[v']):=dS (by simp [hc]);rw [B4x he (v2:=.t [.c (.sl h.length 0 n sz),.c c]) (ids:=[v']) (by simp [S8,eJ,M6,hb,show ¬ v'<h.length by omega,oQ hr hf,e2,hc,Cell.low_of_flat hc])];simp [hr]
def encI (l:List Int):List Cell:=l.map λn=>.i .i64 n
def C1 (l:List Int):(encI l).length=l.length:=by simp [encI]
def qY (l:List Int) (i:Nat) (x:Int):(encI l).set i (.i .i64 x)=encI (l.set i x):=by simp [encI,List.map_set]
def H0 (l:List Int) (i:Nat):(encI l)[i]?=(l[i]?).map λx=>.i .i64 x:=by simp [encI]
def vI (l m:List Int):encI (l++m)=encI l++encI m:=by simp [encI]
def A80 (l:List Int):noX (encI l)=A5:=by simp [noX,encI,Cell.isX]
@[simp] theorem C8o {l:List Int}:K1 (encI l)=A5:=by simp [K1,encI,Cell.flat]
def C6f {l m:List Int}:encI l=encI m↔l=m:=by
 constructor
 ·intro h;exact List.map_inj_right (λx y e=>by simpa using e) |>.1 h
 ·rintro rfl;rfl
def encS (l:List (List UInt8)):List Cell:=l.map .s
def X6 (l:List (List UInt8)):(encS l).length=l.length:=by simp [encS]
def C0Y (l:List (List UInt8)):noX (encS l)=A5:=by simp [noX,encS,Cell.isX]
@[simp] theorem D6C {l:List (List UInt8)}:K1 (encS l)=A5:=by simp [K1,encS,Cell.flat]
abbrev Fun:=List Val->A9->Option (Val × A9)
abbrev SmV:=Sm (Val × A9)
abbrev A2g:=Option (Val × A9)
def SOk (P:Program) (f:FuncId) (S:Fun):Prop:=∀ args h v h2,S args h=A4 (v,h2)->iD P f/\CallOk P f args h v h2/\h.length<=h2.length
def D2T (g:Nat) (S:Fun) (E:J9):J9:=λf args h=>bif Nat.beq f g then S args h else E f args h
def C6d:J9:=λ_ _ _=>A7
def C9e {P:Program}:dR P C6d:=λ_ _ _ _ _ h=>by cases h
def C9f {P:Program} {g:Nat} {S:Fun} {E:J9} (hs:SOk P g S) (hE:dR P E):dR P (D2T g S E):=by
 intro f args h v h2 he;unfold D2T at he;cases hb:Nat.beq f g with
 | true=>rw [hb] at he;have e:=Nat.eq_of_beq_eq_true hb;subst e;exact hs args h v h2 he
 | false=>rw [hb] at he;exact hE f args h v h2 he
structure FnK (P:Program) (f:FuncId) (A:AFn) (E:J9) (R:Nat->Fun):Prop where
 run:∀ n args h,A.run E n args h=R n args h
 ok:SOk P f (Lim A E)
def FnK.mk' {P:Program} {f:FuncId} {fn:Func} {A:AFn} {E:J9} {R:Nat->Fun} (hE:dR P E) (hf:P.funcs[f]?=A4 fn) (hc:B91 P fn A=A5) (hr:∀ n args h,A.run E n args h=R n args h):FnK P f A E R :=
 ⟨hr,λ_ _ _ _ he=>(C9r he).elim λ_ e=>D7I hE hf hc e⟩
abbrev KV:=A9L (Val × A9)
abbrev AtH:=A9->A2g
def zE:List Nat->List Val->Env
 | t::l,x::r=>(t,x)::zE l r
 | _,_=>[]
def rx (E:J9) (A:AFn) (n:Nat):Fun:=λargs h=>ax E n A.code A.fin (params 0 args) h
def tl (A:AFn) (E:J9):Fun:=tidy (Lim A E)
def aj' (s:SmV) (k:KV) (ks:List Nat) (xs:List Val):AtH:=λh=>hold (s k (zE ks xs) h)
def aj (E:J9) (n:Nat) (c:ACode) (k:KV) (ks:List Nat) (xs:List Val):AtH:=aj' (ax E n c) k ks xs
def FnK.mk2 {P:Program} {f:FuncId} {fn:Func} {A:AFn} {E:J9} (hE:dR P E) (hf:P.funcs[f]?=A4 fn) (hc:B91 P fn A=A5):FnK P f A E (rx E A) :=
 .mk' hE hf hc λ_ _ _=>D6x
section
variable {P:Program} {f:FuncId} {A:AFn} {E:J9} {R:Nat->Fun}
def FnK.of (K:FnK P f A E R) {n:Nat} {args:List Val} {h:A9} {p:Val × A9} (he:R n args h=A4 p):Lim A E args h=A4 p:=D6n ((K.run ..).trans he)
def FnK.sok (K:FnK P f A E R):SOk P f (tidy (Lim A E)):=λargs h v h2 he=>D5U K.ok args h v h2 he
def FnK.flat (K:FnK P f A E R) {n:Nat} {args:List Val} {h h2:A9} {v:Val} (he:R n args (ro h)=A4 (v,h2)) (hf:v.flat=A5):tidy (Lim A E) args h=A4 (v,h):=D1W (K.of he) hf
def FnK.low (K:FnK P f A E R) {n:Nat} {args:List Val} {h h2:A9} {v:Val} (he:R n args (ro h)=A4 (v,h2)) (hf:v.low h.length=A5):tidy (Lim A E) args h=A4 (v,h):=D4p (K.of he) hf
def FnK.out (K:FnK P f A E R) {n:Nat} {args:List Val} {h h2:A9} {v:Val} {sz k:Nat} {cs:List Cell} (he:R n args (ro h)=A4 (v,h2)) (ho:Out h.length h2 v sz k cs) (hf:K1 cs=A5):tidy (Lim A E) args h=A4 (.c (.sl h.length 0 k sz),h++[A4 ⟨cs,A5⟩]):=D4q (K.of he) ho hf
def FnK.out2 (K:FnK P f A E R) {n:Nat} {args:List Val} {h h2:A9} {i:Nat} {c:Cell} {sz k:Nat} {cs:List Cell} (he:R n args (ro h)=A4 (.t [.c (.sl i 0 k sz),.c c],h2)) (ho:Out h.length h2 (.c (.sl i 0 k sz)) sz k cs) (hf:K1 cs=A5) (hc:c.flat=A5):Esc.tidy (Lim A E) args h=A4 (.t [.c (.sl h.length 0 k sz),.c c],h++[A4 ⟨cs,A5⟩]):=D1X (K.of he) ho hf hc
def FnK.tidy (K:FnK P f A E R) {n:Nat} {args:List Val} {h h2:A9} {v v2:Val} {ids:List Nat} (he:R n args (ro h)=A4 (v,h2)) (hc:S8 h2 h.length v=A4 (v2,ids)):Esc.tidy (Lim A E) args h=A4 (v2,h++ids.map (rd h2)):=B4x (K.of he) hc
end
abbrev G3 (R:Nat->Fun) (S:Fun):Prop:=∀ {n:Nat} {args:List Val} {h h2:A9} {v:Val},R n args (ro h)=A4 (v,h2)->v.flat=A5->S args h=A4 (v,h)
abbrev D7B (R:Nat->Fun) (S:Fun):Prop:=∀ {n:Nat} {args:List Val} {h h2:A9} {v:Val},R n args (ro h)=A4 (v,h2)->v.low h.length=A5->S args h=A4 (v,h)
abbrev A4D (R:Nat->Fun) (S:Fun):Prop:=∀ {n:Nat} {args:List Val} {h h2:A9} {v:Val} {sz k:Nat} {cs:List Cell},R n args (ro h)=A4 (v,h2)->Out h.length h2 v sz k cs->K1 cs=A5->S args h=A4 (.c (.sl h.length 0 k sz),h++[A4 ⟨cs,A5⟩])
abbrev D7D (R:Nat->Fun) (S:Fun):Prop:=∀ {n:Nat} {args:List Val} {h h2:A9} {i:Nat} {c:Cell} {sz k:Nat} {cs:List Cell},R n args (ro h)=A4 (.t [.c (.sl i 0 k sz),.c c],h2)->Out h.length h2 (.c (.sl i 0 k sz)) sz k cs->K1 cs=A5->c.flat=A5->S args h=A4 (.t [.c (.sl h.length 0 k sz),.c c],h++[A4 ⟨cs,A5⟩])
abbrev C5u (R:Nat->Fun) (S:Fun):Prop:=∀ {n:Nat} {args:List Val} {h h2:A9} {v v2:Val} {ids:List Nat},R n args (ro h)=A4 (v,h2)->S8 h2 h.length v=A4 (v2,ids)->S args h=A4 (v2,h++ids.map (rd h2))
abbrev OfT (R:Nat->Fun) (S:Fun):Prop:=∀ {n:Nat} {args:List Val} {h:A9} {p:Val × A9},R n args h=A4 p->S args h=A4 p
end Go.Esc
namespace Go.Esc
open Go Go.ChangeShapes Go.WideShapes Go.ChangeAt Go.RowKit
def vK (P:Program) (g:TypeId->Option (List Sh)):List Field->Nat->Option (List Sh)
 | [],_=>A4 []
 | f::r,off=>if f.offset=off then (g f.type).bind λl=>if l.length=P.cellsOf f.type then (vK P g r (off+l.length)).map (l ++ ·) else A7 else A7
def wX (P:Program):Nat->TypeId->Option (List Sh)
 | 0,_=>A7
 | n+1,t=>match P.underlying t with
  | some .bool=>A4 [.b]
  | some (.int k)=>A4 [.i k]
  | some .string=>A4 [.s]
  | some (.struct fs)=>(vK P (wX P n) fs.toList 0).bind λl=>if l.length=P.cellsOf t then A4 l else A7
  | some (.array m e)=>(wX P n e).bind λl=>if l.length=P.cellsOf e/\P.cellsOf t=m*l.length then A4 (D9w m l).flatten else A7
  | _=>A7
def okCell:Sh->Cell->Prop
 | .b,.b _=>True
 | .i k,.i k' n=>k'=k/\k.min<=n/\n<=k.max
 | .s,.s l=>l.length<=maxLen
 | _,_=>False
def okCell.flat {s:Sh} {c:Cell} (h:okCell s c):c.flat=A5/\c.isX=A6:=by
 cases s<;>cases c<;>simp_all [okCell,Cell.flat,Cell.isX]
def A29:∀ {l:List Sh} {cs:List Cell},All2 okCell l cs->K1 cs=A5/\noX cs=A5
 | [],[],_=>⟨rfl,rfl⟩
 | s::l,c::cs,⟨h1,h2⟩=>by
  have:=A29 h2;have h3:=h1.flat;simp [this.1,h3.1,noX,h3.2];have:=this.2;simpa [noX] using this
 | [],_::_,h=>h.elim
 | _::_,[],h=>h.elim
section
variable {H:Type} {enc:TypeId × Value->H} {P:Program} {w:World} {base:Nat} {spare:Nat->Bool} {held:Bool} {fuel:Nat} {t:TypeId} {cs:List Value} {x:DataW H × List MemPlace}
def trod_array {n:Nat} {e:TypeId} (ht:P.underlying t=A4 (.array n e)) (h:DataW.trod enc P w base spare held fuel t cs=A4 x) :
  ∃ (m:Nat) (xs:List (DataW H × List MemPlace)),cs.length=P.cellsOf t/\∀ i,i<n->∃ y,DataW.trod enc P w base spare held m e ((cs.drop (i*P.cellsOf e)).take (P.cellsOf e))=A4 y:=by
 cases fuel with
 | zero=>simp [DataW.trod] at h
 | succ m =>
  unfold DataW.trod at h;rw [ht] at h;have h':cs.length=P.cellsOf t/\∃ xs,((D90 n).mapM λi=>DataW.trod enc P w base spare held m e ((cs.drop (i*P.cellsOf e)).take (P.cellsOf e)))=A4 xs:=by
   split at h<;>simp_all
   obtain ⟨hl,xs,hp,hd⟩:=h;exact ⟨xs,hp⟩
  obtain ⟨hl,xs,hp⟩:=h';refine ⟨m,xs,hl,λi hi=>?_⟩;have:=mapM_some_get hp i i (by simp [hi]);rw [this];have hxl:xs.length=n:=by simpa using mapM_some_length hp
  exact ⟨xs[i],D9u (by omega)⟩
def A15 (μ:Mu):∀ (n:Nat) {t:TypeId} {fuel:Nat} {cs:List Value} {x:DataW H × List MemPlace} {sh:List Sh},DataW.trod enc P w base spare held fuel t cs=A4 x->wX P n t=A4 sh ->
  ∃ cells,All2 (RC μ) cells cs/\All2 okCell sh cells
 | 0,_,_,_,_,_,_,hs=>by simp [wX] at hs
 | n+1,t,fuel,cs,x,sh,h,hs=>by
  unfold wX at hs;split at hs
  ·rename_i ht;cases hs;obtain ⟨b,rfl,_⟩:=DataW.trod_bool ht h;exact ⟨[.b b],⟨rfl,trivial⟩,⟨trivial,trivial⟩⟩
  ·rename_i k ht;cases hs;obtain ⟨m,rfl,_,hw⟩:=DataW.trod_int ht h;simp only [Lit.wf,D9v,decide_eq_true_eq] at hw;exact ⟨[.i k m],⟨rfl,trivial⟩,⟨⟨rfl,hw⟩,trivial⟩⟩
  ·rename_i ht;cases hs;obtain ⟨s,rfl,_,hw⟩:=DataW.trod_string ht h;exact ⟨[.s s.data.toList],⟨by show Value.string s=.string ⟨s.data.toList.toArray⟩;simp,trivial⟩,⟨by show s.data.toList.length<=maxLen;simpa using hw,trivial⟩⟩
  ·rename_i fs ht;simp only [D9t] at hs;obtain ⟨l,hl,hs⟩:=hs;split at hs
   ·rename_i hlen;cases hs;obtain ⟨xs,m,_,_,nQ,hxl,hf⟩:=DataW.trod_struct ht h;have key:∀ (r:List Field) (off:Nat) (l:List Sh),vK P (wX P n) r off=A4 l->(∀ f∈r,∃ y,DataW.trod enc P w base spare held m f.type ((cs.drop f.offset).take (P.cellsOf f.type))=A4 y) ->
      ∃ cells,All2 (RC μ) cells ((cs.drop off).take l.length)/\All2 okCell l cells:=by
     intro r
     induction r with
     | nil=>intro off l hl _;simp only [vK,D9y] at hl;subst hl;exact ⟨[],by simp,trivial⟩
     | cons f r ih =>
      intro off l hl jB;simp only [vK] at hl;split at hl
      ·rename_i ho;simp only [D9t] at hl;obtain ⟨lf,hlf,hl⟩:=hl;split at hl
       ·rename_i hc;simp only [D9J] at hl;obtain ⟨lr,hlr,rfl⟩:=hl;obtain ⟨y,hy⟩:=jB f (by simp);obtain ⟨c1,g1,g2⟩:=A15 μ n hy hlf;obtain ⟨c2,g3,g4⟩:=ih (off+lf.length) lr hlr λf' hf'=>jB f' (by simp [hf'])
        refine ⟨c1++c2,?_,g2.append g4⟩;have e:(cs.drop off).take (lf++lr).length=(cs.drop off).take lf.length++(cs.drop (off+lf.length)).take lr.length:=by
         rw [D9A,List.take_add,E0t]
        rw [e];rw [ho,<-hc] at g1;exact g1.append g3
       ·cases hl
      ·cases hl
    have h1:=key fs.toList 0 _ hl λf hf'=>by
     obtain ⟨i,hi⟩:=List.mem_iff_getElem?.1 hf';have hi2:fs[i]?=A4 f:=by simpa using hi
     rw [hf i f hi2];have:i<fs.size:=(Array.getElem?_eq_some_iff.1 hi2).1;exact ⟨xs[i],D9u (by omega)⟩
    rw [D9O,D9M (by omega)] at h1;exact h1
   ·cases hs
  ·rename_i k e ht;simp only [D9t] at hs;obtain ⟨l,hl,hs⟩:=hs;split at hs
   ·rename_i hlen;cases hs;obtain ⟨m,xs,nQ,jB⟩:=trod_array ht h;have key:∀ d j,j+d=k->∃ cells,All2 (RC μ) cells (cs.drop (j*l.length))/\All2 okCell (D9w d l).flatten cells:=by
     intro d
     induction d with
     | zero =>
      intro j hj;have:cs.drop (j*l.length)=[]:=D9K (by rw [nQ,hlen.2];have:j=k:=(by omega);subst this;exact D9x _);rw [this];exact ⟨[],trivial,trivial⟩
     | succ d ih =>
      intro j hj;obtain ⟨y,hy⟩:=jB j (by omega);obtain ⟨c1,g1,g2⟩:=A15 μ n hy hl;obtain ⟨c2,g3,g4⟩:=ih (j+1) (by omega);refine ⟨c1++c2,?_,?_⟩
      ·rw [<-hlen.1] at g1;have e2:cs.drop (j*l.length)=(cs.drop (j*l.length)).take l.length++cs.drop ((j+1)*l.length):=by
        rw [E0A,Nat.one_mul,<-E0t,List.take_append_drop]
       rw [e2];exact g1.append g3
      ·rw [D92,E0l];exact g2.append g4
    have h1:=key k 0 (by omega);simpa using h1
   ·cases hs
  ·cases hs
def C9u (P:Program) (t:TypeId):Bool :=
 match P.underlying t with
 | some (.struct _)=>A5
 | some (.array _ _)=>A5
 | _=>A6
def C8S:List Cell->Val
 | [c]=>.c c
 | _=>.un
def flatVal (P:Program) (t:TypeId) (cells:List Cell):Val:=if C9u P t=A5 then .a cells else C8S cells
def D1t (μ:Mu) {r:Reach} {b0:Nat} {n:Nat} {v:Value} {d:DataW H} {ps:List MemPlace} {sh:List Sh} (vP:Value.okWide P w r b0 t v) (hd:DataW.Trod enc P w base spare held t v d ps) (hs:wX P n t=A4 sh) :
  ∃ cells,All2 okCell sh cells/\RV μ (flatVal P t cells) v:=by
 obtain ⟨fuel,h⟩:=hd;obtain ⟨cells,h1,h2⟩:=A15 μ n h hs;refine ⟨cells,h2,?_⟩;unfold flatVal C9u;unfold Value.okWide at vP;split at vP
 ·rename_i ht;obtain ⟨cs,rfl,_,_⟩:=vP;rw [ht];simp only [if_true];exact ⟨cs.toList,by simp,by simpa [Value.cells] using h1⟩
 ·rename_i ht;obtain ⟨cs,rfl,_,_⟩:=vP;rw [ht];simp only [if_true];exact ⟨cs.toList,by simp,by simpa [Value.cells] using h1⟩
 ·rename_i hn1 hn2;have e:(match P.underlying t with | some (.struct _)=>A5 | some (.array _ _)=>A5 | _=>A6)=A6:=by
   split
   ·rename_i hh;exact (hn1 _ hh).elim
   ·rename_i hh;exact (hn2 _ _ hh).elim
   ·rfl
  rw [e];simp only [E0v,if_false];have one:∀ V,v.cells.toList=[V]->v=V->∃ c,cells=[c]/\RC μ c v:=by
   intro V hV e2;rw [hV] at h1;cases cells with
   | nil=>exact h1.elim
   | cons c r=>cases r with
    | nil=>exact ⟨c,rfl,e2 ▸ h1.1⟩
    | cons=>exact h1.2.elim
  have fin:∀ c,cells=[c]/\RC μ c v->RV μ (C8S cells) v:=by
   rintro c ⟨rfl,hc⟩;exact hc
  unfold wX at hs;cases n with
  | zero=>simp at hs
  | succ n =>
   simp only at hs;split at hs
   ·rename_i ht;obtain ⟨b,hb,_⟩:=DataW.trod_bool ht h;unfold Cell.okWide at vP;rw [ht] at vP;have:∃ b,v=.bool b:=by
     cases v<;>simp_all [Cell.ok]
    obtain ⟨b,rfl⟩:=this;obtain ⟨c,hc⟩:=one (.bool b) (by simp [Value.cells]) rfl;exact fin c hc
   ·rename_i k ht;obtain ⟨m,rfl⟩:=okWide_int (P:=P) ht (by unfold Value.okWide;rw [ht];exact vP);obtain ⟨c,hc⟩:=one (.int k m) (by simp [Value.cells]) rfl;exact fin c hc
   ·rename_i ht;obtain ⟨b,hb,_⟩:=DataW.trod_string ht h;unfold Cell.okWide at vP;rw [ht] at vP;have:∃ b,v=.string b:=by
     cases v<;>simp_all [Cell.ok]
    obtain ⟨b,rfl⟩:=this;obtain ⟨c,hc⟩:=one (.string b) (by simp [Value.cells]) rfl;exact fin c hc
   ·rename_i fs ht;exact (hn1 _ ht).elim
   ·rename_i k e ht;exact (hn2 _ _ ht).elim
   ·cases hs
end
def Mu.set (μ:Mu) (id:Nat) (y:Option (Nat × Nat)):Mu:=λj=>if j=id then y else μ j
def Mu.le_set {μ:Mu} {id:Nat} {y:Option (Nat × Nat)} (h:μ id=Option.none):μ.le (μ.set id y):=by
 intro j x hj;unfold Mu.set;by_cases e:j=id
 ·subst e;rw [h] at hj;cases hj
 ·simp [e,hj]
def Inv.addRow {W:World} {h:A9} {μ:Mu} (hi:Inv (C0b W) μ h W) (hro:∀ id r,rd h id=A4 r->r.own=A6) {y:Option (Nat × Nat)} {cs:List Cell} (A0R:(Row.mk cs A6).own=A6) (hrow:RowOk (μ.set h.length y) W h.length ⟨cs,A6⟩) :
  Inv (C0b W) (μ.set h.length y) (h++[A4 ⟨cs,A6⟩]) W/\∀ id r,rd (h++[A4 ⟨cs,A6⟩]) id=A4 r->r.own=A6:=by
 have hm:μ h.length=Option.none:=hi.dom _ (D9x _);have get:∀ id r,rd (h++[A4 ⟨cs,A6⟩]) id=A4 r->(id<h.length/\rd h id=A4 r)\/(id=h.length/\r=⟨cs,A6⟩):=by
  intro id r hr;by_cases hl:id<h.length
  ·rw [E2 hl] at hr;exact .inl ⟨hl,hr⟩
  ·have T1:=D7 hr;simp at T1;have:id=h.length:=by omega
   subst this;rw [O8] at hr;cases hr;exact .inr ⟨rfl,rfl⟩
 have ro':∀ id r,rd (h++[A4 ⟨cs,A6⟩]) id=A4 r->r.own=A6:=by
  intro id r hr;rcases get id r hr with ⟨_,h1⟩ | ⟨_,rfl⟩
  ·exact hro id r h1
  ·exact A0R
 refine ⟨⟨?_,?_,?_,?_,hi.ctx⟩,ro'⟩
 ·intro id r hr;rcases get id r hr with ⟨hl,h1⟩ | ⟨rfl,rfl⟩
  ·exact (hi.rows id r h1).mono (Mu.le_set hm) (by simp [Mu.set];omega) λ_ _=>rfl
  ·exact hrow
 ·intro id bQ r r' x x' hr _ hw;rw [ro' id r hr] at hw;cases hw
 ·intro id r x hr hw;rw [ro' id r hr] at hw;cases hw
 ·intro id hl;simp at hl;have:id≠h.length:=by omega
  simp only [Mu.set,this,if_false];exact hi.dom id (by omega)
def D3P {μ:Mu} {k:Nat} {cs:List Cell} {vs:List Value} (h:All2 (RC μ) cs vs):(Row.mk (D9w k .dark++cs) A6).own=A6:=by
 cases k with
 | succ k=>rfl
 | zero =>
  cases cs with
  | nil=>rfl
  | cons c cs =>
   cases vs with
   | nil=>exact h.elim
   | cons v vs =>
    have h1:=h.1;cases c<;>first | rfl | exact h1.elim
def Opened (W:World) (μ:Mu) (h:A9):Prop:=Inv (C0b W) μ h W/\∀ id r,rd h id=A4 r->r.own=A6
def Opened.nought (W:World):Opened W (λ_=>Option.none) []:=⟨Inv.nought W,λid r h=>by simp [rd] at h⟩
section
variable {H:Type} {enc:TypeId × Value->H} {P:Program} {W:World} {base:Nat} {held:Bool} {t:TypeId}
def D2x {W:World} {a:Addr} {C:Array Value} {elem:TypeId} {fz:Nat × Nat} {k:Nat} (hC:W.heap[a.block]?=A4 (.cells C elem fz)) (hs:a.spot=A7):W.cell? (a.add k)=C[a.off+k]? := by
 have h1:(a.add k).block=a.block:=by unfold Addr.add;split<;>rfl
 have h2:(a.add k).spot=A7:=by unfold Addr.add;split<;>simp_all
 have h3:(a.add k).off=a.off+k:=by unfold Addr.add;split<;>simp_all
 unfold World.cell?;rw [h1,hC,h3];simp [h2]
def C05 {μ:Mu} {h:A9} (ho:Opened W μ h) {r:Reach} {b0 n:Nat} {e:TypeId} {v:Value} {d:DataW H} {ps:List MemPlace} {sh:List Sh} (ht:P.underlying t=A4 (.slice e)) (hs:wX P n e=A4 sh) (tL:sh.length=P.cellsOf e) (B1V:0<sh.length)
  (vP:Value.okWide P W r b0 t v) (hd:DataW.Trod enc P W base (λ_=>A5) held t v d ps) :
  ∃ v' μ' l len cells,μ.le μ'/\Opened W μ' (h++l)/\RV μ' v' v/\Has (h++l) v' sh.length len cells/\All2 okCell (D9w len sh).flatten cells/\len<=maxLen:=by
 obtain ⟨fuel,hf⟩:=hd;have hv:∃ a len cap,v=.slice a len cap:=by
  unfold Value.okWide at vP;rw [ht] at vP;unfold Cell.okWide at vP;rw [ht] at vP;cases v<;>simp_all [Cell.ok]
 obtain ⟨a0,len0,cap0,rfl⟩:=hv;have D6J:(Value.slice a0 len0 cap0).cells.toList=[.slice a0 len0 cap0]:=by simp [Value.cells]
 rw [D6J] at hf;rcases Deep.open_slice ht hf with ⟨hc,_⟩ | ⟨a,len,cap,m,k,D,Pl,hc,hb,hl,hm,hmm,hx,hel⟩
 ·simp only [List.cons.injEq,Value.slice.injEq,and_true] at hc;obtain ⟨rfl,rfl,rfl⟩:=hc;exact ⟨.c .ns,μ,[],0,[],Mu.le_refl _,by simpa using ho,rfl,.inl ⟨rfl,rfl,rfl⟩,by simp,E0I _⟩
 ·simp only [List.cons.injEq,Value.slice.injEq,and_true] at hc;obtain ⟨rfl,rfl,rfl⟩:=hc;simp only [if_true] at hmm;subst hmm;rw [<-tL] at hel;by_cases hm0:m=0
  ·subst hm0;have:len0=0:=by omega
   subst this;obtain ⟨g1,g2⟩:=Inv.addRow ho.1 ho.2 (y:=Option.none) (cs:=[]) rfl (by unfold RowOk;simp [Mu.set]);exact ⟨.c (.sl h.length 0 0 sh.length),_,[A4 ⟨[],A6⟩],0,[],Mu.le_set (ho.1.dom _ (D9x _)),⟨g1,g2⟩,.inr ⟨rfl,_,rfl⟩,.inr ⟨h.length,0,⟨[],A6⟩,rfl,O8,by simp,by simp,by simp,rfl⟩,by simp,E0I _⟩
  ·obtain ⟨cs0,hc0,hr0⟩:=hel 0 (by omega);obtain ⟨_,D9f,D6I⟩:=World.cells?_some hc0;have rJ:∃ C elem fz,W.heap[a.block]?=A4 (.cells C elem fz)/\a.spot=A7:=by
    have:=D6I 0 B1V;rw [D9u (by omega)] at this;unfold World.cell? at this;have hb0:((a.add (0*sh.length)).add 0)=a:=by simp [Addr.add]
    rw [hb0] at this;split at this
    ·rename_i C elem fz hh;refine ⟨C,elem,fz,hh,?_⟩;split at this
     ·cases this
     ·rename_i hs2;cases hsp:a.spot with
      | none=>rfl
      | some s=>simp [hsp] at hs2
    ·cases this
   obtain ⟨C,elem,fz,hC,hsp⟩:=rJ;have ha:a=⟨a.block,a.off,A7⟩:=by cases a;simp_all
   have D3d:∀ i j,i<m->j<sh.length->W.cell? ((a.add (i*sh.length)).add j)=C[a.off+(i*sh.length+j)]? := by
    intro i j _ _;rw [Deep.add_add];exact D2x hC hsp
   have D74:a.off+m*sh.length<=C.size:=by
    obtain ⟨cs1,hc1,_⟩:=hel (m-1) (by omega);obtain ⟨_,D7Z,C8A⟩:=World.cells?_some hc1;have h1:=C8A (sh.length-1) (by omega);rw [D3d _ _ (by omega) (by omega),D9u (by omega)] at h1;have h2:=(Array.getElem?_eq_some_iff.1 h1).1;have e:(m-1)*sh.length+(sh.length-1)+1=m*sh.length:=by
     obtain ⟨q,rfl⟩:∃ q,m=q+1:=⟨m-1,by omega⟩;rw [Nat.add_sub_cancel,E0A];omega
    omega
   have key:∀ d j,j+d=len0->∃ cells,All2 (RC μ) cells ((C.toList.drop (a.off+j*sh.length)).take (d*sh.length))/\All2 okCell (D9w d sh).flatten cells:=by
    intro d
    induction d with
    | zero=>intro j _;exact ⟨[],by simp,trivial⟩
    | succ d ih =>
     intro j hj;obtain ⟨cs1,hc1,hr1⟩:=hel j (by omega);obtain ⟨_,D7Z,C8A⟩:=World.cells?_some hc1;obtain ⟨c1,g1,g2⟩:=A15 μ n hr1 hs;obtain ⟨c2,g3,g4⟩:=ih (j+1) (by omega);refine ⟨c1++c2,?_,by rw [D92,E0l];exact g2.append g4⟩;have e1:(C.toList.drop (a.off+j*sh.length)).take sh.length=cs1:=by
      refine E0q λi=>?_
      by_cases hi:i<sh.length
      ·rw [D97 hi,E0u,<-C8A i hi,D3d j i (by omega) hi];simp [Nat.add_assoc]
      ·rw [D9W (by simp;omega),D9W (by omega)]
     have e2:(C.toList.drop (a.off+j*sh.length)).take ((d+1)*sh.length)=cs1++(C.toList.drop (a.off+(j+1)*sh.length)).take (d*sh.length):=by
      rw [E0A d 1,Nat.one_mul,Nat.add_comm (d*sh.length),List.take_add,e1,E0t,E0A,Nat.one_mul,Nat.add_assoc]
     rw [e2];exact g1.append g3
   obtain ⟨cells,k1,k2⟩:=key len0 0 (by omega);rw [Nat.zero_mul,E0D] at k1;have nQ:cells.length=len0*sh.length:=by
    have h1:=k1.length;simp at h1;have:len0*sh.length<=m*sh.length:=Nat.mul_le_mul_right _ hl;omega
   have hmul:len0*sh.length<=m*sh.length:=Nat.mul_le_mul_right _ hl;have hm':μ h.length=A7:=ho.1.dom _ (D9x _);obtain ⟨g1,g2⟩:=Inv.addRow ho.1 ho.2 (y:=A4 (a.block,C.size)) (cs:=D9w a.off .dark++cells) (D3P k1) (by
    unfold RowOk;simp only [Mu.set,if_true];refine .inl ⟨C,elem,fz,hC,rfl,?_,λhf=>by cases hf⟩;have e3:C.toList.take (D9w a.off Cell.dark++cells).length=C.toList.take a.off++(C.toList.drop a.off).take (len0*sh.length):=by
     rw [D9A,D9X,List.take_add,nQ]
    rw [e3];refine All2.append ?_ (k1.mono λc V hc=>.inl (hc.mono (Mu.le_set hm')));refine All2.of_get (by simp;omega) λi c V hc hV=>.inr ⟨rfl,?_⟩
    have:=D9S hc;rw [List.mem_replicate] at this;rw [this.2];rfl)
   refine ⟨.c (.sl h.length a.off len0 sh.length),_,[A4 ⟨D9w a.off .dark++cells,A6⟩],len0,cells,Mu.le_set hm',⟨g1,g2⟩,.inl ⟨a.block,C.size,m,by simp [Mu.set],hl,D74,by rw [<-ha]⟩,.inr ⟨h.length,a.off,_,rfl,O8,nQ,?_,?_,(A29 k2).2⟩,k2,by omega⟩
   ·simp [nQ]
   ·rw [E0s (by simp),D9M (by omega)]
end
def RV.flatVal {μ μ':Mu} {P:Program} {t:TypeId} {cells:List Cell} {v:Value} (hf:K1 cells=A5) (h:RV μ (flatVal P t cells) v):RV μ' (flatVal P t cells) v:=by
 unfold Go.Esc.flatVal at h ⊢;split
 ·rename_i ha;rw [if_pos ha] at h;obtain ⟨vs,e,h2⟩:=h;exact ⟨vs,e,All2.flat hf h2⟩
 ·rename_i ha;rw [if_neg ha] at h;unfold C8S at h ⊢;split
  ·rename_i c;simp only [C6o,D01,Bool.and_true] at hf;exact RC.flat hf h
  ·trivial
def C8C (k:IntKind) (n:Int):Prop:=k.min<=n/\n<=k.max
def C3i {n:Int}:C8C .u8 n↔0<=n/\n<=255:=Iff.rfl
def C61:∀ {n:Nat} {cells:List Cell},All2 okCell (D9w n (.i .u8)) cells->∃ l:List UInt8,cells=B4 l/\l.length=n
 | 0,[],_=>⟨[],rfl,rfl⟩
 | n+1,c::cs,h=>by
  rw [D92] at h;obtain ⟨l,rfl,hl⟩:=C61 h.2;have h1:=h.1;cases c with
  | i k m =>
   obtain ⟨rfl,h2⟩:=h1;have h3:=C3i.1 h2;refine ⟨UInt8.ofNat m.toNat::l,?_,by simp [hl]⟩;simp only [B4,E0d,List.cons.injEq,Cell.i.injEq,true_and,and_true];rw [UInt8.toNat_ofNat'];omega
  | _=>exact h1.elim
 | 0,_::_,h=>h.elim
 | n+1,[],h=>by rw [D92] at h;exact h.elim
section
variable {H:Type} {enc:TypeId × Value->H} {P:Program} {W:World} {base:Nat} {spare:Nat->Bool} {held:Bool} {t:TypeId} {r:Reach} {b0 n:Nat} {v:Value} {d:DataW H} {ps:List MemPlace}
def D4M {s:Sh} (vP:Value.okWide P W r b0 t v) (hd:DataW.Trod enc P W base spare held t v d ps) (hs:wX P n t=A4 [s]) (ha:C9u P t=A6):∃ c,okCell s c/\∀ μ,RV μ (.c c) v:=by
 obtain ⟨cells,h1,h2⟩:=D1t (λ_=>A7) vP hd hs;cases cells with
 | nil=>exact h1.elim
 | cons c l=>cases l with
  | cons=>exact h1.2.elim
  | nil =>
   refine ⟨c,h1.1,fun μ=>?_⟩;have:=RV.flatVal (μ':=μ) (A29 h1).1 h2;unfold flatVal at this
   rwa [if_neg (by rw [ha];simp)] at this
def D4L {k:IntKind} (vP:Value.okWide P W r b0 t v) (hd:DataW.Trod enc P W base spare held t v d ps) (hs:wX P n t=A4 [.i k]) (ha:C9u P t=A6):∃ m,C8C k m/\∀ μ,RV μ (.c (.i k m)) v:=by
 obtain ⟨c,h1,h2⟩:=D4M vP hd hs ha;cases c with
 | i k' m=>obtain ⟨rfl,h1⟩:=h1;exact ⟨m,h1,h2⟩
 | _=>exact h1.elim
def D6v {e:TypeId} {sh:List Sh} {μ:Mu} {h:A9} (ho:Opened W μ h) (vP:Value.okWide P W r b0 t v) (hd:DataW.Trod enc P W base (λ_=>A5) held t v d ps) (ht:P.underlying t=A4 (.slice e)) (hs:wX P n e=A4 sh) (tL:sh.length=P.cellsOf e) (B1V:0<sh.length) :
  ∃ v' μ' l len cells,μ.le μ'/\Opened W μ' (h++l)/\RV μ' v' v/\Has (h++l) v' sh.length len cells/\All2 okCell (D9w len sh).flatten cells/\len<=maxLen :=
 C05 ho ht hs tL B1V vP hd
end
def byte_of {n:Int} (h:C8C .u8 n):∃ x:UInt8,n=(x.toNat:Int):=by
 have:=C3i.1 h;exact ⟨UInt8.ofNat n.toNat,by rw [UInt8.toNat_ofNat'];omega⟩
end Go.Esc
section
namespace Go.Esc
open Go
def Has.tr {h:A9} {id sz n:Nat} {cs:List Cell} (hr:rd h id=A4 ⟨cs,A5⟩) (hl:cs.length=n*sz) (hx:noX cs=A5):Has h (.c (.sl id 0 n sz)) sz n cs:=Has.row hr hl hx
def Has.since {g h:A9} {v:Val} {sz n:Nat} {cs:List Cell} (hv:Has g v sz n cs) (h1:Low g.length g h):Has h v sz n cs:=by
 rcases hv with hv | ⟨id,off,r,rfl,hr,h2⟩
 ·exact .inl hv
 ·exact .inr ⟨id,off,r,rfl,by rw [h1.2.2 id (D7 hr)];exact hr,h2⟩
def Low.rd {g h:A9} (h1:Low g.length g h) {id:Nat} {r:Row} (hr:rd g id=A4 r):rd h id=A4 r:=by
 rw [h1.2.2 id (D7 hr)];exact hr
def push {g h:A9} {id n sz:Nat} {cs ys:List Cell} (hlow:Low g.length g h) (hr:rd h id=A4 ⟨cs,A5⟩) (hl:cs.length=n*sz) (hb:g.length<=id) (hy:ys.length=sz) (hsz:0<sz) (hn:n+1<=1073741824) :
  ∃ h',qK (h++[A4 ⟨ys,A5⟩]) sz (.c (.sl id 0 n sz)) (.c (.sl h.length 0 1 sz))=A4 (.c (.sl (h.length+1) 0 (n+1) sz),h')/\rd h' (h.length+1)=A4 ⟨cs++ys,A5⟩/\Low g.length g h'/\g.length<=h.length+1/\(cs++ys).length=(n+1)*sz:=by
 have T1:=D7 hr;have h1:rd (h++[A4 ⟨ys,A5⟩]) id=A4 ⟨cs,A5⟩:=B6 hr;have h2:Q2 (h++[A4 ⟨ys,A5⟩]) sz (.c (.sl h.length 0 1 sz))=A4 ys:=by
  have:=(Has.row (h:=h++[A4 ⟨ys,A5⟩]) (id:=h.length) (sz:=sz) (n:=1) (cs:=ys) (rw:=A5) (by simp) (by omega));simp [Q2,kY,hy,D9M (Nat.le_of_eq hy)]
 refine ⟨(h++[A4 (Row.mk ys A5)]).set id A7++[A4 (Row.mk (cs++ys) A5)],?_,?_,((hlow.new _).set hb A7).new _,by have:=hlow.2.1;omega,by simp [hl,hy,E0A]⟩
 ·simp only [qK,h2,h1,D9H,hy,Nat.div_self hsz];rw [if_pos ⟨trivial,trivial,hl.symm,trivial,hn⟩];simp
 ·have:=O8 (h:=(h++[A4 (Row.mk ys A5)]).set id A7) (r:=Row.mk (cs++ys) A5);rw [E0c] at this;simpa using this
def ldN (r:Option Row) (off n:Nat):Option Val:=r.bind λr=>if off+n<=r.cells.length/\(r.rw||noX ((r.cells.drop off).take n))=A5 then A4 (.a ((r.cells.drop off).take n)) else A7
def ld1 (r:Option Row) (off:Nat):Option Val:=r.bind λr=>(r.cells[off]?).bind λc=>bif r.rw || !c.isX then A4 (.c c) else A7
def stN (r:Option Row) (off n:Nat) (xs:List Cell):Option Row:=r.bind λr=>if r.rw=A5/\xs.length=n/\off+n<=r.cells.length then A4 ⟨lay r.cells off xs,A5⟩ else A7
def st1 (r:Option Row) (off:Nat) (x:Cell):Option Row:=r.bind λr=>if r.rw=A5/\off<r.cells.length then A4 ⟨r.cells.set off x,A5⟩ else A7
def slr (r:Option Row) (id off n sz:Nat):Option Val:=r.bind λr=>if off+n*sz<=r.cells.length/\(r.rw=A5\/Option.any (λc=>!c.isX) r.cells[off]?=A5) then A4 (.c (.sl id off n sz)) else A7
section
variable {h:A9} {l:List (Option Row)} {k off n sz:Nat} {cs xs:List Cell} {x:Cell} {kd:IntKind}
def O9:D3 (h++l) n (.c (.p (h.length+k) off))=ldN (l[k]?).join off n:=by simp [D3,ldN]
def G6:D3 (h++l) n (.c (.p h.length off))=ldN (l[0]?).join off n:=by simp [D3,ldN]
def Z4:B8 (h++l) (.c (.p (h.length+k) off))=ld1 (l[k]?).join off:=by simp [B8,ld1]
def J2:B8 (h++l) (.c (.p h.length off))=ld1 (l[0]?).join off:=by simp [B8,ld1]
def O3:E9 (h++l) n (.c (.p (h.length+k) off)) (.a xs)=mp (stN (l[k]?).join off n xs) λr=>h++l.set k (A4 r):=by
 simp only [E9,stN,dW];cases (l[k]?).join with
 | none=>rfl
 | some r=>simp only [D9H];split<;>simp [mp]
def F8:E9 (h++l) n (.c (.p h.length off)) (.a xs)=mp (stN (l[0]?).join off n xs) λr=>h++l.set 0 (A4 r):=O3 (k:=0)
def nK:H1 (h++l) (.c (.p (h.length+k) off)) (.c x)=mp (st1 (l[k]?).join off x) λr=>h++l.set k (A4 r):=by
 simp only [H1,st1,dW];cases (l[k]?).join with
 | none=>rfl
 | some r=>simp only [D9H];split<;>simp [mp]
def A73:H1 (h++l) (.c (.p h.length off)) (.c x)=mp (st1 (l[0]?).join off x) λr=>h++l.set 0 (A4 r):=nK (k:=0)
def C9A:C4j (h++l) n sz (.c (.p (h.length+k) off)) A7 A7=slr (l[k]?).join (h.length+k) off n sz:=by
 simp [C4j,slr,bound]
def D2o:C4j (h++l) n sz (.c (.p h.length off)) A7 A7=slr (l[0]?).join h.length off n sz:=C9A (k:=0)
def L9 (hl:cs.length=n):ldN (A4 ⟨cs,A5⟩) 0 n=A4 (.a cs):=by
 subst hl;simp [ldN]
def zF:ld1 (A4 ⟨cs,A5⟩) off=(cs[off]?).map .c:=by
 simp only [ld1,D9H,Bool.true_or,cond_true];cases cs[off]?<;>rfl
def cK (hl:cs.length=n) (hx:xs.length=n):stN (A4 ⟨cs,A5⟩) 0 n xs=A4 ⟨xs,A5⟩:=by
 simp only [stN,D9H];rw [if_pos ⟨trivial,hx,by omega⟩,lay_all (by omega)]
def D0m (ho:off<cs.length):st1 (A4 ⟨cs,A5⟩) off x=A4 ⟨cs.set off x,A5⟩:=by
 simp only [st1,D9H];rw [if_pos ⟨trivial,ho⟩]
def D5T (hl:cs.length=n) {id:Nat}:slr (A4 ⟨cs,A5⟩) id 0 n 1=A4 (.c (.sl id 0 n 1)):=by
 simp only [slr,D9H];rw [if_pos ⟨by show 0+n*1<=cs.length;omega,.inl trivial⟩]
end
section
variable {k:IntKind} {a b:Int}
def B3f {k':IntKind} (hb:0<=b):K6 .shl (.c (.i k a)) (.c (.i k' b))=A4 (.c (.i k (k.wrap (a*2 ^ (E0J b.toNat k.bits))))):=by
 simp only [K6,D63];rw [if_neg (by omega)];rfl
def B9F {k':IntKind} (hb:0<=b):K6 .shr (.c (.i k a)) (.c (.i k' b))=A4 (.c (.i k (a/(2 ^ (E0J b.toNat k.bits))))):=by
 simp only [K6,D64];rw [if_neg (by omega),Int.fdiv_eq_ediv_of_nonneg _ (Int.pow_nonneg (by omega))];rfl
end
def D7g {a b:Nat} (ha:a<18446744073709551616) (hb:b<18446744073709551616):K6 .or (.c (.i .u64 a)) (.c (.i .u64 b))=A4 (.c (.i .u64 ((a ||| b:Nat):Int))):=by
 rw [C4d]
 congr 3
 have h1:(IntKind.u64).bits=64:=rfl;have h2:(a ||| b)<2 ^ 64:=Nat.or_lt_two_pow (by simpa using ha) (by simpa using hb);rw [h1];simp only [BitVec.ofInt_natCast,BitVec.toNat_or,BitVec.toNat_ofNat];rw [E0G (by simpa using ha),E0G (by simpa using hb)];exact wrap_u64 (by omega) (by omega)
def D7f {a b:Nat} (ha:a<9223372036854775808) (hb:b<9223372036854775808):K6 .or (.c (.i .i64 a)) (.c (.i .i64 b))=A4 (.c (.i .i64 ((a ||| b:Nat):Int))):=by
 rw [C4d]
 congr 3
 have h1:(IntKind.i64).bits=64:=rfl;have h2:(a ||| b)<2 ^ 63:=Nat.or_lt_two_pow (by simpa using ha) (by simpa using hb);rw [h1];simp only [BitVec.ofInt_natCast,BitVec.toNat_or,BitVec.toNat_ofNat];rw [E0G (by omega),E0G (by omega)];exact wrap_i64 (by omega) (by omega)
def D52 {a b:Nat} (ha:a<4294967296) (hb:b<4294967296):K6 .xor (.c (.i .u32 a)) (.c (.i .u32 b))=A4 (.c (.i .u32 ((a ^^^ b:Nat):Int))):=by
 rw [D2b]
 congr 3
 have h1:(IntKind.u32).bits=32:=rfl;have h2:(a ^^^ b)<2 ^ 32:=Nat.xor_lt_two_pow (by simpa using ha) (by simpa using hb);rw [h1];simp only [BitVec.ofInt_natCast,BitVec.toNat_xor,BitVec.toNat_ofNat];rw [E0G (by omega),E0G (by omega)];exact wrap_u32 (by omega) (by omega)
def D4H {a b:Nat} (ha:a<4294967296) (hb:b<4294967296):K6 .and (.c (.i .u32 a)) (.c (.i .u32 b))=A4 (.c (.i .u32 ((a &&& b:Nat):Int))):=by
 rw [C5w]
 congr 3
 have h1:(IntKind.u32).bits=32:=rfl;have h2:(a &&& b)<=a:=Nat.and_le_left;rw [h1];simp only [BitVec.ofInt_natCast,BitVec.toNat_and,BitVec.toNat_ofNat];rw [E0G (by omega),E0G (by omega)];exact wrap_u32 (by omega) (by omega)
def B7H {a:Int}:D9B .u8 a=a%256:=by
 simp only [D9B,IntKind.bits,IntKind.signed,D9L];rfl
def D7e {a b i:Nat} (ha:a<2 ^ i):(a ||| b*2 ^ i)=a+b*2 ^ i:=by
 rw [Nat.mul_comm b,Nat.or_comm,<-Nat.two_pow_add_eq_or_of_lt ha];omega
def A09 {a b:Nat} (h:a+b<9223372036854775808):D9B .i64 ((a:Int)+b)=((a+b:Nat):Int):=by rw [wrap_i64 (by omega) (by omega)];omega
def D9 {a:Nat} (h:a+1<9223372036854775808):D9B .i64 ((a:Int)+1)=((a+1:Nat):Int):=by rw [wrap_i64 (by omega) (by omega)];omega
def C7v {k:IntKind} {x:UInt8} {i:Nat} (hi:i<8) (hk:D9B k ((x.toNat*256 ^ i:Nat):Int)=((x.toNat*256 ^ i:Nat):Int)) (hb:k.bits=64) :
  K6 .shl (.c (.i k x.toNat)) (.c (.i .u64 (8*(i:Int))))=A4 (.c (.i k ((x.toNat*256 ^ i:Nat):Int))):=by
 rw [B3f (by omega),hb];have:E0J (8*(i:Int)).toNat 64=8*i:=by
  have:(8*(i:Int)).toNat=8*i:=by omega
  rw [this];exact E0F (by omega)
 rw [this];have hp:(256:Nat) ^ i=2 ^ (8*i):=by rw [Nat.pow_mul]
 have e:(x.toNat:Int)*2 ^ (8*i)=((x.toNat*256 ^ i:Nat):Int):=by rw [hp];simp
 rw [e,hk]
def A9F {i n:Nat} (h:i<=n):256 ^ i<=256 ^ n:=Nat.pow_le_pow_right (by omega) h
def B65 {x:UInt8} {i n:Nat} (h:i<n):x.toNat*256 ^ i<256 ^ n:=by
 have h1:=x.toNat_lt;have h2:x.toNat*256 ^ i<=255*256 ^ i:=Nat.mul_le_mul_right _ (by omega);have h3:256 ^ (i+1)<=256 ^ n:=A9F h;have h4:0<256 ^ i:=Nat.pow_pos (by omega);rw [Nat.pow_succ] at h3;omega
def byI (v:Int) (i:Nat):UInt8:=UInt8.ofNat ((v/256 ^ i)%256).toNat
def B8F (v:Int) (i:Nat):((byI v i).toNat:Int)=v/256 ^ i%256:=by
 have h1:0<=v/256 ^ i%256:=Int.emod_nonneg _ (by omega);have h2:v/256 ^ i%256<256:=Int.emod_lt_of_pos _ (by omega);unfold byI;rw [UInt8.toNat_ofNat'];omega
def C6 (w:Nat) (v:Int):List UInt8:=(D90 w).map (byI v)
@[simp] theorem N0 {w:Nat} {v:Int}:(C6 w v).length=w:=by simp [C6]
def A79 {w:Nat} {v:Int}:C6 (w+1) v=C6 w v++[byI v w]:=by simp [C6,List.range_succ]
def le:List UInt8->Nat
 | []=>0
 | x::r=>x.toNat+256*le r
def C6K:∀ l:List UInt8,le l<256 ^ l.length
 | []=>by simp [le]
 | x::r=>by
  have h1:=C6K r;have h2:=x.toNat_lt;simp only [le,D9G,Nat.pow_succ];omega
def D1b (l m:List UInt8):le (l++m)=le l+256 ^ l.length*le m:=by
 induction l with
 | nil=>simp [le]
 | cons x r ih =>
  simp only [D99,le,ih,D9G,Nat.pow_succ,Nat.mul_add];rw [Nat.mul_comm (256 ^ r.length) 256,Nat.mul_assoc];omega
def C9Y (l:List UInt8) (x:UInt8):le (l++[x])=le l+x.toNat*256 ^ l.length:=by
 rw [D1b];simp [le,Nat.mul_comm]
def C97 {l:List UInt8} {x:UInt8}:(le l ||| x.toNat*256 ^ l.length)=le (l++[x]):=by
 have hp:(256:Nat) ^ l.length=2 ^ (8*l.length):=by rw [Nat.pow_mul]
 rw [C9Y,hp,D7e (by rw [<-hp];exact C6K l)]
def C20 {v:Int} {i:Nat} (hi:i<8):D9B .u8 (v/2 ^ (E0J (8*(i:Int)).toNat 64))=((byI v i).toNat:Int):=by
 have:E0J (8*(i:Int)).toNat 64=8*i:=by
  have:(8*(i:Int)).toNat=8*i:=by omega
  rw [this];exact E0F (by omega)
 rw [this,B7H,B8F]
 congr 2
 rw [Int.pow_mul];rfl
def A3i {α:Type} {l:List α} {a i:Nat} (h:a+i<l.length):(l.drop a).take (i+1)=(l.drop a).take i++[l[a+i]]:=by
 have h2:i<(l.drop a).length:=by simp;omega
 rw [D9V h2];simp
def A9z (w:Nat) (v:Int):(le (C6 w v):Int)=v%256 ^ w:=by
 induction w with
 | zero=>simp [C6,le,Int.emod_one]
 | succ w ih =>
  rw [A79,C9Y];simp only [N0,Int.natCast_add,Int.natCast_mul,B8F,ih];have h1:(((256:Nat) ^ w:Nat):Int)=(256:Int) ^ w:=by simp
  rw [h1];have hp:(0:Int)<256 ^ w:=Int.pow_pos (by omega);have h2:=Int.mul_ediv_add_emod v (256 ^ w);have h3:=Int.mul_ediv_add_emod (v/256 ^ w) 256;have h4:v%256 ^ w+v/256 ^ w%256*256 ^ w=v-(256 ^ (w+1))*(v/256 ^ w/256):=by
   rw [Int.pow_succ,Int.mul_assoc];have e:256 ^ w*(256*(v/256 ^ w/256))+v/256 ^ w%256*256 ^ w=256 ^ w*(v/256 ^ w):=by
    rw [Int.mul_comm (v/256 ^ w%256),<-Int.mul_add,h3]
   omega
  have h5:v/256 ^ w/256=v/256 ^ (w+1):=by rw [Int.ediv_ediv_of_nonneg (Int.le_of_lt hp),Int.pow_succ]
  rw [h4,h5];have:=Int.mul_ediv_add_emod v (256 ^ (w+1));omega
def G0 (l:List UInt8) (a:Nat) (xs:List UInt8):List UInt8:=l.take a++(xs++l.drop (a+xs.length))
def K5 {l xs:List UInt8} {a:Nat} (h:a+xs.length<=l.length):(G0 l a xs).length=l.length:=by
 simp [G0];omega
def B3T {l:List UInt8} {a:Nat}:G0 l a []=l:=by simp [G0]
def A9y {l xs:List UInt8} {a:Nat} {x:UInt8} (h:a+xs.length<l.length):(G0 l a xs).set (a+xs.length) x=G0 l a (xs++[x]):=by
 unfold G0;have h1:(l.take a).length=a:=by simp;omega
 rw [D96 _ _ (by rw [h1];omega),h1,Nat.add_sub_cancel_left,D96 _ _ (D9x _),E0p,D9C]
 congr 2
 rw [D9E (by omega)];simp [Nat.add_assoc]
def C0K {l xs:List UInt8} {a j:Nat} (h:a+xs.length<=l.length):(G0 l a xs)[j]?=if a<=j/\j<a+xs.length then xs[j-a]? else l[j]? := by
 unfold G0;have h1:(l.take a).length=a:=by simp;omega
 by_cases h2:j<a
 ·rw [D94 (by omega),if_neg (by omega),D97 h2]
 ·rw [D9P (by omega),h1];by_cases h3:j<a+xs.length
  ·rw [if_pos ⟨by omega,h3⟩,D94 (by omega)]
  ·rw [if_neg (by omega),D9P (by omega),E0u]
   congr 1;omega
def C6H {l xs:List UInt8} {a:Nat} (h:a+xs.length<=l.length):((G0 l a xs).drop a).take xs.length=xs:=by
 unfold G0;have h1:(l.take a).length=a:=by simp;omega
 rw [E0s h1,E0x rfl]
def B3E {s:List UInt8} {i:Nat} (hi:i<s.length) {k:IntKind}:B9L (.c (.s s)) (.c (.i k i))=A4 (.c (.i .u8 s[i].toNat)):=by
 rw [D4D,D9u hi];rfl
def C4r (l:List UInt8):(B4 l).map Cell.sh=(D9w l.length (Sh.i .u8)).map A4:=by
 induction l with
 | nil=>rfl
 | cons x l ih=>simp only [B4,E0d,D9G,D92] at ih ⊢;rw [ih];rfl
def B8I (l:List Int):(encI l).map Cell.sh=(D9w l.length (Sh.i .i64)).map A4:=by
 induction l with
 | nil=>rfl
 | cons x l ih=>simp only [encI,E0d,D9G,D92] at ih ⊢;rw [ih];rfl
def C5y {l m:List UInt8} {n:Nat} (hl:l.length=n) (hm:m.length=n):aeq A5 (D9w n (.i .u8)) (.a (B4 l)) (.a (B4 m))=A4 (.c (.b (!decide (l=m)))):=by
 simp only [aeq];rw [if_pos ⟨by rw [C4r,hl],by rw [C4r,hm]⟩];simp [D2W]
def D2d {l m:List Int} {n:Nat} (hl:l.length=n) (hm:m.length=n):aeq A5 (D9w n (.i .i64)) (.a (encI l)) (.a (encI m))=A4 (.c (.b (!decide (l=m)))):=by
 simp only [aeq];rw [if_pos ⟨by rw [B8I,hl],by rw [B8I,hm]⟩];simp [C6f]
def C7V {l m:List Int} {n:Nat} (hl:l.length=n) (hm:m.length=n):aeq A6 (D9w n (.i .i64)) (.a (encI l)) (.a (encI m))=A4 (.c (.b (decide (l=m)))):=by
 simp only [aeq];rw [if_pos ⟨by rw [B8I,hl],by rw [B8I,hm]⟩];simp [C6f]
def D7r {h:A9} {l:List (Option Row)} {k n a b:Nat} {cs:List Cell} (hk:(l[k]?).join=A4 ⟨cs,A5⟩) (hl:cs.length=n) (hab:a<=b) (hb:b<=n) :
  C4j (h++l) n 1 (.c (.p (h.length+k) 0)) (A4 (.c (.i .i64 (a:Int)))) (A4 (.c (.i .i64 (b:Int))))=A4 (.c (.sl (h.length+k) a (b-a) 1)):=by
 simp only [C4j,dW,hk,D9H,bound];rw [if_pos (by omega),if_pos (by omega)];simp only [D9H,D9N];rw [if_pos ⟨hab,hb,by omega,rfl⟩];simp
def Has.part {h:A9} {id sz off n:Nat} {cs xs:List Cell} {rw:Bool} (hr:rd h id=A4 ⟨cs,rw⟩) (ho:off+n*sz<=cs.length) (he:(cs.drop off).take (n*sz)=xs) (hx:noX xs=A5):Has h (.c (.sl id off n sz)) sz n xs :=
 .inr ⟨id,off,_,rfl,hr,by rw [<-he];simp;omega,ho,he,hx⟩
def B0P:Option Row->Bool
 | some r=>r.own
 | none=>A5
def C0V {cs:List Cell}:B0P (A4 ⟨cs,A5⟩)=A5:=rfl
def C3r {es:Q7}:B0P (A4 (K8 es))=A5:=Row.own_mrow es
def C3A {g l l':A9} {v:Val} (hp:l <+: l') (hn:(l'.drop l.length).all B0P=A5):quiet (g++l) (A4 (v,g++l'))=A4 (v,g++l'):=by
 obtain ⟨t,rfl⟩:=hp;rw [List.drop_left] at hn;refine Y7 ⟨⟨t,by rw [D9C]⟩,λid x hid hx=>?_⟩;have hx:=rd_some.1 hx;rw [<-D9C,D9P hid] at hx;exact List.all_eq_true.1 hn _ (D9S hx)
def qL {id o off:Nat}:V8 (.c (.p id o)) off=A4 (.c (.p id (o+off))):=Eq.trans rfl rfl
def C3B {a b:Int} {k:IntKind} (ha:0<=a) (hb:0<b):K6 .rem (.c (.i k a)) (.c (.i k b))=A4 (.c (.i k (a%b))):=by
 rw [D19 (by omega),Int.tmod_eq_emod_of_nonneg ha]
def A5M {a b:Int} (ha:0<=a) (ha2:a<9223372036854775808) (hb:0<b):K6 .quo (.c (.i .i64 a)) (.c (.i .i64 b))=A4 (.c (.i .i64 (a/b))):=by
 have h1:0<=a/b:=Int.ediv_nonneg ha (by omega);have h2:a/b<=a:=Int.ediv_le_self _ ha;rw [D18 (by omega),Int.tdiv_eq_ediv_of_nonneg ha,wrap_i64 (by omega) (by omega)]
def A72 {h:A9} {id jd n m sz:Nat} {cs ys:List Cell} {rw:Bool} (hr:rd h id=A4 ⟨cs,A5⟩) (hl:cs.length=n*sz) (hy:rd h jd=A4 ⟨ys,rw⟩) (hyl:ys.length=m*sz) (hx:(rw||noX ys)=A5) (hsz:0<sz) (hn:n+m<=1073741824) :
  qK h sz (.c (.sl id 0 n sz)) (.c (.sl jd 0 m sz))=A4 (.c (.sl h.length 0 (n+m) sz),h.set id A7++[A4 ⟨cs++ys,A5⟩]):=by
 have h2:Q2 h sz (.c (.sl jd 0 m sz))=A4 ys:=by
  simp only [Q2,if_true,kY,hy,D9H,D9O,D9T];rw [<-hyl,List.take_length,if_pos ⟨D9x _,hx⟩]
 have hd:ys.length/sz=m:=by rw [hyl];exact Nat.mul_div_cancel m hsz
 simp only [qK,h2,hr,D9H,hd];rw [if_pos ⟨trivial,trivial,hl.symm,trivial,hn⟩]
end Go.Esc
end
namespace Go.Esc
def esc:=And.intro @qL (And.intro @List.append_nil.{0} (And.intro @if_true.{1} (And.intro @if_false.{1} (And.intro @E4 (And.intro @C94 (And.intro @fD (And.intro @dT (And.intro @D56 (And.intro @C9N (And.intro @D26 (And.intro @D25 (And.intro @C9M (And.intro @D4E (And.intro @A1N (And.intro @D4F (And.intro @P6 (And.intro @D2a (And.intro @D17 (And.intro @mD (And.intro @B3e (And.intro @H7 (And.intro @D16 (And.intro @D15 (And.intro @D14 (And.intro @D0u (And.intro @D0w (And.intro @D0v (And.intro @A5n (And.intro @D4P (And.intro @D2g (And.intro @D4A (And.intro @D6q (And.intro @D4B (And.intro @D6r (And.intro @D4I (And.intro @D6p (And.intro @D6o (And.intro @D4z (And.intro @A5l (And.intro @cond_true.{1} (And.intro @cond_false.{1} (And.intro @decide_true (And.intro @decide_false (And.intro @Bool.not_true (And.intro @Bool.not_false (And.intro @A5k (And.intro @rD (And.intro @rC (And.intro @D5u (And.intro @C99 (And.intro @C5U (And.intro @fC (And.intro @D7w (And.intro @D7x (And.intro @Option.map_some.{0,0} (And.intro @Option.some.injEq.{0} (And.intro @List.getElem?_cons_zero.{0} (And.intro @List.getElem?_cons_succ.{0} (And.intro @not_true_eq_false (And.intro @not_false_eq_true (And.intro @C80 (And.intro @N0 (And.intro @Option.join_some.{0} (And.intro @List.append_assoc.{0} (And.intro @List.cons_append.{0} (And.intro @List.nil_append.{0} (And.intro @List.length_append.{0} (And.intro @List.length_cons.{0} (And.intro @List.length_nil.{0} (And.intro @Nat.zero_add (And.intro @Nat.add_zero (And.intro @dW (And.intro @I1 (And.intro @A5R (And.intro @nC (And.intro @List.set_cons_zero.{0} (And.intro @List.set_cons_succ.{0} (And.intro @ne_eq.{1} (And.intro @decide_not (And.intro @C3A (And.intro @C0V (And.intro @List.cons_prefix_cons.{0} (And.intro @List.nil_prefix.{0} (And.intro @List.drop_succ_cons.{0} (And.intro @List.drop_zero.{0} (And.intro @List.all_cons.{0} (And.intro @List.all_nil.{0} (And.intro @Bool.and_true (And.intro @true_and (@and_true))))))))))))))))))))))))))))))))))))))))))))))))))))))))))))))))))))))))))))))))))))))))))
def esh:=And.intro @O9 (And.intro @G6 (And.intro @Z4 (And.intro @J2 (And.intro @O3 (And.intro @F8 (And.intro @nK (And.intro @A73 (And.intro @C9A (And.intro @D2o (And.intro @L9 (And.intro @zF (And.intro @cK (And.intro @D0m (@D5T))))))))))))))
end Go.Esc
namespace Go.Esc
@[match_pattern] abbrev iV (x:Int):Val:=.c (.i .i64 x)
@[match_pattern] abbrev pV (a b:Nat):Val:=.c (.p a b)
@[match_pattern] abbrev sV (a b c d:Nat):Val:=.c (.sl a b c d)
@[match_pattern] abbrev bV (x:Bool):Val:=.c (.b x)
@[match_pattern] abbrev rT (l:List Cell):Option Row:=some (Row.mk l true)
@[match_pattern] abbrev o0:Cell:=.i .i64 0
abbrev gS (g:Val) (w:Bool) (h:A9) (o:Option Val):Option (Val × A9):=gd g w (bnd o λa=>A4 (a,h)) (A4 (.no,h))
abbrev gV (g:Val) (w:Bool) (h:A9) (x:Val):Option (Val × A9):=gd g w (A4 (x,h)) (A4 (.no,h))
end Go.Esc
section
namespace Go.Proofs.YtbnkgnfhgbhblaaGreat
open Go Go.Esc
abbrev Dev:=List (List UInt8)
def C8 (D:Dev):List Cell:=(D.map B4).flatten
def okD (D:Dev):Prop:=∀ b∈D,b.length=256
def okD.cons {b:List UInt8} {D:Dev} (h:okD (b::D)):b.length=256/\okD D:=⟨h b (D9I ..),λx hx=>h x (D9F _ hx)⟩
def okD.at {D:Dev} (h:okD D) {i:Nat} (hi:i<D.length):D[i].length=256:=h _ (D9Y hi)
def okD.take {D:Dev} (h:okD D) (i:Nat):okD (D.take i):=λb hb=>h b (List.mem_of_mem_take hb)
def X5 {b:List UInt8} {D:Dev}:C8 (b::D)=B4 b++C8 D:=rfl
def C11 {D E:Dev}:C8 (D++E)=C8 D++C8 E:=by simp [C8]
def C8b {b:List UInt8}:C8 [b]=B4 b:=by simp [C8]
def F0:∀ {D:Dev},okD D->(C8 D).length=D.length*256
 | [],_=>rfl
 | b::D,h=>by
  rw [X5,D9A,B5,h.cons.1,F0 h.cons.2,D9G];omega
def T5:∀ (D:Dev),noX (C8 D)=A5
 | []=>rfl
 | b::D=>by
  rw [X5];have h1:=R7 b;have h2:=T5 D;simp only [noX,List.all_append,D9v] at h1 h2 ⊢;exact ⟨h1,h2⟩
def bL:∀ {D:Dev},K1 (C8 D)=A5
 | []=>rfl
 | b::D=>by rw [X5,kJ,bL,C0p];rfl
def kE:∀ {D:Dev} {i:Nat} (h:okD D) (hi:i<D.length),((C8 D).drop (i*256)).take 256=B4 D[i]
 | b::D,0,h,hi=>by
  have hb:(B4 b).length=256:=by rw [B5,h.cons.1]
  rw [X5,Nat.zero_mul,D9O,<-hb,E0x]
  ·rfl
  ·rfl
 | b::D,i+1,h,hi=>by
  have hb:(B4 b).length=256:=by rw [B5,h.cons.1]
  have e:(i+1)*256=256+i*256:=by omega
  rw [X5,e,<-E0t,<-hb,E0s,hb]
  ·exact kE h.cons.2 (by simpa using hi)
  ·rfl
def C9X:∀ {D:Dev} {i:Nat} {b:List UInt8} (h:okD D) (hb:b.length=256) (hi:i<D.length),lay (C8 D) (i*256) (B4 b)=C8 (D.set i b)
 | c::D,0,b,h,hb,hi=>by
  unfold lay;rw [X5,E0w,X5,Nat.zero_mul,B5,hb,D9T,E0z,E0s (by rw [B5,h.cons.1])];rfl
 | c::D,i+1,b,h,hb,hi=>by
  have ih:=C9X (i:=i) h.cons.2 hb (by simpa using hi);have hc:(B4 c).length=256:=by rw [B5,h.cons.1]
  unfold lay at ih ⊢;rw [X5,List.set_cons_succ,X5,show (i+1)*256=256+i*256 by omega,List.take_append,List.drop_append,D9M (by omega),D9K (by omega),hc,show 256+i*256-256=i*256 by omega,show 256+i*256+(B4 b).length-256=i*256+(B4 b).length by omega,<-ih];simp only [D9C,D9U]
def C7o (n:Nat):rows (D9w 256 (Cell.i .u8 0)) n=C8 (D9w n (zeros 256)):=by
 rw [F7];unfold rows C8;rw [List.map_replicate]
def B6b (n:Nat):okD (D9w n (zeros 256)):=λb hb=>by rw [List.eq_of_mem_replicate hb];exact zeros_length
def okD.set {D:Dev} (h:okD D) {i:Nat} {b:List UInt8} (hb:b.length=256):okD (D.set i b):=λx hx=>by
 rcases List.mem_or_eq_of_mem_set hx with hx | rfl
 ·exact h x hx
 ·exact hb
def zX {h:A9} {id i:Nat} {D:Dev} {b:List UInt8} (hr:rd h id=rT (C8 D)) (hD:okD D) (hb:b.length=256) (hi:i<D.length) :
  E9 h 256 (pV id (i*256)) (.a (B4 b))=A4 (h.set id (rT (C8 (D.set i b)))):=by
 rw [B6p hr (by rw [B5,hb]) (by rw [F0 hD];omega),C9X hD hb hi]
def blk (D:Dev) (i:Int):List UInt8:=if 0<=i then D.getD i.toNat (zeros 256) else zeros 256
def J3 {D:Dev} (h:okD D) {i:Int}:(blk D i).length=256:=by
 unfold blk;split
 ·rw [D9z];rcases Nat.lt_or_ge i.toNat D.length with hl | hl
  ·rw [D9u hl];exact h.at hl
  ·rw [D9W hl];exact zeros_length
 ·exact zeros_length
def A76 {D:Dev} {i:Nat} (hi:i<D.length):blk D (i:Int)=D[i]:=by
 unfold blk;rw [if_pos (by omega),D9N,D9z,D9u hi];rfl
def D2t {D:Dev} {i:Int} (hi:i<0\/(D.length:Int)<=i):blk D i=zeros 256:=by
 unfold blk;split
 ·rw [D9z,D9W (by omega)];rfl
 ·rfl
def D7d:∀ (n:Nat) (cells:List Cell),All2 okCell ((D9w n (D9w 256 (Sh.i .u8))).flatten) cells->∃ D:Dev,okD D/\cells=C8 D/\D.length=n:=by
 intro n
 induction n with
 | zero =>
  intro cells h;cases cells with
  | nil=>exact ⟨[],λ_ h=>by simp at h,rfl,rfl⟩
  | cons c cs=>simp [All2] at h
 | succ n ih =>
  intro cells h;rw [D92,E0l] at h;have h1:=All2.take 256 h;have h2:=All2.drop 256 h;rw [E0x D9X] at h1;rw [E0s D9X] at h2;obtain ⟨b,e1,hb⟩:=C61 h1;obtain ⟨D,hD,e2,hl⟩:=ih _ h2;refine ⟨b::D,?_,by rw [X5,<-e1,<-e2,List.take_append_drop],by rw [D9G,hl]⟩;intro x hx;rcases List.mem_cons.1 hx with rfl | hx
  ·exact hb
  ·exact hD x hx
end Go.Proofs.YtbnkgnfhgbhblaaGreat
end
namespace Go.Esc
def D4x (P:Program) (f:FuncId) (args:List Val) (h:A9) (h':A9):Prop :=
 ∀ (Γ:Ctx) (μ:Mu) (w:World) (V:List Value) (u:FrameMode),Inv Γ μ h w->All2 (RV μ) args V ->
  CallsD P f V.toArray u w λe u' w'=>u'=u/\∃ V' μ',e=.returned V' /\ μ.le μ'/\Inv Γ μ' h' w'/\∀ id,id<h.length -> μ' id = μ id
def D13 (P:Program) (f:FuncId) (S:Fun):Prop:=∀ args h v h2,S args h=A4 (v,h2)->iD P f/\D4x P f args h h2/\h.length<=h2.length
def C90 {P:Program} {E:J9} (hE:dR P E) {f:FuncId} {fn:Func} {af:AFn} (hf:P.funcs[f]?=A4 fn) (hc:B91 P fn af=A5):D13 P f (Lim af E):=by
 intro args h v h2 he;obtain ⟨n,hn⟩:=C9r he;obtain ⟨h1,h3,c,hb,hw⟩:=D55 hE hf hc hn;exact ⟨h1,fun Γ μ w V u hi hargs=>(callsD_of_wp hf hb (hw Γ μ w V hi hargs)).mono λe u' w' ⟨hu,V',μ',he,h4,_,h5,h6⟩=>⟨hu,V',μ',he,h4,h5,h6⟩,h3⟩
structure DFn where
 pre:List (List Nat × ACode)
 keep:List Nat
 tm:Nat
 fn:Nat
 caps:List Opd
 body:ACode
 res:List ARes
def B3n (G:Fun) (c:Val) (h:A9):Option (Val × A9):=match c with
 | .c (.f _ caps)=>G (B8G caps) h
 | _=>A7
def DFn.fin (f:DFn) (G:Fun) (c:Val):A9L (Val × A9):=λx e h =>
 match x with
 | .exit _=>A7
 | _=>(B3n G c h).bind λp=>kD f.res e p.2
def DFn.out (f:DFn) (k:Env->A9->Option (Val × A9)):A9L (Val × A9):=λx e h =>
 match x with
 | .normal=>k e h
 | .ret=>kD f.res e h
 | .exit _=>A7
def DFn.go (f:DFn) (E:J9) (G:Fun) (n:Nat) (l:List (List Nat × ACode)):Env->A9->Option (Val × A9) :=
 List.rec (motive:=λ_=>Env->A9->Option (Val × A9))
  (λe h=>(A70 f.fn (f.caps.map e.ev)).bind λc=>ax E n f.body (f.fin G c) ((e.put (A4 f.tm) c).keep f.keep) h)
  (λq _ ih e h=>ax E n q.2 (f.out λe h=>ih (e.keep q.1) h) e h) l
def DFn.go_nil (f:DFn) (E:J9) (G:Fun) (n:Nat) (e:Env) (h:A9):f.go E G n [] e h=(A70 f.fn (f.caps.map e.ev)).bind λc=>ax E n f.body (f.fin G c) ((e.put (A4 f.tm) c).keep f.keep) h:=rfl
def DFn.go_cons (f:DFn) (E:J9) (G:Fun) (n:Nat) (q:List Nat × ACode) (l:List (List Nat × ACode)) (e:Env) (h:A9):f.go E G n (q::l) e h=ax E n q.2 (f.out λe h=>f.go E G n l (e.keep q.1) h) e h:=rfl
def DFn.run (f:DFn) (E:J9) (G:Fun) (n:Nat) (args:List Val) (h:A9):Option (Val × A9):=f.go E G n f.pre (params 0 args) h
def C5W (P:Program) (N:Nat) (f:DFn):Code->Bool
 | .region _ ops false=>(match ops.toList with
  | [o1,o2]=>W9 P N ops o1 (aO f.tm (.mkf f.fn f.caps))&&decide (o2.dst=A7)&&decide (o2.guard=A7)&&(match o2.op with
   | .defer c=>(match c.callee with | .value (.tmp t)=>decide (t=f.tm)&&c.args.isEmpty | _=>A6)
   | _=>A6)
  | _=>A6)
 | _=>A6
def A8d (P:Program) (N:Nat) (f:DFn):List (List Nat × ACode)->Code->Bool
 | [],c=>(match c with | .seq d y=>C5W P N f d&&V3 P N y f.body | _=>A6)
 | q::l,c=>(match c with | .seq x y=>V3 P N x q.2&&A8d P N f l y | _=>A6)
def D2y (P:Program) (fn:Func) (f:DFn):Bool :=
 (match fn.body with | some c => A8d P fn.ntmps f f.pre c | none => false) && Z8 P fn.results.toList f.res && !(fn.name == "runtime.NumGoroutine")
section
variable {P:Program}
def B3h {rs:List ARes} {e:Env} {h h':A9} {v:Val} (hk:kD rs e h=A4 (v,h')):h'=h:=by
 unfold kD at hk;split at hk<;>simp at hk<;>obtain ⟨_,_,_,rfl⟩:=hk<;>rfl
def C56 {E:J9} (hE:dR P E) {G:Fun} {f:DFn} (hG:D13 P f.fn G) {fn:Func} (hr:Z8 P fn.results.toList f.res=A5) {L:Nat} (n:Nat) {v:Val} {h':A9}:∀ (l:List (List Nat × ACode)) (c:Code) (e:Env) (h:A9),
  A8d P fn.ntmps f l c=A5->f.go E G n l e h=A4 (v,h')->L<=h.length ->
  L<=h'.length/\∀ (Γ:Ctx) (μ:Mu) (a:Act) (w:World),Γ.ds=[]->SEnv μ e a->Inv Γ μ h w->fn.ntmps<=a.tmps.size->a.defers=[]->∀ R:Ending->World->Prop,
   (∀ V' μ' w',μ.le μ'->RV μ' v V'->Inv Γ μ' h' w'->(∀ id,id<L -> μ' id = μ id)->R (.returned V') w')->c.wp P (bodyPostD P fn R) a w
 | [],c,e,h,hc,C7,hL=>by
  unfold A8d at hc;split at hc
  ·rename_i d y;rw [D9v] at hc;obtain ⟨hd,hy⟩:=hc;rw [DFn.go_nil] at C7;simp only [D9t] at C7;obtain ⟨cv,hcv,C7⟩:=C7;have D6K:=hcv;unfold A70 at D6K;rw [D9J] at D6K;obtain ⟨caps,D9d,rfl⟩:=D6K;rw [B3i] at C7;obtain ⟨x,e2,h2,hk,hL2,sI⟩:=C7W (L:=L) hE n f.body y _ _ h (v,h') hy C7 hL;have D8G:(x=.normal\/x=.ret)/\∃ p:Val × A9,G (B8G caps) h2=A4 p/\kD f.res e2 p.2=A4 (v,h'):=by
    unfold DFn.fin at hk;cases x with
    | normal=>exact ⟨.inl rfl,by simpa only [D9t,B3n] using hk⟩
    | ret=>exact ⟨.inr rfl,by simpa only [D9t,B3n] using hk⟩
    | exit=>cases hk
   obtain ⟨hx,⟨pv,ph⟩,hG1,D6b⟩:=D8G;obtain ⟨D3c,hdc,hlen⟩:=hG _ _ _ _ hG1;have hh':=B3h D6b;dsimp only at hh';subst hh';refine ⟨D93 hL2 hlen,fun Γ μ a w hds hs hi hN had R hR=>?_⟩;unfold C5W at hd;split at hd
   ·rename_i rid ops;split at hd
    ·rename_i o1 o2 D6R;simp only [D9v,decide_eq_true_eq] at hd;obtain ⟨⟨⟨hd1,hd2⟩,hd3⟩,hd4⟩:=hd;split at hd4
     ·rename_i cl hop;split at hd4
      ·rename_i t C8z;simp only [D9v,decide_eq_true_eq] at hd4;obtain ⟨rfl,hargs⟩:=hd4;refine wp_seq (wp_region ?_);have hsz:ops.size=2:=by rw [<-Array.length_toList,D6R];rfl
       have g0:ops[0]?=A4 o1:=by rw [<-Array.getElem?_toList,D6R];rfl
       have g1:ops[1]?=A4 o2:=by rw [<-Array.getElem?_toList,D6R];rfl
       rw [hsz];show wpOps P ops _ [0,1] a w;rw [wpOps_cons];unfold wpOp;rw [g0];have zC:o1.dst=A4 f.tm/\wS fn.ntmps o1.dst=A5:=by
        simp only [W9,aO,D9v,decide_eq_true_eq] at hd1;exact ⟨of_decide_eq_true hd1.1.1.1,hd1.1.1.2⟩
       have htm:f.tm<fn.ntmps:=by
        have:=zC.2;rw [zC.1] at this;simpa [wS] using this
       have B3C:U0 E A6 h 0 (aO f.tm (.mkf f.fn f.caps)) e h (λv h=>A4 (v,h))=A4 (.c (.f f.fn caps),h):=by
        unfold U0 aO;simp only [aop,hcv,D9H]
       refine A3I (hr:=h) (n0:=0) hE hd1 B3C hs hi (λ_ _ h=>h) trivial ?_;intro V w1 μ1 gX hv hi1 aQ;rw [wpOps_cons];unfold wpOp;rw [g1];have hv0:RC μ1 (.f f.fn caps) V:=hv;have hv2:=hv;obtain ⟨cs,rfl,hcs⟩:=hv2;obtain ⟨a1,ha1⟩:∃ a1,a1=a.put o1.dst (.func (.func f.fn) #[] cs.toArray):=⟨_,rfl⟩;have hs1:SEnv μ1 (e.put (A4 f.tm) (.c (.f f.fn caps))) a1:=by
        rw [ha1,zC.1];exact (hs.mono gX).put (λt ht=>by cases ht;omega) hv
       have rJ:a1.eval (.tmp f.tm)=.func (.func f.fn) #[] cs.toArray:=by
        have:=hs1 f.tm;rw [Env.get_put_same] at this;obtain ⟨cs',h1,h2⟩:=this;show a1.tmps.getD f.tm undef=_;rw [ha1,zC.1];show (a.put (A4 f.tm) _).tmps.getD f.tm undef=_;simp only [Act.put];rw [Array.getD_eq_getD_getElem?];simp [show f.tm<a.tmps.size by omega]
       rw [<-ha1];obtain ⟨dd,hdd⟩:∃ dd:Deferred,dd={ target:=.fn (.func f.fn) cs.toArray,args:=#[] }:=⟨_,rfl⟩;have A6N:(execOp a1.eval o2).run P w1=.ok (.defer dd) w1:=by
        have ea:cl.args = #[]:=by simpa using hargs
        rw [hdd];simp [execOp,hop,resolve,C8z,rJ,Deferred.ofValue,ea]
       have hw:Region.wanted o2 (yielded ops a1.tmps)=A5:=by simp [Region.wanted,hd3]
       simp only [hw,if_true]
       left
       unfold Oper.wp;rw [A6N,Oper.upon_defer];have D6U:∀ b:Act,b.put o2.dst undef=b:=λb=>by rw [hd2];rfl
       rw [D6U];have D7P:a1.defers=[]:=by rw [ha1,put_defers];exact had
       show y.wp P (bodyPostD P fn R) { a1 with defers:=dd::a1.defers } w1;rw [D7P];refine sI { Γ with ds:=[dd] } μ1 { a1 with defers:=[dd] } w1 (SEnv.keep (λt=>hs1 t) f.keep) (hi1.ds [dd]) (by show fn.ntmps<=a1.tmps.size;rw [ha1,Act.size_put];exact hN) rfl _ ?_;intro μ' a' w' k1 k2 k3 k4 k5 k6;have fin:Leaves P fn a'.tmps R a'.defers .returning w':=by
        rw [k6];show Leaves P fn a'.tmps R [dd] .returning w';rw [hdd];have hv3:RC μ' (.f f.fn caps) (.func (.func f.fn) #[] cs.toArray):=RC.mono k1 hv0;obtain ⟨cs2,e3,D8E⟩:=hv3;have:cs2=cs:=by
         injection e3 with _ _ e4
         have:=congrArg Array.toList e4;simpa using this.symm
        subst this;refine leaves_cons (by simp) (f:=f.fn) (args:=cs2.toArray) (by
         show (callFunc f.fn (#[]++cs2.toArray)).run P w'=_;rw [Array.empty_append];exact B3o D3c _ _) ?_
        refine (hdc Γ μ' w' cs2 .returning (k4.ds Γ.ds) (B1L D8E)).mono ?_;rintro en u' w2 ⟨rfl,V',μ2,rfl,m1,m2,m3⟩;show Leaves P fn a'.tmps R [] .returning w2;obtain ⟨V2,q1,q2,_⟩:=B1G (a:=a') (w:=w2) (λt=>(k3.mono m1) t) m2 hr D6b;refine ⟨V2,q1,hR V2 μ2 w2 (Mu.le_trans gX (Mu.le_trans k1 m1)) q2 m2 λid hid=>?_⟩;rw [m3 id (by omega),k2 id hid];exact aQ id (by omega) (λj hj=>by cases hj)
       rcases hx with rfl | rfl
       ·exact fin
       ·exact fin
      ·cases hd4
     ·cases hd4
    ·cases hd
   ·cases hd
  ·cases hc
 | q::l,c,e,h,hc,C7,hL=>by
  unfold A8d at hc;split at hc
  ·rename_i x y;rw [D9v] at hc;rw [DFn.go_cons,B3i] at C7;obtain ⟨x1,e1,h1,hk,hL1,sI⟩:=C7W (L:=L) hE n q.2 x _ e h (v,h') hc.1 C7 hL;cases x1 with
   | normal =>
    obtain ⟨g1,g2⟩:=C56 hE hG hr n l y (e1.keep q.1) h1 hc.2 hk hL1;refine ⟨g1,fun Γ μ a w hds hs hi hN had R hR=>wp_seq (sI Γ μ a w hs hi hN (by rw [hds];exact had) _ ?_)⟩;intro μ1 a1 w1 f1 f2 f3 f4 f5 f6;exact g2 Γ μ1 a1 w1 hds (f3.keep q.1) f4 f5 (by rw [f6,hds]) R λV' μ' w' k2 k3 k4 k5=>hR V' μ' w' (Mu.le_trans f1 k2) k3 k4 λid hid=>(k5 id hid).trans (f2 id hid)
   | ret =>
    have hk':kD f.res e1 h1=A4 (v,h'):=hk;have hh':=B3h hk';subst hh';refine ⟨hL1,fun Γ μ a w hds hs hi hN had R hR=>wp_seq (sI Γ μ a w hs hi hN (by rw [hds];exact had) _ ?_)⟩;intro μ1 a1 w1 f1 f2 f3 f4 f5 f6;obtain ⟨V',k1,k2,_⟩:=B1G f3 f4 hr hk';show Leaves P fn a1.tmps _ a1.defers .returning w1;rw [f6,hds];exact ⟨V',k1,hR V' μ1 w1 f1 k2 f4 f2⟩
   | exit id=>exact (by cases hk)
  ·cases hc
def D2K {E:J9} (hE:dR P E) {G:Fun} {f:DFn} (hG:D13 P f.fn G) {g:FuncId} {fn:Func} (hf:P.funcs[g]?=A4 fn) (hc:D2y P fn f=A5) {n:Nat}:SOk P g (f.run E G n):=by
 intro args h v h' C7;simp only [D2y,D9v,E0e] at hc;obtain ⟨⟨hb,hr⟩,C6y⟩:=hc;cases B7m:fn.body with
 | none=>rw [B7m] at hb;cases hb
 | some c =>
  rw [B7m] at hb;obtain ⟨h1,h2⟩:=C56 hE hG hr (L:=h.length) n f.pre c (params 0 args) h hb C7 (D9x _);refine ⟨⟨fn,hf,C6y,by simp [B7m]⟩,fun Γ μ w V hi hargs=>?_,h1⟩;refine calls_of_wp_defers hf B7m (h2 { Γ with ds:=[] } μ _ w rfl (C5I hargs _) (hi.ds []) (by simp;omega) rfl _ ?_);intro V' μ' w' k1 k2 k3 k4;exact ⟨V',μ',rfl,k1,k2,k3.ds Γ.ds,k4⟩
end
inductive PP where
 | o (x:AOper)
 | call (d:Option Nat) (g:Option (Nat × Bool)) (k:Nat) (args:List Opd)
inductive PC where
 | skip
 | ret
 | exit (id:Nat)
 | ops (l:List PP)
 | draw (n:Nat) (l r:List PP)
 | drawS (n:Nat) (l:List PP) (s:PP) (chk:List (Nat × AOp)) (r:List PP)
 | seq (keep:List Nat) (a b:PC)
 | jn (j:Nat) (keep:List Nat) (a b:PC)
 | cond (c:Opd) (a b:PC)
 | block (id:Nat) (a:PC)
 | loop (j:Nat) (keep:List Nat) (a:PC)
def erp (F:Nat->Nat):PP->AOper
 | .o x=>x
 | .call d g k args=>⟨d,.call (F k) args,g,A7⟩
def ers (F:Nat->Nat) (l:List PP):List AOper:=List.rec [] (λx _ r=>erp F x::r) l
def er (F:Nat->Nat) (p:PC):ACode :=
 PC.rec (motive:=λ_=>ACode) .skip .ret (λi=>.exit i) (λl=>.ops (ers F l)) (λn l r=>.draw n (ers F l) (ers F r)) (λn l s k r=>.drawS n (ers F l) (erp F s) k (ers F r)) (λk _ _ a b=>.seq k a b) (λ_ k _ _ a b=>.seq k a b) (λc _ _ a b=>.cond c a b) (λi _ a=>.block i a) (λ_ k _ a=>.loop k a) p
def nx:Nat->Nat->Nat × Nat
 | 0,s=>(0,s)
 | f+1,s=>bif Nat.blt (s%16) 8 then (s%16,s/16) else match nx f (s/16) with | (a,r)=>(s%16-8+8*a,r)
abbrev Dst:=(Nat × List Nat) × Nat
def rdn (s:Dst):Nat × Dst:=match nx 9 s.2 with | (a,r)=>(a,(s.1,r))
section
variable {α β γ δ ε ζ:Type}
def D6h (g:Dst -> α × Dst):Nat->Dst->List α × Dst
 | 0,s=>([],s)
 | k+1,s=>match g s with | (a,s)=>match D6h g k s with | (l,s)=>(a::l,s)
def A6w (g:Dst -> α × Dst) (s:Dst):List α × Dst:=match rdn s with | (k,s)=>D6h g k s
def qA (f:α -> β) (a:Dst -> α × Dst) (s:Dst):β × Dst:=match a s with | (x,s)=>(f x,s)
def qB (f:α -> β -> γ) (a:Dst -> α × Dst) (b:Dst -> β × Dst) (s:Dst):γ × Dst:=match a s with | (x,s)=>qA (f x) b s
def qC (f:α -> β -> γ -> δ) (a:Dst -> α × Dst) (b:Dst -> β × Dst) (c:Dst -> γ × Dst) (s:Dst):δ × Dst:=match a s with | (x,s)=>qB (f x) b c s
def qD (f:α -> β -> γ -> δ -> ε) (a:Dst -> α × Dst) (b:Dst -> β × Dst) (c:Dst -> γ × Dst) (d:Dst -> δ × Dst) (s:Dst):ε × Dst:=match a s with | (x,s)=>qC (f x) b c d s
def qE (f:α -> β -> γ -> δ -> ε -> ζ) (a:Dst -> α × Dst) (b:Dst -> β × Dst) (c:Dst -> γ × Dst) (d:Dst -> δ × Dst) (e:Dst -> ε × Dst) (s:Dst):ζ × Dst:=match a s with | (x,s)=>qD (f x) b c d e s
end
def nth {α:Type} (z:α):List α -> Nat -> α
 | [],_=>z
 | a::_,0=>a
 | _::l,i+1=>nth z l i
def del:Nat->List Nat->List Nat
 | _,[]=>[]
 | 0,_::l=>l
 | k+1,x::l=>x::del k l
def ins (x:Nat):List Nat->List Nat
 | []=>[x]
 | y::l=>bif Nat.blt x y then x::y::l else y::ins x l
def D8d:Nat->Dst->Dst
 | 0,s=>s
 | k+1,s=>match rdn s with | (i,s)=>D8d k ((s.1.1,del i s.1.2),s.2)
def D8e:Nat->Dst->Dst
 | 0,s=>s
 | k+1,s=>match rdn s with | (v,s)=>D8e k ((s.1.1,ins (match v%2 with | 0=>s.1.1-v/2 | _=>v/2) s.1.2),s.2)
def rkp (s:Dst):List Nat × Dst:=match rdn s with
 | (h,s)=>match (match h%4 with | 3=>qA (λx=>x+3) rdn s | r=>(r,s)) with
  | (r,s)=>match D8e (h/4) (D8d r s) with | s=>(s.1.2,s)
section
variable (V I:Nat->Val) (O:Nat->AOp) (Z:Nat->List Cell)
def dH (s:Dst):Opd × Dst:=match rdn s with
 | (v,s)=>(match v%2 with
  | 0=>.t (s.1.1-(match v/2 with | 0=>1 | 1=>0 | d=>d))
  | _=>match v/2%2 with
   | 0=>.v (I (v/4))
   | _=>match v/4%2 with
    | 0=>.v (V (v/8))
    | _=>.t (v/8),s)
def D6i (s:Dst):(Nat × Nat × Opd) × Dst:=qC (λa b x=>(a,b,x)) rdn rdn (dH V I) s
def D8c:Nat->Dst->AOp × Dst
 | 0=>qA .mv (dH V I)
 | 1=>qA .load1 (dH V I)
 | 2=>qB .loadN rdn (dH V I)
 | 3=>qB .fAddr (dH V I) rdn
 | 4=>qB .ext (dH V I) rdn
 | 5=>qC (λn=>.bin (nth .andNot [.add,.lss,.eql,.neq,.geq,.gtr,.mul,.sub,.rem,.leq,.quo,.shl,.shr,.or,.and,.xor] n)) rdn (dH V I) (dH V I)
 | 6=>qC .iAddrL rdn (dH V I) (dH V I)
 | 8=>qA .len (dH V I)
 | 9=>qC .storeN rdn (dH V I) (dH V I)
 | 10=>qB .store1 (dH V I) (dH V I)
 | 11=>qD .iAddrA rdn rdn (dH V I) (dH V I)
 | 12=>qC .pick (dH V I) (dH V I) (dH V I)
 | 13=>qA (.un .not) (dH V I)
 | 14=>qA (λz=>.alloc (Z z)) rdn
 | 15=>qA .box (dH V I)
 | 16=>qA .lenS (dH V I)
 | 17=>qA .nilc (dH V I)
 | 18=>qA .nilrow rdn
 | 19=>qC .app rdn (dH V I) (dH V I)
 | 20=>qB (λz=>.build (Z z)) rdn (A6w (D6i V I))
 | 21=>qD (λa b z=>.buildSl a b (Z z)) rdn rdn rdn (A6w (D6i V I))
 | 22=>qC .idxA1 rdn (dH V I) (dH V I)
 | 23=>qA .mark (dH V I)
 | 24=>qA (.conv .u64) (dH V I)
 | 25=>qA (.conv .i64) (dH V I)
 | 26=>qA (.conv .u8) (dH V I)
 | 27=>qB .fld1 (dH V I) rdn
 | 28=>qC .fldN (dH V I) rdn rdn
 | 29=>qD (λz n=>.mkSl n (Z z)) rdn rdn (dH V I) (dH V I)
 | 30=>qB .mkf rdn (A6w (dH V I))
 | 31=>qB .callV (dH V I) (A6w (dH V I))
 | _=>qA O rdn
def rpp (s:Dst):PP × Dst:=match qA (nth 0 [1,0,60,84,12,36,110,3,24,144,63,169,25,72,15,39,48,96,122,37,49,132,181,87,384,228,180,240,27,204,252,156,217,61,216,99,168,159,387,75,288,13,175,192,85,253,360,372,300,312,135,348,207,243,375,386,276,324,264,147,354,385,349,258,327,361,195,174,133,259,241,355,390,255]) rdn s with
 | (h,s)=>match (match h%3 with | 0=>(A4 (s.1.1+1),((s.1.1+1,s.1.2),s.2)) | 1=>(match rdn s with | (d,s)=>(A4 d,((d,s.1.2),s.2))) | _=>((A7:Option Nat),s)) with
  | (d,s)=>match (match h/3%2 with | 0=>((A7:Option (Nat × Bool)),s) | _=>qA (λg=>A4 (g/2,Nat.beq (g%2) 1)) rdn s) with
   | (g,s)=>match (match h/6%2 with | 0=>((A7:Option Nat),s) | _=>qA A4 rdn s) with
    | (l,s)=>match h/12 with
     | 7=>qB (.call d g) rdn (A6w (dH V I)) s
     | t=>qA (λo=>.o ⟨d,o,g,l⟩) (D8c V I O Z t) s
def D87 (s:Dst):(Nat × AOp) × Dst:=match rdn s with | (d,s)=>match rdn s with | (t,s)=>qA (λo=>(d,o)) (D8c V I O Z t) s
def B0W:Nat->Dst->PC × Dst
 | 0,s=>(.skip,s)
 | f+1,s=>match rdn s with
  | (0,s)=>(.skip,s)
  | (1,s)=>(.ret,s)
  | (2,s)=>qC (λk l b=>.seq k (.ops l) b) rkp (A6w (rpp V I O Z)) (B0W f) s
  | (3,s)=>qC .seq rkp (B0W f) (B0W f) s
  | (4,s)=>qC .cond (dH V I) (B0W f) (B0W f) s
  | (5,s)=>qB .block rdn (B0W f) s
  | (6,s)=>qC .loop rdn rkp (B0W f) s
  | (7,s)=>qA .exit rdn s
  | (8,s)=>qA .ops (A6w (rpp V I O Z)) s
  | (9,s)=>qC .draw rdn (A6w (rpp V I O Z)) (A6w (rpp V I O Z)) s
  | (10,s)=>qD .jn rdn rkp (B0W f) (B0W f) s
  | (_,s)=>qE .drawS rdn (A6w (rpp V I O Z)) (rpp V I O Z) (A6w (D87 V I O Z)) (A6w (rpp V I O Z)) s
end
abbrev PT:=(Nat->Val)->(Nat->Val)->(Nat->AOp)->(Nat->List Cell)->PC
def dcp (x:Nat):PT:=λV I O Z=>(B0W V I O Z 99 ((0,[]),x)).1
def px (x:Nat) {p:PT} (hp:p=dcp x:=by conv=>{ rhs;reduce }):PT:=p
def C9U (n:Nat):Val:=iV n
def D53:List (List Cell):=[[],[o0],[.ns],[.s []],[.b A6],[.nm],[.nf],[.i .u8 0],[.i .u8 0,.i .u8 0],[.i .u8 0,.i .u8 0,.i .u8 0,.i .u8 0],[.i .u8 0,.i .u8 0,.i .u8 0,.i .u8 0,.i .u8 0],[.i .u8 0,.i .u8 0,.i .u8 0,.i .u8 0,.i .u8 0,.i .u8 0,.i .u8 0,.i .u8 0],D9w 256 (.i .u8 0),D9w 32 (.i .u8 0),D9w 25 (.i .u8 0),[o0]++D9w 32 o0,[o0]++D9w 256 (.i .u8 0),[.s [],o0],[o0,o0,.i .u64 0],[o0,o0,o0],[o0,.s [],o0],[o0,.ns],[o0,o0,.i .u64 0,.nf],[o0,o0,.s [],o0],[o0,o0,o0,o0,o0,o0],[o0,o0,o0,o0,o0,o0,o0],[o0,o0,o0,o0,o0,o0,o0,o0],[o0,o0,o0,o0,o0,o0,o0,o0,o0,o0,o0],[o0,o0,o0,o0,o0,.ns,.ns],[.ns,.ns,.ns,.ns,.ns,o0,.ns,.ns],[.ns,.ns,.ns,.ns,.ns,o0]]
structure Cal (P:Program) where
 f:FuncId
 S:Fun
 ok:SOk P f S
def cal {P:Program} {f:FuncId} {S:Fun} (ok:SOk P f S):Cal P:=⟨f,S,ok⟩
def E1 {P:Program} {f:FuncId} {A:AFn} {E:J9} {R:Nat->Fun} (S:Fun) (K:FnK P f A E R) (e:S=tl A E:=by exact rfl):Cal P:=⟨f,S,by rw [e];exact K.sok⟩
def lM {P:Program} {f:FuncId} {A:AFn} {E:J9} {R:Nat->Fun} (S:Fun) (K:FnK P f A E R) (e:S=Lim A E:=by exact rfl):Cal P:=⟨f,S,by rw [e];exact K.ok⟩
def el {P:Program}:List (Cal P)->J9
 | []=>C6d
 | c::l=>D2T c.f c.S (el l)
def C9H {P:Program}:∀ l:List (Cal P),dR P (el l)
 | []=>C9e
 | c::l=>C9f c.ok (C9H l)
def D7c {P:Program}:List (Cal P)->Nat->Nat
 | [],_=>0
 | c::_,0=>c.f
 | _::l,k+1=>D7c l k
def B5X {P:Program}:List (Cal P)->Nat->Fun
 | [],_=>λ_ _=>A7
 | c::_,0=>c.S
 | _::l,k+1=>B5X l k
structure FD (P:Program) where
 p:PT
 V:List Val
 O:List AOp
 res:List ARes
 L:List (Cal P)
inductive Fr where
 | seq (keep:List Nat) (b:PC)
 | jn (j:Nat) (keep:List Nat) (b:PC)
 | blk (id:Nat)
 | lp (j:Nat) (keep:List Nat) (a:PC) (m:Nat)
section
variable {P:Program} (d:FD P)
def FD.code:PC:=d.p (nth .no (bV A6::bV A5::d.V)) C9U (nth (.nilrow 0) d.O) (nth [] D53)
def FD.A:AFn:=⟨er (D7c d.L) d.code,d.res⟩
def FD.E:J9:=el d.L
def FD.R (n:Nat):Fun:=rx d.E d.A n
def FD.S:Fun:=tl d.A d.E
def FD.Q:Fun:=Lim d.A d.E
def FD.K {f:FuncId} {fn:Func} (hf:P.funcs[f]?=A4 fn) (hc:B91 P fn d.A=A5:=by kernel_rfl):FnK P f d.A d.E d.R:=.mk2 (C9H _) hf hc
end
def fd:PC->Nat->List Nat->List Fr->Option (Bool × List Nat × PC × List Fr × Nat)
 | .seq k a b,j,ns,s=>(fd a j ns (.seq k b::s)).or (fd b j ns s)
 | .jn i k a b,j,ns,s=>bif Nat.beq i j then A4 (A6,k,b,s,0) else (fd a j ns (.jn i k b::s)).or (fd b j ns s)
 | .cond _ a b,j,ns,s=>(fd a j ns s).or (fd b j ns s)
 | .block i a,j,ns,s=>fd a j ns (.blk i::s)
 | .loop i k a,j,m::ns,s=>bif Nat.beq i j then A4 (A5,k,a,s,m) else fd a j ns (.lp i k a m::s)
 | _,_,_,_=>A7
def kof (E:J9) (n:Nat) (F:Nat->Nat) (fin:KV):List Fr->KV
 | []=>fin
 | .seq k b::s=>D5h k (ax E n (er F b)) (kof E n F fin s)
 | .jn _ k b::s=>D5h k (ax E n (er F b)) (kof E n F fin s)
 | .blk i::s=>C8E i (kof E n F fin s)
 | .lp _ k a m::s=>D6e k (A5m (ax E n (er F a)) k (kof E n F fin s) m) (kof E n F fin s)
def lj' (E:J9) (n:Nat) (F:Nat->Nat) (fin:KV) (xs:List Val) (h:A9):Option (Bool × List Nat × PC × List Fr × Nat)->A2g
 | some (A5,k,a,s,m)=>A5m (ax E n (er F a)) k (kof E n F fin s) m (zE k xs) h
 | some (A6,k,b,s,_)=>hold (ax E n (er F b) (kof E n F fin s) (zE k xs) h)
 | none=>A7
def FD.lj {P:Program} (d:FD P) (j n:Nat) (ns:List Nat) (xs:List Val):AtH:=λh=>lj' d.E n (D7c d.L) d.A.fin xs h (fd d.code j ns [])
def AN (X:Type):Nat->Type
 | 0=>X
 | a+1=>Nat->AN X a
def AV:Nat->Type
 | 0=>AtH
 | b+1=>Val->AV b
def B6W {X:Type}:(a:Nat)->AN X a->List Nat->X
 | 0,f,_=>f
 | a+1,f,[]=>B6W a (f 0) []
 | a+1,f,n::l=>B6W a (f n) l
def B6X:(b:Nat)->AV b->List Val->AtH
 | 0,f,_=>f
 | b+1,f,[]=>B6X b (f .no) []
 | b+1,f,x::l=>B6X b (f x) l
structure TE where
 a:Nat
 b:Nat
 f:AN (AV b) a
structure TT where
 E:J9
 l:List TE
def tT (l:List TE):TT:=⟨C6d,l⟩
def C1w:List TE->Nat->List Nat->List Val->AtH
 | [],_,_,_=>λ_=>A7
 | t::_,0,ns,xs=>B6X t.b (B6W t.a t.f ns) xs
 | _::l,j+1,ns,xs=>C1w l j ns xs
inductive Rs:Type 1 where
 | v (x:Val)
 | n (x:Val) (h:A9)
 | b (x:Option Val)
 | g (x:Option A9)
 | p (x:Option (Val × A9))
 | l {α:Type} (x:Option α) (v:α -> Val) (h:α -> A9)
inductive Ct:Type 1 where
 | code (p:PC)
 | ops (l:List PP)
 | dr (l:List PP) (hr:A9) (c:Ct)
 | ds (x:PP) (chk:List (Nat × AOp)) (r:List PP)
 | ag (chk:List (Nat × AOp)) (e0:Env) (c:Ct)
 | rs (r:Rs) (d:Option Nat) (c:Ct)
 | nrm
 | ex (id:Nat)
def B14:Env->Nat->Val
 | [],_=>.un
 | (d,v)::r,t=>bif d==t then v else B14 r t
def M5 (e:Env):Opd->Val
 | .t n=>B14 e n
 | .v x=>x
def D3S (e:Env):List Nat->Env
 | []=>[]
 | t::r=>(t,B14 e t)::D3S e r
def C8Y (e:Env):List Nat->List Val
 | []=>[]
 | t::r=>B14 e t::C8Y e r
def C1e (e:Env):List Opd->List Val
 | []=>[]
 | x::l=>M5 e x::C1e e l
def B4k (e:Env):Option Opd->Option Val
 | none=>A7
 | some x=>A4 (M5 e x)
def C3x (e:Env):List (Nat × Nat × Opd)->List (Nat × Nat × Val)
 | []=>[]
 | (a,b,x)::l=>(a,b,M5 e x)::C3x e l
def C45 (e:Env):Option Nat->Val->Env
 | none,_=>e
 | some d,v=>(d,v)::e
def D3V:Nat->List Val->Env
 | _,[]=>[]
 | i,v::l=>(i,v)::D3V (i+1) l
def A9C:Nat->A9
 | 0=>[]
 | n+1=>A7::A9C n
def D1p (hr h:A9) (r:Row) (v:Nat->Val):Option Nat->Rs
 | none=>.n (v h.length) (h++[A4 r])
 | some j=>.n (v (hr.length+j)) (h.set (hr.length+j) (A4 r))
def C8N {α:Type} (hr h:A9) (x:Option α) (r:α -> Row) (v:Nat -> α -> Val):Option Nat->Rs
 | none=>.l x (λa=>v h.length a) (λa=>h++[A4 (r a)])
 | some j=>.l x (λa=>v (hr.length+j) a) (λa=>h.set (hr.length+j) (A4 (r a)))
def D3W (q:Bool) (h:A9) (x:A2g):A2g:=match q with
 | true=>quiet h x
 | false=>x
def D5w (E:J9) (q:Bool) (hr:A9) (sl:Option Nat) (e:Env) (h:A9):AOp->Rs
 | .mv x=>.v (M5 e x)
 | .nilrow n=>D1p hr h (Row.mk [] A5) (λi=>.c (.sl i 0 0 n)) sl
 | .pick c a b=>.b (C5H (M5 e c) (M5 e a) (M5 e b))
 | .alloc z=>D1p hr h (Row.mk z A5) (λi=>.c (.p i 0)) sl
 | .box x=>C8N hr h (cells? (M5 e x)) (λc=>Row.mk c A5) (λi _=>.c (.p i 0)) sl
 | .build z l=>.l (E7 z (C3x e l)) (λc=>.a c) (λ_=>h)
 | .buildSl n k z l=>C8N hr h (E7 z (C3x e l)) (λc=>Row.mk c A5) (λi _=>.c (.sl i 0 k n)) sl
 | .load1 x=>.b (B8 hr (M5 e x))
 | .loadN n x=>.b (D3 hr n (M5 e x))
 | .store1 a x=>.g (H1 h (M5 e a) (M5 e x))
 | .storeN n a x=>.g (E9 h n (M5 e a) (M5 e x))
 | .bin o x y=>.b (K6 o (M5 e x) (M5 e y))
 | .eqA n s x y=>.b (aeq n s (M5 e x) (M5 e y))
 | .eqB n x y=>.b (C7U n (M5 e x) (M5 e y))
 | .eqN f n x=>.b (C4f f n (M5 e x))
 | .nilc x=>.b (A3H (M5 e x))
 | .un o x=>.b (aun o (M5 e x))
 | .conv k x=>.b (C5x k (M5 e x))
 | .convS x=>.b (C4e (M5 e x))
 | .s2b x=>C8N hr h (D6w (M5 e x)) (λs=>Row.mk (B4 s) A5) (λi s=>.c (.sl i 0 s.length 1)) sl
 | .b2s x=>.b (B1A hr (M5 e x))
 | .b2sN A7 x=>.b (B1A h (M5 e x))
 | .b2sN (A4 o) x=>.b (B6T h hr.length (A4 o) (M5 e x))
 | .mark x=>.b (A6d h (M5 e x))
 | .mkf f l=>.b (A70 f (C1e e l))
 | .mkSl n z x y=>C8N hr h (B8l (M5 e x) (M5 e y)) (λk=>Row.mk (rows z k) A5) (λi k=>.c (.sl i 0 k n)) sl
 | .slS x a b=>.b (D4N (M5 e x) (B4k e a) (B4k e b))
 | .slL n x a b=>.b (D0A n (M5 e x) (B4k e a) (B4k e b))
 | .slA n k x a b=>.b (C4j hr n k (M5 e x) (B4k e a) (B4k e b))
 | .fAddr x n=>.b (V8 (M5 e x) n)
 | .iAddrA n k x y=>.b (I5 n k (M5 e x) (M5 e y))
 | .iAddrL n x y=>.b (E5 n (M5 e x) (M5 e y))
 | .fld1 x n=>.b (B3g (M5 e x) n)
 | .fldN x n k=>.b (C9t (M5 e x) n k)
 | .idxA1 n x y=>.b (A2U n (M5 e x) (M5 e y))
 | .idxAN n k x y=>.b (C4g n k (M5 e x) (M5 e y))
 | .idxS x y=>.b (B9L (M5 e x) (M5 e y))
 | .ext x n=>.b (D2e (M5 e x) n)
 | .call _ _=>.b A7
 | .callV f l=>.p (D3W q h (qT E (M5 e f) (C1e e l) h))
 | .len x=>.b (C1Y (M5 e x))
 | .lenS x=>.b (C5A (M5 e x))
 | .app n x y=>.p (qK h n (M5 e x) (M5 e y))
 | .appZ n z x y=>.p (B9E h n z (M5 e x) (M5 e y))
 | .max x y=>.b (B8k (M5 e x) (M5 e y))
 | .min x y=>.b (A90 (M5 e x) (M5 e y))
 | .copy n x y=>.p (B9G h n (M5 e x) (M5 e y))
 | .mkMap=>D1p hr h (K8 []) (λi=>.c (.m i)) sl
 | .look k z o m x=>.b (qN hr k z o (M5 e m) (M5 e x))
 | .mput k m x y=>.g (xK h k (M5 e m) (M5 e x) (M5 e y))
 | .ment k z m x=>.p (C5C h k z (M5 e m) (M5 e x))
 | .mset m x y=>.g (C5D h (M5 e m) (M5 e x) (M5 e y))
def D5z (h:A9):Rs->A2g
 | .v x=>A4 (x,h)
 | .n x g=>A4 (x,g)
 | .b x=>bnd x λv=>A4 (v,h)
 | .g x=>bnd x λh=>A4 (.un,h)
 | .p x=>bnd x λp=>A4 (p.1,p.2)
 | .l x v g=>bnd x λa=>A4 (v a,g a)
def C66 (e:Env) (h:A9) (r:Rs):Option (Nat × Bool)->Rs
 | none=>r
 | some (g,w)=>.p (gd (B14 e g) w (D5z h r) (A4 (.no,h)))
def D1z (E:J9) (L:Nat->Fun) (q:Bool) (hr:A9) (e:Env) (h:A9):PP->Rs
 | .o ⟨_,o,g,s⟩=>C66 e h (D5w E q hr s e h o) g
 | .call _ g k l=>C66 e h (.p (D3W q h (L k (C1e e l) h))) g
def D1w:PP->Option Nat
 | .o x=>x.dst
 | .call d _ _ _=>d
def C1a (e:Env) (h:A9):List ARes->List (Option Val)
 | []=>[]
 | .tmp t::l=>A4 (B14 e t)::C1a e h l
 | .cell1 t::l=>B8 h (B14 e t)::C1a e h l
 | .cellN t n::l=>D3 h n (B14 e t)::C1a e h l
def D3R (e:Env) (h:A9):List ARes->A2g
 | []=>B8D [] h
 | [.tmp t]=>A4 (B14 e t,h)
 | [.cell1 t]=>mp (B8 h (B14 e t)) λv=>(v,h)
 | [.cellN t n]=>mp (D3 h n (B14 e t)) λv=>(v,h)
 | a::b::l=>B8D (C1a e h (a::b::l)) h
def B0Q (n:Nat):List Fr->List Nat->List Nat
 | [],l=>n::l
 | .lp _ _ _ m::s,l=>B0Q n s (m::l)
 | .seq _ _::s,l=>B0Q n s l
 | .jn _ _ _::s,l=>B0Q n s l
 | .blk _::s,l=>B0Q n s l
def D5A (h:A9) (e:Env):AOp->Option Val
 | .load1 x=>B8 h (M5 e x)
 | .loadN n x=>D3 h n (M5 e x)
 | _=>A7
section
variable (n:Nat) (E:J9) (L:Nat->Fun) (T:List TE) (res:List ARes)
def gZ:Nat->Ct->List Fr->Env->A9->A2g
 | 0,_,_,_,_=>A7
 | f+1,.code .skip,s,e,h=>gZ f .nrm s e h
 | _+1,.code .ret,_,e,h=>D3R e h res
 | f+1,.code (.exit i),s,e,h=>gZ f (.ex i) s e h
 | f+1,.code (.ops l),s,e,h=>gZ f (.ops l) s e h
 | f+1,.code (.draw k l r),s,e,h=>gZ f (.dr l h (.ops r)) s e (h++A9C k)
 | f+1,.code (.drawS k l x c r),s,e,h=>gZ f (.dr l h (.ds x c r)) s e (h++A9C k)
 | f+1,.code (.seq k a b),s,e,h=>gZ f (.code a) (.seq k b::s) e h
 | f+1,.code (.jn j k a b),s,e,h=>gZ f (.code a) (.jn j k b::s) e h
 | f+1,.code (.cond c a b),s,e,h=>cnd (M5 e c) (gZ f (.code a) s e h) (gZ f (.code b) s e h)
 | f+1,.code (.block i a),s,e,h=>gZ f (.code a) (.blk i::s) e h
 | _+1,.code (.loop j k _),s,e,h=>C1w T j (B0Q n s [n]) (C8Y e k) h
 | _+1,.nrm,[],e,h=>D3R e h res
 | f+1,.nrm,.seq k b::s,e,h=>gZ f (.code b) s (D3S e k) h
 | _+1,.nrm,.jn j k _::s,e,h=>C1w T j (B0Q n s []) (C8Y e k) h
 | f+1,.nrm,.blk _::s,e,h=>gZ f .nrm s e h
 | _+1,.nrm,.lp j k _ m::s,e,h=>C1w T j (B0Q n s [m]) (C8Y e k) h
 | f+1,.ex i,.blk j::s,e,h=>bif j==i then gZ f .nrm s e h else gZ f (.ex i) s e h
 | f+1,.ex i,.seq _ _::s,e,h=>gZ f (.ex i) s e h
 | f+1,.ex i,.jn _ _ _::s,e,h=>gZ f (.ex i) s e h
 | f+1,.ex i,.lp _ _ _ _::s,e,h=>gZ f (.ex i) s e h
 | _+1,.ex _,[],_,_=>A7
 | f+1,.ops [],s,e,h=>gZ f .nrm s e h
 | f+1,.ops (x::l),s,e,h=>gZ f (.rs (D1z E L A6 h e h x) (D1w x) (.ops l)) s e h
 | f+1,.dr [] _ c,s,e,h=>gZ f c s e h
 | f+1,.dr (x::l) hr c,s,e,h=>gZ f (.rs (D1z E L A5 hr e h x) (D1w x) (.dr l hr c)) s e h
 | f+1,.ds x c r,s,e,h=>gZ f (.rs (D1z E L A6 h e h x) (D1w x) (.ag c e (.ops r))) s e h
 | f+1,.ag [] _ c,s,e,h=>gZ f c s e h
 | f+1,.ag ((d,o)::k) e0 c,s,e,h=>agn (D5A h e0 o) (B14 e0 d) (gZ f (.ag k e0 c) s e h)
 | f+1,.rs (.v x) d c,s,e,h=>gZ f c s (C45 e d x) h
 | f+1,.rs (.n x g) d c,s,e,_=>gZ f c s (C45 e d x) g
 | f+1,.rs (.b x) d c,s,e,h=>bnd x λv=>gZ f c s (C45 e d v) h
 | f+1,.rs (.g x) d c,s,e,_=>bnd x λh=>gZ f c s (C45 e d .un) h
 | f+1,.rs (.p x) d c,s,e,_=>bnd x λp=>gZ f c s (C45 e d p.1) p.2
 | f+1,.rs (.l x v g) d c,s,e,_=>bnd x λa=>gZ f c s (C45 e d (v a)) (g a)
end
def D8a {P:Program} (d:FD P) (T:TT) (n:Nat) (args:List Val) (h:A9):A2g :=
 gZ n T.E (B5X d.L) T.l d.res 9999 (.code d.code) [] (D3V 0 args) h
def D0b (j n:Nat) (E:J9) (L:Nat->Fun) (T:List TE) (res:List ARes) (xs:List Val) (h:A9):Option (Bool × List Nat × PC × List Fr × Nat)->A2g
 | some (A5,k,a,s,m)=>gZ n E L T res 9999 (.code a) (.lp j k a m::s) (zE k xs) h
 | some (A6,k,b,s,_)=>gZ n E L T res 9999 (.code b) s (zE k xs) h
 | none=>A7
def D5t {P:Program} (d:FD P) (T:TT) (j n:Nat) (ns:List Nat) (xs:List Val) (h:A9):A2g :=
 D0b j n T.E (B5X d.L) T.l d.res xs h (fd d.code j ns [])
def Nrm (a b:A2g):Prop:=a=b
def C6W (a:A2g):Nrm a a:=rfl
def C8a:List Nat->List Nat
 | []=>[]
 | [m]=>[m+1]
 | m::k::l=>m::C8a (k::l)
section
variable {P:Program}
def mR (R:Nat->Fun) (d:FD P) (T:TT) (n:Nat) (args:List Val) (h:A9) {c:A2g} (hc:Nrm (D8a d T n args h) c:=by (conv=>{ arg 1;arg 1;whnf });(conv=>{ arg 1;arg 2;whnf });dsimp only [D8a,FD.code];(conv=>{ arg 1;arg 7;arg 1;whnf });dsimp only [gZ,D1z,D1w,D5w,C66,D5z,D1p,C8N,D3W,B14,M5,D3S,C8Y,C1e,B4k,C3x,C45,D3V,A9C,B0Q,C1w,B6W,B6X,D3R,C1a,D5A,C9U,nth,D53,B5X,cal,E1,lM,D0b,zE,Nat.reduceBEq,Nat.reduceAdd,cond_true,cond_false,Int.cast_ofNat_Int];exact C6W _) (e:R n args h=c:=by kernel_rfl):R n args h=c:=e
def mJ (d:FD P) (T:TT) (j n:Nat) (ns:List Nat) (xs:List Val) (h:A9) {a c:A2g} (ha:Nrm (C1w T.l j (n::ns) xs h) a:=by (conv=>{ arg 1;arg 1;arg 1;whnf });dsimp only [C1w,B6W,B6X];exact C6W _) (hc:Nrm (D5t d T j n ns xs h) c:=by (conv=>{ arg 1;arg 1;whnf });(conv=>{ arg 1;arg 2;whnf });dsimp only [D5t];(conv=>{ arg 1;arg 9;whnf });dsimp only [gZ,D1z,D1w,D5w,C66,D5z,D1p,C8N,D3W,B14,M5,D3S,C8Y,C1e,B4k,C3x,C45,D3V,A9C,B0Q,C1w,B6W,B6X,D3R,C1a,D5A,C9U,nth,D53,B5X,cal,E1,lM,D0b,zE,Nat.reduceBEq,Nat.reduceAdd,cond_true,cond_false,Int.cast_ofNat_Int];exact C6W _) (e:a=c:=by kernel_rfl):a=c:=e
def mL (d:FD P) (T:TT) (j n:Nat) (ns:List Nat) (xs:List Val) (h:A9) {a c:A2g} (ha:Nrm (C1w T.l j (n::C8a ns) xs h) a:=by (conv=>{ arg 1;arg 1;arg 1;whnf });dsimp only [C1w,B6W,B6X,C8a];exact C6W _) (hc:Nrm (D5t d T j n ns xs h) c:=by (conv=>{ arg 1;arg 1;whnf });(conv=>{ arg 1;arg 2;whnf });dsimp only [D5t];(conv=>{ arg 1;arg 9;whnf });dsimp only [gZ,D1z,D1w,D5w,C66,D5z,D1p,C8N,D3W,B14,M5,D3S,C8Y,C1e,B4k,C3x,C45,D3V,A9C,B0Q,C1w,B6W,B6X,D3R,C1a,D5A,C9U,nth,D53,B5X,cal,E1,lM,D0b,zE,Nat.reduceBEq,Nat.reduceAdd,cond_true,cond_false,Int.cast_ofNat_Int];exact C6W _) (e:a=c:=by kernel_rfl):a=c:=e
end
end Go.Esc
namespace Go.Proofs.YtbnkgnfhgbhblaaGreat
section
variable (n m m2:Nat) (a0 a1 a2 a3 x0 x1 x3 x4 x6 x7 x8 x10 x16 x17 x18 x19 x20 x21 x25 x26:Val) (h:A9)
def nX:FD A8:=⟨px 0X126e48867c488491c21111110053248f2a053c02218022a47814882d5c104025a16c161800724064202889725e1482f046d42032ef12cf700461a11d4152e38182150307024613401214f4200605110293c134d4b4932827411a0122a48863848818210001322401b6192889042e1a2e2e70110122819063d42031c61b632e21d753282,[],[],[.cellN 6 256],[]⟩
def B42:=nX.R
def C02:AtH:=nX.lj 0 n [m] [x1,x3,x6,x16,x17,x18]
def C01:AtH:=nX.lj 1 n [] [x3,x6]
def B5C:=tT [⟨2,6,C02⟩,⟨1,2,C01⟩]
def C37:=mR B42 nX B5C n [a0,a1,a2] h
def C2q:=mL nX B5C 0 n [m] [x1,x3,x6,x16,x17,x18] h
def C2p:=mJ nX B5C 1 n [] [x3,x6] h
def A9h:=nX.K Tryz.func161
def A3C:=nX.S
def C4b:SOk A8 161 A3C:=A9h.sok
def B9y:G3 B42 A3C:=A9h.flat
def B2h:FD A8:=⟨px 0X12648860143037101c3b40121c21b150182,[],[],[.cellN 2 256],[E1 A3C A9h]⟩
def B9b:=B2h.R
def C5p:=mR B9b B2h (tT []) n [a0] h
def A60:=B2h.K Tryz.func158
def A3D:=B2h.S
def C5s:SOk A8 158 A3D:=A60.sok
def C1W:G3 B9b A3D:=A60.flat
def A1j:FD A8:=⟨px 0X138f60301c19018194d1a0474d1a584d74c4d774d70130181904193b1a3a3b73a3b701306195042b1a2a2b7011042712b000007236015301c2,[],[],[.tmp 6],[]⟩
def B6I:=A1j.R
def B9c:=mR B6I A1j (tT []) n [a0,a1,a2] h
def uW:=A1j.K Tryz.func157
def oE:=A1j.S
def B5s:G3 B6I oE:=uW.flat
def sP:FD A8:=⟨px 0X126c48867c4884a1c211100033249f2c053a02218022a1e7814882d0690181c2058049624c15e104023e15c2f01b182ef1904123842150307024613401215b4200605114a12594f732823c430122c48863c488182100002322401b1a190384d28890430382f38387383870129052281a0184b42031c181b742e229197532c2,[],[],[.cellN 8 256],[E1 oE uW]⟩
def B1b:=sP.R
def B7v:AtH:=sP.lj 0 n [m] [x1,x3,x4,x8,x19,x20]
def B9D:=tT [⟨2,6,B7v⟩]
def C1Q:=mR B1b sP B9D n [a0,a1,a2,a3] h
def A81:=mL sP B9D 0 n [m] [x1,x3,x4,x8,x19,x20] h
def A0b:=sP.K Tryz.func159
def nH:=sP.S
def C1X:SOk A8 159 nH:=A0b.sok
def B8i:G3 B1b nH:=A0b.flat
def zP:FD A8:=⟨px 0X11b159f1807e59034a4c00000031b258f3a053c02218022a1e2c11d0690181c2058049625e17c104025817a14e3d01c183cf1b04124842150307024513401216f4200605115e39026d6b7328200003338f1a0041397100012e5d42d753002a20131118482383a0000021b22401b1e1903c4d0618303c2f03c4b73c73c3c73c3c701490522c1c01a5b4203311184827530282,[],[],[.tmp 8,.tmp 9],[E1 oE uW]⟩
def B43:=zP.R
def C03:AtH:=zP.lj 0 n [m] [x1,x3,x10,x25,x26]
def C2K:=tT [⟨2,5,C03⟩]
def C38:=mR B43 zP C2K n [a0,a1,a2,a3] h
def B0T:=mL zP C2K 0 n [m] [x1,x3,x10,x25,x26] h
def C2D:=zP.K Tryz.func160
def B5r:=zP.S
def C4c:SOk A8 160 B5r:=C2D.sok
def B9z:C5u B43 B5r:=C2D.tidy
def zN:FD A8:=⟨px 0X14ef607e4e02580000003724df3a052e02218022a1c1e11d0407e14882d04026817c15c15c3d019183cf1804124e42150307024513401216f4200605115e39026d6b7328200003338f7000176b5a2f031f422ef2003802889724e14a2b0565301d201164813800001722401b6195013e1a3c3e70101b6192889042e1a2e2e7011012281901a4d42031648632e27531c2,[],[.min (.t 19) (.t 21)],[.tmp 6],[]⟩
def B41:=zN.R
def C0Z:AtH:=zN.lj 0 n [m] [x1,x3,x7,x25,x26]
def C2I:=tT [⟨2,5,C0Z⟩]
def C35:=mR B41 zN C2I n [a0,a1,a2] h
def B0R:=mL zN C2I 0 n [m] [x1,x3,x7,x25,x26] h
def A9g:=zN.K Tryz.func86
def A3B:=zN.S
def B21:SOk A8 86 A3B:=A9g.sok
def C1V:A4D B41 A3B:=A9g.out
def zO:FD A8:=⟨px 0X11b14ef607c4e033c3e00000031b24df2d054804d492184cf1800381d20181b2058049625e10580401811d04024c16a171483801e182ff1904123a42150307024513401215d4200605114c2c025b59312820000332b1129531002a201312b602383a000011b22401b1e190384d061830382f0384b738738387383870149052281a01a4f4203312b6025301c2,[.c (.i .u64 0)],[],[.tmp 6,.tmp 7],[E1 oE uW]⟩
def C2E:=zO.R
def C00:AtH:=zO.lj 0 n [m] [x0,x1,x8,x20,x21]
def C2J:=tT [⟨2,5,C00⟩]
def C36:=mR C2E zO C2J n [a0,a1,a2] h
def B0S:=mL zO C2J 0 n [m] [x0,x1,x8,x20,x21] h
def C2C:=zO.K Tryz.func85
def B5q:=zO.S
def C4a:SOk A8 85 B5q:=C2C.sok
def B9x:G3 C2E B5q:=C2C.flat
def A3k:FD A8:=⟨px 0X14af606e4a023800000037249f2a053e0494921848f7002e1d20181b2058049625810680405c14882d04023e15a13c2d01d182cf1804122e42150307024513401214f4200605113e29024d4b732820000331111f65302920116012c00001722401b1a1902e4d288904302e2f2e2e72e2e701290521e19018494203160632e27531c2,[],[],[.tmp 6],[E1 oE uW]⟩
def C5n:=A3k.R
def C3t:AtH:=A3k.lj 0 n [m] [x1,x3,x7,x17,x18]
def C5t:=tT [⟨2,5,C3t⟩]
def C5o:=mR C5n A3k C5t n [a0,a1,a2] h
def B36:=mL A3k C5t 0 n [m] [x1,x3,x7,x17,x18] h
def A3n:=A3k.K Tryz.func87
def vB:=A3k.S
def C5r:SOk A8 87 vB:=A3n.sok
def C1U:G3 C5n vB:=A3n.flat
end
def wY (at' width all:Int):Bool:=decide (0<=at')&&decide (1<=width)&&decide (width<=all)&&decide (at'<=all-width)
def S7 {a w n:Int}:wY a w n=A5↔0<=a/\1<=w/\w<=n/\a<=n-w:=by
 unfold wY;simp [and_assoc]
def wE {a w n:Int} {h:A9} (hn:n<9223372036854775808) :
  oE [iV a,iV w,iV n] h=A4 (bV (wY a w n),h):=by
 refine B5s (n:=0) (h2:=ro h) ?_ rfl;rw [B9c];unfold wY;by_cases h1:0<=a
 ·by_cases h2:1<=w
  ·by_cases h3:w<=n
   ·have e:D9B .i64 (n-w)=n-w:=wrap_i64 (by omega) (by omega);simp [h1,h2,h3,e]
   ·simp [h1,h2,h3]
  ·simp [h1,h2]
 ·simp [h1]
def D27 (l:List UInt8) (a w:Int):Option Nat:=if w<=8/\wY a w l.length=A5 then A4 (le ((l.drop a.toNat).take w.toNat)) else A7
def B7u {l:List UInt8} {h:A9} {a w k:Nat} (hw:w<=4) (haw:a+w<=256) (hl:l.length=256):∀ d i m,i+d=w->d<m ->
  C3t k m (iV a) (pV h.length 0) (iV (le ((l.drop a).take i))) (iV w) (iV i) (h++[rT (B4 l)])=A4 (iV (le ((l.drop a).take w)),h++[rT (B4 l)])
 | d,i,0,_,hm=>by omega
 | 0,i,m+1,hi,hm=>by
  have e:i=w:=by omega
  subst e;rw [B36];simp
 | d+1,i,m+1,hi,hm=>by
  have ih:=B7u (h:=h) (k:=k) hw haw hl d (i+1) m (by omega) (by omega);have hx:=B9 (h:=h++[rT (B4 l)]) (id:=h.length) (off:=a+i) (c:=.i .u8 l[a+i].toNat) O8 (by rw [qX,D9u (by omega)];rfl) rfl;have hb:=l[a+i].toNat_lt;have hlen:((l.drop a).take i).length=i:=by simp;omega
  have gX:=C6K ((l.drop a).take i);rw [hlen] at gX;have hp:=A9F (show i<=4 by omega);have hbp:=B65 (x:=l[a+i]) (show i<4 by omega);have e2:D9B .i64 (8*(i:Int))=8*i:=wrap_i64 (by omega) (by omega);have e3:D9B .u64 (8*(i:Int))=8*i:=wrap_u64 (by omega) (by omega);have e5:D9B .i64 (l[a+i].toNat:Int)=l[a+i].toNat:=wrap_i64 (by omega) (by omega);have e6:=C7v (k:=.i64) (x:=l[a+i]) (show i<8 by omega) (wrap_i64 (by omega) (by omega)) rfl;have e7:K6 .or (iV (le ((l.drop a).take i):Nat)) (iV ((l[a+i].toNat*256 ^ i:Nat):Int))=A4 (iV (le ((l.drop a).take (i+1)):Nat)):=by
   rw [D7f (by omega) (by omega),A3i (by omega),<-C97,hlen]
  have ea:I5 256 1 (pV h.length 0) (iV ((a+i:Nat):Int))=A4 (pV h.length (a+i)):=by rw [K3 (by omega)];simp
  have h1':(i:Int)<w:=by omega
  rw [B36];simp only [esc,h1',A09 (show a+i<9223372036854775808 by omega),e2,e3,ea,hx,e5,e6,e7,D9 (show i+1<9223372036854775808 by omega)];exact ih
def atN (l:List UInt8) (a w:Int):Nat:=if w<=4/\wY a w 256=A5 then le ((l.drop a.toNat).take w.toNat) else 0
def kU {l:List UInt8} {h:A9} (hl:l.length=256) {a w:Int} :
  vB [.a (B4 l),iV a,iV w] h=A4 (iV (atN l a w),h):=by
 refine C1U (n:=w.toNat+1) (h2:=ro h++[rT (B4 l)]) ?_ (by simp);rw [C5o];unfold atN;by_cases c1:4<w
 ·have c1':¬ w<=4:=by omega
  simp [c1,c1']
 ·have c1':w<=4:=by omega
  cases c2:wY a w 256 with
  | false=>simp [c1,wE (show (256:Int)<9223372036854775808 by omega),c2]
  | true =>
   simp [c1,c1',wE (show (256:Int)<9223372036854775808 by omega),c2];rw [S7] at c2;have:=B7u (h:=ro h) (a:=a.toNat) (w:=w.toNat) (k:=w.toNat+1) (by omega) (by omega) hl w.toNat 0 (w.toNat+1) (by omega) (by omega);simp only [show ((a.toNat:Nat):Int)=a by omega,show ((w.toNat:Nat):Int)=w by omega] at this;simpa [le] using this
def B0U {l:List UInt8} {z:List Cell} {h:A9} {a w k:Nat} {v:Int} (hw:w<=4) (haw:a+w<=256) (hl:l.length=256) (hz:z.length=256):∀ d i m,i+d=w->d<m ->
  B7v k m (iV a) (iV v) (pV h.length 0) (pV (h.length+1) 0) (iV w) (iV i) (h++[rT (B4 (G0 l a (C6 i v))),rT z]) =
   A4 (.a (B4 (G0 l a (C6 w v))),h++[rT (B4 (G0 l a (C6 w v))),rT (B4 (G0 l a (C6 w v)))])
 | d,i,0,_,hm=>by omega
 | 0,i,m+1,hi,hm=>by
  have e:i=w:=by omega
  subst e;have gX:(B4 (G0 l a (C6 i v))).length=256:=by rw [B5,K5 (by simp;omega),hl]
  have s1:=C9 (h:=h++[rT (B4 (G0 l a (C6 i v))),rT z]) (id:=h.length) (cs:=B4 (G0 l a (C6 i v))) (by simp) gX;have s2:=storeAll (h:=h++[rT (B4 (G0 l a (C6 i v))),rT z]) (id:=h.length+1) (cs:=z) (xs:=B4 (G0 l a (C6 i v))) (by simp) hz gX;have s3:=C9 (h:=h++[rT (B4 (G0 l a (C6 i v))),rT (B4 (G0 l a (C6 i v)))]) (id:=h.length+1) (cs:=B4 (G0 l a (C6 i v))) (by simp) gX;have h1':¬ (i:Int)<i:=by omega
  rw [A81];simp only [esc,h1',s1,s2,s3]
 | d+1,i,m+1,hi,hm=>by
  have ih:=B0U (h:=h) (k:=k) (v:=v) hw haw hl hz d (i+1) m (by omega) (by omega);have e2:D9B .i64 (8*(i:Int))=8*i:=wrap_i64 (by omega) (by omega);have e3:D9B .u64 (8*(i:Int))=8*i:=wrap_u64 (by omega) (by omega);have e4:K6 .shr (iV v) (.c (.i .u64 (8*(i:Int))))=A4 (iV (v/2 ^ (E0J (8*(i:Int)).toNat 64))):=B9F (by omega);have ea:I5 256 1 (pV h.length 0) (iV ((a+i:Nat):Int))=A4 (pV h.length (a+i)):=by rw [K3 (by omega)];simp
  have sI:=I3 (h:=h++[rT (B4 (G0 l a (C6 i v))),rT z]) (id:=h.length) (off:=a+i) (cs:=B4 (G0 l a (C6 i v))) (x:=.i .u8 (byI v i).toNat) (by simp)
   (by rw [B5,K5 (by simp;omega)];omega)
  have e5:(G0 l a (C6 i v)).set (a+i) (byI v i)=G0 l a (C6 (i+1) v):=by
   rw [A79];have:=A9y (l:=l) (xs:=C6 i v) (a:=a) (x:=byI v i) (by simp;omega);simpa using this
  rw [iY,e5] at sI;have h1':(i:Int)<w:=by omega
  rw [A81];simp only [esc,h1',A09 (show a+i<9223372036854775808 by omega),e2,e3,e4,C20 (v:=v) (show i<8 by omega),ea,sI,D9 (show i+1<9223372036854775808 by omega)];exact ih
def fF (l:List UInt8) (a w v:Int):List UInt8:=if w<=4/\wY a w 256=A5 then G0 l a.toNat (C6 w.toNat v) else l
def Q9 {l:List UInt8} {a w v:Int} (hl:l.length=256):(fF l a w v).length=256:=by
 unfold fF;split
 ·rename_i h;rw [S7] at h;rw [K5 (by simp;omega),hl]
 ·exact hl
def C4Z {l:List UInt8} {g:A9} (hl:l.length=256) {a w v:Int} :
  ∃ g',B1b (w.toNat+1) [.a (B4 l),iV a,iV w,iV v] g=A4 (.a (B4 (fF l a w v)),g'):=by
 have gX:(B4 l).length=256:=by rw [B5,hl]
 have hz:(D9w 256 (Cell.i .u8 0)).length=256:=D9X;rw [C1Q];generalize D9w 256 (Cell.i .u8 0)=z at *;have s1:=C9 (h:=g++[rT (B4 l),rT z]) (id:=g.length) (cs:=B4 l) (n:=256) (by simp) gX;have s2:=storeAll (h:=g++[rT (B4 l),rT z]) (id:=g.length+1) (cs:=z) (xs:=B4 l) (by simp) hz gX;have s3:=C9 (h:=g++[rT (B4 l),rT (B4 l)]) (id:=g.length+1) (cs:=B4 l) (n:=256) (by simp) gX;unfold fF;by_cases c1:4<w
 ·rw [if_neg (by omega)];exact ⟨_,by simp only [esc,c1,s1,s2,s3];rfl⟩
 ·have c1':w<=4:=by omega
  cases c2:wY a w 256 with
  | false =>
   rw [if_neg (by simp)];exact ⟨_,by simp only [esc,c1,wE (show (256:Int)<9223372036854775808 by omega),c2,s1,s2,s3];rfl⟩
  | true =>
   rw [if_pos ⟨c1',rfl⟩];have c3:=S7.1 c2;have:=B0U (h:=g) (a:=a.toNat) (w:=w.toNat) (k:=w.toNat+1) (v:=v) (z:=z) (by omega) (by omega) hl hz w.toNat 0 (w.toNat+1) (by omega) (by omega);simp only [show ((a.toNat:Nat):Int)=a by omega,show ((w.toNat:Nat):Int)=w by omega,show C6 0 v=[] from rfl,B3T] at this;exact ⟨_,by simp only [esc,c1,wE (show (256:Int)<9223372036854775808 by omega),c2];exact this⟩
def U8 {l:List UInt8} {h:A9} (hl:l.length=256) {a w v:Int} :
  nH [.a (B4 l),iV a,iV w,iV v] h=A4 (.a (B4 (fF l a w v)),h):=by
 obtain ⟨g,e⟩:=C4Z (g:=ro h) hl (a:=a) (w:=w) (v:=v);exact B8i e (by simp)
def B37 {l:List UInt8} {h:A9} {b id a n k:Nat} (haw:a+n<=256) (hl:l.length=256):∀ d i m,i+d=n->d<m ->
  C0Z k m (iV a) (pV h.length 0) (sV (h.length+2) 0 n 1) (iV n) (iV i) (h++[rT (B4 l),rT [],rT (B4 ((l.drop a).take i++zeros (n-i)))]) =
   A4 (sV (h.length+2) 0 n 1,h++[rT (B4 l),rT [],rT (B4 ((l.drop a).take n))])
 | d,i,0,_,hm=>by omega
 | 0,i,m+1,hi,hm=>by
  have e:i=n:=by omega
  subst e;have h1':¬ (i:Int)<i:=by omega
  rw [B0R];simp only [esc,h1'];simp [zeros]
 | d+1,i,m+1,hi,hm=>by
  have ih:=B37 (h:=h) (b:=b) (id:=id) (k:=k) haw hl d (i+1) m (by omega) (by omega);have ea:I5 256 1 (pV h.length 0) (iV ((a+i:Nat):Int))=A4 (pV h.length (a+i)):=by rw [K3 (by omega)];simp
  have eb:E5 1 (sV (h.length+2) 0 n 1) (iV (i:Int))=A4 (pV (h.length+2) i):=by rw [D8 (by omega)];simp
  have hx:=B9 (h:=h++[rT (B4 l),rT [],rT (B4 ((l.drop a).take i++zeros (n-i)))]) (id:=h.length) (off:=a+i) (c:=.i .u8 l[a+i].toNat) (cs:=B4 l) (rw:=A5) (by simp) (by rw [qX,D9u (by omega)];rfl) rfl;have sI:=I3 (h:=h++[rT (B4 l),rT [],rT (B4 ((l.drop a).take i++zeros (n-i)))]) (id:=h.length+2) (off:=i) (cs:=B4 ((l.drop a).take i++zeros (n-i))) (x:=.i .u8 l[a+i].toNat) (by simp)
   (by rw [B5];simp;omega)
  have e5:((l.drop a).take i++zeros (n-i)).set i l[a+i]=(l.drop a).take (i+1)++zeros (n-(i+1)):=by
   have hlen:((l.drop a).take i).length=i:=by simp;omega
   rw [D96 _ _ (by omega),hlen,E0p,A3i (by omega),D9C];refine congrArg ((l.drop a).take i ++ ·) ?_;have:n-i=n-(i+1)+1:=by omega
   rw [this];unfold zeros;rw [D92,E0w];rfl
  rw [iY,e5] at sI;have h1':(i:Int)<n:=by omega
  rw [B0R];simp only [esc,h1',A09 (show a+i<9223372036854775808 by omega),ea,hx,eb,sI,D9 (show i+1<9223372036854775808 by omega)];exact ih
def A6K (l:List UInt8) (a n:Int):List UInt8:=if 0<=a then (l.drop a.toNat).take n.toNat else []
def B6l (n:Nat):rows [Cell.i .u8 0] n=B4 (zeros n):=by
 unfold rows zeros
 induction n with
 | zero=>rfl
 | succ n ih=>rw [D92,E0l,ih,D92];rfl
def C6X {l:List UInt8} {g:A9} (hl:l.length=256) {a n:Int} :
  ∃ v g',B41 ((min n (256-a)).toNat+1) [.a (B4 l),iV a,iV n] g=A4 (v,g')/\Out g.length g' v 1 (A6K l a n).length (B4 (A6K l a n)):=by
 rw [C35];unfold A6K;by_cases c1:a<0
 ·rw [if_neg (by omega)];exact ⟨_,_,by simp only [esc,c1];rfl,by simp [B5],_,rfl,by simp,by simp;rfl⟩
 ·rw [if_pos (by omega)];by_cases c2:256<=a
  ·have e:l.drop a.toNat=[]:=D9K (by omega);rw [e,List.take_nil];exact ⟨_,_,by simp only [esc,c1,c2];rfl,by simp [B5],_,rfl,by simp,by simp;rfl⟩
  ·by_cases c3:n<1
   ·have e:n.toNat=0:=by omega
    rw [e];exact ⟨_,_,by simp only [esc,c1,c2,c3];rfl,by simp [B5],_,rfl,by simp,by simp;rfl⟩
   ·have e1:D9B .i64 (256-a)=256-a:=wrap_i64 (by omega) (by omega);have e2:A90 (iV n) (iV (256-a))=A4 (iV ((min n (256-a)).toNat:Nat)):=by
     simp only [A90]
     congr 3
     by_cases h:256-a<n
     ·rw [if_pos h];omega
     ·rw [if_neg h];omega
    generalize hN:(min n (256-a)).toNat=N at *;have e3:B8l (iV (N:Int)) (iV (N:Int))=A4 N:=by
     have:A96 (iV (N:Int))=A4 N:=by simp only [A96];rw [if_pos (by omega)];simp
     simp [B8l,this]
    have e4:(l.drop a.toNat).take n.toNat=(l.drop a.toNat).take N:=by
     by_cases h:256-a<n
     ·rw [D9M (by simp;omega),D9M (by simp;omega)]
     ·have:n.toNat=N:=by omega
      rw [this]
    have e5:((l.drop a.toNat).take N).length=N:=by simp;omega
    rw [e4,e5];have:=B37 (h:=g) (b:=0) (id:=0) (a:=a.toNat) (n:=N) (k:=N+1) (by omega) hl N 0 (N+1) (by omega) (by omega);simp only [show ((a.toNat:Nat):Int)=a by omega,E0z,D9U,Nat.sub_zero] at this;exact ⟨_,_,by simp only [esc,c1,c2,c3,e1,e2,e3,B6l];exact this,by simp [B5,e5],_,rfl,by omega,by simp⟩
def A5H {l:List UInt8} {h:A9} (hl:l.length=256) {a n:Int} :
  A3B [.a (B4 l),iV a,iV n] h=A4 (sV h.length 0 (A6K l a n).length 1,h++[rT (B4 (A6K l a n))]):=by
 obtain ⟨v,g,e,ho⟩:=C6X (g:=ro h) hl (a:=a) (n:=n);exact C1V e (by simpa [G5] using ho) (by simp)
def B39 {v:Val} {nv:Nat} {data l:List UInt8} {z:List Cell} {h:A9} (hv:Has h v 1 nv (B4 data)) {a k:Nat} (ha:a<256) (hl:l.length=256) (hz:z.length=256) (hd:data.length<9223372036854775808):∀ d i m,i+d=data.length->d<m->i<=256-a ->
  C02 k m (iV a) (pV h.length 0) (pV (h.length+1) 0) v (iV data.length) (iV i) (h++[rT (B4 (G0 l a (data.take i))),rT z]) =
   A4 (.a (B4 (G0 l a (data.take (256-a)))),h++[rT (B4 (G0 l a (data.take (256-a)))),rT (B4 (G0 l a (data.take (256-a))))])
 | d,i,0,_,hm,_=>by omega
 | d,i,m+1,hi,hm,hia=>by
  have hll:∀ i,i<=256-a->(B4 (G0 l a (data.take i))).length=256:=λi hi=>by rw [B5,K5 (by simp;omega),hl]
  have fin:data.take i=data.take (256-a)->C01 k (pV h.length 0) (pV (h.length+1) 0) (h++[rT (B4 (G0 l a (data.take i))),rT z]) =
   A4 (.a (B4 (G0 l a (data.take (256-a)))),h++[rT (B4 (G0 l a (data.take (256-a)))),rT (B4 (G0 l a (data.take (256-a))))]):=λe=>by
   rw [e];have gX:=hll (256-a) (D9x _);have s1:=C9 (h:=h++[rT (B4 (G0 l a (data.take (256-a)))),rT z]) (id:=h.length) (cs:=B4 (G0 l a (data.take (256-a)))) (by simp) gX;have s2:=storeAll (h:=h++[rT (B4 (G0 l a (data.take (256-a)))),rT z]) (id:=h.length+1) (cs:=z) (xs:=B4 (G0 l a (data.take (256-a)))) (by simp) hz gX;have s3:=C9 (h:=h++[rT (B4 (G0 l a (data.take (256-a)))),rT (B4 (G0 l a (data.take (256-a))))]) (id:=h.length+1) (cs:=B4 (G0 l a (data.take (256-a)))) (by simp) gX;rw [C2p];simp only [esc,s1,s2,s3]
  rw [C2q];by_cases c1:i<data.length
  ·obtain ⟨d,rfl⟩:∃ e,d=e+1:=⟨d-1,by omega⟩;have hnv:data.length=nv:=by simpa [B5] using hv.length
   obtain ⟨id,off,rfl,hid,h1,h2⟩:=(hv.more [rT (B4 (G0 l a (data.take i))),rT z]).sl (by omega);have hx:=h1 i (.i .u8 data[i].toNat) (by rw [qX,D9u (by omega)];rfl);have eb:E5 1 (sV id off nv 1) (iV (i:Int))=A4 (pV id (off+i)):=by rw [D8 (by omega)];simp
   have e1:D9B .i64 (256-(a:Int))=256-a:=wrap_i64 (by omega) (by omega);have c1':(i:Int)<data.length:=by omega
   by_cases c2:256-a<=i
   ·have c2':(256:Int)-a<=i:=by omega
    simp only [esc,c1',eb,hx,e1,c2'];exact fin (by rw [show i=256-a by omega])
   ·have c2':¬ (256:Int)-a<=i:=by omega
    have ih:=B39 hv (l:=l) (z:=z) (k:=k) ha hl hz hd d (i+1) m (by omega) (by omega) (by omega);have ea:I5 256 1 (pV h.length 0) (iV ((a+i:Nat):Int))=A4 (pV h.length (a+i)):=by rw [K3 (by omega)];simp
    have sI:=I3 (h:=h++[rT (B4 (G0 l a (data.take i))),rT z]) (id:=h.length) (off:=a+i) (cs:=B4 (G0 l a (data.take i))) (x:=.i .u8 data[i].toNat) (by simp)
     (by rw [hll i hia];omega)
    have e5:(G0 l a (data.take i)).set (a+i) data[i]=G0 l a (data.take (i+1)):=by
     have:=A9y (l:=l) (xs:=data.take i) (a:=a) (x:=data[i]) (by simp;omega);rw [D91,E0F (by omega)] at this;rw [this,D9V c1]
    rw [iY,e5] at sI;simp only [esc,c1',eb,hx,e1,c2',A09 (show a+i<9223372036854775808 by omega),ea,sI,D9 (show i+1<9223372036854775808 by omega)];exact ih
  ·have c1':¬ (i:Int)<data.length:=by omega
   simp only [esc,c1'];exact fin (by rw [D9M (by omega),D9M (by omega)])
def A8Q (l:List UInt8) (a:Int) (data:List UInt8):List UInt8:=if 0<=a/\a<256 then G0 l a.toNat (data.take (256-a.toNat)) else l
def C6I {l:List UInt8} {a:Int} {data:List UInt8} (hl:l.length=256):(A8Q l a data).length=256:=by
 unfold A8Q;split
 ·rw [K5 (by simp;omega),hl]
 ·exact hl
def C6Y {v:Val} {nv:Nat} {data l:List UInt8} {g:A9} (hv:Has g v 1 nv (B4 data)) (hl:l.length=256) (hd:data.length<9223372036854775808) {a:Int} :
  ∃ g',B42 (data.length+1) [.a (B4 l),iV a,v] g=A4 (.a (B4 (A8Q l a data)),g'):=by
 have gX:(B4 l).length=256:=by rw [B5,hl]
 have hz:(D9w 256 (Cell.i .u8 0)).length=256:=D9X;have hnv:data.length=nv:=by simpa [B5] using hv.length
 rw [C37];generalize D9w 256 (Cell.i .u8 0)=z at *;have s1:=C9 (h:=g++[rT (B4 l),rT z]) (id:=g.length) (cs:=B4 l) (n:=256) (by simp) gX;have s2:=storeAll (h:=g++[rT (B4 l),rT z]) (id:=g.length+1) (cs:=z) (xs:=B4 l) (by simp) hz gX;have s3:=C9 (h:=g++[rT (B4 l),rT (B4 l)]) (id:=g.length+1) (cs:=B4 l) (n:=256) (by simp) gX;unfold A8Q;by_cases c1:a<0
 ·rw [if_neg (by omega)];exact ⟨_,by simp only [esc,c1,s1,s2,s3];rfl⟩
 ·by_cases c2:256<=a
  ·rw [if_neg (by omega)];exact ⟨_,by simp only [esc,c1,c2,s1,s2,s3];rfl⟩
  ·rw [if_pos (by omega)];have:=B39 hv (l:=l) (a:=a.toNat) (k:=data.length+1) (z:=z) (by omega) hl hz hd data.length 0 (data.length+1) (by omega) (by omega) (by omega);simp only [show ((a.toNat:Nat):Int)=a by omega,E0z,B3T] at this;exact ⟨_,by simp only [esc,c1,c2,hv.len,<-hnv];exact this⟩
def B13 {v:Val} {nv:Nat} {data l:List UInt8} {h:A9} (hv:Has h v 1 nv (B4 data)) (hl:l.length=256) (hd:data.length<9223372036854775808) {a:Int} :
  A3C [.a (B4 l),iV a,v] h=A4 (.a (B4 (A8Q l a data)),h):=by
 obtain ⟨g,e⟩:=C6Y hv.ro hl hd (a:=a);exact B9y e (by simp)
def A9D {v:Val} {nv:Nat} {data:List UInt8} {h:A9} (hv:Has h v 1 nv (B4 data)) (hd:data.length<9223372036854775808) :
  A3D [v] h=A4 (.a (B4 (A8Q (zeros 256) 0 data)),h):=by
 have key:∀ g,Has g v 1 nv (B4 data)->∃ g',B9b 0 [v] g=A4 (.a (B4 (A8Q (zeros 256) 0 data)),g'):=by
  intro g hv;rw [C5p];have hz:(B4 (zeros 256)).length=256:=by rw [B5];exact zeros_length
  have hz0:(zeros 256).length=256:=zeros_length;rw [F7];generalize zeros 256=Z at *;have e:=B13 (hv.more [rT (B4 Z)]) hz0 hd (a:=0);have hl2:(B4 (A8Q Z 0 data)).length=256:=by rw [B5,C6I hz0]
  have s2:=storeAll (h:=g++[rT (B4 Z)]) (id:=g.length) (cs:=B4 Z) (xs:=B4 (A8Q Z 0 data)) (by simp) hz hl2;have s3:=C9 (h:=g++[rT (B4 (A8Q Z 0 data))]) (id:=g.length) (cs:=B4 (A8Q Z 0 data)) (n:=256) (by simp) hl2;exact ⟨_,by simp only [esc,E7,e,s2,s3];rfl⟩
 obtain ⟨g,e⟩:=key _ hv.ro;exact C1W e (by simp)
def B38 {v:Val} {nv:Nat} {l:List UInt8} {h:A9} (hv:Has h v 1 nv (B4 l)) {a w k:Nat} (hw:w<=8) (haw:a+w<=l.length) (hl:l.length<9223372036854775808):∀ d i m,i+d=w->d<m ->
  C00 k m v (iV a) (.c (.i .u64 (le ((l.drop a).take i)))) (iV w) (iV i) h=A4 (.t [.c (.i .u64 (le ((l.drop a).take w))),.c (.b A5)],h)
 | d,i,0,_,hm=>by omega
 | 0,i,m+1,hi,hm=>by
  have e:i=w:=by omega
  subst e;rw [B0S];simp
 | d+1,i,m+1,hi,hm=>by
  have ih:=B38 hv (k:=k) hw haw hl d (i+1) m (by omega) (by omega);have hnv:l.length=nv:=by simpa [B5] using hv.length
  obtain ⟨id,off,rfl,hid,h1,h2⟩:=hv.sl (by omega);have hx:=h1 (a+i) (.i .u8 l[a+i].toNat) (by rw [qX,D9u (by omega)];rfl);have hb:=l[a+i].toNat_lt;have hlen:((l.drop a).take i).length=i:=by simp;omega
  have gX:=C6K ((l.drop a).take i);rw [hlen] at gX;have hp:=A9F (show i<=8 by omega);have hbp:=B65 (x:=l[a+i]) (show i<8 by omega);have e2:D9B .i64 (8*(i:Int))=8*i:=wrap_i64 (by omega) (by omega);have e3:D9B .u64 (8*(i:Int))=8*i:=wrap_u64 (by omega) (by omega);have e5:D9B .u64 (l[a+i].toNat:Int)=l[a+i].toNat:=wrap_u64 (by omega) (by omega);have e6:=C7v (k:=.u64) (x:=l[a+i]) (show i<8 by omega) (wrap_u64 (by omega) (by omega)) rfl;have e7:K6 .or (.c (.i .u64 (le ((l.drop a).take i):Nat))) (.c (.i .u64 ((l[a+i].toNat*256 ^ i:Nat):Int)))=A4 (.c (.i .u64 (le ((l.drop a).take (i+1)):Nat))):=by
   rw [D7g (by omega) (by omega),A3i (by omega),<-C97,hlen]
  have ea:E5 1 (sV id off nv 1) (iV ((a+i:Nat):Int))=A4 (pV id (off+(a+i))):=by rw [D8 (by omega)];simp
  have h1':(i:Int)<w:=by omega
  rw [B0S];simp only [esc,h1',A09 (show a+i<9223372036854775808 by omega),e2,e3,ea,hx,e5,e6,e7,D9 (show i+1<9223372036854775808 by omega)];exact ih
def C8Q {v:Val} {nv:Nat} {l:List UInt8} {h:A9} (hv:Has h v 1 nv (B4 l)) {a w:Int} (hl:l.length<9223372036854775808) :
  B5q [v,iV a,iV w] h=A4 (.t [.c (.i .u64 ((D27 l a w).getD 0:Nat)),.c (.b (D27 l a w).isSome)],h):=by
 refine B9x (n:=w.toNat+1) (h2:=ro h) ?_ (by simp);rw [C36];have hv':=hv.ro;have hnv:l.length=nv:=by simpa [B5] using hv.length
 unfold D27;by_cases c1:8<w
 ·have c1':¬ w<=8:=by omega
  simp [c1,c1']
 ·have c1':w<=8:=by omega
  cases c2:wY a w l.length with
  | false=>simp [c1,hv'.len,<-hnv,wE (show (l.length:Int)<9223372036854775808 by omega),c2]
  | true =>
   simp [c1,c1',hv'.len,<-hnv,wE (show (l.length:Int)<9223372036854775808 by omega),c2];rw [S7] at c2;have:=B38 hv' (a:=a.toNat) (w:=w.toNat) (k:=w.toNat+1) (by omega) (by omega) hl w.toNat 0 (w.toNat+1) (by omega) (by omega);simp only [show ((a.toNat:Nat):Int)=a by omega,show ((w.toNat:Nat):Int)=w by omega] at this;simpa [le] using this
def B4a {l:List UInt8} {b id a w k:Nat} {v:Int} (hw:w<=8) (haw:a+w<=l.length) (hl:l.length<9223372036854775808):∀ d i m (h:A9),i+d=w->d<m->b<=id->b<=h.length->rd h id=rT (B4 (G0 l a (C6 i v))) ->
  ∃ h',C03 k m (iV a) (.c (.i .u64 v)) (sV id 0 l.length 1) (iV w) (iV i) h=A4 (.t [.c (.sl id 0 l.length 1),.c (.b A5)],h')/\rd h' id=rT (B4 (G0 l a (C6 w v)))
 | d,i,0,h,_,hm,_,_,_=>by omega
 | 0,i,m+1,h,hi,hm,_,_,hr=>by
  have e:i=w:=by omega
  subst e;have h1':¬ (i:Int)<i:=by omega
  rw [B0T];exact ⟨h,by simp only [esc,h1'],hr⟩
 | d+1,i,m+1,h,hi,hm,hb,hbl,hr=>by
  have e2:D9B .i64 (8*(i:Int))=8*i:=wrap_i64 (by omega) (by omega);have e3:D9B .u64 (8*(i:Int))=8*i:=wrap_u64 (by omega) (by omega);have e4:K6 .shr (.c (.i .u64 v)) (.c (.i .u64 (8*(i:Int))))=A4 (.c (.i .u64 (v/2 ^ (E0J (8*(i:Int)).toNat 64)))):=B9F (by omega);have ea:E5 1 (sV id 0 l.length 1) (iV ((a+i:Nat):Int))=A4 (pV id (a+i)):=by rw [D8 (by omega)];simp
  have sI:=I3 (off:=a+i) (x:=.i .u8 (byI v i).toNat) hr (by rw [B5,K5 (by simp;omega)];omega);have e5:(G0 l a (C6 i v)).set (a+i) (byI v i)=G0 l a (C6 (i+1) v):=by
   rw [A79];have:=A9y (l:=l) (xs:=C6 i v) (a:=a) (x:=byI v i) (by simp;omega);simpa using this
  rw [iY,e5] at sI;obtain ⟨h',ih,hr'⟩:=B4a (b:=b) (k:=k) (v:=v) hw haw hl d (i+1) m (h.set id (rT (B4 (G0 l a (C6 (i+1) v))))) (by omega) (by omega) hb (by simpa using hbl) (D1 (D7 hr));have h1':(i:Int)<w:=by omega
  rw [B0T];exact ⟨h',by simp only [esc,h1',A09 (show a+i<9223372036854775808 by omega),e2,e3,e4,C20 (v:=v) (show i<8 by omega),ea,sI,D9 (show i+1<9223372036854775808 by omega)];exact ih,hr'⟩
def B8x (l:List UInt8) (a w v:Int):Option (List UInt8):=if w<=8/\wY a w l.length=A5 then A4 (G0 l a.toNat (C6 w.toNat v)) else A7
def C8R {x:Val} {nv:Nat} {l:List UInt8} {h:A9} (hv:Has h x 1 nv (B4 l)) {a w v:Int} (hl:l.length<=1073741824) :
  B5r [x,iV a,iV w,.c (.i .u64 v)] h=A4 (.t [.c (.sl h.length 0 ((B8x l a w v).getD []).length 1),.c (.b (B8x l a w v).isSome)],h++[rT (B4 ((B8x l a w v).getD []))]):=by
 have hnv:l.length=nv:=by simpa [B5] using hv.length
 have key:∀ g,Has g x 1 nv (B4 l)->∃ id g',B43 (w.toNat+1) [x,iV a,iV w,.c (.i .u64 v)] g=A4 (.t [.c (.sl id 0 ((B8x l a w v).getD []).length 1),.c (.b (B8x l a w v).isSome)],g')/\g.length<=id/\rd g' id=rT (B4 ((B8x l a w v).getD [])):=by
  intro g hv;rw [C38];have hvm:=hv.more [rT []];unfold B8x;by_cases c1:8<w
  ·rw [if_neg (by omega)];exact ⟨_,_,by simp only [esc,c1];rfl,by simp,by simp;rfl⟩
  ·cases c2:wY a w l.length with
   | false =>
    rw [if_neg (by simp)];exact ⟨_,_,by simp only [esc,c1,hvm.len,<-hnv,wE (show (l.length:Int)<9223372036854775808 by omega),c2];rfl,by simp,by simp;rfl⟩
   | true =>
    rw [if_pos ⟨by omega,rfl⟩];have c3:=S7.1 c2;have hvm2:=hv.more [rT [],rT []];have e1:qK (g++[rT [],rT []]) 1 (sV (g.length+1) 0 0 1) x=A4 (sV (g.length+2) 0 l.length 1,g++[rT [],A7,rT (B4 l)]):=by
     simp [qK,hvm2.add,B5];exact hl
    obtain ⟨g',e2,hr⟩:=B4a (l:=l) (b:=g.length) (id:=g.length+2) (a:=a.toNat) (w:=w.toNat) (k:=w.toNat+1) (v:=v) (by omega) (by omega) (by omega) w.toNat 0 (w.toNat+1) (g++[rT [],A7,rT (B4 l)]) (by omega) (by omega) (by omega) (by simp) (by simp [C6,B3T]);simp only [show ((a.toNat:Nat):Int)=a by omega,show ((w.toNat:Nat):Int)=w by omega] at e2;have hlen:((A4 (G0 l a.toNat (C6 w.toNat v))).getD []).length=l.length:=by
     simp only [Option.getD_some];rw [K5 (by simp;omega)]
    rw [hlen];exact ⟨g.length+2,g',by simp only [esc,c1,hvm.len,<-hnv,wE (show (l.length:Int)<9223372036854775808 by omega),c2,E7,e1];exact e2,by omega,hr⟩
 obtain ⟨id,g',e,hb,hr⟩:=key _ hv.ro;have hb':h.length<=id:=by simpa [G5] using hb
 have:=B9z e (v2:=.t [.c (.sl h.length 0 ((B8x l a w v).getD []).length 1),.c (.b (B8x l a w v).isSome)]) (ids:=[id]) (by
  simp [S8,eJ,M6,hb',show ¬ id<h.length by omega,oQ hr (by simp:K1 (B4 ((B8x l a w v).getD []))=A5)])
 rw [this];simp [hr]
def M8 (n:Nat) (l:List UInt8):List UInt8:=l++zeros (n-l.length)
def G1 {n:Nat} {l:List UInt8} (h:l.length<=n):(M8 n l).length=n:=by
 unfold M8;rw [D9A,zeros_length];omega
def D3Q {n:Nat}:M8 n []=zeros n:=by simp [M8]
def C65 {l xs:List UInt8} {a:Nat} (h1:l.length<=a) (h2:a+xs.length<=256):G0 (M8 256 l) a xs=M8 256 (l++zeros (a-l.length)++xs):=by
 unfold G0 M8;have e1:(l++zeros (256-l.length)).take a=l++zeros (a-l.length):=by
  rw [List.take_append,D9M h1];unfold zeros;rw [List.take_replicate,E0F (by omega)]
 have e2:(l++zeros (256-l.length)).drop (a+xs.length)=zeros (256-(l++zeros (a-l.length)++xs).length):=by
  rw [List.drop_append,D9K (by omega),D9U];unfold zeros;rw [List.drop_replicate]
  congr 1
  simp;omega
 rw [e1,e2];simp only [D9C]
def fQ {l:List UInt8} {a w:Nat} {v:Int} (h1:l.length<=a) (h2:a+w<=256) (hw:1<=w) (hw4:w<=4):fF (M8 256 l) a w v=M8 256 (l++zeros (a-l.length)++C6 w v):=by
 unfold fF;rw [if_pos ⟨by omega,S7.2 (by omega)⟩];simp only [D9N];exact C65 h1 (by simp;exact h2)
def fieldN (b:List UInt8) (a w:Nat):Int:=((le ((b.drop a).take w):Nat):Int)
def C42 {b:List UInt8} (hb:b.length<=256):A8Q (zeros 256) 0 b=M8 256 b:=by
 unfold A8Q G0 M8;rw [if_pos (by omega)];simp only [Int.toNat_zero,E0z,D9U,Nat.sub_zero,D9T];rw [D9M hb];unfold zeros;rw [List.drop_replicate]
def C71 {b:List UInt8} {a w:Nat} (h1:a+w<=b.length) (h2:b.length<=256) (hw:1<=w) (hw4:w<=4):((atN (M8 256 b) a w:Nat):Int)=fieldN b a w:=by
 unfold atN fieldN M8;rw [if_pos ⟨by omega,S7.2 (by omega)⟩];simp only [D9N];rw [List.drop_append_of_le_length (by omega),List.take_append_of_le_length (by simp;omega)]
section
variable (n m m2:Nat) (a0 a1 x0 x1 x7 x8:Val) (h:A9)
def sN:FD A8:=⟨px 0X12bf4072b0218000002722af18052c02a4921829f003b06201a1f21380382812e171b018181af504121842150307024413401212b42006051105b1a603291f61c21132b40130182,[.c (.i .u32 0),.c (.i .u32 16777619)],[.idxS (.t 12) (.t 13),.conv .u32 (.t 14)],[.tmp 4],[]⟩
def B87:=sN.R
def B7r:AtH:=sN.lj 0 n [m] [x0,x1,x7,x8]
def B9C:=tT [⟨2,4,B7r⟩]
def C1P:=mR B87 sN B9C n [a0,a1] h
def A8Z:=mL sN B9C 0 n [m] [x0,x1,x7,x8] h
def B8T:=sN.K Tryz.func202
def B1v:=sN.S
def B8f:G3 B87 B1v:=B8T.flat
def B2g:FD A8:=⟨px 0X14f2003b20361300522b201042,[.c (.i .u32 0),.c (.i .u32 2166136261)],[],[.tmp 2],[E1 B1v B8T]⟩
def C5l:=B2g.R
def C5m:=mR C5l B2g (tT []) n [a0] h
def B2s:=B2g.K Tryz.func149
def A7M:=B2g.S
def C5q:SOk A8 149 A7M:=B2s.sok
def C1T:G3 C5l A7M:=B2s.flat
def A9d:FD A8:=⟨px 0X12bf4006801a1e22b07202b1b20583a171d01802011cf4006871b0318000072241af180289042281903296101d2114012000072247f5050121a6031b420503140130182,[.c (.i .u32 1)],[],[.tmp 4],[]⟩
def B4Z:=A9d.R
def C34:=mR B4Z A9d (tT []) n [a0,a1] h
def C2B:=A9d.K Tryz.func201
def B5m:=A9d.S
def B9u:G3 B4Z B5m:=C2B.flat
end
def D3A (h:Nat) (c:UInt8):Nat:=((h ^^^ c.toNat)*16777619)%4294967296
def B8K (h:Nat) (s:List UInt8):Nat:=s.foldl D3A h
def B8v (s:List UInt8):Nat:=B8K 2166136261 s
def C93 {h:Nat} {c:UInt8}:D3A h c<4294967296:=Nat.mod_lt _ (by omega)
def C8K {s:List UInt8}:∀ {h:Nat},h<4294967296->B8K h s<4294967296:=by
 induction s with
 | nil=>intro h hh;exact hh
 | cons c s ih=>intro h _;exact ih C93
def C4S {s:List UInt8}:B8v s<4294967296:=C8K (by omega)
def C5k {a:Int}:D9B .u32 a=a%4294967296:=by
 simp only [D9B,IntKind.bits,IntKind.signed,D9L];rfl
def B0N {s:List UInt8} (hs:s.length<9223372036854775807) {q:Nat} {h:A9}:∀ (d i m H:Nat),i+d=s.length->d<m->H<4294967296 ->
  B7r q m (.c (.i .u32 H)) (.c (.s s)) (iV s.length) (iV i) h=A4 (.c (.i .u32 ((B8K H (s.drop i):Nat):Int)),h)
 | d,i,0,H,_,hm,_=>by omega
 | 0,i,m+1,H,hi,hm,hH=>by
  have c0:¬ (i:Int)<s.length:=by omega
  rw [A8Z,D9K (by omega)];simp only [esc,c0,B8K,List.foldl_nil]
 | d+1,i,m+1,H,hi,hm,hH=>by
  have h2:i<s.length:=by omega
  have hb:=s[i].toNat_lt;have ih:=B0N hs (q:=q) (h:=h) d (i+1) m (D3A H s[i]) (by omega) (by omega) C93;have c0:(i:Int)<s.length:=by omega
  have e1:D9B .u32 (s[i].toNat:Int)=s[i].toNat:=wrap_u32 (by omega) (by omega);have e2:=D52 (a:=H) (b:=s[i].toNat) hH (by omega);have e3:D9B .u32 (((H ^^^ s[i].toNat:Nat):Int)*16777619)=((D3A H s[i]:Nat):Int):=by
   rw [C5k];unfold D3A;omega
  rw [A8Z,D9E h2];simp only [esc,c0,B3E h2,e1,e2,e3,D9 (show i+1<9223372036854775808 by omega)];exact ih
def B56 {s:List UInt8} (hs:s.length<9223372036854775807) {h:A9}:A7M [.c (.s s)] h=A4 (.c (.i .u32 ((B8v s:Nat):Int)),h):=by
 have hm:∀ h,B1v [.c (.i .u32 2166136261),.c (.s s)] h=A4 (.c (.i .u32 ((B8v s:Nat):Int)),h):=λh=>by
  refine B8f (n:=s.length+1) (h2:=ro h) ?_ rfl;rw [C1P];have:=B0N hs (q:=s.length+1) (h:=ro h) s.length 0 (s.length+1) 2166136261 (by omega) (by omega) (by omega);simp only [esc];exact this
 refine C1T (n:=0) (h2:=ro h) ?_ rfl;rw [C5m];simp only [esc,hm]
section
variable (n m m2:Nat) (a0 x1 x3 x10:Val) (h:A9)
def X2:FD A8:=⟨px 0X11201020152015052243cf2d006420406a5019024901a20415a2e2b185b0521520150062242cf1a0103249018204148292b51802428f1a018890520413a1e2b4020241df1a0490120412c1b2b4022d201911a15201200622419f3048890520401c72b4180246f30189012040642b402721801a050131103a2342,[],[],[.tmp 2],[]⟩
def A2A:=X2.R
def C1t:AtH:=X2.lj 0 n [] [x1,x3]
def C1u:AtH:=X2.lj 1 n [] [x1,x10]
def A2T:=tT [⟨1,2,C1t⟩,⟨1,2,C1u⟩]
def B46:=mR A2A X2 A2T n [a0] h
def R8:=mJ X2 A2T 0 n [] [x1,x3] h
def bP:=mJ X2 A2T 1 n [] [x1,x10] h
def fN:=X2.K Tryz.func43
def bT:=X2.S
def B1y:G3 A2A bT:=fN.flat
def A1l:FD A8:=⟨px 0X113022f48860291a9642306818a15f488581c6711624ff18001630381a9103537e4881856e4227c4886069434378178488491c421248f113ff6011c2801a3f2c3ef3a0049164330426e549491703b18f181194e05325848860195964230415c54a4881850224848860194964230404c53a4882a1c50229f248861c51b011307818b177b166b152b145b134b123b112b10181b1811f5d51b41192011ef3003848862c101c3b471100722410321e1b0239421af400103283191c3194203111c4c03a353182,[.c (.i .u8 101),.c (.i .u8 115),.c (.i .u8 99),.c (.i .u8 104),.c (.i .u8 97),.c (.i .u8 116),.c (.i .u8 49)],[.b2s (.t 37)],[.cellN 2 256,.tmp 3],[E1 bT fN,cal C5s,cal C1X,cal C4c,cal C4b,cal B21,cal C5q]⟩
def A7q:=A1l.R
def B9f:=mR A7q A1l (tT []) n [a0] h
def A65:=A1l.K Tryz.func88
def A1I:=A1l.S
def B5w:G3 A7q A1I:=A65.flat
def A1k:FD A8:=⟨px 0X113022f367834a1c302016d3027e3602a3b3711622401b18190784e7a488783c5c488783c0110324c3a0718922007239f138f248861c71b1182806382c2ff2d001334832e1c18291f31c20132cf23612a065a012411181032a3b3e1195903234848818194903233c4881f1c71191d2531ef11df4011a280181d2c1cf1904910313496903032a4881a1c181942112a4c03a353182,[],[.eqA A5 (D9w 256 (.i .u8)) (.t 29) (.t 30)],[.cellN 2 3,.tmp 3],[cal B21,cal C4a,cal C5r,E1 A1I A65]⟩
def A7p:=A1k.R
def B9e:=mR A7p A1k (tT []) n [a0] h
def A64:=A1k.K Tryz.func40
def A1H:=A1k.S
def B5v:G3 A7p A1H:=A64.flat
end
section
variable (n m m2:Nat) (a0 a1 x3 x6 x7:Val) (h:A9)
def A4s:FD A8:=⟨px 0X15001042100102,[],[],[.tmp 0],[]⟩
def B80:=A4s.R
def C1M:=mR B80 A4s (tT []) n [] h
def zZ:=A4s.K Tryz.func56
def sY:=A4s.S
def B8d:G3 B80 sY:=zZ.flat
def A9c:FD A8:=⟨px 0X15f20102201034318400523103a2342,[],[],[.tmp 2],[E1 bT fN]⟩
def B4Q:=A9c.R
def C33:=mR B4Q A9c (tT []) n [a0] h
def A9f:=A9c.K Tryz.func118
def A3z:=A9c.S
def B9q:G3 B4Q A3z:=A9f.flat
def yC:FD A8:=⟨px 0X11bf1118f204901a204128550020175c6019030111120265001a22403f0103631831d4203111103a3342,[],[],[.tmp 2,.tmp 3],[E1 A3z A9f,E1 sY zZ]⟩
def A4Q:=yC.R
def B7U:=mR A4Q yC (tT []) n [a0] h
def yJ:=yC.K Tryz.func53
def pW:=yC.S
def B2T:G3 A4Q pW:=yJ.flat
def A1h:FD A8:=⟨px 0X11cf2004021e11e1a044006219f118f301182806182c7f5001031a361c719701921103a2342,[],[],[.tmp 2],[E1 pW yJ]⟩
def A7d:=A1h.R
def B8Z:=mR A7d A1h (tT []) n [a0] h
def A1s:=A1h.K Tryz.func93
def oC:=A1h.S
def B5e:G3 A7d oC:=A1s.flat
def sM:FD A8:=⟨px 0X11ff20381f02500001721ef7051e01e492181df300613901011113e1e11e1a051819f4041218421503070243134012129420060511010318351c31f1d18201314a174214a03a2342,[],[],[.tmp 2],[E1 oC A1s]⟩
def B81:=sM.R
def B7l:AtH:=sM.lj 0 n [m] [x3,x6,x7]
def B9B:=tT [⟨2,3,B7l⟩]
def C1N:=mR B81 sM B9B n [a0] h
def A8v:=mL sM B9B 0 n [m] [x3,x6,x7] h
def B03:=sM.K Tryz.func44
def A5c:=sM.S
def B9p:A4D B81 A5c:=B03.out
def pB:FD A8:=⟨px 0X128f40301a1906192f1a02f1e12e2f1f2e2f701306195041f1a1e1f701010363181d00062340422e253182,[],[],[.tmp 4],[E1 A3z A9f]⟩
def A0i:=pB.R
def B2z:=mR A0i pB (tT []) n [a0,a1] h
def A6T:=pB.K Tryz.func119
def A0u:=pB.S
def A9W:G3 A0i A0u:=A6T.flat
def yD:FD A8:=⟨px 0X11b139f12ef4049018250725c1018024901a250724c12e2a01b4618001e229f128f701182806282c1ff1d001133831e1c71f300001b201311114031c1e2800001f22403f042032a11e3191c43942033111140422e453182,[],[],[.tmp 4,.tmp 5,.tmp 6],[E1 A0u A6T,E1 pW yJ]⟩
def A4R:=yD.R
def B7V:=mR A4R yD (tT []) n [a0,a1] h
def A4y:=yD.K Tryz.func54
def yP:=yD.S
def B2U:G3 A4R yP:=A4y.flat
def uB:FD A8:=⟨px 0X12af40301a190613b1a03b1e03a3b1f3a3b701301a190641f1a0111f2f1e31f3c1e1f701010363181f00062340422e253182,[],[],[.tmp 4],[E1 A3z A9f,E1 oC A1s]⟩
def A2p:=uB.R
def B4P:=mR A2p uB (tT []) n [a0,a1] h
def fM:=uB.K Tryz.func80
def bS:=uB.S
def B1k:G3 A2p bS:=fM.flat
end
def P5 (b n:Int):Bool:=decide (16<=b)&&decide (b<=512)&&decide (8<=n)&&decide (n<=128)&&decide (n%8=0)&&decide (2+n/8<b)
def H5 {b n:Int}:P5 b n=A5↔16<=b/\b<=512/\8<=n/\n<=128/\n%8=0/\2+n/8<b:=by
 unfold P5;simp [and_assoc]
def tP {b n:Int}:P5 b n=A6↔¬ (16<=b/\b<=512/\8<=n/\n<=128/\n%8=0/\2+n/8<b):=by
 rw [<-H5];simp
abbrev J8 (b n m:Int):List Cell:=[.i .i64 b,.i .i64 n,.i .u64 m]
def aH {b n m:Int} {h:A9}:bT [.a (J8 b n m)] h=A4 (iV (bif P5 b n then 0 else 1),h):=by
 have key:∀ g,∃ g',A2A 0 [.a (J8 b n m)] g=A4 (iV (bif P5 b n then 0 else 1),g'):=by
  intro g;rw [B46];have bad:P5 b n=A6->(A4 (iV 1,g++[rT (J8 b n m)]))=A4 (iV (bif P5 b n then 0 else 1),g++[rT (J8 b n m)]):=λh=>by rw [h];rfl
  by_cases c1:b<16
  ·rw [tP.2 (by omega)];exact ⟨_,by simp only [esc,esh,c1,R8]<;>rfl⟩
  ·by_cases c2:512<b
   ·rw [tP.2 (by omega)];exact ⟨_,by simp only [esc,esh,c1,c2,R8]<;>rfl⟩
   ·by_cases c3:n<8
    ·rw [tP.2 (by omega)];exact ⟨_,by simp only [esc,esh,c1,c2,c3,R8,bP]<;>rfl⟩
    ·by_cases c4:128<n
     ·rw [tP.2 (by omega)];exact ⟨_,by simp only [esc,esh,c1,c2,c3,c4,R8,bP]<;>rfl⟩
     ·have e1:=C3B (a:=n) (b:=8) (k:=.i64) (by omega) (by omega);by_cases c5:n%8=0
      ·have e2:=A5M (a:=n) (b:=8) (by omega) (by omega) (by omega);have e3:D9B .i64 (2+n/8)=2+n/8:=wrap_i64 (by omega) (by omega);by_cases c6:b<=2+n/8
       ·rw [tP.2 (by omega)];exact ⟨_,by simp only [esc,esh,c1,c2,c3,c4,e1,c5,e2,e3,c6,R8,bP]<;>rfl⟩
       ·rw [H5.2 (by omega)];exact ⟨_,by simp only [esc,esh,c1,c2,c3,c4,e1,c5,e2,e3,c6,R8,bP]<;>rfl⟩
      ·rw [tP.2 (by omega)];exact ⟨_,by simp only [esc,esh,c1,c2,c3,c4,e1,c5,R8,bP]<;>rfl⟩
 obtain ⟨g',e⟩:=key (ro h);exact B1y e (by simp)
def jA {b n m:Int} {h:A9}:A3z [.a (J8 b n m)] h=A4 (bV (P5 b n),h):=by
 have key:∀ g,∃ g',B4Q 0 [.a (J8 b n m)] g=A4 (bV (P5 b n),g'):=by
  intro g;rw [C33];cases c:P5 b n with
  | true=>exact ⟨_,by simp only [esc,esh,Nat.reduceAdd,aH,c]<;>rfl⟩
  | false=>exact ⟨_,by simp only [esc,esh,Nat.reduceAdd,aH,c,Int.reduceEq]<;>rfl⟩
 obtain ⟨g',e⟩:=key (ro h);exact B9q e (by simp)
def oM {h:A9}:sY [] h=A4 (iV 1,h) :=
 B8d (n:=0) (h2:=ro h) (by rw [C1M]) rfl
def rM (b n:Int):Int:=bif P5 b n then 2 else 0
def A06 (b n:Int):Int:=bif P5 b n then n/8 else 0
def eV (b n:Int):Int:=rM b n+A06 b n
def A20 {b n m:Int} {h:A9}:pW [.a (J8 b n m)] h=A4 (.t [.c (.i .i64 (rM b n)),.c (.i .i64 (A06 b n))],h):=by
 have key:∀ g,∃ g',A4Q 0 [.a (J8 b n m)] g=A4 (.t [.c (.i .i64 (rM b n)),.c (.i .i64 (A06 b n))],g'):=by
  intro g;rw [B7U];unfold rM A06;cases c:P5 b n with
  | true =>
   have c':=H5.1 c;have e2:=A5M (a:=n) (b:=8) (by omega) (by omega) (by omega);have e3:D9B .i64 (1+1)=2:=wrap_i64 (by omega) (by omega);exact ⟨_,by simp only [esc,esh,Nat.reduceAdd,jA,c,oM,e2,e3]<;>rfl⟩
  | false=>exact ⟨_,by simp only [esc,esh,Nat.reduceAdd,jA,c]<;>rfl⟩
 obtain ⟨g',e⟩:=key (ro h);exact B2T e (by simp)
def A5u {b n:Int}:0<=eV b n/\eV b n<=18:=by
 unfold eV rM A06;cases c:P5 b n with
 | true=>have:=H5.1 c;simp only [cond_true];omega
 | false=>simp only [cond_false];omega
def zB {b n m:Int} {h:A9}:oC [.a (J8 b n m)] h=A4 (iV (eV b n),h):=by
 have key:∀ g,∃ g',A7d 0 [.a (J8 b n m)] g=A4 (iV (eV b n),g'):=by
  intro g;rw [B8Z];have hr:=A5u (b:=b) (n:=n);have e3:D9B .i64 (rM b n+A06 b n)=eV b n:=wrap_i64 (by unfold eV at hr;omega) (by unfold eV at hr;omega);exact ⟨_,by simp only [esc,esh,Nat.reduceAdd,A20,e3]<;>rfl⟩
 obtain ⟨g',e⟩:=key (ro h);exact B5e e (by simp)
def P9 (b n i:Int):Bool:=P5 b n&&decide (1<=i)&&decide (i<=n)
def N9 (b n i:Int):Bool:=P5 b n&&decide (eV b n<=i)&&decide (i<b)
def A6g {b n m i:Int} {h:A9}:A0u [.a (J8 b n m),iV i] h=A4 (bV (P9 b n i),h):=by
 have key:∀ g,∃ g',A0i 0 [.a (J8 b n m),iV i] g=A4 (bV (P9 b n i),g'):=by
  intro g;rw [B2z];unfold P9;cases c:P5 b n with
  | true =>
   by_cases c1:1<=i
   ·exact ⟨_,by simp only [esc,esh,Nat.reduceAdd,jA,c,c1]<;>rfl⟩
   ·exact ⟨_,by simp only [esc,esh,Nat.reduceAdd,jA,c,c1]<;>rfl⟩
  | false=>exact ⟨_,by simp only [esc,esh,Nat.reduceAdd,jA,c]<;>rfl⟩
 obtain ⟨g',e⟩:=key (ro h);exact A9W e (by simp)
def cY {b n m i:Int} {h:A9}:bS [.a (J8 b n m),iV i] h=A4 (bV (N9 b n i),h):=by
 have key:∀ g,∃ g',A2p 0 [.a (J8 b n m),iV i] g=A4 (bV (N9 b n i),g'):=by
  intro g;rw [B4P];unfold N9;cases c:P5 b n with
  | true =>
   by_cases c1:eV b n<=i
   ·exact ⟨_,by simp only [esc,esh,Nat.reduceAdd,jA,zB,c,c1]<;>rfl⟩
   ·exact ⟨_,by simp only [esc,esh,Nat.reduceAdd,jA,zB,c,c1]<;>rfl⟩
  | false=>exact ⟨_,by simp only [esc,esh,Nat.reduceAdd,jA,c]<;>rfl⟩
 obtain ⟨g',e⟩:=key (ro h);exact B1k e (by simp)
def W1 (b n i:Int):Int:=bif P9 b n i then 2+(i-1)/8 else 0
def gF (b n i:Int):Int:=bif P9 b n i then (i-1)%8 else 0
def U7 {b n i:Int}:P9 b n i=A5↔P5 b n=A5/\1<=i/\i<=n:=by
 unfold P9;simp [and_assoc]
def A8O {b n i:Int}:N9 b n i=A5↔P5 b n=A5/\eV b n<=i/\i<b:=by
 unfold N9;simp [and_assoc]
def A21 {b n m i:Int} {h:A9}:yP [.a (J8 b n m),iV i] h=A4 (.t [.c (.i .i64 (W1 b n i)),.c (.i .i64 (gF b n i)),.c (.b (P9 b n i))],h):=by
 have key:∀ g,∃ g',A4R 0 [.a (J8 b n m),iV i] g=A4 (.t [.c (.i .i64 (W1 b n i)),.c (.i .i64 (gF b n i)),.c (.b (P9 b n i))],g'):=by
  intro g;rw [B7V];unfold W1 gF;cases c:P9 b n i with
  | true =>
   obtain ⟨c1,c2,c3⟩:=U7.1 c;have c':=H5.1 c1;have e0:rM b n=2:=by unfold rM;rw [c1];rfl
   have e1:D9B .i64 (i-1)=i-1:=wrap_i64 (by omega) (by omega);have e2:=A5M (a:=i-1) (b:=8) (by omega) (by omega) (by omega);have e3:D9B .i64 (2+(i-1)/8)=2+(i-1)/8:=wrap_i64 (by omega) (by omega);have e4:=C3B (a:=i-1) (b:=8) (k:=.i64) (by omega) (by omega);exact ⟨_,by simp only [esc,esh,Nat.reduceAdd,A6g,c,A20,e0,e1,e2,e3,e4]<;>rfl⟩
  | false=>exact ⟨_,by simp only [esc,esh,Nat.reduceAdd,A6g,c]<;>rfl⟩
 obtain ⟨g',e⟩:=key (ro h);exact B2U e (by simp)
def D1S {b n:Int}:0<=rM b n/\rM b n<=2/\0<=A06 b n/\A06 b n<=16:=by
 unfold rM A06;cases c:P5 b n with
 | true=>have:=H5.1 c;simp only [cond_true];omega
 | false=>simp only [cond_false];omega
def upto (d:Nat):List Int:=(D90 d).map λ(i:Nat)=>(i:Int)
def upto_length {d:Nat}:(upto d).length=d:=by simp [upto]
def upto_succ {d:Nat}:upto (d+1)=upto d++[(d:Int)]:=by simp [upto,List.range_succ]
def B0F {g:A9} {D k:Nat} (hD:D<=18):∀ d i m h id,i+d=D->d<m->Low g.length g h->g.length<=id->rd h id=rT (encI (upto i)) ->
  ∃ v' h',B7l k m (sV id 0 i 1) (iV D) (iV i) h=A4 (v',h')/\Out g.length h' v' 1 D (encI (upto D))
 | d,i,0,h,id,_,hm,_,_,_=>by omega
 | 0,i,m+1,h,id,hi,hm,hlow,hb,hr=>by
  have e:i=D:=by omega
  subst e;have h1':¬ (i:Int)<i:=by omega
  rw [A8v];exact ⟨_,_,by simp only [esc,h1']<;>rfl,by rw [C1,upto_length];omega,id,rfl,hb,hr⟩
 | d+1,i,m+1,h,id,hi,hm,hlow,hb,hr=>by
  obtain ⟨h',a1,a2,a3,a4,a5⟩:=push (ys:=[.i .i64 (i:Int)]) (sz:=1) (n:=i) hlow hr (by rw [C1,upto_length];omega) hb rfl (by omega) (by omega);have e4:encI (upto i)++[Cell.i .i64 (i:Int)]=encI (upto (i+1)):=by rw [upto_succ,vI];rfl
  rw [e4] at a2;obtain ⟨v',h'',b1,b2⟩:=B0F (k:=k) hD d (i+1) m h' (h.length+1) (by omega) (by omega) a3 a4 a2;have h1':(i:Int)<D:=by omega
  have e5:E7 [o0] [(0,1,iV (i:Int))]=A4 [.i .i64 (i:Int)]:=rfl;rw [A8v];exact ⟨v',h'',by simp only [esc,h1',e5,a1,D9 (show i+1<9223372036854775808 by omega)];exact b1,b2⟩
def B7k {b n m:Int} {h:A9}:A5c [.a (J8 b n m)] h=A4 (sV h.length 0 (eV b n).toNat 1,h++[rT (encI (upto (eV b n).toNat))]):=by
 have hr:=A5u (b:=b) (n:=n);obtain ⟨v',h',e,ho⟩:=B0F (g:=ro h) (D:=(eV b n).toNat) (k:=(eV b n).toNat+1) (by omega) (eV b n).toNat 0 ((eV b n).toNat+1) (ro h++[rT (J8 b n m),rT [],rT []]) ((ro h).length+2) (by omega) (by omega) ((Low.refl (D9x _)).new _) (by omega) (by simp;rfl);refine B9p (n:=(eV b n).toNat+1) (v:=v') (h2:=h') ?_ (by simpa [G5] using ho) (by simp);rw [C1N];rw [show (((eV b n).toNat:Nat):Int)=eV b n by omega] at e;simp only [esc,esh,Nat.reduceAdd,zB];exact e
def B0t (b n no:Int):Int:=if P5 b n=A5/\0<=no/\no<b then (if no<2 then no+1 else if (no-2)*8<n then 3 else 4) else 0
def D2h {h:A9} {id off len sz:Nat} {cs:List Cell} (hr:rd h id=rT cs) (hn:0<len):A6d h (sV id off len sz)=A4 (sV id off len sz):=by
 simp [A6d,hr,hn]
def magicB:List UInt8:=[101,115,99,104,101,97,116,49]
def A3g (b n m:Int):List UInt8:=magicB++C6 2 b++C6 2 n++C6 8 m
def oW (b n m:Int):List UInt8:=M8 256 (A3g b n m++C6 4 (B8v (A3g b n m):Nat))
def Y9 {b n m:Int}:(A3g b n m).length=20:=by simp [A3g,magicB]
def Y8 {b n m:Int}:(oW b n m).length=256:=G1 (by rw [D9A,Y9,N0];omega)
def D3r {l xs:List UInt8} {a:Nat} (h1:l.length<=a) (h2:a+xs.length<=256) (h3:a<256):A8Q (M8 256 l) a xs=M8 256 (l++zeros (a-l.length)++xs):=by
 unfold A8Q;rw [if_pos (by omega)];simp only [D9N];rw [D9M (by omega),C65 h1 h2]
def B4u {b n m:Int} {h:A9} (hm0:0<=m) (hm1:m<18446744073709551616) :
  A1I [.a (J8 b n m)] h=A4 (.t [.a (B4 (bif P5 b n then oW b n m else zeros 256)),.c (.i .i64 (bif P5 b n then 0 else 1))],h):=by
 have key:∀ g,∃ g',A7q 0 [.a (J8 b n m)] g=A4 (.t [.a (B4 (bif P5 b n then oW b n m else zeros 256)),.c (.i .i64 (bif P5 b n then 0 else 1))],g'):=by
  intro g;have hz:(B4 (zeros 256)).length=256:=by rw [B5];exact zeros_length
  have haf:E7 (D9w 256 (Cell.i .u8 0)) []=A4 (D9w 256 (Cell.i .u8 0)):=rfl;rw [F7] at haf;rw [B9f,F7];cases c:P5 b n with
  | false =>
   simp only [cond_false];generalize zeros 256=z at *;exact ⟨_,by simp only [esc,esh,Nat.reduceAdd,aH,c,haf,hz,Int.reduceEq]<;>rfl⟩
  | true =>
   simp only [cond_true];have e7:E7 [Cell.i .u8 0,.i .u8 0,.i .u8 0,.i .u8 0,.i .u8 0,.i .u8 0,.i .u8 0,.i .u8 0] [(0,1,.c (.i .u8 101)),(1,1,.c (.i .u8 115)),(2,1,.c (.i .u8 99)),(3,1,.c (.i .u8 104)),(4,1,.c (.i .u8 101)),(5,1,.c (.i .u8 97)),(6,1,.c (.i .u8 116)),(7,1,.c (.i .u8 49))]=A4 (B4 magicB):=rfl;have hmk:=D2h (h:=g++[rT (J8 b n m),rT (B4 (zeros 256)),rT (B4 magicB)]) (id:=g.length+2) (off:=0) (len:=8) (sz:=1) (cs:=B4 magicB) (by simp) (by omega);have ho:=A9D (h:=g++[rT (J8 b n m),rT (B4 (zeros 256)),rT (B4 magicB)]) (v:=sV (g.length+2) 0 8 1) (nv:=8) (data:=magicB) (Has.tr (by simp) (by simp [B5,magicB]) (R7 _)) (by decide);rw [C42 (by decide)] at ho;have lm:magicB.length=8:=rfl;have w1:=λh=>U8 (h:=h) (l:=M8 256 magicB) (G1 (by decide)) (a:=8) (w:=2) (v:=b)
   have e1:=fQ (l:=magicB) (a:=8) (w:=2) (v:=b) (by decide) (by omega) (by omega) (by omega);simp only [lm,E0p,show zeros 0=[] from rfl,D9Q,E0r] at e1;simp only [e1] at w1;have l1:(magicB++C6 2 b).length=10:=by simp [lm]
   have w2:=λh=>U8 (h:=h) (l:=M8 256 (magicB++C6 2 b)) (G1 (by omega)) (a:=10) (w:=2) (v:=n)
   have e2:=fQ (l:=magicB++C6 2 b) (a:=10) (w:=2) (v:=n) (by omega) (by omega) (by omega) (by omega);simp only [l1,E0p,show zeros 0=[] from rfl,D9Q,E0r] at e2;simp only [e2] at w2;have l2:(magicB++C6 2 b++C6 2 n).length=12:=by simp [lm]
   have L0:(B4 (M8 256 magicB)).length=256:=by rw [B5,G1 (by decide)]
   have L1:(B4 (M8 256 (magicB++C6 2 b))).length=256:=by rw [B5,G1 (by omega)]
   have L2:(B4 (M8 256 (magicB++C6 2 b++C6 2 n))).length=256:=by rw [B5,G1 (by omega)]
   have L3:(B4 (M8 256 (A3g b n m))).length=256:=by rw [B5,G1 (by rw [Y9];omega)]
   have L4:(B4 (oW b n m)).length=256:=by rw [B5,Y8]
   have mk8:B8l (iV 8) (iV 8)=A4 8:=rfl;have hp:=C8R (h:=g++[rT (J8 b n m),rT (B4 (zeros 256)),rT (B4 magicB),rT (B4 (M8 256 (magicB++C6 2 b++C6 2 n))),rT (B4 (zeros 8))]) (x:=sV (g.length+4) 0 8 1) (nv:=8) (l:=zeros 8) (a:=0) (w:=8) (v:=m) (Has.tr (by simp) (by simp [B5]) (R7 _)) (by simp);have ep:B8x (zeros 8) 0 8 m=A4 (C6 8 m):=by
    unfold B8x;rw [if_pos ⟨by omega,by decide⟩];unfold G0;simp [zeros]
   rw [ep] at hp;simp only [Option.getD_some,D98,N0] at hp;have hl:=B13 (h:=g++[rT (J8 b n m),rT (B4 (zeros 256)),rT (B4 magicB),rT (B4 (M8 256 (magicB++C6 2 b++C6 2 n))),rT (B4 (zeros 8)),rT (B4 (C6 8 m))]) (v:=sV (g.length+5) 0 8 1) (nv:=8) (data:=C6 8 m) (l:=M8 256 (magicB++C6 2 b++C6 2 n)) (a:=12) (Has.tr (by simp) (by simp [B5]) (R7 _)) (G1 (by omega)) (by simp);have e3:=D3r (l:=magicB++C6 2 b++C6 2 n) (xs:=C6 8 m) (a:=12) (by omega) (by simp) (by omega);simp only [l2,E0p,show zeros 0=[] from rfl,D9Q,E0r] at e3;rw [e3] at hl;have hc:=λh=>A5H (h:=h) (l:=M8 256 (A3g b n m)) (G1 (by rw [Y9];omega)) (a:=0) (n:=20)
   have e4:A6K (M8 256 (A3g b n m)) 0 20=A3g b n m:=by
    unfold A6K M8;rw [if_pos (by omega)];simp only [Int.toNat_zero,D9O];exact E0x Y9
   simp only [e4,Y9] at hc;have D8Z:=(Has.tr (h:=g++[rT (J8 b n m),rT (B4 (zeros 256)),rT (B4 magicB),rT (B4 (M8 256 (A3g b n m))),rT (B4 (zeros 8)),rT (B4 (C6 8 m)),rT (B4 (A3g b n m))]) (id:=g.length+6) (sz:=1) (n:=20) (cs:=B4 (A3g b n m)) (by simp) (by rw [B5,Y9]) (R7 _)).str;have hmx:=λh=>B56 (s:=A3g b n m) (h:=h) (by rw [Y9];omega)
   have D9r:=C4S (s:=A3g b n m);have e5:D9B .i64 ((B8v (A3g b n m):Nat):Int)=(B8v (A3g b n m):Nat):=wrap_i64 (by omega) (by omega);have w3:=λh=>U8 (h:=h) (l:=M8 256 (A3g b n m)) (G1 (by rw [Y9];omega)) (a:=20) (w:=4) (v:=(B8v (A3g b n m):Nat))
   have e6:=fQ (l:=A3g b n m) (a:=20) (w:=4) (v:=(B8v (A3g b n m):Nat)) (by rw [Y9];omega) (by omega) (by omega) (by omega);simp only [Y9,E0p,show zeros 0=[] from rfl,D9Q,E0r] at e6;simp only [e6] at w3;have eS:magicB++C6 2 b++C6 2 n++C6 8 m=A3g b n m:=rfl;rw [eS] at hl;have rz:=B6l 8;change ∀ h,nH [_,_,_,_] h=A4 (.a (B4 (oW b n m)),h) at w3;generalize oW b n m=SB at *;generalize M8 256 magicB=P0 at *;generalize M8 256 (magicB++C6 2 b)=P1 at *;generalize M8 256 (magicB++C6 2 b++C6 2 n)=P2 at *;generalize M8 256 (A3g b n m)=P3 at *;simp only [esc] at hp;generalize zeros 256=z at *;generalize zeros 8=z8 at *;exact ⟨_,by simp only [esc,esh,Nat.reduceAdd,aH,c,e7,hmk,ho,hz,L0,w1,L1,w2,L2,mk8,rz,hp,hl,L3,hc,D8Z,hmx,e5,w3,L4]<;>rfl⟩
 obtain ⟨g',e⟩:=key (ro h);exact B5w e (by simp)
def C5K {b:List UInt8} {a w:Nat} (hb:b.length=256) (h1:a+w<=256) (hw:1<=w) (hw4:w<=4):((atN b a w:Nat):Int)=fieldN b a w:=by
 unfold atN fieldN;rw [if_pos ⟨by omega,S7.2 (by omega)⟩];simp only [D9N]
def D28 {b:List UInt8} (hb:b.length=256):D27 (A6K b 12 8) 0 8=A4 (le ((b.drop 12).take 8)):=by
 have hc:A6K b 12 8=(b.drop 12).take 8:=by
  unfold A6K;rw [if_pos (by omega)];rfl
 have hl:((b.drop 12).take 8).length=8:=by simp;omega
 unfold D27;rw [hc,hl,if_pos ⟨by omega,by decide⟩];simp only [Int.toNat_zero,D9O];rw [D9M (by rw [hl];decide)]
def okS (b:List UInt8):Bool:=P5 (fieldN b 8 2) (fieldN b 10 2)&&decide (oW (fieldN b 8 2) (fieldN b 10 2) (fieldN b 12 8)=b)
def C4K (b:List UInt8):List Cell:=bif okS b then J8 (fieldN b 8 2) (fieldN b 10 2) (fieldN b 12 8) else J8 0 0 0
def B3w (b:List UInt8):0<=fieldN b 12 8/\fieldN b 12 8<18446744073709551616:=by
 unfold fieldN;have h1:=C6K ((b.drop 12).take 8);have h2:((b.drop 12).take 8).length<=8:=by simp;omega
 have h3:=A9F h2;have h4:(256:Nat) ^ 8=18446744073709551616:=by decide
 omega
def A5W {b:List UInt8} {h:A9} (hb:b.length=256):A1H [.a (B4 b)] h=A4 (.t [.a (C4K b),.c (.i .i64 (bif okS b then 0 else 13))],h):=by
 have key:∀ g,∃ g',A7p 0 [.a (B4 b)] g=A4 (.t [.a (C4K b),.c (.i .i64 (bif okS b then 0 else 13))],g'):=by
  intro g;have hl:(B4 b).length=256:=by rw [B5,hb]
  have hc:=A5H (h:=g++[rT (B4 b),rT (J8 0 0 0)]) hb (a:=12) (n:=8);have nQ:(A6K b 12 8).length=8:=by unfold A6K;rw [if_pos (by omega)];simp;omega
  rw [nQ] at hc;have hg:=C8Q (h:=g++[rT (B4 b),rT (J8 0 0 0),rT (B4 (A6K b 12 8))]) (v:=sV (g.length+2) 0 8 1) (nv:=8) (l:=A6K b 12 8) (Has.tr (by simp) (by rw [B5,nQ]) (R7 _)) (a:=0) (w:=8) (by rw [nQ];omega);rw [D28 hb] at hg;simp only [Option.getD_some,D98] at hg;have a1:=λh=>kU (h:=h) hb (a:=8) (w:=2)
  have a2:=λh=>kU (h:=h) hb (a:=10) (w:=2)
  have f1:=C5K (a:=8) (w:=2) hb (by omega) (by omega) (by omega);have f2:=C5K (a:=10) (w:=2) hb (by omega) (by omega) (by omega);simp only [E0r] at f1 f2;simp only [f1] at a1;simp only [f2] at a2;have e12:((le ((b.drop 12).take 8):Nat):Int)=fieldN b 12 8:=rfl;rw [e12] at hg;have ef:∀ x y z:Int,E7 (J8 0 0 0) [(0,1,iV x),(1,1,iV y),(2,1,.c (.i .u64 z))]=A4 (J8 x y z):=λ_ _ _=>rfl
  have ef0:E7 (J8 0 0 0) []=A4 (J8 0 0 0):=rfl;have hp:=λh=>B4u (b:=fieldN b 8 2) (n:=fieldN b 10 2) (m:=fieldN b 12 8) (h:=h) (B3w b).1 (B3w b).2
  have hz:(D9w 256 (Cell.i .u8 0)).length=256:=D9X;have hS:(B4 (oW (fieldN b 8 2) (fieldN b 10 2) (fieldN b 12 8))).length=256:=by rw [B5,Y8]
  have hZ:(B4 (zeros 256)).length=256:=by rw [B5];exact zeros_length
  have hq:=C5y (l:=oW (fieldN b 8 2) (fieldN b 10 2) (fieldN b 12 8)) (m:=b) (n:=256) Y8 hb;simp only [esc] at hc;rw [B9e];unfold C4K okS;generalize D9w 256 (Cell.i .u8 0)=z at *;cases c:P5 (fieldN b 8 2) (fieldN b 10 2) with
  | false =>
   simp only [c,cond_false] at hp;generalize zeros 256=zz at *;exact ⟨_,by simp only [esc,esh,Nat.reduceAdd,hl,hc,hg,a1,a2,ef,ef0,hp,hz,hZ,D9L,Int.reduceEq]<;>rfl⟩
  | true =>
   simp only [c,cond_true] at hp;cases c2:decide (oW (fieldN b 8 2) (fieldN b 10 2) (fieldN b 12 8)=b) with
   | false =>
    rw [c2] at hq;exact ⟨_,by simp only [esc,esh,Nat.reduceAdd,hl,hc,hg,a1,a2,ef,ef0,hp,hz,hS,hq,Bool.and_false]<;>rfl⟩
   | true =>
    rw [c2] at hq;exact ⟨_,by simp only [esc,esh,Nat.reduceAdd,hl,hc,hg,a1,a2,ef,ef0,hp,hz,hS,hq,Bool.and_true]<;>rfl⟩
 obtain ⟨g',e⟩:=key (ro h);refine B5v e ?_;unfold C4K;cases okS b<;>simp
section
variable (n m m2:Nat) (a0 a1 a2 x2 x3 x6 x7 x8:Val) (h:A9)
def tZ:FD A8:=⟨px 0X11b128f11cf2003b1b2058490182714901a271b0190201312b112031c75001e22401b61928889041e1a71e70110127162d4203312b11203042,[.c (.i .u8 0),.c (.i .u8 1)],[],[.tmp 2,.tmp 3,.tmp 4],[]⟩
def B0k:=tZ.R
def A3p:=mR B0k tZ (tT []) n [a0] h
def A2d:=tZ.K Tryz.func191
def mB:=tZ.S
def A0p:G3 B0k mB:=A2d.flat
def jQ:FD A8:=⟨px 0X126e48867c488491c21110132022a1a4c14882d042822e10403c14882d2a280718022a1a7a14882d041d25c10406a14882d583b0718243af390683a026b406202438f2e003f3c2f035d2452820522201301a1ff11ef11df7021a2811828061d2c1cf1a001032c1b0192b291f01d21c61b632e21d753282,[],[],[.cellN 6 256],[E1 mB A2d]⟩
def A4I:=jQ.R
def C13:AtH:=jQ.lj 0 n [] [x3,x6]
def B27:=tT [⟨1,2,C13⟩]
def B7M:=mR A4I jQ B27 n [a0,a1,a2] h
def B5N:=mJ jQ B27 0 n [] [x3,x6] h
def B2k:=jQ.K Tryz.func122
def A42:=jQ.S
def B2N:G3 A4I A42:=B2k.flat
def jP:FD A8:=⟨px 0X123c48863a488281c2111112321ff18051e0221822e48861b043032812a4881c1c4181bf500441811d31842150307024513401212b4200605110297603291f1d1c20131c4c17421c21b150182,[],[],[.cellN 2 256],[E1 A42 B2k]⟩
def A4H:=jP.R
def B0x:AtH:=jP.lj 0 n [m] [x2,x3,x6,x7,x8]
def B26:=tT [⟨2,5,B0x⟩]
def B7L:=mR A4H jP B26 n [a0] h
def A3N:=mL jP B26 0 n [m] [x2,x3,x6,x7,x8] h
def A4u:=jP.K Tryz.func57
def yL:=jP.S
def B2M:G3 A4H yL:=A4u.flat
def A1f:FD A8:=⟨px 0X12ef40301e192b033f1a041e3f1a3a3f703f1e03e14883f6a2e3f7011e1e01a600001721df11cf11bf5021a2811828061b2c1af180010328190191f1d1b01d2340422e253182,[.c (.i .u8 0)],[],[.tmp 4],[E1 mB A2d]⟩
def A66:=A1f.R
def B8W:=mR A66 A1f (tT []) n [a0,a1] h
def B6u:=A1f.K Tryz.func126
def A7A:=A1f.S
def B49:G3 A66 A7A:=B6u.flat
end
end Go.Proofs.YtbnkgnfhgbhblaaGreat
