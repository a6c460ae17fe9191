/- What the proof of this claim leans on, part 2. -/
import Derived.Test.YtbnkgnfhgbhblaaGreatFClaimImagep1
set_option linter.all false
open Bool renaming and_eq_true→E42,and_false→E5Y,false_and→E48,not_eq_true'→E5O,or_eq_true→E5V,true_and→E5d
open Int renaming toNat_natCast→E5j
open List renaming all_cons→E5J,all_eq_true→E5S,append_assoc→E45,append_nil→E5t,cons_append→E5x,drop_drop→E5W,drop_eq_getElem_cons→E46,drop_of_length_le→E5c,drop_zero→E5k,getD_eq_getElem?_getD→E47,getElem?_append_left→E5z,getElem?_append_right→E5e,getElem?_cons_succ→E5N,getElem?_drop→E5R,getElem?_eq_getElem→E40,getElem?_eq_none→E5C,getElem?_take_of_lt→E5B,getElem_mem→E5F,length_append→E43,length_cons→E5a,length_replicate→E5r,length_set→E5w,length_take→E5q,map_cons→E50,mem_cons_of_mem→E5m,mem_cons_self→E5n,mem_of_getElem?→E5s,mem_or_eq_of_mem_set→E5H,nil_append→E5g,range→E5v,range'→E5D,replicate→E41,replicate_succ→E5p,set_append_right→E5A,set_cons_succ→E5M,set_cons_zero→E5L,take_of_length_le→E5b,take_succ_eq_append_getElem→E5f,take_zero→E5X
open Nat renaming add_mul→E5Z,le_refl→E44,le_trans→E5E,min_eq_left→E5U,mod_eq_of_lt→E5P,sub_self→E5K,zero_add→E5l
open Option renaming bind_eq_some_iff→E4Z,bind_some→E49,getD_none→E5Q,getD_some→E5G,isSome_none→E5o,isSome_some→E5h,map_eq_some_iff→E5i
namespace Go.Esc
open Go
section
section
variable {P:Program} {R:Type}
theorem A0T {h:A6} {n0:Nat} {slot:Option Nat} {r:Row}:h.length<=(dA h n0 slot r).2.length:=by
 cases slot<;>simp [dA]
theorem D5u {E:N4} (hE:fH P E) {q:Bool} {hr:A6} {n0:Nat} {slot:Option Nat} {o:AOp} {e:Env} {h h':A6} {v:Val}
  (C9:aop E q hr n0 slot o e h (λv h=>some (v,h))=some (v,h')):h.length<=h'.length:=by
 cases o<;>simp only [aop] at C9
 case store1 a x =>
  simp only [E4Z,Option.some.injEq,Prod.mk.injEq] at C9;obtain ⟨h2,hp,_,rfl⟩:=C9;unfold F9 at hp;split at hp
  ·simp only [E4Z] at hp;obtain ⟨r,_,hp⟩:=hp;split at hp<;>cases hp
   simp
  ·cases hp
 case storeN n a x =>
  simp only [E4Z,Option.some.injEq,Prod.mk.injEq] at C9;obtain ⟨h2,hp,_,rfl⟩:=C9;unfold E1 at hp;split at hp
  ·simp only [E4Z] at hp;obtain ⟨r,_,hp⟩:=hp;split at hp<;>cases hp
   simp
  ·cases hp
 case app sz a x =>
  simp only [E4Z,Option.some.injEq] at C9;obtain ⟨⟨v',h2⟩,hp,yB⟩:=C9;cases yB;simp only [jK,E4Z] at hp;obtain ⟨ys,_,hp⟩:=hp;split at hp
  ·split at hp<;>cases hp
   simp
  ·simp only [E4Z] at hp;obtain ⟨r,_,hp⟩:=hp;split at hp<;>cases hp
   simp
  ·cases hp
 case copy sz a x =>
  simp only [E4Z,Option.some.injEq] at C9;obtain ⟨⟨v',h2⟩,hp,yB⟩:=C9;cases yB;simp only [C5u] at hp;split at hp
  ·cases hp
  simp only [E4Z] at hp;obtain ⟨ys,_,hp⟩:=hp;split at hp
  ·simp only [E4Z] at hp;obtain ⟨r,_,hp⟩:=hp;split at hp<;>cases hp
   simp
  ·cases hp
 case appZ sz zero x y =>
  simp only [E4Z,Option.some.injEq] at C9;obtain ⟨⟨v',h2⟩,hp,yB⟩:=C9;cases yB;unfold B6z at hp;simp only [E4Z] at hp;obtain ⟨n,_,hp⟩:=hp;split at hp
  ·cases hp;simp
  ·simp only [E4Z] at hp;obtain ⟨r,_,hp⟩:=hp;split at hp<;>cases hp
   simp
  ·cases hp
 case call f args =>
  simp only [E4Z,Option.some.injEq] at C9;obtain ⟨⟨v',h2⟩,hp,yB⟩:=C9;cases yB;have hE1:E f (args.map e.ev) h=some (v',h2):=by
   cases q with
   | false=>simpa using hp
   | true =>
    simp only [cond_true,quiet,E4Z] at hp;obtain ⟨p',g1,g2⟩:=hp;split at g2
    ·cases g2;exact g1
    ·cases g2
  exact (hE _ _ _ _ _ hE1).2.2
 case callV f args =>
  simp only [E4Z,Option.some.injEq] at C9;obtain ⟨⟨v',h2⟩,hp,yB⟩:=C9;cases yB;have hE0:A2a E (e.ev f) (args.map e.ev) h=some (v',h2):=by
   cases q with
   | false=>simpa using hp
   | true =>
    simp only [cond_true,quiet,E4Z] at hp;obtain ⟨p',g1,g2⟩:=hp;split at g2
    ·cases g2;exact g1
    ·cases g2
  unfold A2a at hE0;split at hE0
  ·exact (hE _ _ _ _ _ hE0).2.2
  ·cases hE0
 case mv=>cases C9;exact E44 _
 case nilrow=>cases C9;exact A0T
 case alloc=>cases C9;exact A0T
 case mkMap=>cases C9;exact A0T
 case mput =>
  simp only [E4Z,Option.some.injEq,Prod.mk.injEq] at C9;obtain ⟨w,hp,_,rfl⟩:=C9;unfold A17 at hp;split at hp
  ·simp only [E4Z] at hp;obtain ⟨_,_,_,_,_,_,_,_,hp⟩:=hp;split at hp
   ·cases hp;simp
   ·cases hp
  ·cases hp
 case mset =>
  simp only [E4Z,Option.some.injEq,Prod.mk.injEq] at C9;obtain ⟨w,hp,_,rfl⟩:=C9;unfold D2v at hp;split at hp
  ·simp only [E4Z] at hp;obtain ⟨_,_,_,_,_,_,hp⟩:=hp;split at hp
   ·simp only [E4Z,Option.some.injEq] at hp;obtain ⟨_,_,rfl⟩:=hp;simp
   ·cases hp
  ·cases hp
 case ment =>
  simp only [E4Z,Option.some.injEq] at C9;obtain ⟨w,hp,yB⟩:=C9;cases yB;unfold D2u at hp;split at hp
  ·simp only [E4Z] at hp;obtain ⟨_,_,_,_,_,_,hp⟩:=hp;split at hp
   ·simp only [Option.some.injEq] at hp;split at hp
    ·cases hp;exact E44 _
    ·cases hp;simp
   ·cases hp
  ·cases hp
 case box =>
  simp only [E4Z,Option.some.injEq,Prod.mk.injEq] at C9;obtain ⟨_,_,_,rfl⟩:=C9;exact A0T
 case buildSl =>
  simp only [E4Z,Option.some.injEq,Prod.mk.injEq] at C9;obtain ⟨_,_,_,rfl⟩:=C9;exact A0T
 case s2b =>
  simp only [E4Z,Option.some.injEq,Prod.mk.injEq] at C9;obtain ⟨_,_,_,rfl⟩:=C9;exact A0T
 case mkSl =>
  simp only [E4Z,Option.some.injEq,Prod.mk.injEq] at C9;obtain ⟨_,_,_,rfl⟩:=C9;exact A0T
 all_goals
  simp only [E4Z,Option.some.injEq,Prod.mk.injEq] at C9;obtain ⟨_,_,_,rfl⟩:=C9;exact E44 _
theorem C9B {E:N4} (hE:fH P E) {q:Bool} {hr:A6} {n0:Nat} {o:AOper} {e:Env} {h h':A6} {v:Val}
  (C9:W7 E q hr n0 o e h (λv h=>some (v,h))=some (v,h')):h.length<=h'.length:=by
 unfold W7 at C9;split at C9
 ·exact D5u hE C9
 ·simp only [E4Z,Option.some.injEq] at C9;obtain ⟨⟨v',h2⟩,hp,yB⟩:=C9;cases yB;unfold gd at hp;split at hp
  ·rename_i x _;cases hx:(x==_) with
   | true=>rw [hx] at hp;exact D5u hE hp
   | false=>rw [hx] at hp;cases hp;exact E44 _
  ·cases hp;exact E44 _
  ·cases hp
theorem put_defers (a:Act) (d:Option Nat) (V:Value):(a.put d V).defers=a.defers:=by cases d<;>rfl
theorem C3i {N L:Nat} {ops:Array Oper} {E:N4} (hE:fH P E):∀ (l:List Nat) (aos:List AOper) (e:Env) (h:A6) (k:Env->A6->Option R) (r:R),
  All2 (λi ao=>∃ o,ops[i]?=some o/\aC P N ops o ao=true/\ao.slot=none) l aos->A9I E aos e h k=some r->L<=h.length ->
  ∃ e' h',k e' h'=some r/\L<=h'.length/\B1c P N L (λQ=>wpOps P ops Q l) e h .normal e' h'
 | [],[],e,h,k,r,_,C9,hL=>⟨e,h,C9,hL,fun Γ μ a w hs hi hN hd Q hq=>hq μ a w (Mu.le_refl _) (λ_ _=>rfl) hs hi hN hd⟩
 | i::l,ao::aos,e,h,k,r,⟨⟨o,ho,hc,D3j⟩,D3h⟩,C9,hL=>by
  rw [C9C] at C9;obtain ⟨v,h1,hk,B62⟩:=D7N hE hc C9;have hl1:=C9B hE B62;obtain ⟨e',h',hk',hL',vH⟩:=C3i hE l aos (e.put ao.dst v) h1 k r D3h hk (E5E hL hl1);refine ⟨e',h',hk',hL',fun Γ μ a w hs hi hN hd Q hq=>?_⟩;show wpOps P ops Q (i::l) a w;rw [wpOps_cons];unfold wpOp;rw [ho];have zM:o.dst=ao.dst/\xN N o.dst=true:=by
   simp only [aC,E42,decide_eq_true_eq] at hc;exact ⟨hc.1.1.1,hc.1.1.2⟩
  have U8:∀ t,o.dst=some t->t<a.tmps.size:=by
   intro t ht;have:=zM.2;rw [ht] at this;simp [xN] at this;exact Nat.lt_of_lt_of_le this hN
  refine A4j (hr:=h) (n0:=0) hE hc B62 hs hi (λ_ _ h=>h) (by rw [D3j];trivial) ?_;intro V w' μ' bO hv hi' bL;rw [D3j] at bL;refine vH Γ μ' (a.put o.dst V) w' ?_ hi' (by rw [Act.size_put];exact hN) (by rw [put_defers];exact hd) Q ?_
  ·rw [<-zM.1];exact (hs.mono bO).put U8 hv
  ·intro μ2 a2 w2 h2 h3 h4 h5 h6 h7;exact hq μ2 a2 w2 (Mu.le_trans bO h2) (λid hid=>by rw [h3 id hid];exact bL id (by omega) (λ_ h=>by cases h)) h4 h5 h6 h7
 | [],_::_,_,_,_,_,h,_,_=>h.elim
 | _::_,[],_,_,_,_,h,_,_=>h.elim
end
theorem C1m {o:Oper} {p:Nat}:p∈Y5 o↔∃ e∈o.after,Region.binds .any e=true/\e.on=p:=by
 unfold Y5;simp only [List.mem_map,List.mem_filter,Array.mem_toList_iff];constructor
 ·rintro ⟨e,⟨h1,h2⟩,rfl⟩;exact ⟨e,h1,h2,rfl⟩
 ·rintro ⟨e,h1,h2,rfl⟩;exact ⟨e,⟨h1,h2⟩,rfl⟩
theorem mN {ops:Array Oper} {listed:Array Bool} {i:Nat}:i∈Region.ready .any ops listed↔∃ o,ops[i]?=some o/\listed.getD i true=false/\∀ p∈Y5 o,listed.getD p false=true:=by
 unfold Region.ready;simp only [List.mem_filter,List.mem_range,E42,E5O];constructor
 ·rintro ⟨h1,h2,h3⟩;have ho:ops[i]?=some ops[i]:=by simp [h1]
  refine ⟨ops[i],ho,h2,λp hp=>?_⟩;rw [ho] at h3;simp only [Option.map_some,E5G,Array.all_eq_true_iff_forall_mem] at h3;obtain ⟨e,he,hb,rfl⟩:=C1m.1 hp;have:=h3 e he;rw [hb] at this;simpa using this
 ·rintro ⟨o,ho,h2,h3⟩;refine ⟨(Array.getElem?_eq_some_iff.1 ho).1,h2,?_⟩;rw [ho];simp only [Option.map_some,E5G,Array.all_eq_true_iff_forall_mem];intro e he;cases hb:Region.binds .any e with
  | false=>rfl
  | true=>simpa using h3 e.on (C1m.2 ⟨e,he,hb,rfl⟩)
theorem Q8 {listed:Array Bool} {i:Nat} (hi:i<listed.size):(λk=>(listed.setIfInBounds i true).getD k false)=nE (λk=>listed.getD k false) i:=by
 funext k
 unfold nE;by_cases h:k=i
 ·subst h;simp [Array.getD,hi]
 ·simp [Array.getElem?_setIfInBounds_ne (Ne.symm h),h]
theorem getD_both {listed:Array Bool} {i:Nat} (hi:i<listed.size):listed.getD i true=listed.getD i false:=by simp [Array.getD,hi]
theorem A6O {ops:Array Oper} {listed:Array Bool} (U8:∀ (i:Nat) (o:Oper),ops[i]?=some o->∀ p∈Y5 o,p<i) (hs:listed.size=ops.size):∀ (i:Nat),i<ops.size->listed.getD i false=false->Region.ready .any ops listed≠[]:=by
 intro i
 induction i using Nat.strongRecOn with
 | _ i ih =>
  intro hi hu;have ho:ops[i]?=some ops[i]:=by simp [hi]
  by_cases h:∀ p∈Y5 ops[i],listed.getD p false=true
  ·have:i∈Region.ready .any ops listed:=mN.2 ⟨_,ho,by rw [getD_both (by omega)];exact hu,h⟩;intro e;rw [e] at this;cases this
  ·have:∃ p,p∈Y5 ops[i]/\listed.getD p false=false:=by
    false_or_by_contra
    rename_i hn;exact h λp hp=>by
     cases hv:listed.getD p false with
     | true=>rfl
     | false=>exact absurd ⟨p,hp,hv⟩ hn
   obtain ⟨p,hp,hv⟩:=this;have hpi:=U8 i _ ho p hp;exact ih p hpi (by omega) hv
def left (n:Nat) (listed:Array Bool):Nat:=((E5v n).filter λi=>!listed.getD i false).length
theorem B7i {n:Nat} {listed:Array Bool} {i:Nat} (hi:i<n) (hs:listed.size=n) (hu:listed.getD i false=false):left n (listed.setIfInBounds i true)+1<=left n listed:=by
 unfold left;have e:(E5v n).filter (λk=>!(listed.setIfInBounds i true).getD k false)=((E5v n).filter λk=>!listed.getD k false).filter (λk=>decide (k≠i)):=by
  rw [List.filter_filter];apply List.filter_congr;intro k hk;have:=congrFun (Q8 (listed:=listed) (i:=i) (by omega)) k
  try simp only at this
  rw [this];unfold nE;by_cases h:k=i<;>simp [h]
 rw [e];have hm:i∈(E5v n).filter λk=>!listed.getD k false:=by
  rw [List.mem_filter];exact ⟨by simpa using hi,by rw [hu];rfl⟩
 have:=List.length_filter_lt_length_iff_exists (l:=(E5v n).filter λk=>!listed.getD k false) (p:=λk=>decide (k≠i));have h2:=this.2 ⟨i,hm,by simp⟩;omega
section
variable {P:Program} {ops:Array Oper} {Q:Exit->Act->World->Prop}
theorem A0U (U8:∀ (i:Nat) (o:Oper),ops[i]?=some o->∀ p∈Y5 o,p<i) {A:Nat} (E1g:∀ i,A<=i->i<ops.size->∀ j,j<i->((P7 ops).getD i 0).testBit j=true) :
  ∀ (k i fuel:Nat) (listed:Array Bool) (a:Act) (w:World),i+k=ops.size->A<=i->listed.size=ops.size->(∀ j,j<ops.size->listed.getD j false=decide (j<i))->k<=fuel ->
   wpOps P ops Q (E5D i k) a w->wpAny P .any ops Q fuel listed a w
 | 0,i,fuel,listed,a,w,hik,hA,hs,hl,hf,h=>by
  have hr:Region.ready .any ops listed=[]:=by
   apply List.eq_nil_iff_forall_not_mem.2;intro x hx;obtain ⟨o,ho,h2,_⟩:=mN.1 hx;have U8:=(Array.getElem?_eq_some_iff.1 ho).1;rw [getD_both (by omega),hl x U8] at h2;simp at h2;omega
  cases fuel with
  | zero=>exact ⟨hr,h⟩
  | succ f=>exact ⟨λ_=>h,λx hx=>by rw [hr] at hx;cases hx⟩
 | k+1,i,fuel,listed,a,w,hik,hA,hs,hl,hf,h=>by
  obtain ⟨f,rfl⟩:∃ f,fuel=f+1:=⟨fuel-1,by omega⟩;refine ⟨λhe=>absurd he (A6O U8 hs i (by omega) (by rw [hl i (by omega)];simp)),λx hx=>?_⟩;obtain ⟨o,ho,h2,h3⟩:=mN.1 hx;have hxn:=(Array.getElem?_eq_some_iff.1 ho).1;rw [getD_both (by omega),hl x hxn] at h2;simp at h2;have hxi:x=i:=by
   by_cases e:x=i
   ·exact e
   ·have hd:=tM (done:=λj=>listed.getD j false) U8 (λj oj hj hdj p hp=>by
     have hjn:=(Array.getElem?_eq_some_iff.1 hj).1
     try simp only at hdj
     rw [hl j hjn] at hdj;have:=U8 j oj hj p hp;show listed.getD p false=true;rw [hl p (by omega)];simp at hdj ⊢;omega) x o ho h3 i (E1g x (by omega) hxn i (by omega))
    try simp only at hd
    rw [hl i (by omega)] at hd;simp at hd
  subst hxi;rw [List.range'_succ,wpOps_cons] at h;refine wpOp_mono (λa' w' h'=>?_) h;refine A0U U8 E1g k (x+1) f _ a' w' (by omega) (by omega) (by simpa using hs) (λj hj=>?_) (by omega) h';have:=congrFun (Q8 (listed:=listed) (i:=x) (by omega)) j
  try simp only at this
  rw [this];unfold nE;show (decide (j=x)||listed.getD j false)=_;rw [hl j hj];by_cases e:j=x
  ·subst e;simp
  ·simp only [e,decide_false,Bool.false_or];have:(j<x)↔(j<x+1):=by omega
   simp only [this]
end
theorem Inv.pad {Γ:Ctx} {μ:Mu} {h:A6} {w:World} (hi:Inv Γ μ h w) (m:Nat):Inv Γ μ (h++E41 m none) w:=by
 have rM:∀ id x,rd (h++E41 m none) id=some x->rd h id=some x:=by
  intro id x hx;by_cases hl:id<h.length
  ·rwa [D4 hl] at hx
  ·unfold rd at hx;rw [E5e (by omega),List.getElem?_replicate] at hx;split at hx<;>cases hx
 exact ⟨λid x hx=>hi.rows id x (rM id x hx),λi j x y z z' hx hy=>hi.sep i j x y z z' (rM _ _ hx) (rM _ _ hy),λi x y hx=>hi.own i x y (rM _ _ hx),λid hid=>hi.dom id (by simp at hid;omega),hi.ctx⟩
theorem D97 {P:Program} {N L:Nat} {ops:Array Oper} {m id:Nat} {l r:List AOper} {E:N4} (hE:fH P E) {e:Env} {h:A6} {R:Type} {k:Env->A6->Option R} {res:R}
  (hc:zB P N ops m l r=true) (hc2:B6I ops l.length r.length=true) (hL:L<=h.length)
  (C9:B2t E h h.length l e (h++E41 m none) (λe h=>A9I E r e h k)=some res) :
  ∃ e' h',k e' h'=some res/\L<=h'.length/\B1c P N L ((Code.region id ops true).wp P) e h .normal e' h':=by
 have D:=A6j hc;have last:=C5U hc2 D.size;obtain ⟨es,hs,vs,he,h0,ht,hk⟩:=C7A l _ _ C9;have D4C:All2 (λi ao=>∃ o,ops[i]?=some o/\aC P N ops o ao=true/\ao.slot=none) (E5D l.length r.length) r:=by
  refine All2.of_get (by simp) λi x ao hx hao=>?_
  have hi:i<r.length:=(List.getElem?_eq_some_iff.1 hao).1;rw [List.getElem?_range' hi] at hx;simp at hx;subst hx;have U8:l.length+i<ops.size:=by rw [D.size];omega
  refine ⟨ops[l.length+i],by simp [U8],?_,D.rslot ao (E5s hao)⟩;refine D.oper (l.length+i) _ ao (by simp [U8]) ?_;rw [E5e (by omega)];simpa using hao
 have hbl:=jY D ht h0 (k:=l.length) (E44 _);obtain ⟨e',h',hk',hL',vH⟩:=C3i (L:=L) hE _ r (es l.length) (hs l.length) k res D4C hk (by omega);refine ⟨e',h',hk',hL',fun Γ μ0 a w hs0 hi hN hd Q hq=>wp_region_any D.follows ?_⟩;have whole:∀ (listed:Array Bool) (a:Act) (w:World) (q:Nat) (μ:Mu),Sim Γ l h.length N e es hs vs μ0 (λi=>listed.getD i false) q μ a w->(∀ j,j<l.length->listed.getD j false=true)->wpOps P ops Q (E5D l.length r.length) a w:=by
  intro listed a w q μ S nI;have C8J:SEnv μ (es l.length) a:=by
   intro t;by_cases hw:∃ (j:Nat) (aj:AOper),l[j]?=some aj/\aj.dst=some t
   ·obtain ⟨j,aj,nC,hdj⟩:=hw;have hjl:=(List.getElem?_eq_some_iff.1 nC).1;rw [oW D ht nC hdj l.length hjl (E44 _)];exact S.envD j aj t nC (nI j hjl) hdj
   ·have bM:∀ (j:Nat) (aj:AOper),l[j]?=some aj->aj.dst≠some t:=λj aj nC hdj=>hw ⟨j,aj,nC,hdj⟩
    rw [wE ht he l.length (E44 _) λj aj _ nC=>bM j aj nC];exact S.envO t λj aj nC _=>bM j aj nC
  have hlen:(hs l.length).length=(hs q).length:=by
   have hql:=S.qle;have:=wP D ht (q:=q) (l.length-q) (by omega) λk ak h1 h2 oB=>by
    cases hck:X6 ak.op with
    | false=>rfl
    | true =>
     have:=(S.calls k ak oB hck).1 (nI k (by omega));omega
   rwa [show q+(l.length-q)=l.length by omega] at this
  have C91:HD (hs l.length) (und l h.length λi=>listed.getD i false) (hs q).length=hs l.length:=by
   refine wM (by rw [I9,hlen]) λid hid=>?_
   rw [I9] at hid;have hu:und l h.length (λi=>listed.getD i false) id=false:=by
    cases hu:und l h.length (λi=>listed.getD i false) id with
    | false=>rfl
    | true =>
     obtain ⟨k,hk,ao,j,oB,_⟩:=Y8.1 hu;have:=nI k (List.getElem?_eq_some_iff.1 oB).1;rw [this] at hk;cases hk
   rw [sL,if_pos ⟨hid,hu⟩]
  have hinv:=S.inv;rw [C91] at hinv;exact vH Γ μ a w C8J hinv S.size S.defers Q fun μ' a' w' g1 g2 g3 g4 g5 g6=>hq μ' a' w' (Mu.le_trans S.le g1) (λid hid=>(g2 id hid).trans (S.keep id (by omega))) g3 g4 g5 g6
 have main:∀ (fuel:Nat) (listed:Array Bool) (a:Act) (w:World) (q:Nat) (μ:Mu),listed.size=ops.size->left ops.size listed<=fuel ->
   (∀ j,l.length<=j->j<ops.size->listed.getD j false=false)->(∀ (i:Nat) (o:Oper),ops[i]?=some o->listed.getD i false=true->∀ p∈Y5 o,listed.getD p false=true) ->
   Sim Γ l h.length N e es hs vs μ0 (λi=>listed.getD i false) q μ a w->wpAny P .any ops Q fuel listed a w:=by
  intro fuel
  induction fuel with
  | zero =>
   intro listed a w q μ hsz B2V cM cO S;have nI:∀ j,j<ops.size->listed.getD j false=true:=by
    intro j hj;cases hv:listed.getD j false with
    | true=>rfl
    | false =>
     have hm:j∈(E5v ops.size).filter λi=>!listed.getD i false:=by rw [List.mem_filter];exact ⟨by simpa using hj,by rw [hv];rfl⟩
     have:=List.length_pos_of_mem hm;unfold left at B2V;omega
   have hr0:r.length=0:=by
    cases hr:r.length with
    | zero=>rfl
    | succ x =>
     have h1:=nI l.length (by rw [D.size];omega);have h2:=cM l.length (E44 _) (by rw [D.size];omega);rw [h1] at h2;cases h2
   refine A0U D.dir last 0 l.length 0 listed a w (by rw [D.size];omega) (E44 _) hsz (λj hj=>?_) (E44 _) ?_
   ·rw [nI j hj];have:j<l.length:=by rw [D.size] at hj;omega
    simp [this]
   ·have:=whole listed a w q μ S λj hj=>nI j (by rw [D.size];omega)
    rw [hr0] at this;exact this
  | succ fuel ih =>
   intro listed a w q μ hsz B2V cM cO S;by_cases nI:∀ j,j<l.length->listed.getD j false=true
   ·refine A0U D.dir last r.length l.length (fuel+1) listed a w D.size.symm (E44 _) hsz (λj hj=>?_) ?_ (whole listed a w q μ S nI)
    ·by_cases hjl:j<l.length
     ·rw [nI j hjl];simp [hjl]
     ·rw [cM j (by omega) hj];simp [hjl]
    ·refine E5E ?_ B2V;unfold left;have:((E5v ops.size).filter λi=>!listed.getD i false)=E5D l.length r.length:=by
      rw [D.size,List.range_add,List.filter_append];have e1:(E5v l.length).filter (λi=>!listed.getD i false)=[]:=by
       rw [List.filter_eq_nil_iff];intro j hj;rw [nI j (by simpa using hj)];simp
      rw [e1,E5g,List.range'_eq_map_range,List.filter_eq_self.2];intro j hj;obtain ⟨x,hx,rfl⟩:=List.mem_map.1 hj;rw [cM _ (by omega) (by rw [D.size];simp at hx;omega)];rfl
     rw [this];simp
   ·have hex:∃ j,j<l.length/\listed.getD j false=false:=by
     false_or_by_contra
     rename_i hn;exact nI λj hj=>by
      cases hv:listed.getD j false with
      | true=>rfl
      | false=>exact absurd ⟨j,hj,hv⟩ hn
    obtain ⟨j,hj,hv⟩:=hex;refine ⟨λhre=>absurd hre (A6O D.dir hsz j (by rw [D.size];omega) hv),λi hi=>?_⟩;obtain ⟨o,ho,h2,h3⟩:=mN.1 hi;have hin:=(Array.getElem?_eq_some_iff.1 ho).1;rw [getD_both (by omega)] at h2;have hah:=tM (done:=λi=>listed.getD i false) D.dir cO i o ho h3;have P6:i<l.length:=by
     by_cases e1:i<l.length
     ·exact e1
     ·have:=hah j (last i (by omega) hin j (by omega))
      try simp only at this
      rw [hv] at this;cases this
    have wL:∀ k,listed.getD k false=true->∀ b,((P7 ops).getD k 0).testBit b=true->listed.getD b false=true:=by
     intro k hk b hb;by_cases hkn:k<ops.size
     ·have hok:ops[k]?=some ops[k]:=by simp [hkn]
      exact tM (done:=λi=>listed.getD i false) D.dir cO k _ hok (cO k _ hok hk) b hb
     ·have:listed.getD k false=false:=by simp [Array.getD,show ¬ k<listed.size by omega]
      rw [this] at hk;cases hk
    have kN:=D3X D hE ht h0 he S (i:=i) (ao:=l[i]) (o:=o) (E40 P6) ho h2 hah wL
     (next:=wpAny P .any ops Q fuel (listed.setIfInBounds i true)) (Q:=Q) (by
      intro V w' μ' q' S';rw [<-Q8 (by omega)] at S';refine ih (listed.setIfInBounds i true) _ w' q' μ' (by simpa using hsz) (by have:=B7i hin hsz h2;omega) ?_ ?_ S'
      ·intro k hk hkn;have:=congrFun (Q8 (listed:=listed) (i:=i) (by omega)) k
       try simp only at this
       rw [this,Y3 _ _ (by omega)];exact cM k hk hkn
      ·intro k ok hok hdk p hp;have e1:=congrFun (Q8 (listed:=listed) (i:=i) (by omega)) k;have e2:=congrFun (Q8 (listed:=listed) (i:=i) (by omega)) p
       try simp only at e1 e2
       rw [e1] at hdk;rw [e2];have B2U:listed.getD p false=true:=by
        by_cases e3:k=i
        ·subst e3;rw [ho] at hok;cases hok;exact h3 p hp
        ·rw [Y3 _ _ e3] at hdk;exact cO k ok hok hdk p hp
       unfold nE;show (decide (p=i)||listed.getD p false)=true;rw [B2U];simp)
    unfold wpOp;rw [ho];exact kN
 have hgd:∀ i:Nat,(Array.replicate ops.size false).getD i false=false:=by intro i;simp [Array.getD]
 have E1X:(λi=>(Array.replicate ops.size false).getD i false)=λ_=>false:=funext hgd
 refine main ops.size (Array.replicate ops.size false) a _ 0 μ0 (by simp) ?_ (λj _ _=>hgd j) (λi o _ hd=>by rw [hgd] at hd;cases hd) ?_
 ·unfold left;exact E5E (List.length_filter_le _ _) (by simp)
 ·rw [E1X];have E12:HD (hs l.length) (und l h.length λ_=>false) (hs 0).length=h++E41 m none:=by
   rw [h0];refine wM (by rw [I9]) λid hid=>?_
   rw [I9] at hid;rw [sL];by_cases ho:∃ i,A1l l h.length i id
   ·obtain ⟨i,ho⟩:=ho;have hu:und l h.length (λ_=>false) id=true:=Y8.2 ⟨i,rfl,ho⟩;rw [hu];have:=A4X D ht h0 ho 0 (Nat.zero_le _);rw [h0] at this;rw [this];simp
   ·have bM:∀ i,0<=i->¬ A1l l h.length i id:=λi _ hi=>ho ⟨i,hi⟩
    have hu:und l h.length (λ_=>false) id=false:=by
     cases hu:und l h.length (λ_=>false) id with
     | false=>rfl
     | true=>obtain ⟨i,_,hi⟩:=Y8.1 hu;exact absurd ⟨i,hi⟩ ho
    rw [if_pos ⟨hid,hu⟩];have:=nJ D ht (k:=0) (id:=id) (by rw [h0];exact hid) bM l.length (by omega);rw [E5l,h0] at this;exact this
  refine ⟨Nat.zero_le _,λi ao _ _=>⟨λh=>(by cases h),λh=>(by omega)⟩,λi ao d _ h=>(by cases h),λt _=>hs0 t,?_,λid hid=>?_,Mu.le_refl _,λ_ _=>rfl,hN,hd⟩
  ·rw [E12];exact (hi.pad m).world rfl rfl rfl λ_ _=>rfl
  ·obtain ⟨i,_,ao,j,_,_,rfl⟩:=Y8.1 hid;exact hi.dom _ (by omega)
end
section
def C3q:AOp->Bool
 | .mv _ | .pick .. | .bin .. | .eqA .. | .eqB .. | .eqN .. | .nilc _ | .un .. | .conv .. | .convS _ | .fAddr .. | .iAddrA .. | .iAddrL .. | .fld1 .. | .fldN .. | .idxA1 .. | .idxAN .. | .idxS .. | .ext .. | .len _ | .lenS _ | .max .. | .min ..=>true
 | _=>false
theorem D9Q {E:N4} {q:Bool} {hr:A6} {n0:Nat} {slot:Option Nat} {o:AOp} {e:Env} {h h':A6} {v:Val} (hp:C3q o=true)
  (C9:aop E q hr n0 slot o e h (λv h=>some (v,h))=some (v,h')):∀ (q2:Bool) (zN:A6) (n2:Nat) (slot2:Option Nat) (h2:A6),aop E q2 zN n2 slot2 o e h2 (λv h=>some (v,h))=some (v,h2):=by
 intro q2 zN n2 slot2 h2;cases o<;>simp [C3q] at hp<;>simp only [aop] at C9 ⊢
 case mv=>cases C9;rfl
 all_goals
  simp only [E4Z,Option.some.injEq,Prod.mk.injEq] at C9;obtain ⟨_,h1,rfl,rfl⟩:=C9;rw [h1];rfl
def D1x:AOp->Bool
 | .load1 _ | .loadN ..=>true
 | _=>false
theorem D7K {E:N4} {q:Bool} {n0:Nat} {slot:Option Nat} {o:AOp} {e:Env} {h:A6} {v:Val} (hp:D1x o=true) (hr:A6L h o e=some v):aop E q h n0 slot o e h (λv h=>some (v,h))=some (v,h):=by
 cases o<;>simp [D1x] at hp<;>simp only [A6L] at hr<;>simp only [aop,hr]<;>rfl
theorem D44 {o:AOp} {e e':Env} {h:A6} (he:∀ x∈o.opds,e.ev x=e'.ev x):A6L h o e=A6L h o e':=by
 cases o<;>simp only [AOp.opds] at he<;>simp only [A6L]
 ·rw [he _ (by simp)]
 ·rw [he _ (by simp)]
def C7m:AOp->AOp->Bool
 | .load1 (.t a),.load1 (.t b)=>decide (a=b)
 | .loadN n (.t a),.loadN m (.t b)=>decide (n=m)&&decide (a=b)
 | _,_=>false
theorem D3U {o p:AOp} (h:C7m o p=true):o=p/\D1x p=true:=by
 unfold C7m at h;split at h
 ·have:=of_decide_eq_true h;subst this;exact ⟨rfl,rfl⟩
 ·rw [E42] at h;have h1:=of_decide_eq_true h.1;have h2:=of_decide_eq_true h.2;subst h1 h2;exact ⟨rfl,rfl⟩
 ·cases h
def C5S (s:AOper) (chk:List (Nat × AOp)) (o:AOper):Bool :=
 decide (o.guard=none)&&decide (o.slot=none) && !X6 o.op && !W3 o.op &&
 (match o.dst with
  | some d=>!(s.reads.contains d)&&(C3q o.op||chk.any λc=>decide (c.1=d)&&C7m c.2 o.op)
  | none=>false) &&
 (match s.dst with | some d=>!(o.reads.contains d) | none=>true)
def D6t (ops:Array Oper) (l:List AOper) (s:AOper) (chk:List (Nat × AOp)) (r:List AOper):Bool :=
 let cl:=P7 ops
 l.zipIdx.all (λp=>(cl.getD l.length 0).testBit p.2||C5S s chk p.1) &&
 l.all (λo=>match s.dst with | some d=>decide (o.dst≠some d) | none=>true) &&
 l.zipIdx.all (λp=>l.zipIdx.all λq=>match q.1.dst with | some d=>!(p.1.reads.contains d)||((cl.getD p.2 0).testBit q.2&&decide (q.2<p.2)) | none=>true) &&
 B6I ops (l.length+1) r.length
def D7y (ops:Array Oper) (l:List AOper):Prop:=∀ (i j:Nat) ai aj d,l[i]?=some ai->l[j]?=some aj->aj.dst=some d->d∈ai.reads->((P7 ops).getD i 0).testBit j=true/\j<i
structure Float1 (s:AOper) (chk:List (Nat × AOp)) (o:AOper):Prop where
 guard:o.guard=none
 slot:o.slot=none
 call:X6 o.op=false
 W3:W3 o.op=false
 dst:∃ d,o.dst=some d/\d ∉ s.reads/\(C3q o.op=true\/(D1x o.op=true/\(d,o.op)∈chk))
 reads:∀ d,s.dst=some d->d ∉ o.reads
theorem D2O {s:AOper} {chk:List (Nat × AOp)} {o:AOper} (h:C5S s chk o=true):Float1 s chk o:=by
 simp only [C5S,E42,decide_eq_true_eq,E5O] at h;obtain ⟨⟨⟨⟨⟨h1,h2⟩,h3⟩,h4⟩,h5⟩,h6⟩:=h;refine ⟨h1,h2,h3,h4,?_,λd hd=>?_⟩
 ·split at h5
  ·rename_i d hd;simp only [E42,E5O,E5V] at h5;refine ⟨d,hd,λhm=>?_,?_⟩
   ·have:=h5.1;rw [List.contains_iff_mem.2 hm] at this;cases this
   ·rcases h5.2 with h | h
    ·exact .inl h
    ·right
     rw [List.any_eq_true] at h;obtain ⟨c,hc,h⟩:=h;simp only [E42,decide_eq_true_eq] at h;obtain ⟨e1,e2⟩:=D3U h.2;refine ⟨e2,?_⟩;have:c=(d,o.op):=by cases c;simp at h e1;simp [h.1,e1]
     rw [<-this];exact hc
  ·cases h5
 ·rw [hd] at h6;simp only [E5O] at h6;intro hm;rw [List.contains_iff_mem.2 hm] at h6;cases h6
theorem D2q {R:Type} {e:Env} {h:A6} {k:Option R} {res:R}:∀ {l:List (Nat × AOp)},again l e h k=some res->k=some res/\∀ c∈l,A6L h c.2 e=some (e.get c.1)
 | [],hr=>⟨hr,by simp⟩
 | c::l,hr=>by
  rw [C5w] at hr;unfold agn at hr;split at hr
  ·rename_i hc;obtain ⟨h1,h2⟩:=D2q hr;exact ⟨h1,λx hx=>by rcases List.mem_cons.1 hx with e | hx;subst e;exact hc;exact h2 x hx⟩
  ·cases hr
structure Sim2 (Γ:Ctx) (l:List AOper) (s:AOper) (n0 N:Nat) (e:Env) (vs:Nat->Val) (v:Val) (μ0:Mu) (done:Nat->Bool) (h2:A6) (μ:Mu) (a:Act) (w:World):Prop where
 envD:∀ (i:Nat) ao d,l[i]?=some ao->done i=true->ao.dst=some d->RV μ (vs i) (a.tmps.getD d undef)
 envO:∀ t,(∀ (i:Nat) ao,l[i]?=some ao->done i=true->ao.dst≠some t)->s.dst≠some t->RV μ (e.get t) (a.tmps.getD t undef)
 envS:∀ d,s.dst=some d->RV μ v (a.tmps.getD d undef)
 inv:Inv Γ μ h2 w
 le:μ0.le μ
 keep:∀ id,id<n0 -> μ id = μ0 id
 size:N<=a.tmps.size
 defers:a.defers = Γ.ds
theorem B0n {a:Act} {dst:Option Nat} {V:Value} {t:Nat} (h:dst≠some t):(a.put dst V).tmps.getD t undef=a.tmps.getD t undef:=by
 cases hd:dst with
 | none=>rfl
 | some d =>
  rw [hd] at h;simp [Act.put,Array.getElem?_setIfInBounds_ne (show d≠t from λe=>h (by rw [e]))]
theorem B2T {a:Act} {d N:Nat} {V:Value} (h:xN N (some d)=true) (hN:N<=a.tmps.size):(a.put (some d) V).tmps.getD d undef=V:=by
 have U8:d<a.tmps.size:=by
  simp [xN] at h;exact Nat.lt_of_lt_of_le h hN
 simp [Act.put,Array.getD,U8]
section
variable {P:Program} {N m:Nat} {ops:Array Oper} {l r:List AOper} {s:AOper} {chk:List (Nat × AOp)} {E:N4} {hr:A6} {e:Env} {es:Nat->Env} {hs:Nat->A6} {vs:Nat->Val} {Γ:Ctx} {μ0:Mu}
theorem D98 (D:DrawOk P N ops m l (s::r)) (hR:D7y ops l) (ht:Trace E hr hr.length l es hs vs) (he:es 0=e) {i t:Nat} {ao:AOper} (ha:l[i]?=some ao) (hm:t∈ao.reads):(es l.length).get t=(es i).get t:=by
 have P6:i<l.length:=(List.getElem?_eq_some_iff.1 ha).1;by_cases hw:∃ (j:Nat) (aj:AOper),l[j]?=some aj/\aj.dst=some t
 ·obtain ⟨j,aj,nC,hd⟩:=hw;obtain ⟨_,h2⟩:=hR i j ao aj t ha nC hd hm;rw [oW D ht nC hd i h2 (by omega),oW D ht nC hd l.length (by omega) (E44 _)]
 ·have bM:∀ (j:Nat) (aj:AOper),l[j]?=some aj->aj.dst≠some t:=λj aj nC hd=>hw ⟨j,aj,nC,hd⟩
  rw [wE ht he i (by omega) λj aj _ nC=>bM j aj nC,wE ht he l.length (E44 _) λj aj _ nC=>bM j aj nC]
theorem D7k (D:DrawOk P N ops m l (s::r)) (hR:D7y ops l) (hE:fH P E) (ht:Trace E hr hr.length l es hs vs) (he:es 0=e) {v:Val} {h2:A6} (hag:∀ c∈chk,A6L h2 c.2 (es l.length)=some ((es l.length).get c.1))
  {done:Nat->Bool} {μ:Mu} {a:Act} {w:World} (S:Sim2 Γ l s hr.length N e vs v μ0 done h2 μ a w) {i:Nat} {ao:AOper} {o:Oper} (ha:l[i]?=some ao) (ho:ops[i]?=some o) (hnd:done i=false) (hf:Float1 s chk ao)
  (D5I:∀ (k:Nat) ak d,l[k]?=some ak->s.dst=some d->ak.dst≠some d)
  (hah:∀ b,((P7 ops).getD i 0).testBit b=true->done b=true)
  {next:Act->World->Prop} {Q:Exit->Act->World->Prop} (hn:∀ V w' μ',Sim2 Γ l s hr.length N e vs v μ0 (nE done i) h2 μ' (a.put o.dst V) w'->next (a.put o.dst V) w') :
  if Region.wanted o (yielded ops a.tmps) then o.wp P a w next Q\/(o.asks P a w/\LetsOut Q) else next (a.put o.dst undef) w:=by
 have P6:i<l.length:=(List.getElem?_eq_some_iff.1 ha).1;have hco:aC P N ops o ao=true:=D.oper i o ao ho (by rw [E5z P6];exact ha);have zM:o.dst=ao.dst/\xN N o.dst=true:=by
  simp only [aC,E42,decide_eq_true_eq] at hco;exact ⟨hco.1.1.1,hco.1.1.2⟩
 obtain ⟨d,hd,hds,E3a⟩:=hf.dst;have C8J:SEnv μ ((es i).keep ao.reads) a:=by
  intro t;rw [Env.get_keep_mem];split
  ·rename_i wN;by_cases hw:∃ (j:Nat) (aj:AOper),l[j]?=some aj/\aj.dst=some t
   ·obtain ⟨j,aj,nC,hdj⟩:=hw;obtain ⟨h1,h3⟩:=hR i j ao aj t ha nC hdj wN;rw [oW D ht nC hdj i h3 (by omega)];exact S.envD j aj t nC (hah j h1) hdj
   ·have bM:∀ (j:Nat) (aj:AOper),l[j]?=some aj->aj.dst≠some t:=λj aj nC hd=>hw ⟨j,aj,nC,hd⟩
    rw [wE ht he i (by omega) λj aj _ nC=>bM j aj nC];exact S.envO t (λj aj nC _=>bM j aj nC) λvH=>hf.reads t vH wN
  ·trivial
 have kN:=ht.step i ao ha;have B62:W7 E true h2 hr.length ao (es i) h2 (λv h=>some (v,h))=some (vs i,h2):=by
  unfold W7 at kN ⊢;rw [hf.guard] at kN ⊢;simp only at kN ⊢;rcases E3a with hp | ⟨hp,wN⟩
  ·exact D9Q hp kN _ _ _ _ _
  ·refine D7K hp ?_;have h1:=hag _ wN;simp only at h1;rw [oW D ht ha hd l.length P6 (E44 _)] at h1;rw [<-h1];refine D44 λx hx=>?_
   cases x with
   | v x=>rfl
   | t n=>exact (D98 D hR ht he ha (List.mem_append_left _ (List.mem_filterMap.2 ⟨.t n,hx,rfl⟩))).symm
 rw [B9v (e':=(es i).keep ao.reads) λt ht'=>by rw [Env.get_keep_mem,if_pos ht']] at B62;refine A4j (hr:=h2) (n0:=hr.length) hE hco B62 C8J S.inv (λ_ _ h=>h) (by rw [hf.slot];trivial) ?_;intro V w' μ' bO hv hinv bL;rw [hf.slot] at bL;refine hn V w' μ' ⟨?_,?_,?_,hinv,Mu.le_trans S.le bO,?_,by rw [Act.size_put];exact S.size,by rw [put_defers];exact S.defers⟩
 ·intro k ak d' oB hdk hd';by_cases e1:k=i
  ·subst e1;rw [ha] at oB;cases oB;rw [zM.1,hd'];rw [B2T (by rw [<-hd',<-zM.1];exact zM.2) S.size];exact hv
  ·rw [Y3 _ _ e1] at hdk;rw [B0n (by rw [zM.1];exact λh=>(D.apart i k ao ak ha oB (Ne.symm e1)).1 d' h hd')];exact (S.envD k ak d' oB hdk hd').mono bO
 ·intro t bM vH;have h1:=bM i ao ha (tP _ _);rw [B0n (by rw [zM.1];exact h1)];refine (S.envO t (λk ak oB hdk=>?_) vH).mono bO;by_cases e1:k=i
  ·subst e1;rw [hnd] at hdk;cases hdk
  ·exact bM k ak oB (by rw [Y3 _ _ e1];exact hdk)
 ·intro d' hd';rw [B0n (by rw [zM.1];exact D5I i ao d' ha hd')];exact (S.envS d' hd').mono bO
 ·intro id hid;by_cases hl:id<h2.length
  ·rw [<-S.keep id hid];exact bL id hl λj hj=>by cases hj
  ·have h1:=S.inv.dom id (by omega);have h3:=S.keep id hid;rw [h1] at h3;have h4:=hinv.dom id (by omega);rw [h4,<-h3]
end
theorem C9P {P:Program} {N L:Nat} {ops:Array Oper} {m:Nat} {l r:List AOper} {s:AOper} {chk:List (Nat × AOp)} {E:N4} (hE:fH P E) {e:Env} {h:A6} {R:Type} {k:Env->A6->Option R} {res:R}
  (hc:zB P N ops m l (s::r)=true) (hcs:D6t ops l s chk r=true) (hL:L<=h.length)
  (C9:B2t E h h.length l e (h++E41 m none) (λe h=>W7 E false h 0 s e h λv h2=>again chk e h2 (A9I E r (e.put s.dst v) h2 k))=some res) :
  ∃ e' h',k e' h'=some res/\L<=h'.length/\B1c P N L (λQ a w=>wpAny P .any ops Q ops.size (Array.replicate ops.size false) a { w with drawn:=w.drawn+1 }) e h .normal e' h':=by
 have D:=A6j hc;simp only [D6t,E42,E5S] at hcs;obtain ⟨⟨⟨hfl,hdi⟩,E4l⟩,hla⟩:=hcs;have hR:D7y ops l:=by
  intro i j ai aj d hi hj hd hr;have:=E4l (ai,i) (mem_zipIdx hi) (aj,j) (mem_zipIdx hj);simp only [hd,E5V,E5O,E42,decide_eq_true_eq] at this;rcases this with this | this
  ·have hc:ai.reads.contains d=true:=by simpa using hr
   rw [hc] at this;cases this
  ·exact this
 have hsz:ops.size=l.length+(r.length+1):=by rw [D.size];simp
 have last:=C5U hla (by rw [hsz];omega);have E1W:∀ (i:Nat) ao,l[i]?=some ao->((P7 ops).getD l.length 0).testBit i=false->Float1 s chk ao:=by
  intro i ao ha hb;have:=hfl (ao,i) (mem_zipIdx ha);simp only [E5V] at this;rcases this with h | h
  ·rw [hb] at h;cases h
  ·exact D2O h
 have D5I:∀ (k:Nat) ak d,l[k]?=some ak->s.dst=some d->ak.dst≠some d:=by
  intro k ak d oB hd;have:=hdi ak (E5s oB);rw [hd] at this;simpa using this
 obtain ⟨es,hs,vs,he,h0,ht,hk⟩:=C7A l _ _ C9;rw [C5B] at hk;simp only [E4Z] at hk;obtain ⟨⟨v,h2⟩,B62,hk⟩:=hk;obtain ⟨hk,hag⟩:=D2q hk;simp only at hk hag;have hnl:l.length<ops.size:=by omega
 have hos:ops[l.length]?=some ops[l.length]:=by simp [hnl]
 have E21:aC P N ops ops[l.length] s=true:=D.oper l.length _ s hos (by rw [E5e (E44 _)];simp);have D8w:s.slot=none:=D.rslot s (by simp);have D3i:ops[l.length].dst=s.dst/\xN N ops[l.length].dst=true:=by
  have:=E21;simp only [aC,E42,decide_eq_true_eq] at this;exact ⟨this.1.1.1,this.1.1.2⟩
 have D4C:All2 (λi ao=>∃ o,ops[i]?=some o/\aC P N ops o ao=true/\ao.slot=none) (E5D (l.length+1) r.length) r:=by
  refine All2.of_get (by simp) λi x ao hx hao=>?_
  have hi:i<r.length:=(List.getElem?_eq_some_iff.1 hao).1;rw [List.getElem?_range' hi] at hx;simp at hx;subst hx;have U8:l.length+1+i<ops.size:=by omega
  refine ⟨ops[l.length+1+i],by simp [U8],?_,D.rslot ao (E5m _ (E5s hao))⟩;refine D.oper (l.length+1+i) _ ao (by simp [U8]) ?_;rw [E5e (by omega),show l.length+1+i-l.length=i+1 by omega];simpa using hao
 have hbl:=jY D ht h0 (k:=l.length) (E44 _);have hl2:=C9B hE B62;obtain ⟨e',h',hk',hL',vH⟩:=C3i (L:=L) hE _ r ((es l.length).put s.dst v) h2 k res D4C hk (by omega);refine ⟨e',h',hk',hL',fun Γ μ0 a w hs0 hi hN hd Q hq=>?_⟩;have whole:∀ (listed:Array Bool) (a:Act) (w:World) (μ:Mu),Sim2 Γ l s h.length N e vs v μ0 (λi=>listed.getD i false) h2 μ a w->(∀ j,j<l.length->listed.getD j false=true)->wpOps P ops Q (E5D (l.length+1) r.length) a w:=by
  intro listed a w μ S nI;have C8J:SEnv μ ((es l.length).put s.dst v) a:=by
   intro t;have main:s.dst≠some t->RV μ ((es l.length).get t) (a.tmps.getD t undef):=by
    intro T5;by_cases hw:∃ (j:Nat) (aj:AOper),l[j]?=some aj/\aj.dst=some t
    ·obtain ⟨j,aj,nC,hdj⟩:=hw;have hjl:=(List.getElem?_eq_some_iff.1 nC).1;rw [oW D ht nC hdj l.length hjl (E44 _)];exact S.envD j aj t nC (nI j hjl) hdj
    ·have bM:∀ (j:Nat) (aj:AOper),l[j]?=some aj->aj.dst≠some t:=λj aj nC hdj=>hw ⟨j,aj,nC,hdj⟩
     rw [wE ht he l.length (E44 _) λj aj _ nC=>bM j aj nC];exact S.envO t (λj aj nC _=>bM j aj nC) T5
   cases hsd:s.dst with
   | none=>exact main (by rw [hsd];simp)
   | some d =>
    by_cases e1:d=t
    ·subst e1;rw [Env.get_put_same];exact S.envS d hsd
    ·rw [Env.get_put_other _ _ _ _ e1];exact main (by rw [hsd];simpa using e1)
  exact vH Γ μ a w C8J S.inv S.size S.defers Q fun μ' a' w' g1 g2 g3 g4 g5 g6=>hq μ' a' w' (Mu.le_trans S.le g1) (λid hid=>(g2 id hid).trans (S.keep id (by omega))) g3 g4 g5 g6
 have main2:∀ (fuel:Nat) (listed:Array Bool) (a:Act) (w:World) (μ:Mu),listed.size=ops.size->left ops.size listed<=fuel->listed.getD l.length false=true ->
   (∀ j,l.length<j->j<ops.size->listed.getD j false=false)->(∀ (j:Nat) ao,l[j]?=some ao->listed.getD j false=false->Float1 s chk ao) ->
   (∀ (i:Nat) (o:Oper),ops[i]?=some o->listed.getD i false=true->∀ p∈Y5 o,listed.getD p false=true) ->
   Sim2 Γ l s h.length N e vs v μ0 (λi=>listed.getD i false) h2 μ a w->wpAny P .any ops Q fuel listed a w:=by
  intro fuel
  induction fuel with
  | zero =>
   intro listed a w μ hls B2V hsd cM E1V cO S;have nI:∀ j,j<ops.size->listed.getD j false=true:=by
    intro j hj;cases hv:listed.getD j false with
    | true=>rfl
    | false =>
     have hm:j∈(E5v ops.size).filter λi=>!listed.getD i false:=by rw [List.mem_filter];exact ⟨by simpa using hj,by rw [hv];rfl⟩
     have:=List.length_pos_of_mem hm;unfold left at B2V;omega
   have hr0:r.length=0:=by
    cases hr:r.length with
    | zero=>rfl
    | succ x =>
     have h1:=nI (l.length+1) (by omega);have h3:=cM (l.length+1) (by omega) (by omega);rw [h1] at h3;cases h3
   refine A0U D.dir last 0 (l.length+1) 0 listed a w (by omega) (E44 _) hls (λj hj=>?_) (E44 _) ?_
   ·rw [nI j hj];have:j<l.length+1:=by omega
    simp [this]
   ·have:=whole listed a w μ S λj hj=>nI j (by omega)
    rw [hr0] at this;exact this
  | succ fuel ih =>
   intro listed a w μ hls B2V hsd cM E1V cO S;by_cases nI:∀ j,j<l.length->listed.getD j false=true
   ·refine A0U D.dir last r.length (l.length+1) (fuel+1) listed a w (by omega) (E44 _) hls (λj hj=>?_) ?_ (whole listed a w μ S nI)
    ·by_cases hjl:j<l.length+1
     ·have:listed.getD j false=true:=by
       by_cases e1:j=l.length
       ·subst e1;exact hsd
       ·exact nI j (by omega)
      rw [this];simp [hjl]
     ·rw [cM j (by omega) hj];simp [hjl]
    ·refine E5E ?_ B2V;unfold left;have:((E5v ops.size).filter λi=>!listed.getD i false)=E5D (l.length+1) r.length:=by
      rw [show ops.size=(l.length+1)+r.length by omega,List.range_add,List.filter_append];have e1:(E5v (l.length+1)).filter (λi=>!listed.getD i false)=[]:=by
       rw [List.filter_eq_nil_iff];intro j hj;have hj:j<l.length+1:=by simpa using hj
       have:listed.getD j false=true:=by
        by_cases e1:j=l.length
        ·subst e1;exact hsd
        ·exact nI j (by omega)
       rw [this];simp
      rw [e1,E5g,List.range'_eq_map_range,List.filter_eq_self.2];intro j hj;obtain ⟨x,hx,rfl⟩:=List.mem_map.1 hj;rw [cM _ (by omega) (by simp at hx;omega)];rfl
     rw [this];simp
   ·have hex:∃ j,j<l.length/\listed.getD j false=false:=by
     false_or_by_contra
     rename_i hn;exact nI λj hj=>by
      cases hv:listed.getD j false with
      | true=>rfl
      | false=>exact absurd ⟨j,hj,hv⟩ hn
    obtain ⟨j,hj,hv⟩:=hex;refine ⟨λhre=>absurd hre (A6O D.dir hls j (by omega) hv),λi hi=>?_⟩;obtain ⟨o,ho,h3,h4⟩:=mN.1 hi;have hin:=(Array.getElem?_eq_some_iff.1 ho).1;rw [getD_both (by omega)] at h3;have hah:=tM (done:=λi=>listed.getD i false) D.dir cO i o ho h4;have P6:i<l.length:=by
     by_cases e1:i<l.length
     ·exact e1
     ·by_cases e2:i=l.length
      ·subst e2;rw [hsd] at h3;cases h3
      ·have:=hah j (last i (by omega) hin j (by omega))
       try simp only at this
       rw [hv] at this;cases this
    have hao:=E40 P6;have kN:=D7k D hR hE ht he hag S (i:=i) (ao:=l[i]) (o:=o) hao ho h3 (E1V i l[i] hao h3) D5I hah
     (next:=wpAny P .any ops Q fuel (listed.setIfInBounds i true)) (Q:=Q) (by
      intro V w' μ' S';rw [<-Q8 (by omega)] at S';refine ih (listed.setIfInBounds i true) _ w' μ' (by simpa using hls) (by have:=B7i hin hls h3;omega) ?_ ?_ ?_ ?_ S'
      ·have:=congrFun (Q8 (listed:=listed) (i:=i) (by omega)) l.length
       try simp only at this
       rw [this,Y3 _ _ (by omega)];exact hsd
      ·intro k hk hkn;have:=congrFun (Q8 (listed:=listed) (i:=i) (by omega)) k
       try simp only at this
       rw [this,Y3 _ _ (by omega)];exact cM k hk hkn
      ·intro k ak oB hdk;have e1:=congrFun (Q8 (listed:=listed) (i:=i) (by omega)) k
       try simp only at e1
       rw [e1] at hdk;by_cases e2:k=i
       ·subst e2;rw [tP] at hdk;cases hdk
       ·rw [Y3 _ _ e2] at hdk;exact E1V k ak oB hdk
      ·intro k ok hok hdk p hp;have e1:=congrFun (Q8 (listed:=listed) (i:=i) (by omega)) k;have e2:=congrFun (Q8 (listed:=listed) (i:=i) (by omega)) p
       try simp only at e1 e2
       rw [e1] at hdk;rw [e2];have B2U:listed.getD p false=true:=by
        by_cases e3:k=i
        ·subst e3;rw [ho] at hok;cases hok;exact h4 p hp
        ·rw [Y3 _ _ e3] at hdk;exact cO k ok hok hdk p hp
       unfold nE;show (decide (p=i)||listed.getD p false)=true;rw [B2U];simp)
    unfold wpOp;rw [ho];exact kN
 have main:∀ (fuel:Nat) (listed:Array Bool) (a:Act) (w:World) (q:Nat) (μ:Mu),listed.size=ops.size->left ops.size listed<=fuel ->
   (∀ j,l.length<=j->j<ops.size->listed.getD j false=false)->(∀ (i:Nat) (o:Oper),ops[i]?=some o->listed.getD i false=true->∀ p∈Y5 o,listed.getD p false=true) ->
   Sim Γ l h.length N e es hs vs μ0 (λi=>listed.getD i false) q μ a w->wpAny P .any ops Q fuel listed a w:=by
  intro fuel
  induction fuel with
  | zero =>
   intro listed a w q μ hls B2V cM cO S;have hv:=cM l.length (E44 _) hnl;have hm:l.length∈(E5v ops.size).filter λi=>!listed.getD i false:=by rw [List.mem_filter];exact ⟨by simpa using hnl,by rw [hv];rfl⟩
   have:=List.length_pos_of_mem hm;unfold left at B2V;omega
  | succ fuel ih =>
   intro listed a w q μ hls B2V cM cO S;have hv:=cM l.length (E44 _) hnl;refine ⟨λhre=>absurd hre (A6O D.dir hls l.length hnl hv),λi hi=>?_⟩;obtain ⟨o,ho,h3,h4⟩:=mN.1 hi;have hin:=(Array.getElem?_eq_some_iff.1 ho).1;rw [getD_both (by omega)] at h3;have hah:=tM (done:=λi=>listed.getD i false) D.dir cO i o ho h4;have wL:∀ k,listed.getD k false=true->∀ b,((P7 ops).getD k 0).testBit b=true->listed.getD b false=true:=by
    intro k hk b hb;by_cases hkn:k<ops.size
    ·have hok:ops[k]?=some ops[k]:=by simp [hkn]
     exact tM (done:=λi=>listed.getD i false) D.dir cO k _ hok (cO k _ hok hk) b hb
    ·have:listed.getD k false=false:=by simp [Array.getD,show ¬ k<listed.size by omega]
     rw [this] at hk;cases hk
   have D3d:∀ k ok,ops[k]?=some ok->(listed.setIfInBounds i true).getD k false=true->∀ p∈Y5 ok,(listed.setIfInBounds i true).getD p false=true:=by
    intro k ok hok hdk p hp;have e1:=congrFun (Q8 (listed:=listed) (i:=i) (by omega)) k;have e2:=congrFun (Q8 (listed:=listed) (i:=i) (by omega)) p
    try simp only at e1 e2
    rw [e1] at hdk;rw [e2];have B2U:listed.getD p false=true:=by
     by_cases e3:k=i
     ·subst e3;rw [ho] at hok;cases hok;exact h4 p hp
     ·rw [Y3 _ _ e3] at hdk;exact cO k ok hok hdk p hp
    unfold nE;show (decide (p=i)||listed.getD p false)=true;rw [B2U];simp
   by_cases P6:i<l.length
   ·have kN:=D3X D hE ht h0 he S (i:=i) (ao:=l[i]) (o:=o) (E40 P6) ho h3 hah wL
     (next:=wpAny P .any ops Q fuel (listed.setIfInBounds i true)) (Q:=Q) (by
      intro V w' μ' q' S';rw [<-Q8 (by omega)] at S';refine ih (listed.setIfInBounds i true) _ w' q' μ' (by simpa using hls) (by have:=B7i hin hls h3;omega) ?_ D3d S';intro k hk hkn;have:=congrFun (Q8 (listed:=listed) (i:=i) (by omega)) k
      try simp only at this
      rw [this,Y3 _ _ (by omega)];exact cM k hk hkn)
    unfold wpOp;rw [ho];exact kN
   ·have hie:i=l.length:=by
     by_cases e1:i=l.length
     ·exact e1
     ·have:=hah l.length (last i (by omega) hin l.length (by omega))
      try simp only at this
      rw [hv] at this;cases this
    subst hie;have hoo:o=ops[l.length]:=by rw [hos] at ho;cases ho;rfl
    have B2U:∀ (j:Nat) aj,l[j]?=some aj->listed.getD j false=false->Float1 s chk aj:=by
     intro j aj nC hdj;refine E1W j aj nC ?_;cases hb:((P7 ops).getD l.length 0).testBit j with
     | false=>rfl
     | true =>
      have:=hah j hb
      try simp only at this
      rw [hdj] at this;cases this
    have hlen:(hs l.length).length=(hs q).length:=by
     have hql:=S.qle;have:=wP D ht (q:=q) (l.length-q) (by omega) λk ak h1 h2 oB=>by
      cases hck:X6 ak.op with
      | false=>rfl
      | true =>
       have hd1:listed.getD k false=true:=by
        cases hd2:listed.getD k false with
        | true=>rfl
        | false=>have:=(B2U k ak oB hd2).call;rw [hck] at this;cases this
       have:=(S.calls k ak oB hck).1 hd1;omega
     rwa [show q+(l.length-q)=l.length by omega] at this
    have C91:HD (hs l.length) (und l h.length λi=>listed.getD i false) (hs q).length=hs l.length:=by
     refine wM (by rw [I9,hlen]) λid hid=>?_
     rw [I9] at hid;have hu:und l h.length (λi=>listed.getD i false) id=false:=by
      cases hu:und l h.length (λi=>listed.getD i false) id with
      | false=>rfl
      | true =>
       obtain ⟨k,hk,ao,j,oB,hj,_⟩:=Y8.1 hu;have:=(B2U k ao oB hk).slot;rw [hj] at this;cases this
     rw [sL,if_pos ⟨hid,hu⟩]
    have hinv:=S.inv;rw [C91] at hinv;have C8J:SEnv μ ((es l.length).keep s.reads) a:=by
     intro t;rw [Env.get_keep_mem];split
     ·rename_i wN;by_cases hw:∃ (j:Nat) (aj:AOper),l[j]?=some aj/\aj.dst=some t
      ·obtain ⟨j,aj,nC,hdj⟩:=hw;have hjl:=(List.getElem?_eq_some_iff.1 nC).1;rw [oW D ht nC hdj l.length hjl (E44 _)];refine S.envD j aj t nC ?_ hdj;cases hd2:listed.getD j false with
       | true=>rfl
       | false =>
        obtain ⟨d,h5,h6,_⟩:=(B2U j aj nC hd2).dst;rw [hdj] at h5;cases h5;exact absurd wN h6
      ·have bM:∀ (j:Nat) (aj:AOper),l[j]?=some aj->aj.dst≠some t:=λj aj nC hdj=>hw ⟨j,aj,nC,hdj⟩
       rw [wE ht he l.length (E44 _) λj aj _ nC=>bM j aj nC];exact S.envO t λj aj nC _=>bM j aj nC
     ·trivial
    have E1h:=B62;rw [B9v (e':=(es l.length).keep s.reads) λt ht'=>by rw [Env.get_keep_mem,if_pos ht']] at E1h;unfold wpOp;rw [ho];subst hoo;refine A4j (hr:=hs l.length) (n0:=0) hE E21 E1h C8J hinv (λ_ _ h=>h) (by rw [D8w];trivial) ?_;intro V w' μ' bO hv' E28 bL;rw [D8w] at bL;have D5H:=Q8 (listed:=listed) (i:=l.length) (by omega);refine main2 fuel (listed.setIfInBounds l.length true) _ w' μ' (by simpa using hls) (by have:=B7i hin hls h3;omega) ?_ ?_ ?_ D3d ?_
    ·have:=congrFun D5H l.length
     try simp only at this
     rw [this];exact tP _ _
    ·intro k hk hkn;have:=congrFun D5H k
     try simp only at this
     rw [this,Y3 _ _ (by omega)];exact cM k (by omega) hkn
    ·intro k ak oB hdk;have hkl:=(List.getElem?_eq_some_iff.1 oB).1;have:=congrFun D5H k
     try simp only at this
     rw [this,Y3 _ _ (by omega)] at hdk;exact B2U k ak oB hdk
    ·have hsame:∀ k:Nat,k<l.length->(listed.setIfInBounds l.length true).getD k false=listed.getD k false:=by
      intro k hkl;have:=congrFun D5H k
      try simp only at this
      rw [this,Y3 _ _ (by omega)]
     refine ⟨?_,?_,?_,E28,Mu.le_trans S.le bO,?_,by rw [Act.size_put];exact S.size,by rw [put_defers];exact S.defers⟩
     ·intro k ak d oB hdk hd;have hkl:=(List.getElem?_eq_some_iff.1 oB).1
      try simp only at hdk
      rw [hsame k hkl] at hdk;rw [B0n (by rw [D3i.1];exact λh=>D5I k ak d oB h hd)];exact (S.envD k ak d oB hdk hd).mono bO
     ·intro t bM vH;rw [B0n (by rw [D3i.1];exact vH)];refine (S.envO t λk ak oB hdk=>bM k ak oB ?_).mono bO;have hkl:=(List.getElem?_eq_some_iff.1 oB).1
      try simp only
      rw [hsame k hkl];exact hdk
     ·intro d hd;rw [D3i.1,hd,B2T (by rw [<-hd,<-D3i.1];exact D3i.2) S.size];exact hv'
     ·intro id hid;rw [<-S.keep id hid];exact bL id (by omega) λj hj=>by cases hj
 have hgd:∀ i:Nat,(Array.replicate ops.size false).getD i false=false:=by intro i;simp [Array.getD]
 have E1X:(λi=>(Array.replicate ops.size false).getD i false)=λ_=>false:=funext hgd
 refine main ops.size (Array.replicate ops.size false) a _ 0 μ0 (by simp) ?_ (λj _ _=>hgd j) (λi o _ hd=>by rw [hgd] at hd;cases hd) ?_
 ·unfold left;exact E5E (List.length_filter_le _ _) (by simp)
 ·rw [E1X];have E12:HD (hs l.length) (und l h.length λ_=>false) (hs 0).length=h++E41 m none:=by
   rw [h0];refine wM (by rw [I9]) λid hid=>?_
   rw [I9] at hid;rw [sL];by_cases ho:∃ i,A1l l h.length i id
   ·obtain ⟨i,ho⟩:=ho;have hu:und l h.length (λ_=>false) id=true:=Y8.2 ⟨i,rfl,ho⟩;rw [hu];have:=A4X D ht h0 ho 0 (Nat.zero_le _);rw [h0] at this;rw [this];simp
   ·have bM:∀ i,0<=i->¬ A1l l h.length i id:=λi _ hi=>ho ⟨i,hi⟩
    have hu:und l h.length (λ_=>false) id=false:=by
     cases hu:und l h.length (λ_=>false) id with
     | false=>rfl
     | true=>obtain ⟨i,_,hi⟩:=Y8.1 hu;exact absurd ⟨i,hi⟩ ho
    rw [if_pos ⟨hid,hu⟩];have:=nJ D ht (k:=0) (id:=id) (by rw [h0];exact hid) bM l.length (by omega);rw [E5l,h0] at this;exact this
  refine ⟨Nat.zero_le _,λi ao _ _=>⟨λh=>(by cases h),λh=>(by omega)⟩,λi ao d _ h=>(by cases h),λt _=>hs0 t,?_,λid hid=>?_,Mu.le_refl _,λ_ _=>rfl,hN,hd⟩
  ·rw [E12];exact (hi.pad m).world rfl rfl rfl λ_ _=>rfl
  ·obtain ⟨i,_,ao,j,_,_,rfl⟩:=Y8.1 hid;exact hi.dom _ (by omega)
end
def sw (k i:Nat):Nat:=if i=k then k+1 else if i=k+1 then k else i
theorem D6f (k i:Nat):sw k (sw k i)=i:=by unfold sw;split<;>(try split)<;>(try split)<;>omega
theorem D6e {k i n:Nat} (hk:k+1<n):sw k i<n↔i<n:=by unfold sw;split<;>(try split)<;>omega
theorem E2J {k i j:Nat} (h:sw k i=sw k j):i=j:=by rw [<-D6f k i,h,D6f]
def swO (k:Nat) (o:Oper):Oper:={ o with after:=o.after.map λe=>{ e with on:=sw k e.on },guard:=o.guard.map λg=>(sw k g.1,g.2) }
def swp (k:Nat) (ops:Array Oper):Array Oper:=((E5v ops.size).map λi=>swO k (ops.getD (sw k i) default)).toArray
theorem swp_size (k:Nat) (ops:Array Oper):(swp k ops).size=ops.size:=by simp [swp]
theorem D5h {k:Nat} {ops:Array Oper} (hk:k+1<ops.size) (i:Nat):(swp k ops)[sw k i]?=(ops[i]?).map (swO k):=by
 by_cases hi:i<ops.size
 ·have h1:sw k i<ops.size:=(D6e hk).2 hi;unfold swp;simp [h1,hi,D6f]
 ·have h1:¬ sw k i<ops.size:=λh=>hi ((D6e hk).1 h)
  rw [Array.getElem?_eq_none (by rw [swp_size];omega),Array.getElem?_eq_none (by omega)];rfl
theorem C1S (k:Nat) (o:Oper):Y5 (swO k o)=(Y5 o).map (sw k):=by
 unfold Y5 swO;simp only [Array.toList_map];rw [List.filter_map,List.map_map,List.map_map]
 congr 1
theorem D5g {k:Nat} {ops:Array Oper} (hk:k+1<ops.size) (o:Oper) (t:Array Value):Region.wanted (swO k o) (yielded (swp k ops) t)=Region.wanted o (yielded ops t):=by
 unfold Region.wanted swO;cases hg:o.guard with
 | none=>rfl
 | some g =>
  obtain ⟨j,b⟩:=g;simp only [Option.map_some];unfold yielded;rw [D5h hk];cases ops[j]?<;>rfl
theorem E03 {P:Program} {k:Nat} {ops:Array Oper} (hk:k+1<ops.size) {Q:Exit->Act->World->Prop} {i:Nat} {a:Act} {w:World} {K:Act->World->Prop}:wpOp P (swp k ops) Q (sw k i) K a w=wpOp P ops Q i K a w:=by
 unfold wpOp;rw [D5h hk];cases hi:ops[i]? with
 | none=>rfl
 | some o =>
  simp only [Option.map_some];rw [D5g hk];rfl
theorem C7d {k:Nat} {ops:Array Oper} (hk:k+1<ops.size) {l l':Array Bool} (hl:∀ i b,l'.getD (sw k i) b=l.getD i b) (i:Nat):sw k i∈Region.ready .any (swp k ops) l'↔i∈Region.ready .any ops l:=by
 rw [mN,mN,D5h hk];constructor
 ·rintro ⟨o',h1,h2,h3⟩;cases ho:ops[i]? with
  | none=>rw [ho] at h1;cases h1
  | some o =>
   rw [ho] at h1;cases h1;refine ⟨o,rfl,by rw [<-hl];exact h2,λp hp=>?_⟩;rw [<-hl];exact h3 _ (by rw [C1S];exact List.mem_map.2 ⟨p,hp,rfl⟩)
 ·rintro ⟨o,h1,h2,h3⟩;refine ⟨swO k o,by rw [h1];rfl,by rw [hl];exact h2,λp hp=>?_⟩;rw [C1S] at hp;obtain ⟨q,hq,rfl⟩:=List.mem_map.1 hp;rw [hl];exact h3 q hq
theorem D1R {k:Nat} {ops:Array Oper} (hk:k+1<ops.size) {l l':Array Bool} (hl:∀ i b,l'.getD (sw k i) b=l.getD i b) (h:Region.ready .any ops l=[]):Region.ready .any (swp k ops) l'=[]:=by
 rw [List.eq_nil_iff_forall_not_mem];intro i hi;have:=(C7d hk hl (sw k i)).1 (by rw [D6f];exact hi);rw [h] at this;cases this
theorem D36 {P:Program} {k:Nat} {ops:Array Oper} (hk:k+1<ops.size) {Q:Exit->Act->World->Prop}:∀ (fuel:Nat) (l l':Array Bool) (a:Act) (w:World),l.size=ops.size->l'.size=ops.size->(∀ i b,l'.getD (sw k i) b=l.getD i b) ->
  wpAny P .any (swp k ops) Q fuel l' a w->wpAny P .any ops Q fuel l a w
 | 0,l,l',a,w,s1,s2,hl,h=>by
  refine ⟨?_,h.2⟩;rw [List.eq_nil_iff_forall_not_mem];intro i hi;have:=(C7d hk hl i).2 hi;rw [h.1] at this;cases this
 | fuel+1,l,l',a,w,s1,s2,hl,h=>by
  refine ⟨λhe=>h.1 (D1R hk hl he),λi hi=>?_⟩;have h1:=h.2 (sw k i) ((C7d hk hl i).2 hi);rw [E03 hk] at h1;have U8:i<ops.size:=by
   obtain ⟨o,ho,_⟩:=mN.1 hi;exact (Array.getElem?_eq_some_iff.1 ho).1
  have E4e:sw k i<l'.size:=by rw [s2];exact (D6e hk).2 U8
  refine wpOp_mono (λa w hh=>D36 hk fuel _ _ a w (by simpa using s1) (by simpa using s2) (λj b=>?_) hh) h1;by_cases e:j=i
  ·subst e;simp [Array.getD,E4e,show j<l.size by omega]
  ·have e2:sw k j≠sw k i:=λh=>e (E2J h)
   rw [Array.getD_eq_getD_getElem?,Array.getD_eq_getD_getElem?,Array.getElem?_setIfInBounds_ne (Ne.symm e2),Array.getElem?_setIfInBounds_ne (Ne.symm e),<-Array.getD_eq_getD_getElem?,<-Array.getD_eq_getD_getElem?];exact hl j b
theorem D8g {P:Program} {N L:Nat} {ops:Array Oper} {m id:Nat} {l r:List AOper} {s:AOper} {chk:List (Nat × AOp)} {E:N4} (hE:fH P E) {e:Env} {h:A6} {R:Type} {k:Env->A6->Option R} {res:R}
  (hc:(zB P N ops m l (s::r)&&D6t ops l s chk r)=true\/(decide (l.length<ops.size)&&decide (0<l.length)&&zB P N (swp (l.length-1) ops) m l (s::r)&&D6t (swp (l.length-1) ops) l s chk r)=true) (hL:L<=h.length)
  (C9:B2t E h h.length l e (h++E41 m none) (λe h=>W7 E false h 0 s e h λv h2=>again chk e h2 (A9I E r (e.put s.dst v) h2 k))=some res) :
  ∃ e' h',k e' h'=some res/\L<=h'.length/\B1c P N L ((Code.region id ops true).wp P) e h .normal e' h':=by
 rcases hc with hc | hc
 ·rw [E42] at hc;obtain ⟨e',h',h1,h2,h3⟩:=C9P hE hc.1 hc.2 hL C9;exact ⟨e',h',h1,h2,fun Γ μ0 a w g1 g2 g3 g4 Q hq=>wp_region_any (A6j hc.1).follows (h3 Γ μ0 a w g1 g2 g3 g4 Q hq)⟩
 ·simp only [E42,decide_eq_true_eq] at hc;obtain ⟨⟨⟨hs,h0⟩,hc⟩,hcs⟩:=hc;obtain ⟨e',h',h1,h2,h3⟩:=C9P hE hc hcs hL C9;refine ⟨e',h',h1,h2,fun Γ μ0 a w g1 g2 g3 g4 Q hq=>wp_region_any (A6j hc).follows ?_⟩;have hk:l.length-1+1<ops.size:=by omega
  refine D36 hk _ _ (Array.replicate ops.size false) a _ (by simp) (by simp) (λi b=>?_) ?_
  ·simp only [Array.getD,Array.size_replicate,D6e hk];split<;>simp
  ·have:=h3 Γ μ0 a w g1 g2 g3 g4 Q hq;simpa only [swp_size] using this
section
def B9E (P:Program) (N:Nat) (ops:Array Oper):List Oper->List AOper->Bool
 | [],[]=>true
 | o::r,a::l=>aC P N ops o a&&decide (a.slot=none)&&B9E P N ops r l
 | _,_=>false
def Y4 (P:Program) (N:Nat):Code->ACode->Bool
 | c,.skip=>(match c with | .skip=>true | _=>false)
 | c,.ops l=>(match c with | .region _ ops false=>B9E P N ops ops.toList l | _=>false)
 | c,.draw m l r=>(match c with | .region _ ops true=>zB P N ops m l r&&B6I ops l.length r.length | _=>false)
 | c,.drawS m l s chk r=>(match c with | .region _ ops true=>(zB P N ops m l (s::r)&&D6t ops l s chk r)||(decide (l.length<ops.size)&&decide (0<l.length)&&zB P N (swp (l.length-1) ops) m l (s::r)&&D6t (swp (l.length-1) ops) l s chk r) | _=>false)
 | c,.seq _ a b=>(match c with | .seq x y=>Y4 P N x a&&Y4 P N y b | _=>false)
 | c,.cond q a b=>(match c with | .cond z x y=>D8 z q&&Y4 P N x a&&Y4 P N y b | _=>false)
 | c,.block id a=>(match c with | .block gG x=>decide (gG=id)&&Y4 P N x a | _=>false)
 | c,.loop _ a=>(match c with | .loop x=>Y4 P N x a | _=>false)
 | c,.exit id=>(match c with | .exit gG=>decide (gG=id) | _=>false)
 | c,.ret=>(match c with | .ret=>true | _=>false)
def aX (P:Program):List ResultVar->List ARes->Bool
 | [],[]=>true
 | .tmp t::r,.tmp t'::l=>decide (t=t')&&aX P r l
 | .cell t ty::r,.cell1 t'::l=>decide (t=t')&&decide (jW P ty=some false)&&aX P r l
 | .cell t ty::r,.cellN t' n::l=>decide (t=t')&&decide (jW P ty=some true)&&decide (P9 P ty=some n)&&aX P r l
 | _,_=>false
def C5T (P:Program) (fn:Func) (f:AFn):Bool :=
 (match fn.body with | some c => Y4 P fn.ntmps c f.code | none => false) && aX P fn.results.toList f.res && !(fn.name == "runtime.NumGoroutine")
section
variable {P:Program} {R:Type}
theorem C9J {N:Nat} {ops:Array Oper}:∀ (pre:List Oper) (os:List Oper) (aos:List AOper),ops.toList=pre++os->B9E P N ops os aos=true ->
  All2 (λi ao=>∃ o,ops[i]?=some o/\aC P N ops o ao=true/\ao.slot=none) (E5D pre.length os.length) aos
 | pre,[],[],_,_=>trivial
 | pre,o::os,ao::aos,he,hc=>by
  simp only [B9E,E42,decide_eq_true_eq] at hc;rw [E5a,List.range'_succ];refine ⟨⟨o,?_,hc.1.1,hc.1.2⟩,?_⟩
  ·rw [<-Array.getElem?_toList,he];simp
  ·have:=C9J (pre++[o]) os aos (by rw [he];simp) hc.2;simpa using this
 | _,[],_::_,_,h=>by simp [B9E] at h
 | _,_::_,[],_,h=>by simp [B9E] at h
theorem D4d {N L:Nat} {E:N4} (hE:fH P E) (n:Nat):∀ (ac:ACode) (c:Code) (k:AExit->Env->A6->Option R) (e:Env) (h:A6) (r:R),
  Y4 P N c ac=true->aex E n ac k e h=some r->L<=h.length->∃ x e' h',k x e' h'=some r/\L<=h'.length/\B1c P N L (c.wp P) e h x e' h':=by
 intro ac
 induction ac with
 | skip =>
  intro c k e h r hc C9 hL;unfold Y4 at hc;split at hc
  ·exact ⟨.normal,e,h,C9,hL,fun Γ μ a w hs hi hN hd Q hq=>wp_skip (hq μ a w (Mu.le_refl _) (λ_ _=>rfl) hs hi hN hd)⟩
  ·cases hc
 | ops l =>
  intro c k e h r hc C9 hL;unfold Y4 at hc;split at hc
  ·rename_i id ops;simp only [aex,D9x] at C9;obtain ⟨e',h',hk,hL',vH⟩:=C3i hE _ l e h _ r (C9J [] ops.toList l rfl hc) C9 hL;refine ⟨.normal,e',h',hk,hL',fun Γ μ a w hs hi hN hd Q hq=>wp_region ?_⟩;have:=vH Γ μ a w hs hi hN hd Q hq;simpa [List.range_eq_range'] using this
  ·cases hc
 | draw m l r' =>
  intro c k e h r hc C9 hL;unfold Y4 at hc;split at hc
  ·rename_i id ops;simp only [aex,D5c] at C9;rw [E42] at hc;obtain ⟨e',h',hk,hL',vH⟩:=D97 (id:=id) hE hc.1 hc.2 hL C9;exact ⟨.normal,e',h',hk,hL',vH⟩
  ·cases hc
 | drawS m l s chk r' =>
  intro c k e h r hc C9 hL;unfold Y4 at hc;split at hc
  ·rename_i id ops;simp only [aex,D16] at C9;obtain ⟨e',h',hk,hL',vH⟩:=D8g (id:=id) hE (by simpa only [E5V] using hc) hL C9;exact ⟨.normal,e',h',hk,hL',vH⟩
  ·cases hc
 | seq keep a b iha ihb =>
  intro c k e h r hc C9 hL;unfold Y4 at hc;split at hc
  ·rename_i x y;simp only [E42] at hc;simp only [aex,D30,E0i] at C9;obtain ⟨x1,e1,h1,hk1,hL1,A7Y⟩:=iha x _ e h r hc.1 C9 hL;cases x1 with
   | normal =>
    change hold (aex E n b k (e1.keep keep) h1)=some r at hk1;simp only [hold] at hk1;obtain ⟨x2,e2,h2,hk2,hL2,E15⟩:=ihb y k (e1.keep keep) h1 r hc.2 hk1 hL1;refine ⟨x2,e2,h2,hk2,hL2,fun Γ μ a w hs hi hN hd Q hq=>wp_seq (A7Y Γ μ a w hs hi hN hd _ ?_)⟩;intro μ1 a1 w1 g1 g2 g3 g4 g5 g6;exact E15 Γ μ1 a1 w1 (g3.keep keep) g4 g5 g6 Q fun μ2 a2 w2 f1 f2 f3 f4 f5 f6=>hq μ2 a2 w2 (Mu.le_trans g1 f1) (λid hid=>(f2 id hid).trans (g2 id hid)) f3 f4 f5 f6
   | exit id=>exact ⟨.exit id,e1,h1,hk1,hL1,fun Γ μ a w hs hi hN hd Q hq=>wp_seq (A7Y Γ μ a w hs hi hN hd _ hq)⟩
   | ret=>exact ⟨.ret,e1,h1,hk1,hL1,fun Γ μ a w hs hi hN hd Q hq=>wp_seq (A7Y Γ μ a w hs hi hN hd _ hq)⟩
  ·cases hc
 | cond q a b iha ihb =>
  intro c k e h r hc C9 hL;unfold Y4 at hc;split at hc
  ·rename_i z x y;simp only [E42] at hc;simp only [aex,C7q,cnd] at C9;split at C9
   ·rename_i t vG;have hz:∀ {μ:Mu} {a:Act},SEnv μ e a->a.eval z=.bool t:=by
     intro μ a hs;have:RV μ _ _:=C7 hc.1.1 hs;rw [vG] at this;exact this
    cases t with
    | true =>
     obtain ⟨x1,e1,h1,hk1,hL1,A7Y⟩:=iha x k e h r hc.1.2 C9 hL;exact ⟨x1,e1,h1,hk1,hL1,fun Γ μ a w hs hi hN hd Q hq=>wp_cond_true (hz hs) (A7Y Γ μ a w hs hi hN hd Q hq)⟩
    | false =>
     obtain ⟨x1,e1,h1,hk1,hL1,A7Y⟩:=ihb y k e h r hc.2 C9 hL;exact ⟨x1,e1,h1,hk1,hL1,fun Γ μ a w hs hi hN hd Q hq=>wp_cond_false (hz hs) (A7Y Γ μ a w hs hi hN hd Q hq)⟩
   ·cases C9
  ·cases hc
 | block id a iha =>
  intro c k e h r hc C9 hL;unfold Y4 at hc;split at hc
  ·rename_i gG x;simp only [E42,decide_eq_true_eq] at hc;obtain ⟨rfl,hc⟩:=hc;simp only [aex,B7N,D4D] at C9;obtain ⟨x1,e1,h1,hk1,hL1,A7Y⟩:=iha x _ e h r hc C9 hL;cases x1 with
   | normal=>exact ⟨.normal,e1,h1,hk1,hL1,fun Γ μ a w hs hi hN hd Q hq=>wp_block (A7Y Γ μ a w hs hi hN hd _ hq)⟩
   | exit i =>
    change (bif Nat.beq i gG then k .normal e1 h1 else k (.exit i) e1 h1)=some r at hk1;cases hb:Nat.beq i gG with
    | true =>
     rw [hb] at hk1;have hi':=Nat.eq_of_beq_eq_true hb;subst hi';exact ⟨.normal,e1,h1,hk1,hL1,fun Γ μ a w hs hi hN hd Q hq=>wp_block (A7Y Γ μ a w hs hi hN hd _ fun μ1 a1 w1 g1 g2 g3 g4 g5 g6=>by
      show (if i=i then Q .normal a1 w1 else _);rw [if_pos rfl];exact hq μ1 a1 w1 g1 g2 g3 g4 g5 g6)⟩
    | false =>
     rw [hb] at hk1;have T5:i≠gG:=by intro e;subst e;simp at hb
     exact ⟨.exit i,e1,h1,hk1,hL1,fun Γ μ a w hs hi hN hd Q hq=>wp_block (A7Y Γ μ a w hs hi hN hd _ fun μ1 a1 w1 g1 g2 g3 g4 g5 g6=>by
      show (if i=gG then _ else Q (.exit i) a1 w1);rw [if_neg T5];exact hq μ1 a1 w1 g1 g2 g3 g4 g5 g6)⟩
   | ret=>exact ⟨.ret,e1,h1,hk1,hL1,fun Γ μ a w hs hi hN hd Q hq=>wp_block (A7Y Γ μ a w hs hi hN hd _ hq)⟩
  ·cases hc
 | loop keep a iha =>
  intro c k e h r hc C9 hL;unfold Y4 at hc;split at hc
  ·rename_i x;simp only [aex,C7r] at C9;have key:∀ (m:Nat) (e:Env) (h:A6),A6g (aex E n a) keep k m e h=some r->L<=h.length ->
     ∃ x1 e' h',k x1 e' h'=some r/\L<=h'.length/\B1c P N L (λQ=>Code.rounds P x Q m) e h x1 e' h':=by
    intro m
    induction m with
    | zero=>intro e h C9;rw [C1b] at C9;cases C9
    | succ m ih =>
     intro e h C9 hL;rw [C1a] at C9;obtain ⟨x1,e1,h1,hk1,hL1,A7Y⟩:=iha x _ e h r hc C9 hL;cases x1 with
     | normal =>
      simp only at hk1;obtain ⟨x2,e2,h2,hk2,hL2,E15⟩:=ih (e1.keep keep) h1 hk1 hL1;refine ⟨x2,e2,h2,hk2,hL2,fun Γ μ a w hs hi hN hd Q hq=>?_⟩;show Code.rounds P x Q (m+1) a w;rw [rounds_succ];refine A7Y Γ μ a w hs hi hN hd _ ?_;intro μ1 a1 w1 g1 g2 g3 g4 g5 g6;exact E15 Γ μ1 a1 w1 (g3.keep keep) g4 g5 g6 Q fun μ2 a2 w2 f1 f2 f3 f4 f5 f6=>hq μ2 a2 w2 (Mu.le_trans g1 f1) (λid hid=>(f2 id hid).trans (g2 id hid)) f3 f4 f5 f6
     | exit id=>exact ⟨.exit id,e1,h1,hk1,hL1,fun Γ μ a w hs hi hN hd Q hq=>by
       show Code.rounds P x Q (m+1) a w;rw [rounds_succ];exact A7Y Γ μ a w hs hi hN hd _ hq⟩
     | ret=>exact ⟨.ret,e1,h1,hk1,hL1,fun Γ μ a w hs hi hN hd Q hq=>by
       show Code.rounds P x Q (m+1) a w;rw [rounds_succ];exact A7Y Γ μ a w hs hi hN hd _ hq⟩
   obtain ⟨x1,e1,h1,hk1,hL1,A7Y⟩:=key n (e.keep keep) h C9 hL;exact ⟨x1,e1,h1,hk1,hL1,fun Γ μ a w hs hi hN hd Q hq=>wp_loop_rounds n (A7Y Γ μ a w (hs.keep keep) hi hN hd Q hq)⟩
  ·cases hc
 | exit id =>
  intro c k e h r hc C9 hL;unfold Y4 at hc;split at hc
  ·simp at hc;subst hc;exact ⟨.exit _,e,h,C9,hL,fun Γ μ a w hs hi hN hd Q hq=>wp_exit (hq μ a w (Mu.le_refl _) (λ_ _=>rfl) hs hi hN hd)⟩
  ·cases hc
 | ret =>
  intro c k e h r hc C9 hL;unfold Y4 at hc;split at hc
  ·exact ⟨.ret,e,h,C9,hL,fun Γ μ a w hs hi hN hd Q hq=>wp_ret (hq μ a w (Mu.le_refl _) (λ_ _=>rfl) hs hi hN hd)⟩
  ·cases hc
def B0H (tmps:Array Value):ResultVar->Sem Value
 | .tmp t=>pure (tmps.getD t undef)
 | .cell a t=>do loadVar t (<-asAddr (tmps.getD a undef))
theorem D0h {Γ:Ctx} {μ:Mu} {e:Env} {h:A6} {a:Act} {w:World} {q:ResultVar} {q':ARes} {v:Val} (hs:SEnv μ e a) (hi:Inv Γ μ h w) (hc:aX P [q] [q']=true) (hv:D6l e h q'=some v) :
  ∃ V,(B0H a.tmps q).run P w=.ok V w/\RV μ v V:=by
 cases q with
 | tmp t =>
  cases q' with
  | tmp t' =>
   simp [aX] at hc;subst hc;simp [D6l] at hv;subst hv;exact ⟨_,rfl,hs t⟩
  | cell1 t'=>simp [aX] at hc
  | cellN t' n=>simp [aX] at hc
 | cell t ty =>
  cases q' with
  | tmp t'=>simp [aX] at hc
  | cell1 t' =>
   simp [aX] at hc;obtain ⟨rfl,nH⟩:=hc;simp only [D6l] at hv;obtain ⟨V,h1,h2⟩:=D0u (P:=P) (w:=w) nH hi.rows (hs t) hv;refine ⟨V,?_,h2⟩;rw [<-h1];have:∃ b,a.tmps.getD t undef=.pointer (some b):=by
    unfold B4 at hv;split at hv
    ·rename_i vG;have:=hs t;rw [vG] at this;obtain ⟨b,n,_,h3⟩:=this;exact ⟨_,h3⟩
    ·cases hv
   obtain ⟨b,hb⟩:=this;simp only [B0H,hb,Instr.loadAt,asAddr,Instr.sureAddr,pure_bind]
  | cellN t' n =>
   simp [aX] at hc;obtain ⟨⟨rfl,nH⟩,hsz⟩:=hc;simp only [D6l] at hv;obtain ⟨V,h1,h2⟩:=D0v (P:=P) (w:=w) nH hsz hi.rows (hs t) hv;refine ⟨V,?_,h2⟩;rw [<-h1];have:∃ b,a.tmps.getD t undef=.pointer (some b):=by
    unfold C8 at hv;split at hv
    ·rename_i vG;have:=hs t;rw [vG] at this;obtain ⟨b,n,_,h3⟩:=this;exact ⟨_,h3⟩
    ·cases hv
   obtain ⟨b,hb⟩:=this;simp only [B0H,hb,Instr.loadAt,asAddr,Instr.sureAddr,pure_bind]
theorem C1f {q:ResultVar} {r:List ResultVar} {q':ARes} {l:List ARes} (h:aX P (q::r) (q'::l)=true):aX P [q] [q']=true/\aX P r l=true:=by
 cases q<;>cases q'<;>simp_all [aX]
theorem C9z {Γ:Ctx} {μ:Mu} {e:Env} {h:A6} {a:Act} {w:World} (hs:SEnv μ e a) (hi:Inv Γ μ h w):∀ {qs:List ResultVar} {ls:List ARes} {ps:List Part},aX P qs ls=true->C09 e h ls=some ps ->
  ∃ Vs:List Value,(qs.mapM (B0H a.tmps)).run P w=.ok Vs w/\All2 (RP μ) ps Vs
 | [],[],ps,_,hv=>by simp [C09] at hv;subst hv;exact ⟨[],rfl,trivial⟩
 | q::qs,q'::ls,ps,hc,hv=>by
  simp only [C09,E4Z,E5i] at hv;obtain ⟨v,hv1,p,hp,l,hl,rfl⟩:=hv;obtain ⟨h1,h2⟩:=C1f hc;obtain ⟨V,h3,h4⟩:=D0h hs hi h1 hv1;obtain ⟨Vs,h5,h6⟩:=C9z hs hi h2 hl;refine ⟨V::Vs,?_,RP.ofVal h4 hp,h6⟩;rw [List.mapM_cons];simp [h3,h5]
 | [],_::_,_,h,_=>by simp [aX] at h
 | _::_,[],_,h,_=>by simp [aX] at h
theorem D3J {fn:Func} {tmps:Array Value} {w:World}:(results fn tmps).run P w=((fn.results.toList.mapM (B0H tmps)).run P w).andThen λvs w=>.ok (if h:vs.toArray.size=1 then vs.toArray[0] else .tuple vs.toArray) w:=by
 unfold results;rw [Array.mapM_eq_mapM_toList];simp only [Sem.run_bind,Sem.run_map];have key:∀ g:ResultVar->Sem Value,(∀ q,g q=B0H tmps q)->((((List.mapM g fn.results.toList).run P w).andThen λa w'=>Result.ok a.toArray w').andThen λa w'=>(pure (if h:a.size=1 then a[0] else Value.tuple a):Sem Value).run P w') =
   ((fn.results.toList.mapM (B0H tmps)).run P w).andThen λvs w=>.ok (if h:vs.toArray.size=1 then vs.toArray[0] else .tuple vs.toArray) w:=by
  intro g hg;rw [funext hg];cases (fn.results.toList.mapM (B0H tmps)).run P w<;>rfl
 exact key _ λq=>by cases q<;>rfl
theorem B4v {Γ:Ctx} {μ:Mu} {e:Env} {h h':A6} {a:Act} {w:World} {fn:Func} {rs:List ARes} {v:Val} (hs:SEnv μ e a) (hi:Inv Γ μ h w) (hc:aX P fn.results.toList rs=true) (hv:mC rs e h=some (v,h')) :
  ∃ V,(results fn a.tmps).run P w=.ok V w/\RV μ v V/\h'=h:=by
 rw [D3J];unfold mC at hv;split at hv
 ·rename_i q';simp only [E5i,Prod.mk.injEq] at hv;obtain ⟨_,h1,rfl,rfl⟩:=hv;cases hq:fn.results.toList with
  | nil=>rw [hq] at hc;simp [aX] at hc
  | cons q r =>
   cases r with
   | cons q2 r=>rw [hq] at hc;have:=(C1f hc).2;simp [aX] at this
   | nil =>
    rw [hq] at hc;obtain ⟨V,h3,h4⟩:=D0h hs hi hc h1;refine ⟨V,?_,h4,rfl⟩;rw [List.mapM_cons];simp [h3]
 ·rename_i T5;simp only [E5i,Prod.mk.injEq] at hv;obtain ⟨l,h1,rfl,rfl⟩:=hv;obtain ⟨Vs,h3,h4⟩:=C9z hs hi hc h1;refine ⟨.tuple Vs.toArray,?_,⟨Vs,rfl,h4⟩,rfl⟩;rw [h3];have hl:Vs.length≠1:=by
   rw [<-h4.length];intro h0;have:∀ (ls:List ARes) (ps:List Part),C09 e h ls=some ps->ls.length=ps.length:=by
    intro ls
    induction ls with
    | nil=>intro ps h;simp [C09] at h;subst h;rfl
    | cons x r ih =>
     intro ps h;simp only [C09,E4Z,E5i] at h;obtain ⟨_,_,_,_,l',hl',rfl⟩:=h;simp [ih l' hl']
   have h5:=this _ _ h1;rw [h0] at h5;cases rs with
   | nil=>simp at h5
   | cons q r =>
    cases r with
    | nil=>exact T5 q rfl
    | cons _ _=>simp at h5
  simp [hl]
theorem C64:∀ (args:List Val) (i t:Nat),(params i args).get t=if i<=t then (args[t-i]?).getD .un else .un
 | [],i,t=>by simp [params,Env.get]
 | v::r,i,t=>by
  simp only [params,Env.get];by_cases h:i=t
  ·subst h;simp
  ·have hb:Nat.beq i t=false:=by cases hb:Nat.beq i t with
    | false=>rfl
    | true=>exact absurd (Nat.eq_of_beq_eq_true hb) h
   rw [hb,cond_false,C64 r (i+1) t];by_cases h2:i<=t
   ·have:t-i=(t-(i+1))+1:=by omega
    rw [if_pos h2,if_pos (by omega),this,E5N]
   ·rw [if_neg h2,if_neg (by omega)]
theorem Inv.ds {Γ:Ctx} {μ:Mu} {h:A6} {w:World} (ds:List Deferred) (hi:Inv Γ μ h w):Inv { Γ with ds:=ds } μ h w :=
 ⟨hi.rows,hi.sep,hi.own,hi.dom,⟨hi.ctx.os,hi.ctx.tape,hi.ctx.output,hi.ctx.block⟩⟩
theorem D2B {μ:Mu} {args:List Val} {V:List Value} (hargs:All2 (RV μ) args V) (n:Nat):SEnv μ (params 0 args) { tmps:=V.toArray++Array.replicate n undef,defers:=[] }:=by
 intro t;rw [C64];simp only [Nat.zero_le,if_true,Nat.sub_zero];cases ha:args[t]? with
 | none=>trivial
 | some x =>
  obtain ⟨X,h2,h3⟩:=hargs.get t x ha;have U8:=(List.getElem?_eq_some_iff.1 h2).1;have:(V.toArray++Array.replicate n undef).getD t undef=X:=by
   rw [Array.getD_eq_getD_getElem?,Array.getElem?_append_left (by simpa using U8)];simp [h2]
  rw [this];exact h3
theorem E1d {E:N4} (hE:fH P E) {f:FuncId} {fn:Func} {af:AFn} (hf:P.funcs[f]?=some fn) (hc:C5T P fn af=true) {n:Nat} {args:List Val} {h h':A6} {v:Val} (C9:af.run E n args h=some (v,h')) :
  jM P f/\h.length<=h'.length/\∃ c,fn.body=some c/\∀ (Γ:Ctx) (μ:Mu) (w:World) (V:List Value),Inv Γ μ h w->All2 (RV μ) args V ->
   c.wp P (bodyPost P fn λe w'=>∃ V' μ',e=.returned V' /\ μ.le μ'/\RV μ' v V'/\Inv Γ μ' h' w'/\∀ id,id<h.length -> μ' id = μ id) { tmps:=V.toArray++Array.replicate (fn.ntmps-V.toArray.size) undef,defers:=[] } w:=by
 simp only [C5T,E42,E5O] at hc;obtain ⟨⟨hb,hr⟩,D3e⟩:=hc;cases C1C:fn.body with
 | none=>rw [C1C] at hb;cases hb
 | some c =>
  rw [C1C] at hb;unfold AFn.run at C9;obtain ⟨x,e',h1,hk,hL,vH⟩:=D4d (L:=h.length) hE n af.code c af.fin (params 0 args) h (v,h') hb C9 (E44 _);have hlen:h.length<=h'.length:=by
   cases x with
   | normal=>simp only [AFn.fin] at hk;unfold mC at hk;split at hk<;>simp at hk<;>obtain ⟨_,_,_,rfl⟩:=hk<;>exact hL
   | ret=>simp only [AFn.fin] at hk;unfold mC at hk;split at hk<;>simp at hk<;>obtain ⟨_,_,_,rfl⟩:=hk<;>exact hL
   | exit=>simp [AFn.fin] at hk
  refine ⟨⟨fn,hf,D3e,by simp [C1C]⟩,hlen,c,rfl,?_⟩;intro Γ μ w V hi hargs;refine vH { Γ with ds:=[] } μ _ w (D2B hargs _) (hi.ds []) ?_ rfl _ ?_
  ·simp;omega
  ·intro μ' a' w' g1 g2 g3 g4 g5 g6;have fin:∀ hk:mC af.res e' h1=some (v,h'),a'.defers=[]/\∃ v_1,(results fn a'.tmps).run P w'=.ok v_1 w'/\∃ V' μ',Ending.returned v_1=.returned V' /\ μ.le μ'/\RV μ' v V'/\Inv Γ μ' h' w'/\∀ id,id<h.length -> μ' id = μ id:=by
    intro hk;obtain ⟨V',h2,h3,h4⟩:=B4v g3 g4 hr hk;subst h4;exact ⟨g6,V',h2,V',μ',rfl,g1,h3,g4.ds Γ.ds,g2⟩
   cases x with
   | normal=>exact fin hk
   | ret=>exact fin hk
   | exit=>simp [AFn.fin] at hk
theorem E2U {E:N4} (hE:fH P E) {f:FuncId} {fn:Func} {af:AFn} (hf:P.funcs[f]?=some fn) (hc:C5T P fn af=true) {n:Nat} {args:List Val} {h h':A6} {v:Val} (C9:af.run E n args h=some (v,h')) :
  jM P f/\CallOk P f args h v h'/\h.length<=h'.length:=by
 obtain ⟨h1,h2,c,hb,hw⟩:=E1d hE hf hc C9;exact ⟨h1,fun Γ μ w V hi hargs=>calls_of_wp hf hb (hw Γ μ w V hi hargs),h2⟩
end
end
end Go.Esc
namespace Go.Esc
open Go Go.ChangeShapes Go.WideShapes Go.ChangeAt Go.RowKit
section
def C53 (W:World):Ctx:=⟨λb=>W.heap[b]?,W.os,W.tape,W.output,[]⟩
theorem D1d {W w:World} (h:(C53 W).ok w):Below W.heap.size W w:=by
 have hb:∀ k,k<W.heap.size->w.heap[k]?=W.heap[k]? := by
  intro k hk;have e:W.heap[k]?=some W.heap[k]:=by simp [hk]
  rw [e];exact h.block k _ e
 refine ⟨h.os,h.tape,h.output,?_,hb⟩;rcases Nat.eq_zero_or_pos W.heap.size with h0 | h0
 ·omega
 ·have:=hb (W.heap.size-1) (by omega);have e:W.heap[W.heap.size-1]?=some (W.heap[W.heap.size-1]'(by omega)):=by simp
  rw [e] at this;have:=(Array.getElem?_eq_some_iff.1 this).1;omega
theorem C8L {W w:World} {may:MemPlace->Prop} (h:Below W.heap.size W w):W.keptBut w may:=by
 refine ⟨h.os,h.output,λi hi=>?_⟩;rw [h.block i hi];cases W.heap[i]? with
 | none=>rfl
 | some o=>cases o<;>simp
section
variable {H:Type} {enc:TypeId × Value->H} {P:Program}
theorem C9D (hl:laidOutB P=true) {W W':World} (hb:Below W.heap.size W W'):∀ {ts:List TypeId} {vs:List Value} {ds:List (DataW H)} {ps:List MemPlace},
  (∀ t∈ts,P.readableRec t=true/\t<P.types.size)->(∀ x∈ps,x.block<W.heap.size)->DataW.TrodAll enc P W 0 (λ_=>true) true ts vs ds ps->DataW.TrodAll enc P W' 0 (λb=>decide (b<W.heap.size)) true ts vs ds ps
 | [],[],[],_,_,_,h=>h
 | t::ts,v::vs,d::ds,_,hts,U8,⟨p,q,h1,h2,e⟩=>by
  subst e;exact ⟨p,q,Below.trod hl (hts t (by simp)).1 (hts t (by simp)).2 h1 hb (λx hx=>U8 x (List.mem_append_left _ hx)),C9D hl hb (λt ht=>hts t (by simp [ht])) (λx hx=>U8 x (List.mem_append_right _ hx)) h2,rfl⟩
 | [],_::_,_,_,_,_,h=>by cases h
 | [],[],_::_,_,_,_,h=>by cases h
 | _::_,[],_,_,_,_,h=>by cases h
 | _::_,_::_,[],_,_,_,h=>by cases h
theorem D67 {f:Func} {s:ChangeSpec} {apart:Bool} {tb:TypeId} {W W':World} {args:Array Value} {ds gs:List (DataW H)} {before:List MemPlace}
  (hl:laidOutB P=true) (hts:∀ t∈f.params.toList,P.readableRec t=true/\t<P.types.size) (hr:f.resultTypes = #[tb]) (hb:P.underlying tb=some .bool) (hv:s.vars=[])
  (hs:∀ ds:List (DataW H),ds.length=f.params.toList.length->s.fn H ds={ results:=[.lit (.bool true)],args:=ds })
  (hW:DataW.Whole enc P f.params.toList s.vars apart W args.toList ds gs before) (hB:Below W.heap.size W W') :
  s.post enc P f apart true false false W args (.bool true) W':=by
 have U8:=hW.lt;obtain ⟨p,q,h1,h2,h3,h4,h5⟩:=id hW;rw [hv] at h2;obtain ⟨rfl,rfl⟩:=trodVars_none h2;rw [E5t] at h3;subst h3;have hd:ds.length=f.params.toList.length:=(trodAll_length h1).2;have hfn:s.fn H (ds++[])={ results:=[.lit (.bool true)],args:=ds }:=by rw [E5t];exact hs ds hd
 refine ⟨ds,[],before,[],before,[],hW,?_,?_,?_,World.keptBut_mono (λ_ h=>h) (C8L hB),λh=>by cases h⟩
 ·rw [hfn,hr];exact trodAll_mk1 (shut_bool hb true)
 ·rw [hfn];exact C9D hl hB hts U8 h1
 ·rw [hfn,hv];exact rfl
end
theorem D9f {C:Checked} {os:Os} {H:Type} {enc:TypeId × Value->H} {f:FuncId} {fn:Func} {s:ChangeSpec} {conds:List PathCond} {tb:TypeId}
  (own:ownKnob C.prog.godebug=none) (started:os.Started) (E2m:C.prog.inits.idxOf? f=none) (hfn:C.prog.funcs[f]?=some fn)
  (witness:∃ (w:World) (tape:Tape) (i:Input),w.os=os/\(w.forCall tape i).Shaped C.prog/\i.vars=[]/\Input.okWide C.prog (w.forCall tape i) .any w.heap.size f i /\
   s.pre6 enc C.prog fn conds false (w.forCall tape i).memory i.args/\Assume.holds {} C.prog (lone (Frame.enter C.prog f i.args .normal) [] (w.forCall tape i)))
  (hl:laidOutB C.prog=true) (hts:∀ t∈fn.params.toList,C.prog.readableRec t=true/\t<C.prog.types.size) (hr:fn.resultTypes = #[tb]) (hb:C.prog.underlying tb=some .bool) (hv:s.vars=[])
  (hs:∀ ds:List (DataW H),ds.length=fn.params.toList.length->s.fn H ds={ results:=[.lit (.bool true)],args:=ds })
  (walk:∀ (W:World) (base:Nat) (args:Array Value) (ds:List (DataW H)) (ps:List MemPlace),
   (∀ (j:Nat) t v,fn.params[j]?=some t->args[j]?=some v->Value.okWide C.prog W .any base t v) ->
   DataW.TrodAll enc C.prog W 0 (λ_=>true) true fn.params.toList args.toList ds ps ->
   ∃ vals h μ h',Inv (C53 W) μ h W/\All2 (RV μ) vals args.toList/\CallOk C.prog f vals h (.c (.b true)) h') :
  ReturnsInHanded {} C os f .any (s.pre6 enc C.prog fn conds false) (s.post enc C.prog fn false true false false):=by
 refine returnsInHanded_of_change own started E2m hfn witness ?_;intro W base args ds gs before C6t hW _ _;obtain ⟨p,q,hA,_⟩:=id hW;obtain ⟨vals,h,μ,h',hi,hv2,hc⟩:=walk W base args ds p (λj t v h1 h2=>C6t j t v h1 h2) hA;refine (hc (C53 W) μ W args.toList hi hv2).mono λe W' ⟨V',μ',he,_,hV,hi',_⟩=>?_
 have:V'=.bool true:=hV;subst this;exact ⟨_,he,D67 hl hts hr hb hv hs hW (D1d hi'.ctx)⟩
theorem Inv.nought (W:World):Inv (C53 W) (λ_=>Option.none) [] W where
 rows:=λid r h=>by simp [rd] at h
 sep:=λid gG r r' x x' h=>by simp [rd] at h
 own:=λid r x h=>by simp [rd] at h
 dom:=λ_ _=>rfl
 ctx:=⟨rfl,rfl,rfl,λ_ _ h=>h⟩
end
end Go.Esc
namespace Go.Esc
open Go
section
variable {R:Type} {E:N4}
theorem D7L {q:Bool} {hr:A6} {n0:Nat} {slot:Option Nat} {o:AOp} {e:Env} {h:A6} {k k':Val->A6->Option R} (hk:∀ v h p,k v h=some p->k' v h=some p) {p:R}
  (hp:aop E q hr n0 slot o e h k=some p):aop E q hr n0 slot o e h k'=some p:=by
 cases o<;>simp only [aop,E4Z] at hp ⊢ <;> first | exact hk _ _ _ hp | (obtain ⟨x,hx,hp⟩:=hp;exact ⟨x,hx,hk _ _ _ hp⟩)
theorem B4u {q:Bool} {hr:A6} {n0:Nat} {o:AOper} {e:Env} {h:A6} {k k':Val->A6->Option R} (hk:∀ v h p,k v h=some p->k' v h=some p) {p:R}
  (hp:W7 E q hr n0 o e h k=some p):W7 E q hr n0 o e h k'=some p:=by
 unfold W7 at hp ⊢;cases hg:o.guard with
 | none=>rw [hg] at hp;exact D7L hk hp
 | some g =>
  rw [hg] at hp;simp only [E4Z] at hp ⊢;obtain ⟨x,hx,hp⟩:=hp;exact ⟨x,hx,hk _ _ _ hp⟩
theorem B1e {k k':Env->A6->Option R} (hk:∀ e h p,k e h=some p->k' e h=some p):∀ {l:List AOper} {e:Env} {h:A6} {p:R},A9I E l e h k=some p->A9I E l e h k'=some p
 | [],_,_,_,hp=>hk _ _ _ hp
 | o::l,e,h,p,hp=>by
  rw [C9C] at hp ⊢;exact B4u (λv h p=>B1e hk) hp
theorem B4q {hr:A6} {n0:Nat} {k k':Env->A6->Option R} (hk:∀ e h p,k e h=some p->k' e h=some p):∀ {l:List AOper} {e:Env} {h:A6} {p:R},B2t E hr n0 l e h k=some p->B2t E hr n0 l e h k'=some p
 | [],_,_,_,hp=>hk _ _ _ hp
 | o::l,e,h,p,hp=>by
  rw [C5v] at hp ⊢;exact B4u (λv h p=>B4q hk) hp
def KLe (k k':B1z R):Prop:=∀ x e h p,k x e h=some p->k' x e h=some p
def E2R (s s':Sm R):Prop:=∀ k k':B1z R,KLe k k'->∀ e h p,s k e h=some p->s' k' e h=some p
theorem C9E {c c':Sm R} (hc:E2R c c') {keep:List Nat} {k k':B1z R} (hk:KLe k k'):∀ {n n':Nat},n<=n'->∀ e h p,A6g c keep k n e h=some p->A6g c' keep k' n' e h=some p
 | 0,_,_,e,h,p,hp=>by rw [C1b] at hp;cases hp
 | n+1,0,hn,e,h,p,hp=>by omega
 | n+1,n'+1,hn,e,h,p,hp=>by
  rw [C1a] at hp ⊢;refine hc _ _ (λx e h p hp=>?_) e h p hp;cases x with
  | normal=>exact C9E hc hk (by omega) _ _ _ hp
  | exit id=>exact hk _ _ _ _ hp
  | ret=>exact hk _ _ _ _ hp
theorem C5x {e:Env} {h:A6} {k k':Option R} {p:R} (hk:k=some p->k'=some p):∀ {l:List (Nat × AOp)},again l e h k=some p->again l e h k'=some p
 | [],hp=>hk hp
 | c::l,hp=>by
  rw [C5w] at hp ⊢;unfold agn at hp ⊢;split at hp
  ·rename_i hc;rw [if_pos hc];exact C5x hk hp
  ·cases hp
theorem B4r {n n':Nat} (hn:n<=n'):∀ c:ACode,E2R (R:=R) (aex E n c) (aex E n' c)
 | .skip=>λk k' hk e h p hp=>hk _ _ _ _ hp
 | .ops l=>λk k' hk e h p hp=>B1e (λe h p hp=>hk _ _ _ _ hp) hp
 | .draw m l r=>λk k' hk e h p hp=>B4q (λe h p hp=>B1e (λe h p hp=>hk _ _ _ _ hp) hp) hp
 | .drawS m l s chk r=>λk k' hk e h p hp=>B4q (λe h p hp=>B4u (λv h p hp=>C5x (λhp=>B1e (λe h p hp=>hk _ _ _ _ hp) hp) hp) hp) hp
 | .seq keep a b=>λk k' hk e h p hp=>by
  refine B4r hn a _ _ (λx e h p hp=>?_) e h p hp;cases x with
  | normal=>exact B4r hn b k k' hk _ _ _ hp
  | exit id=>exact hk _ _ _ _ hp
  | ret=>exact hk _ _ _ _ hp
 | .cond c a b=>λk k' hk e h p hp=>by
  change cnd (e.ev c) (aex E n a k e h) (aex E n b k e h)=some p at hp;change cnd (e.ev c) (aex E n' a k' e h) (aex E n' b k' e h)=some p;unfold cnd at hp ⊢;split at hp
  ·rename_i x _;cases x
   ·exact B4r hn b k k' hk _ _ _ hp
   ·exact B4r hn a k k' hk _ _ _ hp
  ·cases hp
 | .block id a=>λk k' hk e h p hp=>by
  refine B4r hn a _ _ (λx e h p hp=>?_) e h p hp;cases x with
  | normal=>exact hk _ _ _ _ hp
  | ret=>exact hk _ _ _ _ hp
  | exit i =>
   change (bif Nat.beq i id then k .normal e h else k (.exit i) e h)=some p at hp;change (bif Nat.beq i id then k' .normal e h else k' (.exit i) e h)=some p;cases hb:Nat.beq i id with
   | true=>simp only [hb,cond_true] at hp ⊢;exact hk _ _ _ _ hp
   | false=>simp only [hb,cond_false] at hp ⊢;exact hk _ _ _ _ hp
 | .loop keep a=>λk k' hk e h p hp=>C9E (B4r hn a) hk hn _ _ _ hp
 | .exit id=>λk k' hk e h p hp=>hk _ _ _ _ hp
 | .ret=>λk k' hk e h p hp=>hk _ _ _ _ hp
theorem D9n {f:AFn} {n n':Nat} (hn:n<=n') {args:List Val} {h:A6} {p:Val × A6} (hp:f.run E n args h=some p):f.run E n' args h=some p :=
 B4r hn f.code _ _ (λ_ _ _ _ h=>h) _ _ _ hp
open Classical in
noncomputable def Lim (f:AFn) (E:N4) (args:List Val) (h:A6):Option (Val × A6) :=
 if H:∃ p n,f.run E n args h=some p then some H.choose else none
theorem E1t {f:AFn} {n:Nat} {args:List Val} {h:A6} {p:Val × A6} (hp:f.run E n args h=some p):Lim f E args h=some p:=by
 have H:∃ p n,f.run E n args h=some p:=⟨p,n,hp⟩;unfold Lim;rw [dif_pos H];obtain ⟨m,hm⟩:=H.choose_spec;have h1:=D9n (Nat.le_max_left n m) hp;have h2:=D9n (Nat.le_max_right n m) hm;rw [h1] at h2;exact h2.symm
theorem D5n {f:AFn} {args:List Val} {h:A6} {p:Val × A6} (hp:Lim f E args h=some p):∃ n,f.run E n args h=some p:=by
 unfold Lim at hp;split at hp
 ·rename_i H;cases hp;exact H.choose_spec
 ·cases hp
end
section
def bnd {α β:Type} (x:Option α) (f:α -> Option β):Option β:=x.bind f
def mp {α β:Type} (x:Option α) (f:α -> β):Option β:=x.map f
@[congr] theorem E3N {α β:Type} {x x':Option α} {f:α -> Option β} (h:x=x'):bnd x f=bnd x' f:=by rw [h]
@[congr] theorem E4O {α β:Type} {x x':Option α} {f:α -> β} (h:x=x'):mp x f=mp x' f:=by rw [h]
@[congr] theorem E3S {R:Type} {v v':Val} {a b:Option R} (h:v=v'):cnd v a b=cnd v' a b:=by rw [h]
@[congr] theorem E4E {v v':Val} {w:Bool} {a b:Option (Val × A6)} (h:v=v'):gd v w a b=gd v' w a b:=by rw [h]
@[congr] theorem E3M {R:Type} {x x':Option Val} {v v':Val} {k:Option R} (h:x=x') (h2:v=v'):agn x v k=agn x' v' k:=by rw [h,h2]
theorem D7H {R:Type} {v:Val} {k:Option R}:agn (some v) v k=k:=Eq.trans (if_pos rfl) rfl
@[simp] theorem Q5 {α β:Type} {a:α} {f:α -> Option β}:bnd (some a) f=f a:=Eq.trans rfl rfl
@[simp] theorem E0p {α β:Type} {a:α} {f:α -> β}:mp (some a) f=some (f a):=Eq.trans rfl rfl
section
variable {R:Type} {k:IntKind} {a b:Int} {s t:List UInt8} {h:A6}
@[simp] theorem D9M:D2r (.c (.s s))=some (.c (.i .i64 s.length)):=rfl
@[simp] theorem D1b {id off len sz:Nat}:D1a (.c (.sl id off len sz))=some (.c (.i .i64 len)):=rfl
@[simp] theorem D9N:D1a (.c .ns)=some (.c (.i .i64 0)):=rfl
@[simp] theorem A0R:N5 .add (.c (.i k a)) (.c (.i k b))=some (.c (.i k (k.wrap (a+b)))):=by simp [N5,B0p]
@[simp] theorem D7F:N5 .sub (.c (.i k a)) (.c (.i k b))=some (.c (.i k (k.wrap (a-b)))):=by simp [N5,B0p]
@[simp] theorem D7D:N5 .mul (.c (.i k a)) (.c (.i k b))=some (.c (.i k (k.wrap (a*b)))):=by simp [N5,B0p]
@[simp] theorem D2l (hb:b≠0):N5 .quo (.c (.i k a)) (.c (.i k b))=some (.c (.i k (k.wrap (a.tdiv b)))):=by simp [N5,B0p,hb]
@[simp] theorem D2m (hb:b≠0):N5 .rem (.c (.i k a)) (.c (.i k b))=some (.c (.i k (a.tmod b))):=by simp [N5,B0p,hb]
theorem D7A:N5 .and (.c (.i k a)) (.c (.i k b))=some (.c (.i k (k.wrap (BitVec.ofInt k.bits a &&& BitVec.ofInt k.bits b).toNat))):=by simp [N5,B0p]
theorem D05:N5 .or (.c (.i k a)) (.c (.i k b))=some (.c (.i k (k.wrap (BitVec.ofInt k.bits a ||| BitVec.ofInt k.bits b).toNat))):=by simp [N5,B0p]
theorem D2n:N5 .xor (.c (.i k a)) (.c (.i k b))=some (.c (.i k (k.wrap (BitVec.ofInt k.bits a ^^^ BitVec.ofInt k.bits b).toNat))):=by simp [N5,B0p]
@[simp] theorem vW:N5 .eql (.c (.i k a)) (.c (.i k b))=some (.c (.b (decide (a=b)))):=by simp [N5,B0p];rfl
@[simp] theorem D7E:N5 .neq (.c (.i k a)) (.c (.i k b))=some (.c (.b (decide (a≠b)))):=by simp [N5,B0p];by_cases h:a=b<;>simp [h]
@[simp] theorem A0S:N5 .lss (.c (.i k a)) (.c (.i k b))=some (.c (.b (decide (a<b)))):=by simp [N5,B0p]
@[simp] theorem D7C:N5 .leq (.c (.i k a)) (.c (.i k b))=some (.c (.b (decide (a<=b)))):=by simp [N5,B0p]
@[simp] theorem D7B:N5 .gtr (.c (.i k a)) (.c (.i k b))=some (.c (.b (decide (b<a)))):=by simp [N5,B0p]
@[simp] theorem C5s:N5 .geq (.c (.i k a)) (.c (.i k b))=some (.c (.b (decide (b<=a)))):=by simp [N5,B0p]
@[simp] theorem B9t:N5 .eql (.c (.s s)) (.c (.s t))=some (.c (.b (decide (s=t)))):=by simp [N5,D9t];by_cases h:s=t<;>simp [h]
@[simp] theorem D6j:N5 .neq (.c (.s s)) (.c (.s t))=some (.c (.b (decide (s≠t)))):=by simp [N5,D9t];by_cases h:s=t<;>simp [h]
@[simp] theorem D6i:N5 .lss (.c (.s s)) (.c (.s t))=some (.c (.b (K9 s t))):=by simp [N5,D9t]
@[simp] theorem D9X {x:Bool}:aun .not (.c (.b x))=some (.c (.b (!x))):=rfl
@[simp] theorem D9J {n:Bool}:D08 true n (.c .nf)=some (.c (.b (!n))):=Eq.trans rfl rfl
@[simp] theorem E1z {n:Bool} {f:Nat} {cs:List (Nat × Nat)}:D08 true n (.c (.f f cs))=some (.c (.b n)):=Eq.trans rfl rfl
@[simp] theorem D9K {n:Bool}:D08 false n (.c .np)=some (.c (.b (!n))):=Eq.trans rfl rfl
@[simp] theorem E1A {n:Bool} {id off:Nat}:D08 false n (.c (.p id off))=some (.c (.b n)):=Eq.trans rfl rfl
@[simp] theorem D9P {id off:Nat}:A4i (.c (.p id off))=some (.c (.p id off)):=Eq.trans rfl rfl
@[simp] theorem D9W:aun .neg (.c (.i k a))=some (.c (.i k (k.wrap (0-a)))):=rfl
@[simp] theorem E1w {x y:Bool}:D4c false (.c (.b x)) (.c (.b y))=some (.c (.b (x==y))):=rfl
@[simp] theorem E1v {x y:Bool}:D4c true (.c (.b x)) (.c (.b y))=some (.c (.b (!(x==y)))):=rfl
@[simp] theorem D9H {k':IntKind}:D2o k (.c (.i k' a))=some (.c (.i k (k.wrap a))):=rfl
@[simp] theorem D5w {x:Bool} {u v:Val}:D2z (.c (.b x)) u v=some (bif x then u else v):=rfl
@[simp] theorem E2X {w:Bool} {u v:Option (Val × A6)}:gd .no w u v=v:=Eq.trans rfl rfl
@[simp] theorem E2Z {u v:Option (Val × A6)}:gd (.c (.b true)) true u v=u:=Eq.trans rfl rfl
@[simp] theorem E2Y {u v:Option (Val × A6)}:gd (.c (.b true)) false u v=v:=Eq.trans rfl rfl
@[simp] theorem E2W {u v:Option (Val × A6)}:gd (.c (.b false)) true u v=v:=Eq.trans rfl rfl
@[simp] theorem E1e {u v:Option (Val × A6)}:gd (.c (.b false)) false u v=u:=Eq.trans rfl rfl
@[simp] theorem D5C {u v:Option R}:cnd (.c (.b true)) u v=u:=Eq.trans rfl rfl
@[simp] theorem C50 {u v:Option R}:cnd (.c (.b false)) u v=v:=Eq.trans rfl rfl
@[simp] theorem D9L {i:Nat}:C5y (.c (.s s)) (.c (.i k i))=(s[i]?).map λb=>.c (.i .u8 b.toNat):=by simp [C5y]
@[simp] theorem E1B {l:List Part} {i:Nat}:D4e (.t l) i=(l[i]?).map ofPart:=rfl
@[simp] theorem D8V {x:Cell}:ofPart (.c x)=.c x:=rfl
@[simp] theorem D8U {l:List Cell}:ofPart (.a l)=.a l:=rfl
@[simp] theorem E0t {x:Cell}:pA (.c x)=some (.c x):=rfl
@[simp] theorem D5X {l:List Cell}:pA (.a l)=some (.a l):=rfl
@[simp] theorem D7Y {x:Cell}:cells? (.c x)=some [x]:=rfl
@[simp] theorem C5M {l:List Cell}:cells? (.a l)=some l:=rfl
@[simp] theorem E2K {u v:Option Val}:C7B [u,v] h=bnd u λu=>bnd (pA u) λp=>bnd v λv=>bnd (pA v) λq=>some (.t [p,q],h):=by
 cases u with
 | none=>rfl
 | some u=>cases v with
  | none=>cases hu:pA u<;>simp [C7B,C7C,hu]<;>rfl
  | some v=>cases hu:pA u<;>cases hv:pA v<;>simp [C7B,C7C,hu,hv]<;>rfl
@[simp] theorem E2L {u v w:Option Val}:C7B [u,v,w] h=bnd u λu=>bnd (pA u) λp=>bnd v λv=>bnd (pA v) λq=>bnd w λw=>bnd (pA w) λr=>some (.t [p,q,r],h):=by
 cases u with
 | none=>rfl
 | some u=>cases v with
  | none=>cases hu:pA u<;>simp [C7B,C7C,hu]<;>rfl
  | some v=>cases w with
   | none=>cases hu:pA u<;>cases hv:pA v<;>simp [C7B,C7C,hu,hv]<;>rfl
   | some w=>cases hu:pA u<;>cases hv:pA v<;>cases hw:pA w<;>simp [C7B,C7C,hu,hv,hw]<;>rfl
theorem wrap_i64 (h1:-9223372036854775808<=a) (h2:a<9223372036854775808):IntKind.wrap .i64 a=a:=by
 change (if (true&&decide (a%18446744073709551616>=9223372036854775808))=true then a%18446744073709551616-18446744073709551616 else a%18446744073709551616)=a;by_cases h:a%18446744073709551616>=9223372036854775808
 ·simp only [h,decide_true,E5d,if_true];omega
 ·simp only [h,decide_false,E5Y,Bool.false_eq_true,if_false];omega
theorem wrap_u64 (h1:0<=a) (h2:a<18446744073709551616):IntKind.wrap .u64 a=a:=by
 simp only [IntKind.wrap,IntKind.bits,IntKind.signed,E48];have e1:(2:Int) ^ 64=18446744073709551616:=rfl;rw [e1];simp only [Bool.false_eq_true,if_false];omega
theorem wrap_u32 (h1:0<=a) (h2:a<4294967296):IntKind.wrap .u32 a=a:=by
 simp only [IntKind.wrap,IntKind.bits,IntKind.signed,E48];have e1:(2:Int) ^ 32=4294967296:=rfl;rw [e1];simp only [Bool.false_eq_true,if_false];omega
theorem wrap_u8 (h1:0<=a) (h2:a<256):IntKind.wrap .u8 a=a:=by
 simp only [IntKind.wrap,IntKind.bits,IntKind.signed,E48];have e1:(2:Int) ^ 8=256:=rfl;rw [e1];simp only [Bool.false_eq_true,if_false];omega
end
theorem Grows.rfl' {h:A6}:Grows h h:=⟨List.prefix_refl _,λid x hid hx=>by have:=C5 hx;omega⟩
theorem Grows.trans' {a b c:A6} (h1:Grows a b) (h2:Grows b c):Grows a c:=by
 refine ⟨h1.1.trans h2.1,λid x hid hx=>?_⟩;by_cases hb:b.length<=id
 ·exact h2.2 id x hb hx
 ·refine h1.2 id x hid ?_;obtain ⟨t,rfl⟩:=h2.1;rw [<-hx];unfold rd;rw [E5z (by omega)]
theorem Grows.rd {a b:A6} (h1:Grows a b) {id:Nat} {r:Row} (hr:rd a id=some r):rd b id=some r:=by
 obtain ⟨t,rfl⟩:=h1.1;rw [D4 (C5 hr)];exact hr
theorem Grows.len {a b:A6} (h1:Grows a b):a.length<=b.length:=h1.1.length_le
theorem Grows.new {a b:A6} (h1:Grows a b) (cs:List Cell):Grows a (b++[some ⟨cs,true⟩]):=by
 refine h1.trans' ⟨List.prefix_append _ _,λid x hid hx=>?_⟩;unfold Go.Esc.rd at hx;rw [E5e hid] at hx;cases hj:id-b.length with
 | zero=>rw [hj] at hx;simp at hx;subst hx;rfl
 | succ j=>rw [hj] at hx;simp at hx
theorem Grows.set {a b:A6} (h1:Grows a b) {id:Nat} (hid:a.length<=id) (cs:List Cell):Grows a (b.set id (some ⟨cs,true⟩)):=by
 obtain ⟨⟨t,rfl⟩,h2⟩:=h1;refine ⟨⟨t.set (id-a.length) (some ⟨cs,true⟩),by rw [E5A _ _ hid]⟩,λi x hi hx=>?_⟩;by_cases e:id=i
 ·subst e;have hl:=C5 hx;simp at hl;rw [B7 (by simpa using hl)] at hx;cases hx;rfl
 ·rw [A7 e] at hx;exact h2 i x hi hx
theorem U9 {h h':A6} {v:Val} (hg:Grows h h'):quiet h (some (v,h'))=some (v,h'):=by
 unfold quiet;simp only [E49];rw [if_pos];exact hg
theorem S8 {h:A6} {r:Row}:rd (h++[some r]) h.length=some r:=by
 unfold rd;simp
section
variable {h:A6} {id off n sz:Nat} {cs xs:List Cell} {x:Cell} {k:IntKind} {rw:Bool}
theorem B5 (hr:rd h id=some ⟨cs,rw⟩) {c:Cell} (hc:cs[off]?=some c) (hd:(rw || !c.isX)=true):B4 h (.c (.p id off))=some (.c c):=by
 simp [B4,hr,hc,hd]
theorem cP (hr:rd h id=some ⟨cs,rw⟩) (hl:off+n<=cs.length) (hd:(rw||noX ((cs.drop off).take n))=true):C8 h n (.c (.p id off))=some (.a ((cs.drop off).take n)):=by
 simp only [C8,hr,E49];rw [if_pos ⟨hl,hd⟩]
theorem B8 (hr:rd h id=some ⟨cs,true⟩) (hl:cs.length=n):C8 h n (.c (.p id 0))=some (.a cs):=by
 rw [cP hr (by omega) rfl,E5k,E5b (by omega)]
theorem F5 (hr:rd h id=some ⟨cs,true⟩) (hl:off<cs.length):F9 h (.c (.p id off)) (.c x)=some (h.set id (some ⟨cs.set off x,true⟩)):=by
 simp [F9,hr,hl]
theorem B1w (hr:rd h id=some ⟨cs,true⟩) (hx:xs.length=n) (hl:off+n<=cs.length):E1 h n (.c (.p id off)) (.a xs)=some (h.set id (some ⟨lay cs off xs,true⟩)):=by
 simp [E1,hr,hl,hx]
theorem lay_all (hx:xs.length=cs.length):lay cs 0 xs=xs:=by simp [lay,hx]
theorem storeAll (hr:rd h id=some ⟨cs,true⟩) (hl:cs.length=n) (hx:xs.length=n):E1 h n (.c (.p id 0)) (.a xs)=some (h.set id (some ⟨xs,true⟩)):=by
 rw [B1w hr hx (by omega),lay_all (by omega)]
theorem J4 {j:Nat} (hj:j<n):J3 n sz (.c (.p id off)) (.c (.i k j))=some (.c (.p id (off+j*sz))):=by
 simp only [J3];rw [if_pos ⟨by omega,by omega⟩];simp
theorem C4 {len j:Nat} (hj:j<len):D5 sz (.c (.sl id off len sz)) (.c (.i k j))=some (.c (.p id (off+j*sz))):=by
 simp only [D5];rw [if_pos ⟨by omega,by omega,trivial⟩];simp
theorem B63 {l:List Cell} {j:Nat} (hj:j<n):A3v n (.a l) (.c (.i k j))=(l[j]?).map .c:=by
 simp only [A3v];rw [if_pos ⟨by omega,by omega⟩];simp
end
theorem gJ (l:List UInt8) (i:Nat) (x:UInt8):(A5 l).set i (.i .u8 x.toNat)=A5 (l.set i x):=by simp [A5,List.map_set]
theorem bB (l:List UInt8) (i:Nat):(A5 l)[i]?=(l[i]?).map λx=>.i .u8 x.toNat:=by simp [A5]
theorem J9 (l m:List UInt8):A5 (l++m)=A5 l++A5 m:=by simp [A5]
theorem C9Q (l:List UInt8) (n:Nat):(A5 l).drop n=A5 (l.drop n):=by simp [A5]
theorem C9R (l:List UInt8) (n:Nat):(A5 l).take n=A5 (l.take n):=by simp [A5]
def zeros (n:Nat):List UInt8:=E41 n 0
@[simp] theorem zeros_length {n:Nat}:(zeros n).length=n:=by simp [zeros]
theorem I5 (n:Nat):E41 n (Cell.i .u8 0)=A5 (zeros n):=by simp [A5,zeros]
theorem F0 (l:List UInt8):noX (A5 l)=true:=by simp [noX,A5,Cell.isX]
theorem D22 {l m:List UInt8}:A5 l=A5 m↔l=m:=by
 constructor
 ·intro h;refine List.map_inj_right (λx y e=>?_) |>.1 h
  simp at e;exact UInt8.toNat_inj.1 (by omega)
 ·rintro rfl;rfl
end
section
def Cell.flat:Cell->Bool
 | .b _=>true
 | .i _ _=>true
 | .s _=>true
 | .np=>true
 | .ns=>true
 | .nf=>true
 | .nm=>true
 | _=>false
def N7 (l:List Cell):Bool:=l.all Cell.flat
def Row.dim (r:Row):List Cell:=bif r.head then r.cells.map λ_=>.dark else r.cells
def ro (h:A6):A6:=h.map λr=>r.map λr=>⟨r.dim,false⟩
theorem Row.dim_own (r:Row):(Row.mk r.dim false).own=false:=by
 obtain ⟨cs,w⟩:=r;unfold Row.dim;cases hh:Row.head ⟨cs,w⟩ with
 | false=>simpa [Row.own,Row.head] using hh
 | true =>
  cases cs with
  | nil=>rfl
  | cons c cs=>rfl
theorem E7 {h:A6}:(ro h).length=h.length:=by simp [ro]
theorem D0n {h:A6} {id:Nat}:rd (ro h) id=(rd h id).map λr=>⟨r.dim,false⟩:=by
 unfold rd ro;rw [List.getElem?_map];cases h[id]? with
 | none=>rfl
 | some x=>cases x<;>rfl
theorem B7E {h:A6} {id:Nat} {r:Row} (hr:rd h id=some r) (hh:r.head=false):rd (ro h) id=some ⟨r.cells,false⟩:=by
 rw [D0n,hr];show some (Row.mk r.dim false)=_;unfold Row.dim;rw [hh];rfl
theorem D8s {cs:List Cell} {w:Bool} (h:noX cs=true):(Row.mk cs w).head=false:=by
 cases cs with
 | nil=>rfl
 | cons c cs=>cases c<;>first | rfl | (simp [noX,Cell.isX] at h)
theorem B7F {h:A6} {id:Nat} {cs:List Cell} {w:Bool} (hr:rd h id=some ⟨cs,w⟩) (hx:noX cs=true):rd (ro h) id=some ⟨cs,false⟩:=B7E hr (D8s hx)
def newRow (h:A6) (id:Nat):Bool :=
 match rd h id with
 | some r=>r.rw&&N7 r.cells
 | none=>false
def Cell.low (b:Nat):Cell->Bool
 | .p id _=>decide (id<b)
 | .sl id _ _ _=>decide (id<b)
 | .f _ caps=>caps.all λq=>decide (q.1<b)
 | .m id=>decide (id<b)
 | c=>c.flat
def Q6 (h:A6) (b:Nat):List Nat->List Cell->Option (List Cell × List Nat)
 | seen,[]=>some ([],seen)
 | seen,c::r=>if c.low b=true then (Q6 h b seen r).map λp=>(c::p.1,p.2) else
  match c with
  | .sl id off len sz=>if b<=id/\id ∉ seen/\newRow h id=true then (Q6 h b (seen++[id]) r).map λp=>(.sl (b+seen.length) off len sz::p.1,p.2) else none
  | _=>none
def fT (h:A6) (b:Nat):List Nat->List Part->Option (List Part × List Nat)
 | seen,[]=>some ([],seen)
 | seen,.c x::r=>(Q6 h b seen [x]).bind λp=>match p.1 with
  | [y]=>(fT h b p.2 r).map λq=>(.c y::q.1,q.2)
  | _=>none
 | seen,.a l::r=>(Q6 h b seen l).bind λp=>(fT h b p.2 r).map λq=>(.a p.1::q.1,q.2)
def W8 (h:A6) (b:Nat):Val->Option (Val × List Nat)
 | .c x=>(Q6 h b [] [x]).bind λp=>match p.1 with
  | [y]=>some (.c y,p.2)
  | _=>none
 | .a l=>(Q6 h b [] l).map λp=>(.a p.1,p.2)
 | .t l=>(fT h b [] l).map λp=>(.t p.1,p.2)
 | _=>none
def C7z (F:List Val->A6->Option (Val × A6)) (args:List Val) (h:A6):Option (Val × A6) :=
 (F args (ro h)).bind λp=>(W8 p.2 h.length p.1).map λq=>(q.1,h++q.2.map (rd p.2))
def tidy (F:List Val->A6->Option (Val × A6)) (args:List Val) (h:A6):Option (Val × A6) :=
 match C7z F args h with
 | some r=>some r
 | none=>F args h
theorem RC.flat {μ μ':Mu} {c:Cell} {V:Value} (hf:c.flat=true) (h:RC μ c V):RC μ' c V:=by
 cases c<;>first | exact h | cases hf
theorem RC.low {μ μ':Mu} {b:Nat} (hb:∀ id,id<b -> μ' id = μ id) {c:Cell} {V:Value} (hf:c.low b=true) (h:RC μ c V):RC μ' c V:=by
 cases c with
 | p id off =>
  obtain ⟨x,n,h1,h2⟩:=h;exact ⟨x,n,by rw [hb id (of_decide_eq_true hf)];exact h1,h2⟩
 | sl id off len sz =>
  rcases h with ⟨x,n,cap,h1,h2⟩ | h
  ·exact .inl ⟨x,n,cap,by rw [hb id (of_decide_eq_true hf)];exact h1,h2⟩
  ·exact .inr h
 | f fn caps =>
  obtain ⟨cs,h1,h2⟩:=h;refine ⟨cs,h1,?_⟩;have hf':(caps.all λq=>decide (q.1<b))=true:=hf
  clear h1 hf
  induction caps generalizing cs with
  | nil=>cases cs with
   | nil=>trivial
   | cons=>exact h2.elim
  | cons q r ih=>cases cs with
   | nil=>exact h2.elim
   | cons V vs =>
    rw [E5J,E42] at hf';obtain ⟨x,n,g1,g2⟩:=h2.1;exact ⟨⟨x,n,by rw [hb q.1 (of_decide_eq_true hf'.1)];exact g1,g2⟩,ih vs h2.2 hf'.2⟩
 | m id =>
  obtain ⟨x,n,h1,h2⟩:=h;exact ⟨x,n,by rw [hb id (of_decide_eq_true hf)];exact h1,h2⟩
 | _=>exact RC.flat hf h
theorem Cell.low_of_flat {b:Nat} {c:Cell} (h:c.flat=true):c.low b=true:=by
 cases c<;>first | exact h | cases h
theorem C6g {c:Cell} {l:List Cell}:N7 (c::l)=(c.flat&&N7 l):=rfl
theorem All2.flat {μ μ':Mu}:∀ {l:List Cell} {vs:List Value},N7 l=true->All2 (RC μ) l vs->All2 (RC μ') l vs
 | [],[],_,_=>trivial
 | c::l,V::vs,hf,⟨h1,h2⟩=>by
  rw [C6g,E42] at hf;exact ⟨h1.flat hf.1,All2.flat hf.2 h2⟩
 | [],_::_,_,h=>h.elim
 | _::_,[],_,h=>h.elim
structure Good (h:A6) (b:Nat) (ids:List Nat):Prop where
 nd:ids.Nodup
 ok:∀ id∈ids,b<=id/\∃ r,rd h id=some r/\r.rw=true/\N7 r.cells=true
theorem Good.nil {h:A6} {b:Nat}:Good h b []:=⟨List.nodup_nil,λ_ h=>by cases h⟩
theorem Good.snoc {h:A6} {b:Nat} {ids:List Nat} (hg:Good h b ids) {id:Nat} (h1:b<=id) (h2:id ∉ ids) (h3:newRow h id=true):Good h b (ids++[id]):=by
 refine ⟨?_,λi hi=>?_⟩
 ·rw [List.nodup_append];exact ⟨hg.nd,by simp,λa ha c hc e=>by simp at hc;subst hc;subst e;exact h2 ha⟩
 ·rw [List.mem_append] at hi;rcases hi with hi | hi
  ·exact hg.ok i hi
  ·simp at hi;subst hi;refine ⟨h1,?_⟩;unfold newRow at h3;cases hr:rd h i with
   | none=>rw [hr] at h3;cases h3
   | some r=>rw [hr] at h3;rw [E42] at h3;exact ⟨r,rfl,h3.1,h3.2⟩
def nu (μ μ':Mu) (b:Nat) (ids:List Nat):Mu:=λid=>if id<b then μ id else (ids[id-b]?).bind μ'
theorem A4m {h:A6} {b:Nat} {μ μ':Mu} (hlow:∀ id,id<b -> μ' id = μ id):∀ (l:List Cell) (seen:List Nat) (l2:List Cell) (fin:List Nat),Q6 h b seen l=some (l2,fin)->Good h b seen ->
  Good h b fin/\seen <+: fin/\∀ ids,fin <+: ids->∀ vs:List Value,All2 (RC μ') l vs->All2 (RC (nu μ μ' b ids)) l2 vs:=by
 intro l
 induction l with
 | nil =>
  intro seen l2 fin hc hg;simp only [Q6,Option.some.injEq,Prod.mk.injEq] at hc;obtain ⟨rfl,rfl⟩:=hc;exact ⟨hg,List.prefix_refl _,λids _ vs hv=>by cases vs with
   | nil=>trivial
   | cons=>exact hv.elim⟩
 | cons c r ih =>
  intro seen l2 fin hc hg;unfold Q6 at hc;split at hc
  ·rename_i hf;simp only [E5i,Prod.mk.injEq] at hc;obtain ⟨p,hp,rfl,rfl⟩:=hc;obtain ⟨h1,h2,h3⟩:=ih seen p.1 p.2 hp hg;refine ⟨h1,h2,λids hi vs hv=>?_⟩;cases vs with
   | nil=>exact hv.elim
   | cons V vs=>exact ⟨RC.low (b:=b) (λid hid=>by unfold nu;rw [if_pos hid];exact (hlow id hid).symm) hf hv.1,h3 ids hi vs hv.2⟩
  ·split at hc
   ·rename_i id off len sz _;split at hc
    ·rename_i A05;simp only [E5i,Prod.mk.injEq] at hc;obtain ⟨p,hp,rfl,rfl⟩:=hc;obtain ⟨h1,h2,h3⟩:=ih _ p.1 p.2 hp (hg.snoc A05.1 A05.2.1 A05.2.2);refine ⟨h1,(List.prefix_append _ _).trans h2,λids hi vs hv=>?_⟩;cases vs with
     | nil=>exact hv.elim
     | cons V vs =>
      refine ⟨?_,h3 ids hi vs hv.2⟩;have hn:nu μ μ' b ids (b+seen.length) = μ' id:=by
       unfold nu;rw [if_neg (by omega),Nat.add_sub_cancel_left];obtain ⟨t,ht⟩:=h2.trans hi;rw [<-ht,E45,E5e (E44 _)];simp
      rcases hv.1 with ⟨x,n,cap,g1,g2⟩ | g
      ·exact .inl ⟨x,n,cap,by rw [hn];exact g1,g2⟩
      ·exact .inr g
    ·cases hc
   ·cases hc
theorem D6q {h:A6} {b:Nat} {μ μ':Mu} (hlow:∀ id,id<b -> μ' id = μ id):∀ (l:List Part) (seen:List Nat) (l2:List Part) (fin:List Nat),fT h b seen l=some (l2,fin)->Good h b seen ->
  Good h b fin/\seen <+: fin/\∀ ids,fin <+: ids->∀ vs:List Value,All2 (RP μ') l vs->All2 (RP (nu μ μ' b ids)) l2 vs:=by
 intro l
 induction l with
 | nil =>
  intro seen l2 fin hc hg;simp only [fT,Option.some.injEq,Prod.mk.injEq] at hc;obtain ⟨rfl,rfl⟩:=hc;exact ⟨hg,List.prefix_refl _,λids _ vs hv=>by cases vs with
   | nil=>trivial
   | cons=>exact hv.elim⟩
 | cons c r ih =>
  intro seen l2 fin hc hg;cases c with
  | c x =>
   simp only [fT,E4Z] at hc;obtain ⟨⟨l3,f3⟩,hp,hc⟩:=hc;obtain ⟨h1,h2,h3⟩:=A4m (μ:=μ) (μ':=μ') hlow [x] seen l3 f3 hp hg;split at hc
   ·rename_i y vG;simp only at vG;subst vG;simp only [E5i,Prod.mk.injEq] at hc;obtain ⟨q,hq,rfl,rfl⟩:=hc;obtain ⟨g1,g2,g3⟩:=ih f3 q.1 q.2 hq h1;refine ⟨g1,h2.trans g2,λids hi vs hv=>?_⟩;cases vs with
    | nil=>exact hv.elim
    | cons V vs=>exact ⟨(h3 ids (g2.trans hi) [V] ⟨hv.1,trivial⟩).1,g3 ids hi vs hv.2⟩
   ·cases hc
  | a x =>
   simp only [fT,E4Z] at hc;obtain ⟨⟨l3,f3⟩,hp,hc⟩:=hc;obtain ⟨h1,h2,h3⟩:=A4m (μ:=μ) (μ':=μ') hlow x seen l3 f3 hp hg;simp only [E5i,Prod.mk.injEq] at hc;obtain ⟨q,hq,rfl,rfl⟩:=hc;obtain ⟨g1,g2,g3⟩:=ih f3 q.1 q.2 hq h1;refine ⟨g1,h2.trans g2,λids hi vs hv=>?_⟩;cases vs with
   | nil=>exact hv.elim
   | cons V vs =>
    obtain ⟨Vs,hV,h4⟩:=hv.1;exact ⟨⟨Vs,hV,h3 ids (g2.trans hi) Vs h4⟩,g3 ids hi vs hv.2⟩
theorem D6r {h:A6} {b:Nat} {μ μ':Mu} (hlow:∀ id,id<b -> μ' id = μ id) {v v2:Val} {fin:List Nat} (hc:W8 h b v=some (v2,fin)):Good h b fin/\∀ V,RV μ' v V->RV (nu μ μ' b fin) v2 V:=by
 cases v with
 | c x =>
  simp only [W8,E4Z] at hc;obtain ⟨⟨l3,f3⟩,hp,hc⟩:=hc;obtain ⟨h1,h2,h3⟩:=A4m (μ:=μ) (μ':=μ') hlow [x] [] l3 f3 hp Good.nil;split at hc
  ·rename_i y vG;simp only at vG;subst vG;simp only [Option.some.injEq,Prod.mk.injEq] at hc;obtain ⟨rfl,rfl⟩:=hc;exact ⟨h1,λV hV=>(h3 _ (List.prefix_refl _) [V] ⟨hV,trivial⟩).1⟩
  ·cases hc
 | a l =>
  simp only [W8,E5i,Prod.mk.injEq] at hc;obtain ⟨p,hp,rfl,rfl⟩:=hc;obtain ⟨h1,h2,h3⟩:=A4m (μ:=μ) (μ':=μ') hlow l [] p.1 p.2 hp Good.nil;refine ⟨h1,λV hV=>?_⟩;obtain ⟨vs,e,h4⟩:=hV;exact ⟨vs,e,h3 _ (List.prefix_refl _) vs h4⟩
 | t l =>
  simp only [W8,E5i,Prod.mk.injEq] at hc;obtain ⟨p,hp,rfl,rfl⟩:=hc;obtain ⟨h1,h2,h3⟩:=D6q (μ:=μ) (μ':=μ') hlow l [] p.1 p.2 hp Good.nil;refine ⟨h1,λV hV=>?_⟩;obtain ⟨vs,e,h4⟩:=hV;exact ⟨vs,e,h3 _ (List.prefix_refl _) vs h4⟩
 | un=>simp [W8] at hc
 | no=>simp [W8] at hc
def D1M (μ:Mu) (h:A6) (b:Nat):Prop:=∃ id r n,rd h id=some r /\ μ id=some (b,n)
open Classical in
noncomputable def Ctx.hold (Γ:Ctx) (μ:Mu) (h:A6) (w:World):Ctx:={ Γ with F:=λb=>if D1M μ h b then w.heap[b]? else Γ.F b }
theorem Inv.hold {Γ:Ctx} {μ:Mu} {h:A6} {w:World} (hi:Inv Γ μ h w):Inv (Γ.hold μ h w) μ (ro h) w where
 rows id r hr:=by
  rw [D0n,E5i] at hr;obtain ⟨r0,h0,rfl⟩:=hr;have hth:=hi.rows id r0 h0;have this:=hth;unfold RowOk at this ⊢;cases hm:μ id with
  | none =>
   rw [hm] at this;show r0.dim=[];unfold Row.dim;rw [this];cases r0.head<;>rfl
  | some x =>
   rw [hm] at this;obtain ⟨o,ho⟩:=hth.there hm;have U8:=(Array.getElem?_eq_some_iff.1 ho).1;cases hh:r0.head with
   | true =>
    refine .inr (.inr ⟨rfl,U8,?_⟩);show r0.dim.all Cell.isD=true;unfold Row.dim;rw [hh];simp [Cell.isD]
   | false =>
    have hd:r0.dim=r0.cells:=by unfold Row.dim;rw [hh];rfl
    rw [hd];rcases this with ⟨C,elem,fz,h1,h2,h3,h4⟩ | ⟨es,E,h1,_⟩ | ⟨h1,h2,h3⟩
    ·refine .inl ⟨C,elem,fz,h1,h2,h3.mono λc V hc=>?_,λhf=>by cases hf⟩;rcases hc with hc | ⟨_,hc⟩
     ·exact .inl hc
     ·exact .inr ⟨rfl,hc⟩
    ·rw [h1,Row.head_mrow] at hh;cases hh
    ·exact .inr (.inr ⟨rfl,h2,h3⟩)
 sep id gG r r' x x' hr hr' hw:=by
  rw [D0n,E5i] at hr;obtain ⟨r0,h0,rfl⟩:=hr;rw [Row.dim_own] at hw;cases hw
 own id r x hr hw:=by
  rw [D0n,E5i] at hr;obtain ⟨r0,h0,rfl⟩:=hr;rw [Row.dim_own] at hw;cases hw
 dom id hl:=hi.dom id (by simpa [E7] using hl)
 ctx:=⟨hi.ctx.os,hi.ctx.tape,hi.ctx.output,λb o ho=>by
  unfold Ctx.hold at ho;simp only at ho;split at ho
  ·exact ho
  ·exact hi.ctx.block b o ho⟩
theorem Inv.held {Γ:Ctx} {μ μ':Mu} {h h':A6} {w w':World} (hi:Inv Γ μ h w) (hj:Inv (Γ.hold μ h w) μ' h' w') {ids:List Nat} (hg:Good h' h.length ids) :
  Inv Γ (nu μ μ' h.length ids) (h++ids.map (rd h')) w':=by
 have same:∀ b,D1M μ h b->w'.heap[b]?=w.heap[b]? := by
  intro b hb;have hb':=hb;obtain ⟨id,r,n,hr,hm⟩:=hb;obtain ⟨o,h1⟩:=(hi.rows id r hr).there hm;have h2:(Γ.hold μ h w).F b=some o:=by
   unfold Ctx.hold;simp only;rw [if_pos hb'];exact h1
  rw [hj.ctx.block b _ h2,h1]
 have lo:∀ id,id<h.length->nu μ μ' h.length ids id = μ id:=λid hl=>by unfold nu;rw [if_pos hl]
 have bO:μ.le (nu μ μ' h.length ids):=λid x hx=>by
  by_cases hl:id<h.length
  ·rw [lo id hl];exact hx
  ·rw [hi.dom id (by omega)] at hx;cases hx
 have get:∀ id r,rd (h++ids.map (rd h')) id=some r->(id<h.length/\rd h id=some r)\/(∃ j,ids[id-h.length]?=some j/\h.length<=id/\rd h' j=some r/\nu μ μ' h.length ids id = μ' j/\j∈ids/\r.rw=true/\N7 r.cells=true):=by
  intro id r hr;by_cases hl:id<h.length
  ·rw [D4 hl] at hr;exact .inl ⟨hl,hr⟩
  ·right
   unfold rd at hr;rw [E5e (by omega),List.getElem?_map] at hr;cases hj':ids[id-h.length]? with
   | none=>rw [hj'] at hr;cases hr
   | some j =>
    rw [hj'] at hr;change rd h' j=some r at hr;have wN:j∈ids:=E5s hj';obtain ⟨_,r2,zN,h1,h2⟩:=hg.ok j wN;rw [hr] at zN;cases zN;refine ⟨j,rfl,by omega,hr,?_,wN,h1,h2⟩;unfold nu;rw [if_neg hl,hj'];rfl
 have fnew:∀ j r x,rd h' j=some r->r.rw=true -> μ' j=some x->¬ D1M μ h x.1 /\ Γ.F x.1=none:=by
  intro j r x hr hw hx;have h1:=hj.own j r x hr (Row.own_rw hw) hx;unfold Ctx.hold at h1;simp only at h1;split at h1
  ·rename_i hb;obtain ⟨id,r0,n,hr0,hm⟩:=hb;obtain ⟨o,h2⟩:=(hi.rows id r0 hr0).there hm;rw [h2] at h1;cases h1
  ·exact ⟨‹_›,h1⟩
 refine ⟨?_,?_,?_,?_,?_⟩
 ·intro id r hr;rcases get id r hr with ⟨hl,hr⟩ | ⟨j,hj1,hl,hr,hn,wN,hw,hf⟩
  ·exact (hi.rows id r hr).mono bO (lo id hl) λx hx=>same _ ⟨id,r,x.2,hr,hx⟩
  ·have:=hj.rows j r hr;unfold RowOk at this ⊢;rw [hn];cases hm:μ' j with
   | none=>rw [hm] at this;exact this
   | some x =>
    obtain ⟨C,elem,fz,h1,h2,h3,h4⟩:=(hj.rows j r hr).mem hm hw;refine .inl ⟨C,elem,fz,h1,h2,?_,h4⟩;rw [hw] at h3 ⊢;have h5:=RL.all h3 (by simp);exact (All2.flat (μ':=nu μ μ' h.length ids) hf h5).mono λ_ _=>.inl
 ·intro id gG r r' x x' hr hr' hw T5 hx hx';rcases get id r hr with ⟨hl,hr⟩ | ⟨j,hj1,hl,hr,hn,wN,hw2,hf⟩
  ·rw [lo id hl] at hx;rcases get gG r' hr' with ⟨hl',hr'⟩ | ⟨j',E29,hl',hr',hn',E3f,E3k,hf'⟩
   ·rw [lo gG hl'] at hx';exact hi.sep id gG r r' x x' hr hr' hw T5 hx hx'
   ·rw [hn'] at hx';intro e;exact (fnew j' r' x' hr' E3k hx').1 (e ▸ ⟨id,r,x.2,hr,hx⟩)
  ·rw [hn] at hx;rcases get gG r' hr' with ⟨hl',hr'⟩ | ⟨j',E29,hl',hr',hn',E3f,E3k,hf'⟩
   ·rw [lo gG hl'] at hx';intro e;exact (fnew j r x hr hw2 hx).1 (e ▸ ⟨gG,r',x'.2,hr',hx'⟩)
   ·rw [hn'] at hx';refine hj.sep j j' r r' x x' hr hr' hw (λe=>?_) hx hx';subst e;have h1:=List.getElem?_eq_some_iff.1 hj1;have h2:=List.getElem?_eq_some_iff.1 E29;have:=(List.getElem_inj hg.nd).1 (h1.2.trans h2.2.symm);omega
 ·intro id r x hr hw hx;rcases get id r hr with ⟨hl,hr⟩ | ⟨j,hj1,hl,hr,hn,wN,hw2,hf⟩
  ·rw [lo id hl] at hx;exact hi.own id r x hr hw hx
  ·rw [hn] at hx;exact (fnew j r x hr hw2 hx).2
 ·intro id hl;simp only [E43,List.length_map] at hl;unfold nu;rw [if_neg (by omega),E5C (by omega)];rfl
 ·refine ⟨hj.ctx.os,hj.ctx.tape,hj.ctx.output,λb o ho=>?_⟩;by_cases hb:D1M μ h b
  ·rw [same b hb];exact hi.ctx.block b o ho
  ·refine hj.ctx.block b o ?_;unfold Ctx.hold;simp only;rw [if_neg hb];exact ho
theorem D7r {P:Program} {f:FuncId} {F:List Val->A6->Option (Val × A6)} (hF:∀ args h v h2,F args h=some (v,h2)->jM P f/\CallOk P f args h v h2/\h.length<=h2.length)
  {args:List Val} {h:A6} {v:Val} {h2:A6} (he:C7z F args h=some (v,h2)):jM P f/\CallOk P f args h v h2/\h.length<=h2.length:=by
 simp only [C7z,E4Z,E5i,Prod.mk.injEq] at he;obtain ⟨p,hp,q,hq,rfl,rfl⟩:=he;obtain ⟨h1,h2,h3⟩:=hF args (ro h) p.1 p.2 hp;refine ⟨h1,fun Γ μ w V hi hv=>?_,by simp⟩;refine (h2 (Γ.hold μ h w) μ w V hi.hold hv).mono λe w' ⟨V',μ',he,_,hV,hi',hl⟩=>?_
 obtain ⟨hg,hR⟩:=D6r (μ:=μ) (μ':=μ') (λid hid=>hl id (by simpa [E7] using hid)) (v2:=q.1) (fin:=q.2) hq;refine ⟨V',nu μ μ' h.length q.2,he,λid x hx=>?_,hR V' hV,hi.held hi' hg,λid hl=>by unfold nu;rw [if_pos hl]⟩;by_cases hl:id<h.length
 ·unfold nu;rw [if_pos hl];exact hx
 ·rw [hi.dom id (by omega)] at hx;cases hx
theorem E0Z {P:Program} {f:FuncId} {F:List Val->A6->Option (Val × A6)} (hF:∀ args h v h2,F args h=some (v,h2)->jM P f/\CallOk P f args h v h2/\h.length<=h2.length)
  (args:List Val) (h:A6) (v:Val) (h2:A6) (he:tidy F args h=some (v,h2)):jM P f/\CallOk P f args h v h2/\h.length<=h2.length:=by
 unfold tidy at he;split at he
 ·rename_i r hr;cases he;exact D7r hF hr
 ·exact hF args h v h2 he
theorem B7Q {F:List Val->A6->Option (Val × A6)} {args:List Val} {h h':A6} {v v2:Val} {ids:List Nat} (he:F args (ro h)=some (v,h')) (hc:W8 h' h.length v=some (v2,ids)) :
  tidy F args h=some (v2,h++ids.map (rd h')):=by
 have:C7z F args h=some (v2,h++ids.map (rd h')):=by
  unfold C7z;rw [he];simp [hc]
 unfold tidy;rw [this]
def Val.flat:Val->Bool
 | .c x=>x.flat
 | .a l=>N7 l
 | .t l=>l.all λp=>match p with
  | .c x=>x.flat
  | .a l=>N7 l
 | _=>false
theorem cJ {h:A6} {b:Nat} {seen:List Nat}:∀ {l:List Cell},N7 l=true->Q6 h b seen l=some (l,seen)
 | [],_=>rfl
 | c::l,hf=>by
  rw [C6g,E42] at hf;have ih:=cJ (h:=h) (b:=b) (seen:=seen) hf.2;unfold Q6;rw [if_pos (Cell.low_of_flat hf.1),ih];rfl
theorem A9O {h:A6} {b:Nat} {seen:List Nat}:∀ {l:List Part},(l.all λp=>match p with | .c x=>x.flat | .a l=>N7 l)=true->fT h b seen l=some (l,seen)
 | [],_=>rfl
 | .c x::l,hf=>by
  simp only [E5J,E42] at hf;have ih:=A9O (h:=h) (b:=b) (seen:=seen) hf.2;have h1:Q6 h b seen [x]=some ([x],seen):=cJ (by simpa [N7] using hf.1);simp [fT,h1,ih]
 | .a x::l,hf=>by
  simp only [E5J,E42] at hf;have ih:=A9O (h:=h) (b:=b) (seen:=seen) hf.2;have h1:Q6 h b seen x=some (x,seen):=cJ hf.1;simp [fT,h1,ih]
theorem D2L {h:A6} {b:Nat} {v:Val} (hf:v.flat=true):W8 h b v=some (v,[]):=by
 cases v with
 | c x =>
  have h1:Q6 h b [] [x]=some ([x],[]):=cJ (by simp only [N7,E5J,List.all_nil,Bool.and_true];exact hf);simp [W8,h1]
 | a l =>
  have h1:Q6 h b [] l=some (l,[]):=cJ hf;simp [W8,h1]
 | t l =>
  have h1:fT h b [] l=some (l,[]):=A9O hf;simp [W8,h1]
 | un=>cases hf
 | no=>cases hf
theorem D7s {F:List Val->A6->Option (Val × A6)} {args:List Val} {h h':A6} {v:Val} (he:F args (ro h)=some (v,h')) (hf:v.flat=true):tidy F args h=some (v,h):=by
 have:=B7Q he (D2L (h:=h') (b:=h.length) hf);simpa using this
def C3b (b:Nat) (l:List Cell):Bool:=l.all (Cell.low b)
def Val.low (b:Nat):Val->Bool
 | .c x=>x.low b
 | .a l=>C3b b l
 | .t l=>l.all λp=>match p with
  | .c x=>x.low b
  | .a l=>C3b b l
 | _=>false
theorem A0V {h:A6} {b:Nat} {seen:List Nat}:∀ {l:List Cell},C3b b l=true->Q6 h b seen l=some (l,seen)
 | [],_=>rfl
 | c::l,hf=>by
  have hf:(c.low b&&C3b b l)=true:=hf;rw [E42] at hf;have ih:=A0V (h:=h) (b:=b) (seen:=seen) hf.2;unfold Q6;rw [if_pos hf.1,ih];rfl
theorem B4z {h:A6} {b:Nat} {seen:List Nat}:∀ {l:List Part},(l.all λp=>match p with | .c x=>x.low b | .a l=>C3b b l)=true->fT h b seen l=some (l,seen)
 | [],_=>rfl
 | .c x::l,hf=>by
  simp only [E5J,E42] at hf;have ih:=B4z (h:=h) (b:=b) (seen:=seen) hf.2;have h1:Q6 h b seen [x]=some ([x],seen):=A0V (by simpa [C3b] using hf.1);simp [fT,h1,ih]
 | .a x::l,hf=>by
  simp only [E5J,E42] at hf;have ih:=B4z (h:=h) (b:=b) (seen:=seen) hf.2;have h1:Q6 h b seen x=some (x,seen):=A0V hf.1;simp [fT,h1,ih]
theorem D9B {F:List Val->A6->Option (Val × A6)} {args:List Val} {h h':A6} {v:Val} (he:F args (ro h)=some (v,h')) (hf:v.low h.length=true):tidy F args h=some (v,h):=by
 have hc:W8 h' h.length v=some (v,[]):=by
  cases v with
  | c x =>
   have h1:Q6 h' h.length [] [x]=some ([x],[]):=A0V (by simp only [C3b,E5J,List.all_nil,Bool.and_true];exact hf);simp [W8,h1]
  | a l =>
   have h1:Q6 h' h.length [] l=some (l,[]):=A0V hf;simp [W8,h1]
  | t l =>
   have h1:fT h' h.length [] l=some (l,[]):=B4z hf;simp [W8,h1]
  | un=>cases hf
  | no=>cases hf
 have:=B7Q he hc;simpa using this
@[simp] theorem E3n {b:Nat}:C3b b []=true:=rfl
@[simp] theorem E2O {b:Nat} {c:Cell} {l:List Cell}:C3b b (c::l)=(c.low b&&C3b b l):=rfl
@[simp] theorem E4C {b:Nat} {x:Cell}:(Val.c x).low b=x.low b:=rfl
@[simp] theorem E4B {b:Nat} {l:List Cell}:(Val.a l).low b=C3b b l:=rfl
@[simp] theorem E4D {b:Nat} {l:List Part}:(Val.t l).low b=l.all λp=>match p with | .c x=>x.low b | .a l=>C3b b l:=rfl
@[simp] theorem E4v {b id off len sz:Nat}:(Cell.sl id off len sz).low b=decide (id<b):=rfl
@[simp] theorem E4M {b:Nat} {k:IntKind} {n:Int}:(Cell.i k n).low b=true:=rfl
@[simp] theorem E4L {b:Nat} {x:Bool}:(Cell.b x).low b=true:=rfl
@[simp] theorem E4N {b:Nat} {x:List UInt8}:(Cell.s x).low b=true:=rfl
@[simp] theorem E4u {b:Nat}:Cell.ns.low b=true:=rfl
@[simp] theorem E2N:N7 []=true:=rfl
@[simp] theorem E1c {c:Cell} {l:List Cell}:N7 (c::l)=(c.flat&&N7 l):=rfl
@[simp] theorem zJ {l m:List Cell}:N7 (l++m)=(N7 l&&N7 m):=by simp [N7]
@[simp] theorem D4x {l:List UInt8}:N7 (A5 l)=true:=by simp [N7,A5,Cell.flat]
@[simp] theorem E3T {x:Bool}:(Cell.b x).flat=true:=rfl
@[simp] theorem E3U {k:IntKind} {n:Int}:(Cell.i k n).flat=true:=rfl
@[simp] theorem E3V {x:List UInt8}:(Cell.s x).flat=true:=rfl
@[simp] theorem E3I:Cell.ns.flat=true:=rfl
@[simp] theorem E3H:Cell.np.flat=true:=rfl
@[simp] theorem E3K {x:Cell}:(Val.c x).flat=x.flat:=rfl
@[simp] theorem E3J {l:List Cell}:(Val.a l).flat=N7 l:=rfl
@[simp] theorem E3L {l:List Part}:(Val.t l).flat=l.all λp=>match p with | .c x=>x.flat | .a l=>N7 l:=rfl
@[simp] theorem C7c {h:A6} {v:Val}:quiet h (some (v,h))=some (v,h):=U9 Grows.rfl'
end
section
section
variable {h:A6} {l:List (Option Row)} {k id:Nat}
@[simp] theorem K0:rd (h++l) (h.length+k)=(l[k]?).join:=by
 unfold rd;rw [E5e (by omega),Nat.add_sub_cancel_left]
@[simp] theorem E9:rd (h++l) h.length=(l[0]?).join:=K0 (k:=0)
@[simp] theorem rD {x:Option Row}:(h++l).set (h.length+k) x=h++l.set k x:=by
 rw [E5A _ _ (by omega),Nat.add_sub_cancel_left]
@[simp] theorem cU {x:Option Row}:(h++l).set h.length x=h++l.set 0 x:=rD (k:=0)
end
section
variable {h:A6} {id off n sz:Nat} {cs xs:List Cell} {x:Cell} {k:IntKind} {rw:Bool}
theorem D7G {j:Int} (h0:0<=j) (h1:j<n):J3 n sz (.c (.p id off)) (.c (.i k j))=some (.c (.p id (off+j.toNat*sz))):=by
 simp only [J3];rw [if_pos ⟨h0,h1⟩]
end
def Has (h:A6) (v:Val) (sz n:Nat) (cs:List Cell):Prop :=
 (v=.c .ns/\n=0/\cs=[])\/∃ id off r,v=.c (.sl id off n sz)/\rd h id=some r/\cs.length=n*sz/\off+n*sz<=r.cells.length/\(r.cells.drop off).take (n*sz)=cs/\noX cs=true
section
variable {h:A6} {v:Val} {sz n:Nat} {cs:List Cell}
theorem Has.length (hv:Has h v sz n cs):cs.length=n*sz:=by
 rcases hv with ⟨_,rfl,rfl⟩ | ⟨_,_,_,_,_,hl,_⟩
 ·simp
 ·exact hl
theorem D14 {r:Row} {off m j:Nat} (h3:(r.cells.drop off).take m=cs) (h4:noX cs=true) (hj:j<m) (hl:off+m<=r.cells.length):(r.rw||(r.cells[off+j]?).any λc=>!c.isX)=true:=by
 have U8:off+j<r.cells.length:=by omega
 have hc:cs[j]?=some r.cells[off+j]:=by
  rw [<-h3,E5B hj,E5R,E40 U8]
 have:=List.all_eq_true.1 h4 _ (E5s hc);rw [E40 U8];simp only [Option.any_some,this,Bool.or_true]
theorem Has.ro (hv:Has h v sz n cs):Has (ro h) v sz n cs:=by
 rcases hv with hv | ⟨id,off,r,rfl,hr,h1,h2,h3,h4⟩
 ·exact .inl hv
 ·cases hh:r.head with
  | false=>exact .inr ⟨id,off,⟨r.cells,false⟩,rfl,B7E hr hh,h1,h2,h3,h4⟩
  | true =>
   have hx:=Row.head_isX hh;have E3h:cs=[]:=by
    cases hcs:cs with
    | nil=>rfl
    | cons c cs' =>
     exfalso;have wN:c∈r.cells:=List.mem_of_mem_drop (List.mem_of_mem_take (by rw [h3,hcs];simp));have h5:c.isX=false:=by
      have:=List.all_eq_true.1 h4 c (by rw [hcs];simp);simpa using this
     rw [hx c wN] at h5;cases h5
   have hd:r.dim.length=r.cells.length:=by unfold Row.dim;rw [hh];simp
   have hn:n*sz=0:=by rw [<-h1,E3h];rfl
   exact .inr ⟨id,off,⟨r.dim,false⟩,rfl,by rw [D0n,hr];rfl,h1,by show off+n*sz<=r.dim.length;rw [hd];exact h2,by rw [hn,E5X,E3h],h4⟩
theorem Has.more (hv:Has h v sz n cs) (l:A6):Has (h++l) v sz n cs:=by
 rcases hv with hv | ⟨id,off,r,rfl,hr,h1,h2,h3,h4⟩
 ·exact .inl hv
 ·exact .inr ⟨id,off,r,rfl,B6 hr,h1,h2,h3,h4⟩
theorem Has.grows {h':A6} (hv:Has h v sz n cs) (hg:Grows h h'):Has h' v sz n cs:=by
 rcases hv with hv | ⟨id,off,r,rfl,hr,h1,h2,h3,h4⟩
 ·exact .inl hv
 ·exact .inr ⟨id,off,r,rfl,hg.rd hr,h1,h2,h3,h4⟩
theorem Has.len (hv:Has h v sz n cs):D1a v=some (.c (.i .i64 n)):=by
 rcases hv with ⟨rfl,rfl,rfl⟩ | ⟨id,off,r,rfl,_⟩<;>rfl
theorem Has.cells (hv:Has h v sz n cs):gF h v=some cs:=by
 rcases hv with ⟨rfl,rfl,rfl⟩ | ⟨id,off,r,rfl,hr,h1,h2,h3,h4⟩
 ·rfl
 ·simp only [gF,hr,E49];rw [if_pos ⟨h2,by rw [h3,h4];simp⟩,h3]
theorem Has.add (hv:Has h v sz n cs):O5 h sz v=some cs:=by
 have:=hv.cells;rcases hv with ⟨rfl,rfl,rfl⟩ | ⟨id,off,r,rfl,_⟩
 ·rfl
 ·simp only [O5,if_true];exact this
theorem C1d:∀ l:List UInt8,bytes? (A5 l)=some l
 | []=>rfl
 | x::l=>by
  have h1:=x.toNat_lt;have e:C9F (.i .u8 x.toNat)=some x:=by
   simp only [C9F];rw [if_pos ⟨by omega,by omega⟩];simp
  change (C9F (.i .u8 x.toNat)).bind (λy=>(bytes? (A5 l)).map λl=>y::l)=_;rw [e,C1d l];rfl
theorem Has.str {l:List UInt8} (hv:Has h v 1 n (A5 l)):B4o h v=some (.c (.s l)):=by
 have:=hv.cells;rcases hv with ⟨rfl,rfl,e⟩ | ⟨id,off,r,rfl,_⟩
 ·have:l=[]:=by simpa [A5] using e
  subst this;rfl
 ·simp only [B4o,if_true,this,E49,C1d,Option.map_some]
theorem Has.sl (hv:Has h v sz n cs) (hn:0<n):∃ id off,v=.c (.sl id off n sz)/\id<h.length /\
  (∀ j c,cs[j]?=some c->B4 h (.c (.p id (off+j)))=some (.c c))/\∀ j m,j+m<=cs.length->C8 h m (.c (.p id (off+j)))=some (.a ((cs.drop j).take m)):=by
 rcases hv with ⟨rfl,rfl,rfl⟩ | ⟨id,off,r,rfl,hr,h1,h2,h3,h4⟩
 ·omega
 ·refine ⟨id,off,rfl,C5 hr,λj c hc=>?_,λj m hj=>?_⟩
  ·have U8:j<cs.length:=(List.getElem?_eq_some_iff.1 hc).1;have hx:c.isX=false:=by
    have:=List.all_eq_true.1 h4 c (E5s hc);simpa using this
   refine B5 (cs:=r.cells) (rw:=r.rw) hr ?_ (by simp [hx]);rw [<-h3,E5B (by omega),E5R] at hc;exact hc
  ·have e:((cs.drop j).take m)=(r.cells.drop (off+j)).take m:=by
    rw [<-h3,List.drop_take,List.take_take,E5W]
    congr 1
    omega
   rw [e];refine cP (cs:=r.cells) (rw:=r.rw) hr (by omega) ?_;rw [<-e];have:noX ((cs.drop j).take m)=true:=by
    refine List.all_eq_true.2 λc hc=>List.all_eq_true.1 h4 c ?_
    exact List.mem_of_mem_drop (List.mem_of_mem_take hc)
   simp [this]
end
theorem Has.row {h:A6} {id sz n:Nat} {cs:List Cell} {rw:Bool} (hr:rd h id=some ⟨cs,rw⟩) (hl:cs.length=n*sz) (hx:noX cs=true):Has h (.c (.sl id 0 n sz)) sz n cs :=
 .inr ⟨id,0,_,rfl,hr,hl,by simp [hl],by simp [<-hl],hx⟩
def Out (b:Nat) (h:A6) (v:Val) (sz n:Nat) (cs:List Cell):Prop :=
 cs.length=n*sz/\∃ id,v=.c (.sl id 0 n sz)/\b<=id/\rd h id=some ⟨cs,true⟩
def Low (b:Nat) (h h':A6):Prop:=b<=h.length/\h.length<=h'.length/\∀ id,id<b->rd h' id=rd h id
theorem Low.refl {b:Nat} {h:A6} (hb:b<=h.length):Low b h h:=⟨hb,E44 _,λ_ _=>rfl⟩
theorem Low.trans {b:Nat} {h h' h'':A6} (h1:Low b h h') (h2:Low b h' h''):Low b h h'' :=
 ⟨h1.1,E5E h1.2.1 h2.2.1,λid hid=>(h2.2.2 id hid).trans (h1.2.2 id hid)⟩
theorem Low.new {b:Nat} {h h':A6} (h1:Low b h h') (l:A6):Low b h (h'++l) :=
 ⟨h1.1,by have:=h1.2.1;simp;omega,λid hid=>by rw [D4 (by have:=h1.1;have:=h1.2.1;omega)];exact h1.2.2 id hid⟩
theorem Low.set {b:Nat} {h h':A6} (h1:Low b h h') {id:Nat} (hid:b<=id) (x:Option Row):Low b h (h'.set id x) :=
 ⟨h1.1,by simpa using h1.2.1,λj hj=>by rw [A7 (by omega)];exact h1.2.2 j hj⟩
theorem Has.low {b:Nat} {h h':A6} {v:Val} {sz n:Nat} {cs:List Cell} (h1:Low b h h') (hv:Has h v sz n cs) (hb:∀ id off m,v=.c (.sl id off m sz)->id<b):Has h' v sz n cs:=by
 rcases hv with hv | ⟨id,off,r,rfl,hr,h2⟩
 ·exact .inl hv
 ·exact .inr ⟨id,off,r,rfl,by rw [h1.2.2 id (hb id off n rfl)];exact hr,h2⟩
theorem Out.app {b:Nat} {h:A6} {v y:Val} {sz n m:Nat} {cs ys:List Cell} (ho:Out b h v sz n cs) (hsz:0<sz) (hy:O5 h sz y=some ys) (hm:ys.length=m*sz) (hn:n+m<=1073741824) :
  ∃ id v' h',v=.c (.sl id 0 n sz)/\jK h sz v y=some (v',h')/\Out b h' v' sz (n+m) (cs++ys)/\Low b h h'/\(∀ i r,rd h i=some r->i≠id->rd h' i=some r):=by
 have hd:ys.length/sz=m:=by rw [hm];exact Nat.mul_div_cancel m hsz
 obtain ⟨hl,id,rfl,E32,hr⟩:=ho;have U8:=C5 hr;refine ⟨id,_,h.set id none++[some ⟨cs++ys,true⟩],rfl,by simp only [jK,hy,hr,E49,hd];rw [if_pos ⟨trivial,trivial,hl.symm,trivial,hn⟩],⟨by simp [hl,hm,E5Z],h.length,rfl,by omega,?_⟩,((Low.refl (by omega)).set E32 none).new _,λi r hi T5=>?_⟩
 ·have:=S8 (h:=h.set id none) (r:=⟨cs++ys,true⟩)
  rwa [E5w] at this
 ·have U8:=C5 hi;rw [D4 (by simpa using U8),A7 (Ne.symm T5)];exact hi
theorem A0i {h:A6} {id:Nat} {cs:List Cell} (hr:rd h id=some ⟨cs,true⟩) (hf:N7 cs=true):newRow h id=true:=by simp [newRow,hr,hf]
theorem D7W {h:A6} {b id off n sz:Nat} {cs:List Cell} (hb:b<=id) (hr:rd h id=some ⟨cs,true⟩) (hf:N7 cs=true):W8 h b (.c (.sl id off n sz))=some (.c (.sl b off n sz),[id]):=by
 have:¬ id<b:=by omega
 simp [W8,Q6,hb,this,A0i hr hf]
theorem D9C {F:List Val->A6->Option (Val × A6)} {args:List Val} {h h':A6} {v:Val} {sz n:Nat} {cs:List Cell} (he:F args (ro h)=some (v,h')) (ho:Out h.length h' v sz n cs) (hf:N7 cs=true) :
  tidy F args h=some (.c (.sl h.length 0 n sz),h++[some ⟨cs,true⟩]):=by
 obtain ⟨hl,id,rfl,hb,hr⟩:=ho;rw [B7Q he (D7W hb hr hf)];simp [hr]
theorem D7t {F:List Val->A6->Option (Val × A6)} {args:List Val} {h h':A6} {v':Nat} {c:Cell} {sz n:Nat} {cs:List Cell} (he:F args (ro h)=some (.t [.c (.sl v' 0 n sz),.c c],h')) (ho:Out h.length h' (.c (.sl v' 0 n sz)) sz n cs) (hf:N7 cs=true) (hc:c.flat=true) :
  tidy F args h=some (.t [.c (.sl h.length 0 n sz),.c c],h++[some ⟨cs,true⟩]):=by
 obtain ⟨hl,id,e,hb,hr⟩:=ho;cases e;have e2:Q6 h' h.length [v'] [c]=some ([c],[v']):=cJ (by simp [hc]);rw [B7Q he (v2:=.t [.c (.sl h.length 0 n sz),.c c]) (ids:=[v']) (by simp [W8,fT,Q6,hb,show ¬ v'<h.length by omega,A0i hr hf,e2,hc,Cell.low_of_flat hc])];simp [hr]
def encI (l:List Int):List Cell:=l.map λn=>.i .i64 n
theorem A8 (l:List Int):(encI l).length=l.length:=by simp [encI]
theorem bC (l:List Int) (i:Nat) (x:Int):(encI l).set i (.i .i64 x)=encI (l.set i x):=by simp [encI,List.map_set]
theorem F6 (l:List Int) (i:Nat):(encI l)[i]?=(l[i]?).map λx=>.i .i64 x:=by simp [encI]
theorem A2g (l m:List Int):encI (l++m)=encI l++encI m:=by simp [encI]
theorem bF (l:List Int):noX (encI l)=true:=by simp [noX,encI,Cell.isX]
@[simp] theorem C6h {l:List Int}:N7 (encI l)=true:=by simp [N7,encI,Cell.flat]
theorem D23 {l m:List Int}:encI l=encI m↔l=m:=by
 constructor
 ·intro h;exact List.map_inj_right (λx y e=>by simpa using e) |>.1 h
 ·rintro rfl;rfl
def encS (l:List (List UInt8)):List Cell:=l.map .s
theorem L9 (l:List (List UInt8)):(encS l).length=l.length:=by simp [encS]
theorem B7n (l:List (List UInt8)):noX (encS l)=true:=by simp [noX,encS,Cell.isX]
@[simp] theorem E1M {l:List (List UInt8)}:N7 (encS l)=true:=by simp [N7,encS,Cell.flat]
abbrev Fun:=List Val->A6->Option (Val × A6)
abbrev SmV:=Sm (Val × A6)
abbrev B3g:=Option (Val × A6)
def SOk (P:Program) (f:FuncId) (S:Fun):Prop:=∀ args h v h2,S args h=some (v,h2)->jM P f/\CallOk P f args h v h2/\h.length<=h2.length
def D8f (g:Nat) (S:Fun) (E:N4):N4:=λf args h=>bif Nat.beq f g then S args h else E f args h
def D20:N4:=λ_ _ _=>none
theorem D5d {P:Program}:fH P D20:=λ_ _ _ _ _ h=>by cases h
theorem D5e {P:Program} {g:Nat} {S:Fun} {E:N4} (hs:SOk P g S) (hE:fH P E):fH P (D8f g S E):=by
 intro f args h v h2 he;unfold D8f at he;cases hb:Nat.beq f g with
 | true=>rw [hb] at he;have e:=Nat.eq_of_beq_eq_true hb;subst e;exact hs args h v h2 he
 | false=>rw [hb] at he;exact hE f args h v h2 he
structure FnK (P:Program) (f:FuncId) (A:AFn) (E:N4) (R:Nat->Fun):Prop where
 run:∀ n args h,A.run E n args h=R n args h
 ok:SOk P f (Lim A E)
theorem FnK.mk' {P:Program} {f:FuncId} {fn:Func} {A:AFn} {E:N4} {R:Nat->Fun} (hE:fH P E) (hf:P.funcs[f]?=some fn) (hc:C5T P fn A=true) (hr:∀ n args h,A.run E n args h=R n args h):FnK P f A E R :=
 ⟨hr,λ_ _ _ _ he=>(D5n he).elim λ_ e=>E2U hE hf hc e⟩
abbrev KV:=B1z (Val × A6)
abbrev AtH:=A6->B3g
def zE:List Nat->List Val->Env
 | t::l,x::r=>(t,x)::zE l r
 | _,_=>[]
noncomputable def rx (E:N4) (A:AFn) (n:Nat):Fun:=λargs h=>ax E n A.code A.fin (params 0 args) h
noncomputable def tl (A:AFn) (E:N4):Fun:=tidy (Lim A E)
noncomputable def aj' (s:SmV) (k:KV) (ks:List Nat) (xs:List Val):AtH:=λh=>hold (s k (zE ks xs) h)
noncomputable def aj (E:N4) (n:Nat) (c:ACode) (k:KV) (ks:List Nat) (xs:List Val):AtH:=aj' (ax E n c) k ks xs
theorem FnK.mk2 {P:Program} {f:FuncId} {fn:Func} {A:AFn} {E:N4} (hE:fH P E) (hf:P.funcs[f]?=some fn) (hc:C5T P fn A=true):FnK P f A E (rx E A) :=
 .mk' hE hf hc λ_ _ _=>E1F
section
variable {P:Program} {f:FuncId} {A:AFn} {E:N4} {R:Nat->Fun}
theorem FnK.of (K:FnK P f A E R) {n:Nat} {args:List Val} {h:A6} {p:Val × A6} (he:R n args h=some p):Lim A E args h=some p:=E1t ((K.run ..).trans he)
theorem FnK.sok (K:FnK P f A E R):SOk P f (tidy (Lim A E)):=λargs h v h2 he=>E0Z K.ok args h v h2 he
theorem FnK.flat (K:FnK P f A E R) {n:Nat} {args:List Val} {h h2:A6} {v:Val} (he:R n args (ro h)=some (v,h2)) (hf:v.flat=true):tidy (Lim A E) args h=some (v,h):=D7s (K.of he) hf
theorem FnK.low (K:FnK P f A E R) {n:Nat} {args:List Val} {h h2:A6} {v:Val} (he:R n args (ro h)=some (v,h2)) (hf:v.low h.length=true):tidy (Lim A E) args h=some (v,h):=D9B (K.of he) hf
theorem FnK.out (K:FnK P f A E R) {n:Nat} {args:List Val} {h h2:A6} {v:Val} {sz k:Nat} {cs:List Cell} (he:R n args (ro h)=some (v,h2)) (ho:Out h.length h2 v sz k cs) (hf:N7 cs=true):tidy (Lim A E) args h=some (.c (.sl h.length 0 k sz),h++[some ⟨cs,true⟩]):=D9C (K.of he) ho hf
theorem FnK.out2 (K:FnK P f A E R) {n:Nat} {args:List Val} {h h2:A6} {i:Nat} {c:Cell} {sz k:Nat} {cs:List Cell} (he:R n args (ro h)=some (.t [.c (.sl i 0 k sz),.c c],h2)) (ho:Out h.length h2 (.c (.sl i 0 k sz)) sz k cs) (hf:N7 cs=true) (hc:c.flat=true):Esc.tidy (Lim A E) args h=some (.t [.c (.sl h.length 0 k sz),.c c],h++[some ⟨cs,true⟩]):=D7t (K.of he) ho hf hc
theorem FnK.tidy (K:FnK P f A E R) {n:Nat} {args:List Val} {h h2:A6} {v v2:Val} {ids:List Nat} (he:R n args (ro h)=some (v,h2)) (hc:W8 h2 h.length v=some (v2,ids)):Esc.tidy (Lim A E) args h=some (v2,h++ids.map (rd h2)):=B7Q (K.of he) hc
end
abbrev E5 (R:Nat->Fun) (S:Fun):Prop:=∀ {n:Nat} {args:List Val} {h h2:A6} {v:Val},R n args (ro h)=some (v,h2)->v.flat=true->S args h=some (v,h)
abbrev E1u (R:Nat->Fun) (S:Fun):Prop:=∀ {n:Nat} {args:List Val} {h h2:A6} {v:Val},R n args (ro h)=some (v,h2)->v.low h.length=true->S args h=some (v,h)
abbrev pE (R:Nat->Fun) (S:Fun):Prop:=∀ {n:Nat} {args:List Val} {h h2:A6} {v:Val} {sz k:Nat} {cs:List Cell},R n args (ro h)=some (v,h2)->Out h.length h2 v sz k cs->N7 cs=true->S args h=some (.c (.sl h.length 0 k sz),h++[some ⟨cs,true⟩])
abbrev E2Q (R:Nat->Fun) (S:Fun):Prop:=∀ {n:Nat} {args:List Val} {h h2:A6} {i:Nat} {c:Cell} {sz k:Nat} {cs:List Cell},R n args (ro h)=some (.t [.c (.sl i 0 k sz),.c c],h2)->Out h.length h2 (.c (.sl i 0 k sz)) sz k cs->N7 cs=true->c.flat=true->S args h=some (.t [.c (.sl h.length 0 k sz),.c c],h++[some ⟨cs,true⟩])
abbrev D5o (R:Nat->Fun) (S:Fun):Prop:=∀ {n:Nat} {args:List Val} {h h2:A6} {v v2:Val} {ids:List Nat},R n args (ro h)=some (v,h2)->W8 h2 h.length v=some (v2,ids)->S args h=some (v2,h++ids.map (rd h2))
abbrev OfT (R:Nat->Fun) (S:Fun):Prop:=∀ {n:Nat} {args:List Val} {h:A6} {p:Val × A6},R n args h=some p->S args h=some p
end
end Go.Esc
namespace Go.Esc
open Go Go.ChangeShapes Go.WideShapes Go.ChangeAt Go.RowKit
section
def wF (P:Program) (g:TypeId->Option (List Sh)):List Field->Nat->Option (List Sh)
 | [],_=>some []
 | f::r,off=>if f.offset=off then (g f.type).bind λl=>if l.length=P.cellsOf f.type then (wF P g r (off+l.length)).map (l ++ ·) else none else none
def B0Y (P:Program):Nat->TypeId->Option (List Sh)
 | 0,_=>none
 | n+1,t=>match P.underlying t with
  | some .bool=>some [.b]
  | some (.int k)=>some [.i k]
  | some .string=>some [.s]
  | some (.struct fs)=>(wF P (B0Y P n) fs.toList 0).bind λl=>if l.length=P.cellsOf t then some l else none
  | some (.array m e)=>(B0Y P n e).bind λl=>if l.length=P.cellsOf e/\P.cellsOf t=m*l.length then some (E41 m l).flatten else none
  | _=>none
def okCell:Sh->Cell->Prop
 | .b,.b _=>True
 | .i k,.i k' n=>k'=k/\k.min<=n/\n<=k.max
 | .s,.s l=>l.length<=maxLen
 | _,_=>False
theorem okCell.flat {s:Sh} {c:Cell} (h:okCell s c):c.flat=true/\c.isX=false:=by
 cases s<;>cases c<;>simp_all [okCell,Cell.flat,Cell.isX]
theorem B27:∀ {l:List Sh} {cs:List Cell},All2 okCell l cs->N7 cs=true/\noX cs=true
 | [],[],_=>⟨rfl,rfl⟩
 | s::l,c::cs,⟨h1,h2⟩=>by
  have:=B27 h2;have h3:=h1.flat;simp [this.1,h3.1,noX,h3.2];have:=this.2;simpa [noX] using this
 | [],_::_,h=>h.elim
 | _::_,[],h=>h.elim
section
variable {H:Type} {enc:TypeId × Value->H} {P:Program} {w:World} {base:Nat} {spare:Nat->Bool} {held:Bool} {fuel:Nat} {t:TypeId} {cs:List Value} {x:DataW H × List MemPlace}
theorem trod_array {n:Nat} {e:TypeId} (ht:P.underlying t=some (.array n e)) (h:DataW.trod enc P w base spare held fuel t cs=some x) :
  ∃ (m:Nat) (xs:List (DataW H × List MemPlace)),cs.length=P.cellsOf t/\∀ i,i<n->∃ y,DataW.trod enc P w base spare held m e ((cs.drop (i*P.cellsOf e)).take (P.cellsOf e))=some y:=by
 cases fuel with
 | zero=>simp [DataW.trod] at h
 | succ m =>
  unfold DataW.trod at h;rw [ht] at h;have h':cs.length=P.cellsOf t/\∃ xs,((E5v n).mapM λi=>DataW.trod enc P w base spare held m e ((cs.drop (i*P.cellsOf e)).take (P.cellsOf e)))=some xs:=by
   split at h<;>simp_all
   obtain ⟨hl,xs,hp,hd⟩:=h;exact ⟨xs,hp⟩
  obtain ⟨hl,xs,hp⟩:=h';refine ⟨m,xs,hl,λi hi=>?_⟩;have:=mapM_some_get hp i i (by simp [hi]);rw [this];have hxl:xs.length=n:=by simpa using mapM_some_length hp
  exact ⟨xs[i],E40 (by omega)⟩
theorem B0I (μ:Mu):∀ (n:Nat) {t:TypeId} {fuel:Nat} {cs:List Value} {x:DataW H × List MemPlace} {sh:List Sh},DataW.trod enc P w base spare held fuel t cs=some x->B0Y P n t=some sh ->
  ∃ cells,All2 (RC μ) cells cs/\All2 okCell sh cells
 | 0,_,_,_,_,_,_,hs=>by simp [B0Y] at hs
 | n+1,t,fuel,cs,x,sh,h,hs=>by
  unfold B0Y at hs;split at hs
  ·rename_i ht;cases hs;obtain ⟨b,rfl,_⟩:=DataW.trod_bool ht h;exact ⟨[.b b],⟨rfl,trivial⟩,⟨trivial,trivial⟩⟩
  ·rename_i k ht;cases hs;obtain ⟨m,rfl,_,hw⟩:=DataW.trod_int ht h;simp only [Lit.wf,E42,decide_eq_true_eq] at hw;exact ⟨[.i k m],⟨rfl,trivial⟩,⟨⟨rfl,hw⟩,trivial⟩⟩
  ·rename_i ht;cases hs;obtain ⟨s,rfl,_,hw⟩:=DataW.trod_string ht h;exact ⟨[.s s.data.toList],⟨by show Value.string s=.string ⟨s.data.toList.toArray⟩;simp,trivial⟩,⟨by show s.data.toList.length<=maxLen;simpa using hw,trivial⟩⟩
  ·rename_i fs ht;simp only [E4Z] at hs;obtain ⟨l,hl,hs⟩:=hs;split at hs
   ·rename_i hlen;cases hs;obtain ⟨xs,m,_,_,wL,hxl,hf⟩:=DataW.trod_struct ht h;have key:∀ (r:List Field) (off:Nat) (l:List Sh),wF P (B0Y P n) r off=some l->(∀ f∈r,∃ y,DataW.trod enc P w base spare held m f.type ((cs.drop f.offset).take (P.cellsOf f.type))=some y) ->
      ∃ cells,All2 (RC μ) cells ((cs.drop off).take l.length)/\All2 okCell l cells:=by
     intro r
     induction r with
     | nil=>intro off l hl _;simp only [wF,Option.some.injEq] at hl;subst hl;exact ⟨[],by simp,trivial⟩
     | cons f r ih =>
      intro off l hl nI;simp only [wF] at hl;split at hl
      ·rename_i ho;simp only [E4Z] at hl;obtain ⟨lf,hlf,hl⟩:=hl;split at hl
       ·rename_i hc;simp only [E5i] at hl;obtain ⟨lr,hlr,rfl⟩:=hl;obtain ⟨y,hy⟩:=nI f (by simp);obtain ⟨c1,g1,g2⟩:=B0I μ n hy hlf;obtain ⟨c2,g3,g4⟩:=ih (off+lf.length) lr hlr λf' hf'=>nI f' (by simp [hf'])
        refine ⟨c1++c2,?_,g2.append g4⟩;have e:(cs.drop off).take (lf++lr).length=(cs.drop off).take lf.length++(cs.drop (off+lf.length)).take lr.length:=by
         rw [E43,List.take_add,E5W]
        rw [e];rw [ho,<-hc] at g1;exact g1.append g3
       ·cases hl
      ·cases hl
    have h1:=key fs.toList 0 _ hl λf hf'=>by
     obtain ⟨i,hi⟩:=List.mem_iff_getElem?.1 hf';have hi2:fs[i]?=some f:=by simpa using hi
     rw [hf i f hi2];have:i<fs.size:=(Array.getElem?_eq_some_iff.1 hi2).1;exact ⟨xs[i],E40 (by omega)⟩
    rw [E5k,E5b (by omega)] at h1;exact h1
   ·cases hs
  ·rename_i k e ht;simp only [E4Z] at hs;obtain ⟨l,hl,hs⟩:=hs;split at hs
   ·rename_i hlen;cases hs;obtain ⟨m,xs,wL,nI⟩:=trod_array ht h;have key:∀ d j,j+d=k->∃ cells,All2 (RC μ) cells (cs.drop (j*l.length))/\All2 okCell (E41 d l).flatten cells:=by
     intro d
     induction d with
     | zero =>
      intro j hj;have:cs.drop (j*l.length)=[]:=E5c (by rw [wL,hlen.2];have:j=k:=(by omega);subst this;exact E44 _);rw [this];exact ⟨[],trivial,trivial⟩
     | succ d ih =>
      intro j hj;obtain ⟨y,hy⟩:=nI j (by omega);obtain ⟨c1,g1,g2⟩:=B0I μ n hy hl;obtain ⟨c2,g3,g4⟩:=ih (j+1) (by omega);refine ⟨c1++c2,?_,?_⟩
      ·rw [<-hlen.1] at g1;have e2:cs.drop (j*l.length)=(cs.drop (j*l.length)).take l.length++cs.drop ((j+1)*l.length):=by
        rw [E5Z,Nat.one_mul,<-E5W,List.take_append_drop]
       rw [e2];exact g1.append g3
      ·rw [E5p,List.flatten_cons];exact g2.append g4
    have h1:=key k 0 (by omega);simpa using h1
   ·cases hs
  ·cases hs
end
def Mu.set (μ:Mu) (id:Nat) (y:Option (Nat × Nat)):Mu:=λj=>if j=id then y else μ j
theorem Mu.le_set {μ:Mu} {id:Nat} {y:Option (Nat × Nat)} (h:μ id=Option.none):μ.le (μ.set id y):=by
 intro j x hj;unfold Mu.set;by_cases e:j=id
 ·subst e;rw [h] at hj;cases hj
 ·simp [e,hj]
theorem Inv.addRow {W:World} {h:A6} {μ:Mu} (hi:Inv (C53 W) μ h W) (hro:∀ id r,rd h id=some r->r.own=false) {y:Option (Nat × Nat)} {cs:List Cell} (uC:(Row.mk cs false).own=false) (hrow:RowOk (μ.set h.length y) W h.length ⟨cs,false⟩) :
  Inv (C53 W) (μ.set h.length y) (h++[some ⟨cs,false⟩]) W/\∀ id r,rd (h++[some ⟨cs,false⟩]) id=some r->r.own=false:=by
 have hm:μ h.length=Option.none:=hi.dom _ (E44 _);have get:∀ id r,rd (h++[some ⟨cs,false⟩]) id=some r->(id<h.length/\rd h id=some r)\/(id=h.length/\r=⟨cs,false⟩):=by
  intro id r hr;by_cases hl:id<h.length
  ·rw [D4 hl] at hr;exact .inl ⟨hl,hr⟩
  ·have U8:=C5 hr;simp at U8;have:id=h.length:=by omega
   subst this;rw [S8] at hr;cases hr;exact .inr ⟨rfl,rfl⟩
 have ro':∀ id r,rd (h++[some ⟨cs,false⟩]) id=some r->r.own=false:=by
  intro id r hr;rcases get id r hr with ⟨_,h1⟩ | ⟨_,rfl⟩
  ·exact hro id r h1
  ·exact uC
 refine ⟨⟨?_,?_,?_,?_,hi.ctx⟩,ro'⟩
 ·intro id r hr;rcases get id r hr with ⟨hl,h1⟩ | ⟨rfl,rfl⟩
  ·exact (hi.rows id r h1).mono (Mu.le_set hm) (by simp [Mu.set];omega) λ_ _=>rfl
  ·exact hrow
 ·intro id gG r r' x x' hr _ hw;rw [ro' id r hr] at hw;cases hw
 ·intro id r x hr hw;rw [ro' id r hr] at hw;cases hw
 ·intro id hl;simp at hl;have:id≠h.length:=by omega
  simp only [Mu.set,this,if_false];exact hi.dom id (by omega)
theorem D81 {μ:Mu} {k:Nat} {cs:List Cell} {vs:List Value} (h:All2 (RC μ) cs vs):(Row.mk (E41 k .dark++cs) false).own=false:=by
 cases k with
 | succ k=>rfl
 | zero =>
  cases cs with
  | nil=>rfl
  | cons c cs =>
   cases vs with
   | nil=>exact h.elim
   | cons v vs =>
    have h1:=h.1;cases c<;>first | rfl | exact h1.elim
def Opened (W:World) (μ:Mu) (h:A6):Prop:=Inv (C53 W) μ h W/\∀ id r,rd h id=some r->r.own=false
theorem Opened.nought (W:World):Opened W (λ_=>Option.none) []:=⟨Inv.nought W,λid r h=>by simp [rd] at h⟩
section
variable {H:Type} {enc:TypeId × Value->H} {P:Program} {W:World} {base:Nat} {held:Bool} {t:TypeId}
theorem D7X {W:World} {a:Addr} {C:Array Value} {elem:TypeId} {fz:Nat × Nat} {k:Nat} (hC:W.heap[a.block]?=some (.cells C elem fz)) (hs:a.spot=none):W.cell? (a.add k)=C[a.off+k]? := by
 have h1:(a.add k).block=a.block:=by unfold Addr.add;split<;>rfl
 have h2:(a.add k).spot=none:=by unfold Addr.add;split<;>simp_all
 have h3:(a.add k).off=a.off+k:=by unfold Addr.add;split<;>simp_all
 unfold World.cell?;rw [h1,hC,h3];simp [h2]
theorem C62 {μ:Mu} {h:A6} (ho:Opened W μ h) {r:Reach} {b0 n:Nat} {e:TypeId} {v:Value} {d:DataW H} {ps:List MemPlace} {sh:List Sh} (ht:P.underlying t=some (.slice e)) (hs:B0Y P n e=some sh) (mI:sh.length=P.cellsOf e) (B4L:0<sh.length)
  (C6t:Value.okWide P W r b0 t v) (hd:DataW.Trod enc P W base (λ_=>true) held t v d ps) :
  ∃ v' μ' l len cells,μ.le μ'/\Opened W μ' (h++l)/\RV μ' v' v/\Has (h++l) v' sh.length len cells/\All2 okCell (E41 len sh).flatten cells/\len<=maxLen:=by
 obtain ⟨fuel,hf⟩:=hd;have hv:∃ a len cap,v=.slice a len cap:=by
  unfold Value.okWide at C6t;rw [ht] at C6t;unfold Cell.okWide at C6t;rw [ht] at C6t;cases v<;>simp_all [Cell.ok]
 obtain ⟨a0,len0,cap0,rfl⟩:=hv;have E1R:(Value.slice a0 len0 cap0).cells.toList=[.slice a0 len0 cap0]:=by simp [Value.cells]
 rw [E1R] at hf;rcases Deep.open_slice ht hf with ⟨hc,_⟩ | ⟨a,len,cap,m,k,D,Pl,hc,hb,hl,hm,hmm,hx,hel⟩
 ·simp only [List.cons.injEq,Value.slice.injEq,and_true] at hc;obtain ⟨rfl,rfl,rfl⟩:=hc;exact ⟨.c .ns,μ,[],0,[],Mu.le_refl _,by simpa using ho,rfl,.inl ⟨rfl,rfl,rfl⟩,by simp,Nat.zero_le _⟩
 ·simp only [List.cons.injEq,Value.slice.injEq,and_true] at hc;obtain ⟨rfl,rfl,rfl⟩:=hc;simp only [if_true] at hmm;subst hmm;rw [<-mI] at hel;by_cases hm0:m=0
  ·subst hm0;have:len0=0:=by omega
   subst this;obtain ⟨g1,g2⟩:=Inv.addRow ho.1 ho.2 (y:=Option.none) (cs:=[]) rfl (by unfold RowOk;simp [Mu.set]);exact ⟨.c (.sl h.length 0 0 sh.length),_,[some ⟨[],false⟩],0,[],Mu.le_set (ho.1.dom _ (E44 _)),⟨g1,g2⟩,.inr ⟨rfl,_,rfl⟩,.inr ⟨h.length,0,⟨[],false⟩,rfl,S8,by simp,by simp,by simp,rfl⟩,by simp,Nat.zero_le _⟩
  ·obtain ⟨cs0,hc0,hr0⟩:=hel 0 (by omega);obtain ⟨_,E4I,E1Q⟩:=World.cells?_some hc0;have rM:∃ C elem fz,W.heap[a.block]?=some (.cells C elem fz)/\a.spot=none:=by
    have:=E1Q 0 B4L;rw [E40 (by omega)] at this;unfold World.cell? at this;have hb0:((a.add (0*sh.length)).add 0)=a:=by simp [Addr.add]
    rw [hb0] at this;split at this
    ·rename_i C elem fz hh;refine ⟨C,elem,fz,hh,?_⟩;split at this
     ·cases this
     ·rename_i hs2;cases hsp:a.spot with
      | none=>rfl
      | some s=>simp [hsp] at hs2
    ·cases this
   obtain ⟨C,elem,fz,hC,hsp⟩:=rM;have ha:a=⟨a.block,a.off,none⟩:=by cases a;simp_all
   have D8q:∀ i j,i<m->j<sh.length->W.cell? ((a.add (i*sh.length)).add j)=C[a.off+(i*sh.length+j)]? := by
    intro i j _ _;rw [Deep.add_add];exact D7X hC hsp
   have E3j:a.off+m*sh.length<=C.size:=by
    obtain ⟨cs1,hc1,_⟩:=hel (m-1) (by omega);obtain ⟨_,E3b,D4B⟩:=World.cells?_some hc1;have h1:=D4B (sh.length-1) (by omega);rw [D8q _ _ (by omega) (by omega),E40 (by omega)] at h1;have h2:=(Array.getElem?_eq_some_iff.1 h1).1;have e:(m-1)*sh.length+(sh.length-1)+1=m*sh.length:=by
     obtain ⟨q,rfl⟩:∃ q,m=q+1:=⟨m-1,by omega⟩;rw [Nat.add_sub_cancel,E5Z];omega
    omega
   have key:∀ d j,j+d=len0->∃ cells,All2 (RC μ) cells ((C.toList.drop (a.off+j*sh.length)).take (d*sh.length))/\All2 okCell (E41 d sh).flatten cells:=by
    intro d
    induction d with
    | zero=>intro j _;exact ⟨[],by simp,trivial⟩
    | succ d ih =>
     intro j hj;obtain ⟨cs1,hc1,hr1⟩:=hel j (by omega);obtain ⟨_,E3b,D4B⟩:=World.cells?_some hc1;obtain ⟨c1,g1,g2⟩:=B0I μ n hr1 hs;obtain ⟨c2,g3,g4⟩:=ih (j+1) (by omega);refine ⟨c1++c2,?_,by rw [E5p,List.flatten_cons];exact g2.append g4⟩;have e1:(C.toList.drop (a.off+j*sh.length)).take sh.length=cs1:=by
      refine List.ext_getElem? λi=>?_
      by_cases hi:i<sh.length
      ·rw [E5B hi,E5R,<-D4B i hi,D8q j i (by omega) hi];simp [Nat.add_assoc]
      ·rw [E5C (by simp;omega),E5C (by omega)]
     have e2:(C.toList.drop (a.off+j*sh.length)).take ((d+1)*sh.length)=cs1++(C.toList.drop (a.off+(j+1)*sh.length)).take (d*sh.length):=by
      rw [E5Z d 1,Nat.one_mul,Nat.add_comm (d*sh.length),List.take_add,e1,E5W,E5Z,Nat.one_mul,Nat.add_assoc]
     rw [e2];exact g1.append g3
   obtain ⟨cells,k1,k2⟩:=key len0 0 (by omega);rw [Nat.zero_mul,Nat.add_zero] at k1;have wL:cells.length=len0*sh.length:=by
    have h1:=k1.length;simp at h1;have:len0*sh.length<=m*sh.length:=Nat.mul_le_mul_right _ hl;omega
   have hmul:len0*sh.length<=m*sh.length:=Nat.mul_le_mul_right _ hl;have hm':μ h.length=none:=ho.1.dom _ (E44 _);obtain ⟨g1,g2⟩:=Inv.addRow ho.1 ho.2 (y:=some (a.block,C.size)) (cs:=E41 a.off .dark++cells) (D81 k1) (by
    unfold RowOk;simp only [Mu.set,if_true];refine .inl ⟨C,elem,fz,hC,rfl,?_,λhf=>by cases hf⟩;have e3:C.toList.take (E41 a.off Cell.dark++cells).length=C.toList.take a.off++(C.toList.drop a.off).take (len0*sh.length):=by
     rw [E43,E5r,List.take_add,wL]
    rw [e3];refine All2.append ?_ (k1.mono λc V hc=>.inl (hc.mono (Mu.le_set hm')));refine All2.of_get (by simp;omega) λi c V hc hV=>.inr ⟨rfl,?_⟩
    have:=E5s hc;rw [List.mem_replicate] at this;rw [this.2];rfl)
   refine ⟨.c (.sl h.length a.off len0 sh.length),_,[some ⟨E41 a.off .dark++cells,false⟩],len0,cells,Mu.le_set hm',⟨g1,g2⟩,.inl ⟨a.block,C.size,m,by simp [Mu.set],hl,E3j,by rw [<-ha]⟩,.inr ⟨h.length,a.off,_,rfl,S8,wL,?_,?_,(B27 k2).2⟩,k2,by omega⟩
   ·simp [wL]
   ·rw [List.drop_left' (by simp),E5b (by omega)]
end
def E2d (k:IntKind) (n:Int):Prop:=k.min<=n/\n<=k.max
theorem D6H {n:Int}:E2d .u8 n↔0<=n/\n<=255:=Iff.rfl
theorem D3y:∀ {n:Nat} {cells:List Cell},All2 okCell (E41 n (.i .u8)) cells->∃ l:List UInt8,cells=A5 l/\l.length=n
 | 0,[],_=>⟨[],rfl,rfl⟩
 | n+1,c::cs,h=>by
  rw [E5p] at h;obtain ⟨l,rfl,hl⟩:=D3y h.2;have h1:=h.1;cases c with
  | i k m =>
   obtain ⟨rfl,h2⟩:=h1;have h3:=D6H.1 h2;refine ⟨UInt8.ofNat m.toNat::l,?_,by simp [hl]⟩;simp only [A5,E50,List.cons.injEq,Cell.i.injEq,true_and,and_true];rw [UInt8.toNat_ofNat'];omega
  | _=>exact h1.elim
 | 0,_::_,h=>h.elim
 | n+1,[],h=>by rw [E5p] at h;exact h.elim
section
variable {H:Type} {enc:TypeId × Value->H} {P:Program} {W:World} {base:Nat} {spare:Nat->Bool} {held:Bool} {t:TypeId} {r:Reach} {b0 n:Nat} {v:Value} {d:DataW H} {ps:List MemPlace}
theorem E1D {e:TypeId} {sh:List Sh} {μ:Mu} {h:A6} (ho:Opened W μ h) (C6t:Value.okWide P W r b0 t v) (hd:DataW.Trod enc P W base (λ_=>true) held t v d ps) (ht:P.underlying t=some (.slice e)) (hs:B0Y P n e=some sh) (mI:sh.length=P.cellsOf e) (B4L:0<sh.length) :
  ∃ v' μ' l len cells,μ.le μ'/\Opened W μ' (h++l)/\RV μ' v' v/\Has (h++l) v' sh.length len cells/\All2 okCell (E41 len sh).flatten cells/\len<=maxLen :=
 C62 ho ht hs mI B4L C6t hd
end
end
end Go.Esc
section
namespace Go.Esc
open Go
theorem Has.tr {h:A6} {id sz n:Nat} {cs:List Cell} (hr:rd h id=some ⟨cs,true⟩) (hl:cs.length=n*sz) (hx:noX cs=true):Has h (.c (.sl id 0 n sz)) sz n cs:=Has.row hr hl hx
theorem Has.since {g h:A6} {v:Val} {sz n:Nat} {cs:List Cell} (hv:Has g v sz n cs) (h1:Low g.length g h):Has h v sz n cs:=by
 rcases hv with hv | ⟨id,off,r,rfl,hr,h2⟩
 ·exact .inl hv
 ·exact .inr ⟨id,off,r,rfl,by rw [h1.2.2 id (C5 hr)];exact hr,h2⟩
theorem Low.rd {g h:A6} (h1:Low g.length g h) {id:Nat} {r:Row} (hr:rd g id=some r):rd h id=some r:=by
 rw [h1.2.2 id (C5 hr)];exact hr
theorem push {g h:A6} {id n sz:Nat} {cs ys:List Cell} (hlow:Low g.length g h) (hr:rd h id=some ⟨cs,true⟩) (hl:cs.length=n*sz) (hb:g.length<=id) (hy:ys.length=sz) (hsz:0<sz) (hn:n+1<=1073741824) :
  ∃ h',jK (h++[some ⟨ys,true⟩]) sz (.c (.sl id 0 n sz)) (.c (.sl h.length 0 1 sz))=some (.c (.sl (h.length+1) 0 (n+1) sz),h')/\rd h' (h.length+1)=some ⟨cs++ys,true⟩/\Low g.length g h'/\g.length<=h.length+1/\(cs++ys).length=(n+1)*sz:=by
 have U8:=C5 hr;have h1:rd (h++[some ⟨ys,true⟩]) id=some ⟨cs,true⟩:=B6 hr;have h2:O5 (h++[some ⟨ys,true⟩]) sz (.c (.sl h.length 0 1 sz))=some ys:=by
  have:=(Has.row (h:=h++[some ⟨ys,true⟩]) (id:=h.length) (sz:=sz) (n:=1) (cs:=ys) (rw:=true) (by simp) (by omega));simp [O5,gF,hy,E5b (Nat.le_of_eq hy)]
 refine ⟨(h++[some (Row.mk ys true)]).set id none++[some (Row.mk (cs++ys) true)],?_,?_,((hlow.new _).set hb none).new _,by have:=hlow.2.1;omega,by simp [hl,hy,E5Z]⟩
 ·simp only [jK,h2,h1,E49,hy,Nat.div_self hsz];rw [if_pos ⟨trivial,trivial,hl.symm,trivial,hn⟩];simp
 ·have:=S8 (h:=(h++[some (Row.mk ys true)]).set id none) (r:=Row.mk (cs++ys) true);rw [E5w] at this;simpa using this
def ldN (r:Option Row) (off n:Nat):Option Val:=r.bind λr=>if off+n<=r.cells.length/\(r.rw||noX ((r.cells.drop off).take n))=true then some (.a ((r.cells.drop off).take n)) else none
def ld1 (r:Option Row) (off:Nat):Option Val:=r.bind λr=>(r.cells[off]?).bind λc=>bif r.rw || !c.isX then some (.c c) else none
def stN (r:Option Row) (off n:Nat) (xs:List Cell):Option Row:=r.bind λr=>if r.rw=true/\xs.length=n/\off+n<=r.cells.length then some ⟨lay r.cells off xs,true⟩ else none
def st1 (r:Option Row) (off:Nat) (x:Cell):Option Row:=r.bind λr=>if r.rw=true/\off<r.cells.length then some ⟨r.cells.set off x,true⟩ else none
def slr (r:Option Row) (id off n sz:Nat):Option Val:=r.bind λr=>if off+n*sz<=r.cells.length/\(r.rw=true\/Option.any (λc=>!c.isX) r.cells[off]?=true) then some (.c (.sl id off n sz)) else none
section
variable {h:A6} {l:List (Option Row)} {k off n sz:Nat} {cs xs:List Cell} {x:Cell} {kd:IntKind}
theorem Y2:C8 (h++l) n (.c (.p (h.length+k) off))=ldN (l[k]?).join off n:=by simp [C8,ldN]
theorem N6:C8 (h++l) n (.c (.p h.length off))=ldN (l[0]?).join off n:=by simp [C8,ldN]
theorem dY:B4 (h++l) (.c (.p (h.length+k) off))=ld1 (l[k]?).join off:=by simp [B4,ld1]
theorem S7:B4 (h++l) (.c (.p h.length off))=ld1 (l[0]?).join off:=by simp [B4,ld1]
theorem R6:E1 (h++l) n (.c (.p (h.length+k) off)) (.a xs)=mp (stN (l[k]?).join off n xs) λr=>h++l.set k (some r):=by
 simp only [E1,stN,K0];cases (l[k]?).join with
 | none=>rfl
 | some r=>simp only [E49];split<;>simp [mp]
theorem J1:E1 (h++l) n (.c (.p h.length off)) (.a xs)=mp (stN (l[0]?).join off n xs) λr=>h++l.set 0 (some r):=R6 (k:=0)
theorem tQ:F9 (h++l) (.c (.p (h.length+k) off)) (.c x)=mp (st1 (l[k]?).join off x) λr=>h++l.set k (some r):=by
 simp only [F9,st1,K0];cases (l[k]?).join with
 | none=>rfl
 | some r=>simp only [E49];split<;>simp [mp]
theorem A9J:F9 (h++l) (.c (.p h.length off)) (.c x)=mp (st1 (l[0]?).join off x) λr=>h++l.set 0 (some r):=tQ (k:=0)
theorem D5x:B4w (h++l) n sz (.c (.p (h.length+k) off)) none none=slr (l[k]?).join (h.length+k) off n sz:=by
 simp [B4w,slr,bound]
theorem D7O:B4w (h++l) n sz (.c (.p h.length off)) none none=slr (l[0]?).join h.length off n sz:=D5x (k:=0)
theorem gB (hl:cs.length=n):ldN (some ⟨cs,true⟩) 0 n=some (.a cs):=by
 subst hl;simp [ldN]
theorem A2s:ld1 (some ⟨cs,true⟩) off=(cs[off]?).map .c:=by
 simp only [ld1,E49,Bool.true_or,cond_true];cases cs[off]?<;>rfl
theorem jJ (hl:cs.length=n) (hx:xs.length=n):stN (some ⟨cs,true⟩) 0 n xs=some ⟨xs,true⟩:=by
 simp only [stN,E49];rw [if_pos ⟨trivial,hx,by omega⟩,lay_all (by omega)]
theorem C3r (ho:off<cs.length):st1 (some ⟨cs,true⟩) off x=some ⟨cs.set off x,true⟩:=by
 simp only [st1,E49];rw [if_pos ⟨trivial,ho⟩]
theorem E0Y (hl:cs.length=n) {id:Nat}:slr (some ⟨cs,true⟩) id 0 n 1=some (.c (.sl id 0 n 1)):=by
 simp only [slr,E49];rw [if_pos ⟨by show 0+n*1<=cs.length;omega,.inl trivial⟩]
end
section
variable {k:IntKind} {a b:Int}
theorem B6A {k':IntKind} (hb:0<=b):N5 .shl (.c (.i k a)) (.c (.i k' b))=some (.c (.i k (k.wrap (a*2 ^ (Nat.min b.toNat k.bits))))):=by
 simp only [N5,E2e];rw [if_neg (by omega)];rfl
theorem C5t {k':IntKind} (hb:0<=b):N5 .shr (.c (.i k a)) (.c (.i k' b))=some (.c (.i k (a/(2 ^ (Nat.min b.toNat k.bits))))):=by
 simp only [N5,E2f];rw [if_neg (by omega),Int.fdiv_eq_ediv_of_nonneg _ (Int.pow_nonneg (by omega))];rfl
end
theorem E2s {a b:Nat} (ha:a<18446744073709551616) (hb:b<18446744073709551616):N5 .or (.c (.i .u64 a)) (.c (.i .u64 b))=some (.c (.i .u64 ((a ||| b:Nat):Int))):=by
 rw [D05]
 congr 3
 have h1:(IntKind.u64).bits=64:=rfl;have h2:(a ||| b)<2 ^ 64:=Nat.or_lt_two_pow (by simpa using ha) (by simpa using hb);rw [h1];simp only [BitVec.ofInt_natCast,BitVec.toNat_or,BitVec.toNat_ofNat];rw [E5P (by simpa using ha),E5P (by simpa using hb)];exact wrap_u64 (by omega) (by omega)
theorem E2r {a b:Nat} (ha:a<9223372036854775808) (hb:b<9223372036854775808):N5 .or (.c (.i .i64 a)) (.c (.i .i64 b))=some (.c (.i .i64 ((a ||| b:Nat):Int))):=by
 rw [D05]
 congr 3
 have h1:(IntKind.i64).bits=64:=rfl;have h2:(a ||| b)<2 ^ 63:=Nat.or_lt_two_pow (by simpa using ha) (by simpa using hb);rw [h1];simp only [BitVec.ofInt_natCast,BitVec.toNat_or,BitVec.toNat_ofNat];rw [E5P (by omega),E5P (by omega)];exact wrap_i64 (by omega) (by omega)
theorem E08 {a b:Nat} (ha:a<4294967296) (hb:b<4294967296):N5 .xor (.c (.i .u32 a)) (.c (.i .u32 b))=some (.c (.i .u32 ((a ^^^ b:Nat):Int))):=by
 rw [D2n]
 congr 3
 have h1:(IntKind.u32).bits=32:=rfl;have h2:(a ^^^ b)<2 ^ 32:=Nat.xor_lt_two_pow (by simpa using ha) (by simpa using hb);rw [h1];simp only [BitVec.ofInt_natCast,BitVec.toNat_xor,BitVec.toNat_ofNat];rw [E5P (by omega),E5P (by omega)];exact wrap_u32 (by omega) (by omega)
theorem D9O {a b:Nat} (ha:a<4294967296) (hb:b<4294967296):N5 .and (.c (.i .u32 a)) (.c (.i .u32 b))=some (.c (.i .u32 ((a &&& b:Nat):Int))):=by
 rw [D7A]
 congr 3
 have h1:(IntKind.u32).bits=32:=rfl;have h2:(a &&& b)<=a:=Nat.and_le_left;rw [h1];simp only [BitVec.ofInt_natCast,BitVec.toNat_and,BitVec.toNat_ofNat];rw [E5P (by omega),E5P (by omega)];exact wrap_u32 (by omega) (by omega)
theorem pD {a:Int}:IntKind.wrap .u8 a=a%256:=by
 simp only [IntKind.wrap,IntKind.bits,IntKind.signed,E48];rfl
theorem E2q {a b i:Nat} (ha:a<2 ^ i):(a ||| b*2 ^ i)=a+b*2 ^ i:=by
 rw [Nat.mul_comm b,Nat.or_comm,<-Nat.two_pow_add_eq_or_of_lt ha];omega
theorem A1k {a b:Nat} (h:a+b<9223372036854775808):IntKind.wrap .i64 ((a:Int)+b)=((a+b:Nat):Int):=by rw [wrap_i64 (by omega) (by omega)];omega
theorem C6 {a:Nat} (h:a+1<9223372036854775808):IntKind.wrap .i64 ((a:Int)+1)=((a+1:Nat):Int):=by rw [wrap_i64 (by omega) (by omega)];omega
theorem D3V {k:IntKind} {x:UInt8} {i:Nat} (hi:i<8) (hk:IntKind.wrap k ((x.toNat*256 ^ i:Nat):Int)=((x.toNat*256 ^ i:Nat):Int)) (hb:k.bits=64) :
  N5 .shl (.c (.i k x.toNat)) (.c (.i .u64 (8*(i:Int))))=some (.c (.i k ((x.toNat*256 ^ i:Nat):Int))):=by
 rw [B6A (by omega),hb];have:Nat.min (8*(i:Int)).toNat 64=8*i:=by
  have:(8*(i:Int)).toNat=8*i:=by omega
  rw [this];exact E5U (by omega)
 rw [this];have hp:(256:Nat) ^ i=2 ^ (8*i):=by rw [Nat.pow_mul]
 have e:(x.toNat:Int)*2 ^ (8*i)=((x.toNat*256 ^ i:Nat):Int):=by rw [hp];simp
 rw [e,hk]
theorem uH {i n:Nat} (h:i<=n):256 ^ i<=256 ^ n:=Nat.pow_le_pow_right (by omega) h
theorem C1c {x:UInt8} {i n:Nat} (h:i<n):x.toNat*256 ^ i<256 ^ n:=by
 have h1:=x.toNat_lt;have h2:x.toNat*256 ^ i<=255*256 ^ i:=Nat.mul_le_mul_right _ (by omega);have h3:256 ^ (i+1)<=256 ^ n:=uH h;have h4:0<256 ^ i:=Nat.pow_pos (by omega);rw [Nat.pow_succ] at h3;omega
def byI (v:Int) (i:Nat):UInt8:=UInt8.ofNat ((v/256 ^ i)%256).toNat
theorem zA (v:Int) (i:Nat):((byI v i).toNat:Int)=v/256 ^ i%256:=by
 have h1:0<=v/256 ^ i%256:=Int.emod_nonneg _ (by omega);have h2:v/256 ^ i%256<256:=Int.emod_lt_of_pos _ (by omega);unfold byI;rw [UInt8.toNat_ofNat'];omega
def A9 (w:Nat) (v:Int):List UInt8:=(E5v w).map (byI v)
@[simp] theorem O7 {w:Nat} {v:Int}:(A9 w v).length=w:=by simp [A9]
theorem A19 {w:Nat} {v:Int}:A9 (w+1) v=A9 w v++[byI v w]:=by simp [A9,List.range_succ]
def le:List UInt8->Nat
 | []=>0
 | x::r=>x.toNat+256*le r
theorem C1F:∀ l:List UInt8,le l<256 ^ l.length
 | []=>by simp [le]
 | x::r=>by
  have h1:=C1F r;have h2:=x.toNat_lt;simp only [le,E5a,Nat.pow_succ];omega
theorem D6O (l m:List UInt8):le (l++m)=le l+256 ^ l.length*le m:=by
 induction l with
 | nil=>simp [le]
 | cons x r ih =>
  simp only [E5x,le,ih,E5a,Nat.pow_succ,Nat.mul_add];rw [Nat.mul_comm (256 ^ r.length) 256,Nat.mul_assoc];omega
theorem D5P (l:List UInt8) (x:UInt8):le (l++[x])=le l+x.toNat*256 ^ l.length:=by
 rw [D6O];simp [le,Nat.mul_comm]
theorem D5V {l:List UInt8} {x:UInt8}:(le l ||| x.toNat*256 ^ l.length)=le (l++[x]):=by
 have hp:(256:Nat) ^ l.length=2 ^ (8*l.length):=by rw [Nat.pow_mul]
 rw [D5P,hp,E2q (by rw [<-hp];exact C1F l)]
theorem C9G {v:Int} {i:Nat} (hi:i<8):IntKind.wrap .u8 (v/2 ^ (Nat.min (8*(i:Int)).toNat 64))=((byI v i).toNat:Int):=by
 have:Nat.min (8*(i:Int)).toNat 64=8*i:=by
  have:(8*(i:Int)).toNat=8*i:=by omega
  rw [this];exact E5U (by omega)
 rw [this,pD,zA]
 congr 2
 rw [Int.pow_mul];rfl
theorem A3W {α:Type} {l:List α} {a i:Nat} (h:a+i<l.length):(l.drop a).take (i+1)=(l.drop a).take i++[l[a+i]]:=by
 have h2:i<(l.drop a).length:=by simp;omega
 rw [E5f h2];simp
theorem C98 (w:Nat) (v:Int):(le (A9 w v):Int)=v%256 ^ w:=by
 induction w with
 | zero=>simp [A9,le,Int.emod_one]
 | succ w ih =>
  rw [A19,D5P];simp only [O7,Int.natCast_add,Int.natCast_mul,zA,ih];have h1:(((256:Nat) ^ w:Nat):Int)=(256:Int) ^ w:=by simp
  rw [h1];have hp:(0:Int)<256 ^ w:=Int.pow_pos (by omega);have h2:=Int.mul_ediv_add_emod v (256 ^ w);have h3:=Int.mul_ediv_add_emod (v/256 ^ w) 256;have h4:v%256 ^ w+v/256 ^ w%256*256 ^ w=v-(256 ^ (w+1))*(v/256 ^ w/256):=by
   rw [Int.pow_succ,Int.mul_assoc];have e:256 ^ w*(256*(v/256 ^ w/256))+v/256 ^ w%256*256 ^ w=256 ^ w*(v/256 ^ w):=by
    rw [Int.mul_comm (v/256 ^ w%256),<-Int.mul_add,h3]
   omega
  have h5:v/256 ^ w/256=v/256 ^ (w+1):=by rw [Int.ediv_ediv_of_nonneg (Int.le_of_lt hp),Int.pow_succ]
  rw [h4,h5];have:=Int.mul_ediv_add_emod v (256 ^ (w+1));omega
def I6 (l:List UInt8) (a:Nat) (xs:List UInt8):List UInt8:=l.take a++(xs++l.drop (a+xs.length))
theorem O1 {l xs:List UInt8} {a:Nat} (h:a+xs.length<=l.length):(I6 l a xs).length=l.length:=by
 simp [I6];omega
theorem B7h {l:List UInt8} {a:Nat}:I6 l a []=l:=by simp [I6]
theorem B1m {l xs:List UInt8} {a:Nat} {x:UInt8} (h:a+xs.length<l.length):(I6 l a xs).set (a+xs.length) x=I6 l a (xs++[x]):=by
 unfold I6;have h1:(l.take a).length=a:=by simp;omega
 rw [E5A _ _ (by rw [h1];omega),h1,Nat.add_sub_cancel_left,E5A _ _ (E44 _),E5K,E45]
 congr 2
 rw [E46 (by omega)];simp [Nat.add_assoc]
theorem D8D {l xs:List UInt8} {a j:Nat} (h:a+xs.length<=l.length):(I6 l a xs)[j]?=if a<=j/\j<a+xs.length then xs[j-a]? else l[j]? := by
 unfold I6;have h1:(l.take a).length=a:=by simp;omega
 by_cases h2:j<a
 ·rw [E5z (by omega),if_neg (by omega),E5B h2]
 ·rw [E5e (by omega),h1];by_cases h3:j<a+xs.length
  ·rw [if_pos ⟨by omega,h3⟩,E5z (by omega)]
  ·rw [if_neg (by omega),E5e (by omega),E5R]
   congr 1;omega
theorem D8C {l xs:List UInt8} {a:Nat} (h:a+xs.length<=l.length):((I6 l a xs).drop a).take xs.length=xs:=by
 unfold I6;have h1:(l.take a).length=a:=by simp;omega
 rw [List.drop_left' h1,List.take_left' rfl]
theorem jI {s:List UInt8} {i:Nat} (hi:i<s.length) {k:IntKind}:C5y (.c (.s s)) (.c (.i k i))=some (.c (.i .u8 s[i].toNat)):=by
 rw [D9L,E40 hi];rfl
theorem C3l (l:List UInt8):(A5 l).map Cell.sh=(E41 l.length (Sh.i .u8)).map some:=by
 induction l with
 | nil=>rfl
 | cons x l ih=>simp only [A5,E50,E5a,E5p] at ih ⊢;rw [ih];rfl
theorem C3m (l:List Int):(encI l).map Cell.sh=(E41 l.length (Sh.i .i64)).map some:=by
 induction l with
 | nil=>rfl
 | cons x l ih=>simp only [encI,E50,E5a,E5p] at ih ⊢;rw [ih];rfl
theorem D5q {l m:List UInt8} {n:Nat} (hl:l.length=n) (hm:m.length=n):aeq true (E41 n (.i .u8)) (.a (A5 l)) (.a (A5 m))=some (.c (.b (!decide (l=m)))):=by
 simp only [aeq];rw [if_pos ⟨by rw [C3l,hl],by rw [C3l,hm]⟩];simp [D22]
theorem E1a {l m:List UInt8} {n:Nat} (hl:l.length=n) (hm:m.length=n):aeq false (E41 n (.i .u8)) (.a (A5 l)) (.a (A5 m))=some (.c (.b (decide (l=m)))):=by
 simp only [aeq];rw [if_pos ⟨by rw [C3l,hl],by rw [C3l,hm]⟩];simp [D22]
theorem E1y {l m:List Int} {n:Nat} (hl:l.length=n) (hm:m.length=n):aeq true (E41 n (.i .i64)) (.a (encI l)) (.a (encI m))=some (.c (.b (!decide (l=m)))):=by
 simp only [aeq];rw [if_pos ⟨by rw [C3m,hl],by rw [C3m,hm]⟩];simp [D23]
theorem E1x {l m:List Int} {n:Nat} (hl:l.length=n) (hm:m.length=n):aeq false (E41 n (.i .i64)) (.a (encI l)) (.a (encI m))=some (.c (.b (decide (l=m)))):=by
 simp only [aeq];rw [if_pos ⟨by rw [C3m,hl],by rw [C3m,hm]⟩];simp [D23]
theorem E2D {h:A6} {l:List (Option Row)} {k n a b:Nat} {cs:List Cell} (hk:(l[k]?).join=some ⟨cs,true⟩) (hl:cs.length=n) (hab:a<=b) (hb:b<=n) :
  B4w (h++l) n 1 (.c (.p (h.length+k) 0)) (some (.c (.i .i64 (a:Int)))) (some (.c (.i .i64 (b:Int))))=some (.c (.sl (h.length+k) a (b-a) 1)):=by
 simp only [B4w,K0,hk,E49,bound];rw [if_pos (by omega),if_pos (by omega)];simp only [E49,E5j];rw [if_pos ⟨hab,hb,by omega,rfl⟩];simp
theorem Has.part {h:A6} {id sz off n:Nat} {cs xs:List Cell} {rw:Bool} (hr:rd h id=some ⟨cs,rw⟩) (ho:off+n*sz<=cs.length) (he:(cs.drop off).take (n*sz)=xs) (hx:noX xs=true):Has h (.c (.sl id off n sz)) sz n xs :=
 .inr ⟨id,off,_,rfl,hr,by rw [<-he];simp;omega,ho,he,hx⟩
theorem E2F {id off n sz a b:Nat} (hab:a<=b) (hb:b<=n):D2C sz (.c (.sl id off n sz)) (some (.c (.i .i64 (a:Int)))) (some (.c (.i .i64 (b:Int))))=some (.c (.sl id (off+a*sz) (b-a) sz)):=by
 simp only [D2C,bound];rw [if_pos (by omega),if_pos (by omega)];simp only [E49,E5j];rw [if_pos ⟨hab,hb,trivial⟩]
def B21:Option Row->Bool
 | some r=>r.own
 | none=>true
theorem C6P {cs:List Cell}:B21 (some ⟨cs,true⟩)=true:=rfl
theorem D6Z {es:W0}:B21 (some (S4 es))=true:=Row.own_mrow es
theorem D0m {g l l':A6} {v:Val} (hp:l <+: l') (hn:(l'.drop l.length).all B21=true):quiet (g++l) (some (v,g++l'))=some (v,g++l'):=by
 obtain ⟨t,rfl⟩:=hp;rw [List.drop_left] at hn;refine U9 ⟨⟨t,by rw [E45]⟩,λid x hid hx=>?_⟩;have hx:=rd_some.1 hx;rw [<-E45,E5e hid] at hx;exact List.all_eq_true.1 hn _ (E5s hx)
theorem D2p {id o off:Nat}:qL (.c (.p id o)) off=some (.c (.p id (o+off))):=Eq.trans rfl rfl
theorem A7M {a b:Int} {k:IntKind} (ha:0<=a) (hb:0<b):N5 .rem (.c (.i k a)) (.c (.i k b))=some (.c (.i k (a%b))):=by
 rw [D2m (by omega),Int.tmod_eq_emod_of_nonneg ha]
theorem zQ {a b:Int} (ha:0<=a) (ha2:a<9223372036854775808) (hb:0<b):N5 .quo (.c (.i .i64 a)) (.c (.i .i64 b))=some (.c (.i .i64 (a/b))):=by
 have h1:0<=a/b:=Int.ediv_nonneg ha (by omega);have h2:a/b<=a:=Int.ediv_le_self _ ha;rw [D2l (by omega),Int.tdiv_eq_ediv_of_nonneg ha,wrap_i64 (by omega) (by omega)]
theorem jX {h:A6} {id jd n m sz:Nat} {cs ys:List Cell} {rw:Bool} (hr:rd h id=some ⟨cs,true⟩) (hl:cs.length=n*sz) (hy:rd h jd=some ⟨ys,rw⟩) (hyl:ys.length=m*sz) (hx:(rw||noX ys)=true) (hsz:0<sz) (hn:n+m<=1073741824) :
  jK h sz (.c (.sl id 0 n sz)) (.c (.sl jd 0 m sz))=some (.c (.sl h.length 0 (n+m) sz),h.set id none++[some ⟨cs++ys,true⟩]):=by
 have h2:O5 h sz (.c (.sl jd 0 m sz))=some ys:=by
  simp only [O5,if_true,gF,hy,E49,E5k,E5l];rw [<-hyl,List.take_length,if_pos ⟨E44 _,hx⟩]
 have hd:ys.length/sz=m:=by rw [hyl];exact Nat.mul_div_cancel m hsz
 simp only [jK,h2,hr,E49,hd];rw [if_pos ⟨trivial,trivial,hl.symm,trivial,hn⟩]
theorem D5Y {g h:A6} {id n m sz:Nat} {cs ys:List Cell} (hlow:Low g.length g h) (hr:rd h id=some ⟨cs,true⟩) (hl:cs.length=n*sz) (hb:g.length<=id) (hy:ys.length=m*sz) (hsz:0<sz) (hn:n+m<=1073741824) :
  ∃ h',jK (h++[some ⟨ys,true⟩]) sz (.c (.sl id 0 n sz)) (.c (.sl h.length 0 m sz))=some (.c (.sl (h.length+1) 0 (n+m) sz),h')/\rd h' (h.length+1)=some ⟨cs++ys,true⟩/\Low g.length g h'/\g.length<=h.length+1/\(cs++ys).length=(n+m)*sz:=by
 have U8:=C5 hr;refine ⟨(h++[some (Row.mk ys true)]).set id none++[some (Row.mk (cs++ys) true)],?_,?_,((hlow.new _).set hb none).new _,by have:=hlow.2.1;omega,by simp [hl,hy,E5Z]⟩
 ·rw [jX (h:=h++[some ⟨ys,true⟩]) (B6 hr) hl S8 hy rfl hsz hn];simp
 ·have:=S8 (h:=(h++[some (Row.mk ys true)]).set id none) (r:=Row.mk (cs++ys) true);rw [E5w] at this;simpa using this
theorem E3t {g h:A6} {id n m:Nat} {cs:List Cell} (hlow:Low g.length g h) (hr:rd h id=some ⟨cs,true⟩) (hl:cs.length=n) (hb:g.length<=id) (hn:n+m<=1073741824) :
  ∃ h',B6z h 1 [.i .u8 0] (.c (.sl id 0 n 1)) (.c (.i .i64 (m:Int)))=some (.c (.sl h.length 0 (n+m) 1),h')/\rd h' h.length=some ⟨cs++A5 (zeros m),true⟩/\Low g.length g h'/\g.length<=h.length:=by
 have U8:=C5 hr;have hm:A4V (.c (.i .i64 (m:Int)))=some m:=by simp only [A4V];rw [if_pos (by omega)];simp
 have hz:rows [Cell.i .u8 0] m=A5 (zeros m):=by
  unfold rows zeros
  clear hm hn
  induction m with
  | zero=>rfl
  | succ n ih=>rw [E5p,List.flatten_cons,ih,E5p];rfl
 refine ⟨h.set id none++[some (Row.mk (cs++A5 (zeros m)) true)],?_,?_,(hlow.set hb none).new _,by have:=hlow.2.1;omega⟩
 ·simp only [B6z,hm,E49,hr,hz];rw [if_pos ⟨trivial,trivial,by omega,trivial,hn⟩]
 ·have:=S8 (h:=h.set id none) (r:=Row.mk (cs++A5 (zeros m)) true);rw [E5w] at this;exact this
end Go.Esc
end
namespace Go.Esc
def esc:=And.intro @D2p (And.intro @List.append_nil.{0} (And.intro @if_true.{1} (And.intro @if_false.{1} (And.intro @Q5 (And.intro @E0p (And.intro @D5C (And.intro @C50 (And.intro @E2X (And.intro @E2Z (And.intro @E2Y (And.intro @E2W (And.intro @E1e (And.intro @D9M (And.intro @D1b (And.intro @D9N (And.intro @A0R (And.intro @D7F (And.intro @D7D (And.intro @vW (And.intro @D7E (And.intro @A0S (And.intro @D7C (And.intro @D7B (And.intro @C5s (And.intro @B9t (And.intro @D6j (And.intro @D6i (And.intro @D9X (And.intro @D9W (And.intro @D7H (And.intro @D9J (And.intro @E1z (And.intro @D9K (And.intro @E1A (And.intro @D9P (And.intro @E1w (And.intro @E1v (And.intro @D9H (And.intro @D5w (And.intro @cond_true.{1} (And.intro @cond_false.{1} (And.intro @decide_true (And.intro @decide_false (And.intro @Bool.not_true (And.intro @Bool.not_false (And.intro @E1B (And.intro @D8V (And.intro @D8U (And.intro @E0t (And.intro @D5X (And.intro @D7Y (And.intro @C5M (And.intro @E2K (And.intro @E2L (And.intro @Option.map_some.{0,0} (And.intro @Option.some.injEq.{0} (And.intro @List.getElem?_cons_zero.{0} (And.intro @List.getElem?_cons_succ.{0} (And.intro @not_true_eq_false (And.intro @not_false_eq_true (And.intro @C7c (And.intro @O7 (And.intro @Option.join_some.{0} (And.intro @List.append_assoc.{0} (And.intro @List.cons_append.{0} (And.intro @List.nil_append.{0} (And.intro @List.length_append.{0} (And.intro @List.length_cons.{0} (And.intro @List.length_nil.{0} (And.intro @Nat.zero_add (And.intro @Nat.add_zero (And.intro @K0 (And.intro @E9 (And.intro @rD (And.intro @cU (And.intro @List.set_cons_zero.{0} (And.intro @List.set_cons_succ.{0} (And.intro @ne_eq.{1} (And.intro @decide_not (And.intro @D0m (And.intro @C6P (And.intro @List.cons_prefix_cons.{0} (And.intro @List.nil_prefix.{0} (And.intro @List.drop_succ_cons.{0} (And.intro @List.drop_zero.{0} (And.intro @List.all_cons.{0} (And.intro @List.all_nil.{0} (And.intro @Bool.and_true (And.intro @true_and (@and_true))))))))))))))))))))))))))))))))))))))))))))))))))))))))))))))))))))))))))))))))))))))))))
def esh:=And.intro @Y2 (And.intro @N6 (And.intro @dY (And.intro @S7 (And.intro @R6 (And.intro @J1 (And.intro @tQ (And.intro @A9J (And.intro @D5x (And.intro @D7O (And.intro @gB (And.intro @A2s (And.intro @jJ (And.intro @C3r (@E0Y))))))))))))))
end Go.Esc
namespace Go.Esc
@[match_pattern] abbrev iV (x:Int):Val:=.c (.i .i64 x)
@[match_pattern] abbrev pV (a b:Nat):Val:=.c (.p a b)
@[match_pattern] abbrev sV (a b c d:Nat):Val:=.c (.sl a b c d)
@[match_pattern] abbrev bV (x:Bool):Val:=.c (.b x)
@[match_pattern] abbrev rT (l:List Cell):Option Row:=some (Row.mk l true)
@[match_pattern] abbrev o0:Cell:=.i .i64 0
abbrev gS (g:Val) (w:Bool) (h:A6) (o:Option Val):Option (Val × A6):=gd g w (bnd o λa=>some (a,h)) (some (.no,h))
abbrev gV (g:Val) (w:Bool) (h:A6) (x:Val):Option (Val × A6):=gd g w (some (x,h)) (some (.no,h))
end Go.Esc
section
namespace Go.Proofs.YtbnkgnfhgbhblaaGreat
open Go Go.Esc
abbrev Dev:=List (List UInt8)
def D1 (D:Dev):List Cell:=(D.map A5).flatten
def okD (D:Dev):Prop:=∀ b∈D,b.length=256
theorem okD.cons {b:List UInt8} {D:Dev} (h:okD (b::D)):b.length=256/\okD D:=⟨h b (E5n ..),λx hx=>h x (E5m _ hx)⟩
theorem okD.at {D:Dev} (h:okD D) {i:Nat} (hi:i<D.length):D[i].length=256:=h _ (E5F hi)
theorem okD.take {D:Dev} (h:okD D) (i:Nat):okD (D.take i):=λb hb=>h b (List.mem_of_mem_take hb)
theorem aJ {b:List UInt8} {D:Dev}:D1 (b::D)=A5 b++D1 D:=rfl
theorem C8s {D E:Dev}:D1 (D++E)=D1 D++D1 E:=by simp [D1]
theorem D4m {b:List UInt8}:D1 [b]=A5 b:=by simp [D1]
theorem I3:∀ {D:Dev},okD D->(D1 D).length=D.length*256
 | [],_=>rfl
 | b::D,h=>by
  rw [aJ,E43,A4,h.cons.1,I3 h.cons.2,E5a];omega
theorem dJ:∀ (D:Dev),noX (D1 D)=true
 | []=>rfl
 | b::D=>by
  rw [aJ];have h1:=F0 b;have h2:=dJ D;simp only [noX,List.all_append,E42] at h1 h2 ⊢;exact ⟨h1,h2⟩
theorem fZ:∀ {D:Dev},N7 (D1 D)=true
 | []=>rfl
 | b::D=>by rw [aJ,zJ,fZ,D4x];rfl
theorem bW:∀ {D:Dev} {i:Nat} (h:okD D) (hi:i<D.length),((D1 D).drop (i*256)).take 256=A5 D[i]
 | b::D,0,h,hi=>by
  have hb:(A5 b).length=256:=by rw [A4,h.cons.1]
  rw [aJ,Nat.zero_mul,E5k,<-hb,List.take_left']
  ·rfl
  ·rfl
 | b::D,i+1,h,hi=>by
  have hb:(A5 b).length=256:=by rw [A4,h.cons.1]
  have e:(i+1)*256=256+i*256:=by omega
  rw [aJ,e,<-E5W,<-hb,List.drop_left',hb]
  ·exact bW h.cons.2 (by simpa using hi)
  ·rfl
theorem D5O:∀ {D:Dev} {i:Nat} {b:List UInt8} (h:okD D) (hb:b.length=256) (hi:i<D.length),lay (D1 D) (i*256) (A5 b)=D1 (D.set i b)
 | c::D,0,b,h,hb,hi=>by
  have e:(A5 c).length=256+0:=by rw [A4,h.cons.1]
  unfold lay;rw [aJ,E5L,aJ,Nat.zero_mul,A4,hb,E5l,E5X,List.drop_left' (by rw [A4,h.cons.1])];rfl
 | c::D,i+1,b,h,hb,hi=>by
  have ih:=D5O (i:=i) h.cons.2 hb (by simpa using hi);have hc:(A5 c).length=256:=by rw [A4,h.cons.1]
  unfold lay at ih ⊢;rw [aJ,E5M,aJ,show (i+1)*256=256+i*256 by omega,List.take_append,List.drop_append,E5b (by omega),E5c (by omega),hc,show 256+i*256-256=i*256 by omega,show 256+i*256+(A5 b).length-256=i*256+(A5 b).length by omega,<-ih];simp only [E45,E5g]
theorem D3Q (n:Nat):rows (E41 256 (Cell.i .u8 0)) n=D1 (E41 n (zeros 256)):=by
 rw [I5];unfold rows D1;rw [List.map_replicate]
theorem B9T (n:Nat):okD (E41 n (zeros 256)):=λb hb=>by rw [List.eq_of_mem_replicate hb];exact zeros_length
theorem okD.set {D:Dev} (h:okD D) {i:Nat} {b:List UInt8} (hb:b.length=256):okD (D.set i b):=λx hx=>by
 rcases E5H hx with hx | rfl
 ·exact h x hx
 ·exact hb
theorem B1x {h:A6} {id i:Nat} {D:Dev} {b:List UInt8} (hr:rd h id=rT (D1 D)) (hD:okD D) (hb:b.length=256) (hi:i<D.length) :
  E1 h 256 (pV id (i*256)) (.a (A5 b))=some (h.set id (rT (D1 (D.set i b)))):=by
 rw [B1w hr (by rw [A4,hb]) (by rw [I3 hD];omega),D5O hD hb hi]
def blk (D:Dev) (i:Int):List UInt8:=if 0<=i then D.getD i.toNat (zeros 256) else zeros 256
theorem O2 {D:Dev} (h:okD D) {i:Int}:(blk D i).length=256:=by
 unfold blk;split
 ·rw [E47];rcases Nat.lt_or_ge i.toNat D.length with hl | hl
  ·rw [E40 hl];exact h.at hl
  ·rw [E5C hl];exact zeros_length
 ·exact zeros_length
theorem B9y {D:Dev} {i:Nat} (hi:i<D.length):blk D (i:Int)=D[i]:=by
 unfold blk;rw [if_pos (by omega),E5j,E47,E40 hi];rfl
theorem D2J {D:Dev} {i:Int} (hi:i<0\/(D.length:Int)<=i):blk D i=zeros 256:=by
 unfold blk;split
 ·rw [E47,E5C (by omega)];rfl
 ·rfl
theorem E2p:∀ (n:Nat) (cells:List Cell),All2 okCell ((E41 n (E41 256 (Sh.i .u8))).flatten) cells->∃ D:Dev,okD D/\cells=D1 D/\D.length=n:=by
 intro n
 induction n with
 | zero =>
  intro cells h;cases cells with
  | nil=>exact ⟨[],λ_ h=>by simp at h,rfl,rfl⟩
  | cons c cs=>simp [All2] at h
 | succ n ih =>
  intro cells h;rw [E5p,List.flatten_cons] at h;have h1:=All2.take 256 h;have h2:=All2.drop 256 h;rw [List.take_left' E5r] at h1;rw [List.drop_left' E5r] at h2;obtain ⟨b,e1,hb⟩:=D3y h1;obtain ⟨D,hD,e2,hl⟩:=ih _ h2;refine ⟨b::D,?_,by rw [aJ,<-e1,<-e2,List.take_append_drop],by rw [E5a,hl]⟩;intro x hx;rcases List.mem_cons.1 hx with rfl | hx
  ·exact hb
  ·exact hD x hx
end Go.Proofs.YtbnkgnfhgbhblaaGreat
end
namespace Go.Esc
open Go
section
def D9F (P:Program) (f:FuncId) (args:List Val) (h:A6) (h':A6):Prop :=
 ∀ (Γ:Ctx) (μ:Mu) (w:World) (V:List Value) (u:FrameMode),Inv Γ μ h w->All2 (RV μ) args V ->
  CallsD P f V.toArray u w λe u' w'=>u'=u/\∃ V' μ',e=.returned V' /\ μ.le μ'/\Inv Γ μ' h' w'/\∀ id,id<h.length -> μ' id = μ id
def D7z (P:Program) (f:FuncId) (S:Fun):Prop:=∀ args h v h2,S args h=some (v,h2)->jM P f/\D9F P f args h h2/\h.length<=h2.length
theorem D5R {P:Program} {E:N4} (hE:fH P E) {f:FuncId} {fn:Func} {af:AFn} (hf:P.funcs[f]?=some fn) (hc:C5T P fn af=true):D7z P f (Lim af E):=by
 intro args h v h2 he;obtain ⟨n,hn⟩:=D5n he;obtain ⟨h1,h3,c,hb,hw⟩:=E1d hE hf hc hn;exact ⟨h1,fun Γ μ w V u hi hargs=>(callsD_of_wp hf hb (hw Γ μ w V hi hargs)).mono λe u' w' ⟨hu,V',μ',he,h4,_,h5,h6⟩=>⟨hu,V',μ',he,h4,h5,h6⟩,h3⟩
structure DFn where
 pre:List (List Nat × ACode)
 keep:List Nat
 tm:Nat
 fn:Nat
 caps:List Opd
 body:ACode
 res:List ARes
def B6G (G:Fun) (c:Val) (h:A6):Option (Val × A6):=match c with
 | .c (.f _ caps)=>G (C3j caps) h
 | _=>none
def DFn.fin (f:DFn) (G:Fun) (c:Val):B1z (Val × A6):=λx e h =>
 match x with
 | .exit _=>none
 | _=>(B6G G c h).bind λp=>mC f.res e p.2
def DFn.out (f:DFn) (k:Env->A6->Option (Val × A6)):B1z (Val × A6):=λx e h =>
 match x with
 | .normal=>k e h
 | .ret=>mC f.res e h
 | .exit _=>none
noncomputable def DFn.go (f:DFn) (E:N4) (G:Fun) (n:Nat) (l:List (List Nat × ACode)):Env->A6->Option (Val × A6) :=
 List.rec (motive:=λ_=>Env->A6->Option (Val × A6))
  (λe h=>(B4t f.fn (f.caps.map e.ev)).bind λc=>ax E n f.body (f.fin G c) ((e.put (some f.tm) c).keep f.keep) h)
  (λq _ ih e h=>ax E n q.2 (f.out λe h=>ih (e.keep q.1) h) e h) l
theorem DFn.go_nil (f:DFn) (E:N4) (G:Fun) (n:Nat) (e:Env) (h:A6):f.go E G n [] e h=(B4t f.fn (f.caps.map e.ev)).bind λc=>ax E n f.body (f.fin G c) ((e.put (some f.tm) c).keep f.keep) h:=rfl
theorem DFn.go_cons (f:DFn) (E:N4) (G:Fun) (n:Nat) (q:List Nat × ACode) (l:List (List Nat × ACode)) (e:Env) (h:A6):f.go E G n (q::l) e h=ax E n q.2 (f.out λe h=>f.go E G n l (e.keep q.1) h) e h:=rfl
noncomputable def DFn.run (f:DFn) (E:N4) (G:Fun) (n:Nat) (args:List Val) (h:A6):Option (Val × A6):=f.go E G n f.pre (params 0 args) h
def D2N (P:Program) (N:Nat) (f:DFn):Code->Bool
 | .region _ ops false=>(match ops.toList with
  | [o1,o2]=>aC P N ops o1 (aO f.tm (.mkf f.fn f.caps))&&decide (o2.dst=none)&&decide (o2.guard=none)&&(match o2.op with
   | .defer c=>(match c.callee with | .value (.tmp t)=>decide (t=f.tm)&&c.args.isEmpty | _=>false)
   | _=>false)
  | _=>false)
 | _=>false
def A9Q (P:Program) (N:Nat) (f:DFn):List (List Nat × ACode)->Code->Bool
 | [],c=>(match c with | .seq d y=>D2N P N f d&&Y4 P N y f.body | _=>false)
 | q::l,c=>(match c with | .seq x y=>Y4 P N x q.2&&A9Q P N f l y | _=>false)
def D7Z (P:Program) (fn:Func) (f:DFn):Bool :=
 (match fn.body with | some c => A9Q P fn.ntmps f f.pre c | none => false) && aX P fn.results.toList f.res && !(fn.name == "runtime.NumGoroutine")
section
variable {P:Program}
theorem B6C {rs:List ARes} {e:Env} {h h':A6} {v:Val} (hk:mC rs e h=some (v,h')):h'=h:=by
 unfold mC at hk;split at hk<;>simp at hk<;>obtain ⟨_,_,_,rfl⟩:=hk<;>rfl
theorem D2X {E:N4} (hE:fH P E) {G:Fun} {f:DFn} (hG:D7z P f.fn G) {fn:Func} (hr:aX P fn.results.toList f.res=true) {L:Nat} (n:Nat) {v:Val} {h':A6}:∀ (l:List (List Nat × ACode)) (c:Code) (e:Env) (h:A6),
  A9Q P fn.ntmps f l c=true->f.go E G n l e h=some (v,h')->L<=h.length ->
  L<=h'.length/\∀ (Γ:Ctx) (μ:Mu) (a:Act) (w:World),Γ.ds=[]->SEnv μ e a->Inv Γ μ h w->fn.ntmps<=a.tmps.size->a.defers=[]->∀ R:Ending->World->Prop,
   (∀ V' μ' w',μ.le μ'->RV μ' v V'->Inv Γ μ' h' w'->(∀ id,id<L -> μ' id = μ id)->R (.returned V') w')->c.wp P (bodyPostD P fn R) a w
 | [],c,e,h,hc,C9,hL=>by
  unfold A9Q at hc;split at hc
  ·rename_i d y;rw [E42] at hc;obtain ⟨hd,hy⟩:=hc;rw [DFn.go_nil] at C9;simp only [E4Z] at C9;obtain ⟨cv,hcv,C9⟩:=C9;have E1S:=hcv;unfold B4t at E1S;rw [E5i] at E1S;obtain ⟨caps,E4G,rfl⟩:=E1S;rw [B6E] at C9;obtain ⟨x,e2,h2,hk,hL2,vH⟩:=D4d (L:=L) hE n f.body y _ _ h (v,h') hy C9 hL;have E36:(x=.normal\/x=.ret)/\∃ p:Val × A6,G (C3j caps) h2=some p/\mC f.res e2 p.2=some (v,h'):=by
    unfold DFn.fin at hk;cases x with
    | normal=>exact ⟨.inl rfl,by simpa only [E4Z,B6G] using hk⟩
    | ret=>exact ⟨.inr rfl,by simpa only [E4Z,B6G] using hk⟩
    | exit=>cases hk
   obtain ⟨hx,⟨pv,ph⟩,hG1,E1i⟩:=E36;obtain ⟨D8p,hdc,hlen⟩:=hG _ _ _ _ hG1;have hh':=B6C E1i;dsimp only at hh';subst hh';refine ⟨E5E hL2 hlen,fun Γ μ a w hds hs hi hN had R hR=>?_⟩;unfold D2N at hd;split at hd
   ·rename_i rid ops;split at hd
    ·rename_i o1 o2 E10;simp only [E42,decide_eq_true_eq] at hd;obtain ⟨⟨⟨hd1,hd2⟩,hd3⟩,hd4⟩:=hd;split at hd4
     ·rename_i cl hop;split at hd4
      ·rename_i t D4A;simp only [E42,decide_eq_true_eq] at hd4;obtain ⟨rfl,hargs⟩:=hd4;refine wp_seq (wp_region ?_);have hsz:ops.size=2:=by rw [<-Array.length_toList,E10];rfl
       have g0:ops[0]?=some o1:=by rw [<-Array.getElem?_toList,E10];rfl
       have g1:ops[1]?=some o2:=by rw [<-Array.getElem?_toList,E10];rfl
       rw [hsz];show wpOps P ops _ [0,1] a w;rw [wpOps_cons];unfold wpOp;rw [g0];have zM:o1.dst=some f.tm/\xN fn.ntmps o1.dst=true:=by
        simp only [aC,aO,E42,decide_eq_true_eq] at hd1;exact ⟨of_decide_eq_true hd1.1.1.1,hd1.1.1.2⟩
       have htm:f.tm<fn.ntmps:=by
        have:=zM.2;rw [zM.1] at this;simpa [xN] using this
       have B62:W7 E false h 0 (aO f.tm (.mkf f.fn f.caps)) e h (λv h=>some (v,h))=some (.c (.f f.fn caps),h):=by
        unfold W7 aO;simp only [aop,hcv,E49]
       refine A4j (hr:=h) (n0:=0) hE hd1 B62 hs hi (λ_ _ h=>h) trivial ?_;intro V w1 μ1 bO hv hi1 bL;rw [wpOps_cons];unfold wpOp;rw [g1];have hv0:RC μ1 (.f f.fn caps) V:=hv;have hv2:=hv;obtain ⟨cs,rfl,hcs⟩:=hv2;obtain ⟨a1,ha1⟩:∃ a1,a1=a.put o1.dst (.func (.func f.fn) #[] cs.toArray):=⟨_,rfl⟩;have hs1:SEnv μ1 (e.put (some f.tm) (.c (.f f.fn caps))) a1:=by
        rw [ha1,zM.1];exact (hs.mono bO).put (λt ht=>by cases ht;omega) hv
       have rM:a1.eval (.tmp f.tm)=.func (.func f.fn) #[] cs.toArray:=by
        have:=hs1 f.tm;rw [Env.get_put_same] at this;obtain ⟨cs',h1,h2⟩:=this;show a1.tmps.getD f.tm undef=_;rw [ha1,zM.1];show (a.put (some f.tm) _).tmps.getD f.tm undef=_;simp only [Act.put];rw [Array.getD_eq_getD_getElem?];simp [show f.tm<a.tmps.size by omega]
       rw [<-ha1];obtain ⟨dd,hdd⟩:∃ dd:Deferred,dd={ target:=.fn (.func f.fn) cs.toArray,args:=#[] }:=⟨_,rfl⟩;have A7X:(execOp a1.eval o2).run P w1=.ok (.defer dd) w1:=by
        have ea:cl.args = #[]:=by simpa using hargs
        rw [hdd];simp [execOp,hop,resolve,D4A,rM,Deferred.ofValue,ea]
       have hw:Region.wanted o2 (yielded ops a1.tmps)=true:=by simp [Region.wanted,hd3]
       simp only [hw,if_true]
       left
       unfold Oper.wp;rw [A7X,Oper.upon_defer];have E13:∀ b:Act,b.put o2.dst undef=b:=λb=>by rw [hd2];rfl
       rw [E13];have E23:a1.defers=[]:=by rw [ha1,put_defers];exact had
       show y.wp P (bodyPostD P fn R) { a1 with defers:=dd::a1.defers } w1;rw [E23];refine vH { Γ with ds:=[dd] } μ1 { a1 with defers:=[dd] } w1 (SEnv.keep (λt=>hs1 t) f.keep) (hi1.ds [dd]) (by show fn.ntmps<=a1.tmps.size;rw [ha1,Act.size_put];exact hN) rfl _ ?_;intro μ' a' w' k1 k2 k3 k4 k5 k6;have fin:Leaves P fn a'.tmps R a'.defers .returning w':=by
        rw [k6];show Leaves P fn a'.tmps R [dd] .returning w';rw [hdd];have hv3:RC μ' (.f f.fn caps) (.func (.func f.fn) #[] cs.toArray):=RC.mono k1 hv0;obtain ⟨cs2,e3,E34⟩:=hv3;have:cs2=cs:=by
         injection e3 with _ _ e4
         have:=congrArg Array.toList e4;simpa using this.symm
        subst this;refine leaves_cons (by simp) (f:=f.fn) (args:=cs2.toArray) (by
         show (callFunc f.fn (#[]++cs2.toArray)).run P w'=_;rw [Array.empty_append];exact B6H D8p _ _) ?_
        refine (hdc Γ μ' w' cs2 .returning (k4.ds Γ.ds) (B4A E34)).mono ?_;rintro en u' w2 ⟨rfl,V',μ2,rfl,m1,m2,m3⟩;show Leaves P fn a'.tmps R [] .returning w2;obtain ⟨V2,q1,q2,_⟩:=B4v (a:=a') (w:=w2) (λt=>(k3.mono m1) t) m2 hr E1i;refine ⟨V2,q1,hR V2 μ2 w2 (Mu.le_trans bO (Mu.le_trans k1 m1)) q2 m2 λid hid=>?_⟩;rw [m3 id (by omega),k2 id hid];exact bL id (by omega) (λj hj=>by cases hj)
       rcases hx with rfl | rfl
       ·exact fin
       ·exact fin
      ·cases hd4
     ·cases hd4
    ·cases hd
   ·cases hd
  ·cases hc
 | q::l,c,e,h,hc,C9,hL=>by
  unfold A9Q at hc;split at hc
  ·rename_i x y;rw [E42] at hc;rw [DFn.go_cons,B6E] at C9;obtain ⟨x1,e1,h1,hk,hL1,vH⟩:=D4d (L:=L) hE n q.2 x _ e h (v,h') hc.1 C9 hL;cases x1 with
   | normal =>
    obtain ⟨g1,g2⟩:=D2X hE hG hr n l y (e1.keep q.1) h1 hc.2 hk hL1;refine ⟨g1,fun Γ μ a w hds hs hi hN had R hR=>wp_seq (vH Γ μ a w hs hi hN (by rw [hds];exact had) _ ?_)⟩;intro μ1 a1 w1 f1 f2 f3 f4 f5 f6;exact g2 Γ μ1 a1 w1 hds (f3.keep q.1) f4 f5 (by rw [f6,hds]) R λV' μ' w' k2 k3 k4 k5=>hR V' μ' w' (Mu.le_trans f1 k2) k3 k4 λid hid=>(k5 id hid).trans (f2 id hid)
   | ret =>
    have hk':mC f.res e1 h1=some (v,h'):=hk;have hh':=B6C hk';subst hh';refine ⟨hL1,fun Γ μ a w hds hs hi hN had R hR=>wp_seq (vH Γ μ a w hs hi hN (by rw [hds];exact had) _ ?_)⟩;intro μ1 a1 w1 f1 f2 f3 f4 f5 f6;obtain ⟨V',k1,k2,_⟩:=B4v f3 f4 hr hk';show Leaves P fn a1.tmps _ a1.defers .returning w1;rw [f6,hds];exact ⟨V',k1,hR V' μ1 w1 f1 k2 f4 f2⟩
   | exit id=>exact (by cases hk)
  ·cases hc
theorem D76 {E:N4} (hE:fH P E) {G:Fun} {f:DFn} (hG:D7z P f.fn G) {g:FuncId} {fn:Func} (hf:P.funcs[g]?=some fn) (hc:D7Z P fn f=true) {n:Nat}:SOk P g (f.run E G n):=by
 intro args h v h' C9;simp only [D7Z,E42,E5O] at hc;obtain ⟨⟨hb,hr⟩,D3e⟩:=hc;cases C1C:fn.body with
 | none=>rw [C1C] at hb;cases hb
 | some c =>
  rw [C1C] at hb;obtain ⟨h1,h2⟩:=D2X hE hG hr (L:=h.length) n f.pre c (params 0 args) h hb C9 (E44 _);refine ⟨⟨fn,hf,D3e,by simp [C1C]⟩,fun Γ μ w V hi hargs=>?_,h1⟩;refine calls_of_wp_defers hf C1C (h2 { Γ with ds:=[] } μ _ w rfl (D2B hargs _) (hi.ds []) (by simp;omega) rfl _ ?_);intro V' μ' w' k1 k2 k3 k4;exact ⟨V',μ',rfl,k1,k2,k3.ds Γ.ds,k4⟩
end
end
end Go.Esc
namespace Go.Esc
open Go
set_option maxRecDepth 100000
section
inductive PP where
 | o (x:AOper)
 | call (d:Option Nat) (g:Option (Nat × Bool)) (k:Nat) (args:List Opd)
inductive PC where
 | skip
 | ret
 | exit (id:Nat)
 | ops (l:List PP)
 | draw (n:Nat) (l r:List PP)
 | drawS (n:Nat) (l:List PP) (s:PP) (chk:List (Nat × AOp)) (r:List PP)
 | seq (keep:List Nat) (a b:PC)
 | jn (j:Nat) (keep:List Nat) (a b:PC)
 | cond (c:Opd) (a b:PC)
 | block (id:Nat) (a:PC)
 | loop (j:Nat) (keep:List Nat) (a:PC)
def erp (F:Nat->Nat):PP->AOper
 | .o x=>x
 | .call d g k args=>⟨d,.call (F k) args,g,none⟩
noncomputable def ers (F:Nat->Nat) (l:List PP):List AOper:=List.rec [] (λx _ r=>erp F x::r) l
noncomputable def er (F:Nat->Nat) (p:PC):ACode :=
 PC.rec (motive:=λ_=>ACode) .skip .ret (λi=>.exit i) (λl=>.ops (ers F l)) (λn l r=>.draw n (ers F l) (ers F r)) (λn l s k r=>.drawS n (ers F l) (erp F s) k (ers F r)) (λk _ _ a b=>.seq k a b) (λ_ k _ _ a b=>.seq k a b) (λc _ _ a b=>.cond c a b) (λi _ a=>.block i a) (λ_ k _ a=>.loop k a) p
def nx:Nat->Nat->Nat × Nat
 | 0,s=>(0,s)
 | f+1,s=>bif Nat.blt (s%16) 8 then (s%16,s/16) else match nx f (s/16) with | (a,r)=>(s%16-8+8*a,r)
abbrev Dst:=Nat × Nat
def rdn (s:Dst):Nat × Dst:=match nx 9 s.2 with | (a,r)=>(a,(s.1,r))
def E1n {α:Type} (g:Dst -> α × Dst):Nat->Dst->List α × Dst
 | 0,s=>([],s)
 | k+1,s=>match g s with | (a,s)=>match E1n g k s with | (l,s)=>(a::l,s)
def yE {α:Type} (g:Dst -> α × Dst) (s:Dst):List α × Dst:=match rdn s with | (k,s)=>E1n g k s
def E3O:Nat->BinOp
 | 0=>.add
 | 1=>.lss
 | 2=>.eql
 | 3=>.neq
 | 4=>.geq
 | 5=>.gtr
 | 6=>.mul
 | 7=>.sub
 | 8=>.rem
 | 9=>.leq
 | 10=>.quo
 | 11=>.shl
 | 12=>.shr
 | 13=>.or
 | 14=>.and
 | 15=>.xor
 | _=>.andNot
section
variable (V I:Nat->Val) (O:Nat->AOp) (Z:Nat->List Cell)
def eR (s:Dst):Opd × Dst:=match rdn s with
 | (v,s)=>(match v%4 with | 0=>.t (v/4) | 1=>.v (I (v/4)) | 2=>.t (s.1-v/4) | _=>.v (V (v/4)),s)
def E1o (s:Dst):(Nat × Nat × Opd) × Dst:=match rdn s with | (a,s)=>match rdn s with | (b,s)=>match eR V I s with | (x,s)=>((a,b,x),s)
def E3v:Nat->Dst->AOp × Dst
 | 0,s=>match eR V I s with | (x,s)=>(.mv x,s)
 | 1,s=>match eR V I s with | (x,s)=>(.load1 x,s)
 | 2,s=>match rdn s with | (n,s)=>match eR V I s with | (x,s)=>(.loadN n x,s)
 | 3,s=>match eR V I s with | (x,s)=>match rdn s with | (n,s)=>(.fAddr x n,s)
 | 4,s=>match eR V I s with | (x,s)=>match rdn s with | (n,s)=>(.ext x n,s)
 | 5,s=>match rdn s with | (n,s)=>match eR V I s with | (x,s)=>match eR V I s with | (y,s)=>(.bin (E3O n) x y,s)
 | 6,s=>match rdn s with | (n,s)=>match eR V I s with | (x,s)=>match eR V I s with | (y,s)=>(.iAddrL n x y,s)
 | 8,s=>match eR V I s with | (x,s)=>(.len x,s)
 | 9,s=>match rdn s with | (n,s)=>match eR V I s with | (x,s)=>match eR V I s with | (y,s)=>(.storeN n x y,s)
 | 10,s=>match eR V I s with | (x,s)=>match eR V I s with | (y,s)=>(.store1 x y,s)
 | 11,s=>match rdn s with | (n,s)=>match rdn s with | (k,s)=>match eR V I s with | (x,s)=>match eR V I s with | (y,s)=>(.iAddrA n k x y,s)
 | 12,s=>match eR V I s with | (c,s)=>match eR V I s with | (x,s)=>match eR V I s with | (y,s)=>(.pick c x y,s)
 | 13,s=>match eR V I s with | (x,s)=>(.un .not x,s)
 | 14,s=>match rdn s with | (z,s)=>(.alloc (Z z),s)
 | 15,s=>match eR V I s with | (x,s)=>(.box x,s)
 | 16,s=>match eR V I s with | (x,s)=>(.lenS x,s)
 | 17,s=>match eR V I s with | (x,s)=>(.nilc x,s)
 | 18,s=>match rdn s with | (n,s)=>(.nilrow n,s)
 | 19,s=>match rdn s with | (n,s)=>match eR V I s with | (x,s)=>match eR V I s with | (y,s)=>(.app n x y,s)
 | 20,s=>match rdn s with | (z,s)=>match yE (E1o V I) s with | (l,s)=>(.build (Z z) l,s)
 | 21,s=>match rdn s with | (a,s)=>match rdn s with | (b,s)=>match rdn s with | (z,s)=>match yE (E1o V I) s with | (l,s)=>(.buildSl a b (Z z) l,s)
 | 22,s=>match rdn s with | (n,s)=>match eR V I s with | (x,s)=>match eR V I s with | (y,s)=>(.idxA1 n x y,s)
 | 23,s=>match eR V I s with | (x,s)=>(.mark x,s)
 | 24,s=>match eR V I s with | (x,s)=>(.conv .u64 x,s)
 | 25,s=>match eR V I s with | (x,s)=>(.conv .i64 x,s)
 | 26,s=>match eR V I s with | (x,s)=>(.conv .u8 x,s)
 | 27,s=>match eR V I s with | (x,s)=>match rdn s with | (n,s)=>(.fld1 x n,s)
 | 28,s=>match eR V I s with | (x,s)=>match rdn s with | (n,s)=>match rdn s with | (k,s)=>(.fldN x n k,s)
 | 29,s=>match rdn s with | (z,s)=>match rdn s with | (n,s)=>match eR V I s with | (x,s)=>match eR V I s with | (y,s)=>(.mkSl n (Z z) x y,s)
 | 30,s=>match rdn s with | (n,s)=>match yE (eR V I) s with | (l,s)=>(.mkf n l,s)
 | 31,s=>match eR V I s with | (f,s)=>match yE (eR V I) s with | (l,s)=>(.callV f l,s)
 | _,s=>match rdn s with | (n,s)=>(O n,s)
def rpp (s:Dst):PP × Dst:=match rdn s with
 | (h,s)=>match (match h%3 with | 0=>(some (s.1+1),(s.1+1,s.2)) | 1=>(match rdn s with | (d,s)=>(some d,(d,s.2))) | _=>((none:Option Nat),s)) with
  | (d,s)=>match (match h/3%2 with | 0=>((none:Option (Nat × Bool)),s) | _=>(match rdn s with | (g,s)=>(some (g/2,Nat.beq (g%2) 1),s))) with
   | (g,s)=>match (match h/6%2 with | 0=>((none:Option Nat),s) | _=>(match rdn s with | (l,s)=>(some l,s))) with
    | (l,s)=>match h/12 with
     | 7=>match rdn s with | (k,s)=>match yE (eR V I) s with | (a,s)=>(.call d g k a,s)
     | t=>match E3v V I O Z t s with | (o,s)=>(.o ⟨d,o,g,l⟩,s)
def E4z (s:Dst):(Nat × AOp) × Dst:=match rdn s with | (d,s)=>match rdn s with | (t,s)=>match E3v V I O Z t s with | (o,s)=>((d,o),s)
def B29:Nat->Dst->PC × Dst
 | 0,s=>(.skip,s)
 | f+1,s=>match rdn s with
  | (0,s)=>(.skip,s)
  | (1,s)=>(.ret,s)
  | (2,s)=>match yE rdn s with | (k,s)=>match yE (rpp V I O Z) s with | (l,s)=>match B29 f s with | (b,s)=>(.seq k (.ops l) b,s)
  | (3,s)=>match yE rdn s with | (k,s)=>match B29 f s with | (a,s)=>match B29 f s with | (b,s)=>(.seq k a b,s)
  | (4,s)=>match eR V I s with | (c,s)=>match B29 f s with | (a,s)=>match B29 f s with | (b,s)=>(.cond c a b,s)
  | (5,s)=>match rdn s with | (k,s)=>match B29 f s with | (a,s)=>(.block k a,s)
  | (6,s)=>match rdn s with | (j,s)=>match yE rdn s with | (k,s)=>match B29 f s with | (a,s)=>(.loop j k a,s)
  | (7,s)=>match rdn s with | (k,s)=>(.exit k,s)
  | (8,s)=>match yE (rpp V I O Z) s with | (l,s)=>(.ops l,s)
  | (9,s)=>match rdn s with | (n,s)=>match yE (rpp V I O Z) s with | (l,s)=>match yE (rpp V I O Z) s with | (r,s)=>(.draw n l r,s)
  | (10,s)=>match rdn s with | (j,s)=>match yE rdn s with | (k,s)=>match B29 f s with | (a,s)=>match B29 f s with | (b,s)=>(.jn j k a b,s)
  | (_,s)=>match rdn s with | (n,s)=>match yE (rpp V I O Z) s with | (l,s)=>match rpp V I O Z s with | (x,s)=>match yE (E4z V I O Z) s with | (c,s)=>match yE (rpp V I O Z) s with | (r,s)=>(.drawS n l x c r,s)
end
abbrev PT:=(Nat->Val)->(Nat->Val)->(Nat->AOp)->(Nat->List Cell)->PC
def dcp (x:Nat):PT:=λV I O Z=>(B29 V I O Z 99 (0,x)).1
def px (x:Nat) {p:PT} (hp:p=dcp x:=by conv=>{ rhs;reduce }):PT:=p
def C6S {α:Type} (z:α):List α -> Nat -> α
 | [],_=>z
 | a::_,0=>a
 | _::l,i+1=>C6S z l i
def D5K (n:Nat):Val:=.c (.i .i64 n)
def E09:List (List Cell):=[[],[.i .i64 0],[.ns],[.s []],[.b false],[.nm],[.nf],[.i .u8 0],[.i .u8 0,.i .u8 0],[.i .u8 0,.i .u8 0,.i .u8 0,.i .u8 0],[.i .u8 0,.i .u8 0,.i .u8 0,.i .u8 0,.i .u8 0],[.i .u8 0,.i .u8 0,.i .u8 0,.i .u8 0,.i .u8 0,.i .u8 0,.i .u8 0,.i .u8 0],E41 256 (.i .u8 0),E41 32 (.i .u8 0),E41 25 (.i .u8 0),[.i .i64 0]++E41 32 (.i .i64 0),[.i .i64 0]++E41 256 (.i .u8 0),[.s [],.i .i64 0],[.i .i64 0,.i .i64 0,.i .u64 0],[.i .i64 0,.i .i64 0,.i .i64 0],[.i .i64 0,.s [],.i .i64 0],[.i .i64 0,.ns],[.i .i64 0,.i .i64 0,.i .u64 0,.nf],[.i .i64 0,.i .i64 0,.s [],.i .i64 0],[.i .i64 0,.i .i64 0,.i .i64 0,.i .i64 0,.i .i64 0,.i .i64 0],[.i .i64 0,.i .i64 0,.i .i64 0,.i .i64 0,.i .i64 0,.i .i64 0,.i .i64 0],[.i .i64 0,.i .i64 0,.i .i64 0,.i .i64 0,.i .i64 0,.i .i64 0,.i .i64 0,.i .i64 0],[.i .i64 0,.i .i64 0,.i .i64 0,.i .i64 0,.i .i64 0,.i .i64 0,.i .i64 0,.i .i64 0,.i .i64 0,.i .i64 0,.i .i64 0],[.i .i64 0,.i .i64 0,.i .i64 0,.i .i64 0,.i .i64 0,.ns,.ns],[.ns,.ns,.ns,.ns,.ns,.i .i64 0,.ns,.ns],[.ns,.ns,.ns,.ns,.ns,.i .i64 0]]
structure Cal (P:Program) where
 f:FuncId
 S:Fun
 ok:SOk P f S
def cal {P:Program} {f:FuncId} {S:Fun} (ok:SOk P f S):Cal P:=⟨f,S,ok⟩
def el {P:Program}:List (Cal P)->N4
 | []=>D20
 | c::l=>D8f c.f c.S (el l)
theorem D5D {P:Program}:∀ l:List (Cal P),fH P (el l)
 | []=>D5d
 | c::l=>D5e c.ok (D5D l)
def E2o {P:Program}:List (Cal P)->Nat->Nat
 | [],_=>0
 | c::_,0=>c.f
 | _::l,k+1=>E2o l k
def B9J {P:Program}:List (Cal P)->Nat->Fun
 | [],_=>λ_ _=>none
 | c::_,0=>c.S
 | _::l,k+1=>B9J l k
structure FD (P:Program) where
 p:PT
 V:List Val
 O:List AOp
 res:List ARes
 L:List (Cal P)
inductive Fr where
 | seq (keep:List Nat) (b:PC)
 | jn (j:Nat) (keep:List Nat) (b:PC)
 | blk (id:Nat)
 | lp (j:Nat) (keep:List Nat) (a:PC) (m:Nat)
section
variable {P:Program} (d:FD P)
def FD.code:PC:=d.p (C6S .no d.V) D5K (C6S (.nilrow 0) d.O) (C6S [] E09)
noncomputable def FD.A:AFn:=⟨er (E2o d.L) d.code,d.res⟩
noncomputable def FD.E:N4:=el d.L
noncomputable def FD.R (n:Nat):Fun:=rx d.E d.A n
noncomputable def FD.S:Fun:=tl d.A d.E
noncomputable def FD.Q:Fun:=Lim d.A d.E
theorem FD.K {f:FuncId} {fn:Func} (hf:P.funcs[f]?=some fn) (hc:C5T P fn d.A=true:=by kernel_rfl):FnK P f d.A d.E d.R:=.mk2 (D5D _) hf hc
end
def fd:PC->Nat->List Nat->List Fr->Option (Bool × List Nat × PC × List Fr × Nat)
 | .seq k a b,j,ns,s=>(fd a j ns (.seq k b::s)).or (fd b j ns s)
 | .jn i k a b,j,ns,s=>bif Nat.beq i j then some (false,k,b,s,0) else (fd a j ns (.jn i k b::s)).or (fd b j ns s)
 | .cond _ a b,j,ns,s=>(fd a j ns s).or (fd b j ns s)
 | .block i a,j,ns,s=>fd a j ns (.blk i::s)
 | .loop i k a,j,m::ns,s=>bif Nat.beq i j then some (true,k,a,s,m) else fd a j ns (.lp i k a m::s)
 | _,_,_,_=>none
noncomputable def kof (E:N4) (n:Nat) (F:Nat->Nat) (fin:KV):List Fr->KV
 | []=>fin
 | .seq k b::s=>E0i k (ax E n (er F b)) (kof E n F fin s)
 | .jn _ k b::s=>E0i k (ax E n (er F b)) (kof E n F fin s)
 | .blk i::s=>D4D i (kof E n F fin s)
 | .lp _ k a m::s=>E1k k (A6g (ax E n (er F a)) k (kof E n F fin s) m) (kof E n F fin s)
noncomputable def lj' (E:N4) (n:Nat) (F:Nat->Nat) (fin:KV) (xs:List Val) (h:A6):Option (Bool × List Nat × PC × List Fr × Nat)->B3g
 | some (true,k,a,s,m)=>A6g (ax E n (er F a)) k (kof E n F fin s) m (zE k xs) h
 | some (false,k,b,s,_)=>hold (ax E n (er F b) (kof E n F fin s) (zE k xs) h)
 | none=>none
noncomputable def FD.lj {P:Program} (d:FD P) (j n:Nat) (ns:List Nat) (xs:List Val):AtH:=λh=>lj' d.E n (E2o d.L) d.A.fin xs h (fd d.code j ns [])
def AN (X:Type):Nat->Type
 | 0=>X
 | a+1=>Nat->AN X a
def AV:Nat->Type
 | 0=>AtH
 | b+1=>Val->AV b
def C07 {X:Type}:(a:Nat)->AN X a->List Nat->X
 | 0,f,_=>f
 | a+1,f,[]=>C07 a (f 0) []
 | a+1,f,n::l=>C07 a (f n) l
def C08:(b:Nat)->AV b->List Val->AtH
 | 0,f,_=>f
 | b+1,f,[]=>C08 b (f .no) []
 | b+1,f,x::l=>C08 b (f x) l
structure TE where
 a:Nat
 b:Nat
 f:AN (AV b) a
structure TT where
 E:N4
 l:List TE
def tT (l:List TE):TT:=⟨D20,l⟩
def C7y:List TE->Nat->List Nat->List Val->AtH
 | [],_,_,_=>λ_=>none
 | t::_,0,ns,xs=>C08 t.b (C07 t.a t.f ns) xs
 | _::l,j+1,ns,xs=>C7y l j ns xs
inductive Rs:Type 1 where
 | v (x:Val)
 | n (x:Val) (h:A6)
 | b (x:Option Val)
 | g (x:Option A6)
 | p (x:Option (Val × A6))
 | l {α:Type} (x:Option α) (v:α -> Val) (h:α -> A6)
inductive Ct:Type 1 where
 | code (p:PC)
 | ops (l:List PP)
 | dr (l:List PP) (hr:A6) (c:Ct)
 | ds (x:PP) (chk:List (Nat × AOp)) (r:List PP)
 | ag (chk:List (Nat × AOp)) (e0:Env) (c:Ct)
 | rs (r:Rs) (d:Option Nat) (c:Ct)
 | nrm
 | ex (id:Nat)
def B4V:Env->Nat->Val
 | [],_=>.un
 | (d,v)::r,t=>bif d==t then v else B4V r t
def O4 (e:Env):Opd->Val
 | .t n=>B4V e n
 | .v x=>x
def D83 (e:Env):List Nat->Env
 | []=>[]
 | t::r=>(t,B4V e t)::D83 e r
def D4Z (e:Env):List Nat->List Val
 | []=>[]
 | t::r=>B4V e t::D4Z e r
def C7b (e:Env):List Opd->List Val
 | []=>[]
 | x::l=>O4 e x::C7b e l
def B7D (e:Env):Option Opd->Option Val
 | none=>none
 | some x=>some (O4 e x)
def D0j (e:Env):List (Nat × Nat × Opd)->List (Nat × Nat × Val)
 | []=>[]
 | (a,b,x)::l=>(a,b,O4 e x)::D0j e l
def D1P (e:Env):Option Nat->Val->Env
 | none,_=>e
 | some d,v=>(d,v)::e
def D85:Nat->List Val->Env
 | _,[]=>[]
 | i,v::l=>(i,v)::D85 (i+1) l
def B1r:Nat->A6
 | 0=>[]
 | n+1=>none::B1r n
def D60 (hr h:A6) (r:Row) (v:Nat->Val):Option Nat->Rs
 | none=>.n (v h.length) (h++[some r])
 | some j=>.n (v (hr.length+j)) (h.set (hr.length+j) (some r))
def D4L {α:Type} (hr h:A6) (x:Option α) (r:α -> Row) (v:Nat -> α -> Val):Option Nat->Rs
 | none=>.l x (λa=>v h.length a) (λa=>h++[some (r a)])
 | some j=>.l x (λa=>v (hr.length+j) a) (λa=>h.set (hr.length+j) (some (r a)))
noncomputable def D86 (q:Bool) (h:A6) (x:B3g):B3g:=match q with
 | true=>quiet h x
 | false=>x
noncomputable def E0u (E:N4) (q:Bool) (hr:A6) (sl:Option Nat) (e:Env) (h:A6):AOp->Rs
 | .mv x=>.v (O4 e x)
 | .nilrow n=>D60 hr h (Row.mk [] true) (λi=>.c (.sl i 0 0 n)) sl
 | .pick c a b=>.b (D2z (O4 e c) (O4 e a) (O4 e b))
 | .alloc z=>D60 hr h (Row.mk z true) (λi=>.c (.p i 0)) sl
 | .box x=>D4L hr h (cells? (O4 e x)) (λc=>Row.mk c true) (λi _=>.c (.p i 0)) sl
 | .build z l=>.l (D9 z (D0j e l)) (λc=>.a c) (λ_=>h)
 | .buildSl n k z l=>D4L hr h (D9 z (D0j e l)) (λc=>Row.mk c true) (λi _=>.c (.sl i 0 k n)) sl
 | .load1 x=>.b (B4 hr (O4 e x))
 | .loadN n x=>.b (C8 hr n (O4 e x))
 | .store1 a x=>.g (F9 h (O4 e a) (O4 e x))
 | .storeN n a x=>.g (E1 h n (O4 e a) (O4 e x))
 | .bin o x y=>.b (N5 o (O4 e x) (O4 e y))
 | .eqA n s x y=>.b (aeq n s (O4 e x) (O4 e y))
 | .eqB n x y=>.b (D4c n (O4 e x) (O4 e y))
 | .eqN f n x=>.b (D08 f n (O4 e x))
 | .nilc x=>.b (A4i (O4 e x))
 | .un o x=>.b (aun o (O4 e x))
 | .conv k x=>.b (D2o k (O4 e x))
 | .convS x=>.b (D06 (O4 e x))
 | .s2b x=>D4L hr h (E1E (O4 e x)) (λs=>Row.mk (A5 s) true) (λi s=>.c (.sl i 0 s.length 1)) sl
 | .b2s x=>.b (B4o hr (O4 e x))
 | .b2sN none x=>.b (B4o h (O4 e x))
 | .b2sN (some o) x=>.b (C02 h hr.length (some o) (O4 e x))
 | .mark x=>.b (xY h (O4 e x))
 | .mkf f l=>.b (B4t f (C7b e l))
 | .mkSl n z x y=>D4L hr h (A1m (O4 e x) (O4 e y)) (λk=>Row.mk (rows z k) true) (λi k=>.c (.sl i 0 k n)) sl
 | .slS x a b=>.b (D9U (O4 e x) (B7D e a) (B7D e b))
 | .slL n x a b=>.b (D2C n (O4 e x) (B7D e a) (B7D e b))
 | .slA n k x a b=>.b (B4w hr n k (O4 e x) (B7D e a) (B7D e b))
 | .fAddr x n=>.b (qL (O4 e x) n)
 | .iAddrA n k x y=>.b (J3 n k (O4 e x) (O4 e y))
 | .iAddrL n x y=>.b (D5 n (O4 e x) (O4 e y))
 | .fld1 x n=>.b (C06 (O4 e x) n)
 | .fldN x n k=>.b (D5r (O4 e x) n k)
 | .idxA1 n x y=>.b (A3v n (O4 e x) (O4 e y))
 | .idxAN n k x y=>.b (D09 n k (O4 e x) (O4 e y))
 | .idxS x y=>.b (C5y (O4 e x) (O4 e y))
 | .ext x n=>.b (D4e (O4 e x) n)
 | .call _ _=>.b none
 | .callV f l=>.p (D86 q h (A2a E (O4 e f) (C7b e l) h))
 | .len x=>.b (D1a (O4 e x))
 | .lenS x=>.b (D2r (O4 e x))
 | .app n x y=>.p (jK h n (O4 e x) (O4 e y))
 | .appZ n z x y=>.p (B6z h n z (O4 e x) (O4 e y))
 | .max x y=>.b (C5A (O4 e x) (O4 e y))
 | .min x y=>.b (B6B (O4 e x) (O4 e y))
 | .copy n x y=>.p (C5u h n (O4 e x) (O4 e y))
 | .mkMap=>D60 hr h (S4 []) (λi=>.c (.m i)) sl
 | .look k z o m x=>.b (A7f hr k z o (O4 e m) (O4 e x))
 | .mput k m x y=>.g (A17 h k (O4 e m) (O4 e x) (O4 e y))
 | .ment k z m x=>.p (D2u h k z (O4 e m) (O4 e x))
 | .mset m x y=>.g (D2v h (O4 e m) (O4 e x) (O4 e y))
def E0B (h:A6):Rs->B3g
 | .v x=>some (x,h)
 | .n x g=>some (x,g)
 | .b x=>bnd x λv=>some (v,h)
 | .g x=>bnd x λh=>some (.un,h)
 | .p x=>bnd x λp=>some (p.1,p.2)
 | .l x v g=>bnd x λa=>some (v a,g a)
def D3A (e:Env) (h:A6) (r:Rs):Option (Nat × Bool)->Rs
 | none=>r
 | some (g,w)=>.p (gd (B4V e g) w (E0B h r) (some (.no,h)))
noncomputable def D68 (E:N4) (L:Nat->Fun) (q:Bool) (hr:A6) (e:Env) (h:A6):PP->Rs
 | .o ⟨_,o,g,s⟩=>D3A e h (E0u E q hr s e h o) g
 | .call _ g k l=>D3A e h (.p (D86 q h (L k (C7b e l) h))) g
def D65:PP->Option Nat
 | .o x=>x.dst
 | .call d _ _ _=>d
def C66 (e:Env) (h:A6):List ARes->List (Option Val)
 | []=>[]
 | .tmp t::l=>some (B4V e t)::C66 e h l
 | .cell1 t::l=>B4 h (B4V e t)::C66 e h l
 | .cellN t n::l=>C8 h n (B4V e t)::C66 e h l
def D82 (e:Env) (h:A6):List ARes->B3g
 | []=>C7B [] h
 | [.tmp t]=>some (B4V e t,h)
 | [.cell1 t]=>mp (B4 h (B4V e t)) λv=>(v,h)
 | [.cellN t n]=>mp (C8 h n (B4V e t)) λv=>(v,h)
 | a::b::l=>C7B (C66 e h (a::b::l)) h
def B22 (n:Nat):List Fr->List Nat->List Nat
 | [],l=>n::l
 | .lp _ _ _ m::s,l=>B22 n s (m::l)
 | .seq _ _::s,l=>B22 n s l
 | .jn _ _ _::s,l=>B22 n s l
 | .blk _::s,l=>B22 n s l
def E0G (h:A6) (e:Env):AOp->Option Val
 | .load1 x=>B4 h (O4 e x)
 | .loadN n x=>C8 h n (O4 e x)
 | _=>none
noncomputable def jL (n:Nat) (E:N4) (L:Nat->Fun) (T:List TE) (res:List ARes):Nat->Ct->List Fr->Env->A6->B3g
 | 0,_,_,_,_=>none
 | f+1,.code .skip,s,e,h=>jL n E L T res f .nrm s e h
 | _+1,.code .ret,_,e,h=>D82 e h res
 | f+1,.code (.exit i),s,e,h=>jL n E L T res f (.ex i) s e h
 | f+1,.code (.ops l),s,e,h=>jL n E L T res f (.ops l) s e h
 | f+1,.code (.draw k l r),s,e,h=>jL n E L T res f (.dr l h (.ops r)) s e (h++B1r k)
 | f+1,.code (.drawS k l x c r),s,e,h=>jL n E L T res f (.dr l h (.ds x c r)) s e (h++B1r k)
 | f+1,.code (.seq k a b),s,e,h=>jL n E L T res f (.code a) (.seq k b::s) e h
 | f+1,.code (.jn j k a b),s,e,h=>jL n E L T res f (.code a) (.jn j k b::s) e h
 | f+1,.code (.cond c a b),s,e,h=>cnd (O4 e c) (jL n E L T res f (.code a) s e h) (jL n E L T res f (.code b) s e h)
 | f+1,.code (.block i a),s,e,h=>jL n E L T res f (.code a) (.blk i::s) e h
 | _+1,.code (.loop j k _),s,e,h=>C7y T j (B22 n s [n]) (D4Z e k) h
 | _+1,.nrm,[],e,h=>D82 e h res
 | f+1,.nrm,.seq k b::s,e,h=>jL n E L T res f (.code b) s (D83 e k) h
 | _+1,.nrm,.jn j k _::s,e,h=>C7y T j (B22 n s []) (D4Z e k) h
 | f+1,.nrm,.blk _::s,e,h=>jL n E L T res f .nrm s e h
 | _+1,.nrm,.lp j k _ m::s,e,h=>C7y T j (B22 n s [m]) (D4Z e k) h
 | f+1,.ex i,.blk j::s,e,h=>bif j==i then jL n E L T res f .nrm s e h else jL n E L T res f (.ex i) s e h
 | f+1,.ex i,.seq _ _::s,e,h=>jL n E L T res f (.ex i) s e h
 | f+1,.ex i,.jn _ _ _::s,e,h=>jL n E L T res f (.ex i) s e h
 | f+1,.ex i,.lp _ _ _ _::s,e,h=>jL n E L T res f (.ex i) s e h
 | _+1,.ex _,[],_,_=>none
 | f+1,.ops [],s,e,h=>jL n E L T res f .nrm s e h
 | f+1,.ops (x::l),s,e,h=>jL n E L T res f (.rs (D68 E L false h e h x) (D65 x) (.ops l)) s e h
 | f+1,.dr [] _ c,s,e,h=>jL n E L T res f c s e h
 | f+1,.dr (x::l) hr c,s,e,h=>jL n E L T res f (.rs (D68 E L true hr e h x) (D65 x) (.dr l hr c)) s e h
 | f+1,.ds x c r,s,e,h=>jL n E L T res f (.rs (D68 E L false h e h x) (D65 x) (.ag c e (.ops r))) s e h
 | f+1,.ag [] _ c,s,e,h=>jL n E L T res f c s e h
 | f+1,.ag ((d,o)::k) e0 c,s,e,h=>agn (E0G h e0 o) (B4V e0 d) (jL n E L T res f (.ag k e0 c) s e h)
 | f+1,.rs (.v x) d c,s,e,h=>jL n E L T res f c s (D1P e d x) h
 | f+1,.rs (.n x g) d c,s,e,_=>jL n E L T res f c s (D1P e d x) g
 | f+1,.rs (.b x) d c,s,e,h=>bnd x λv=>jL n E L T res f c s (D1P e d v) h
 | f+1,.rs (.g x) d c,s,e,_=>bnd x λh=>jL n E L T res f c s (D1P e d .un) h
 | f+1,.rs (.p x) d c,s,e,_=>bnd x λp=>jL n E L T res f c s (D1P e d p.1) p.2
 | f+1,.rs (.l x v g) d c,s,e,_=>bnd x λa=>jL n E L T res f c s (D1P e d (v a)) (g a)
noncomputable def E3s {P:Program} (d:FD P) (T:TT) (n:Nat) (args:List Val) (h:A6):B3g :=
 jL n T.E (B9J d.L) T.l d.res 9999 (.code d.code) [] (D85 0 args) h
noncomputable def D5Z (j n:Nat) (E:N4) (L:Nat->Fun) (T:List TE) (res:List ARes) (xs:List Val) (h:A6):Option (Bool × List Nat × PC × List Fr × Nat)->B3g
 | some (true,k,a,s,m)=>jL n E L T res 9999 (.code a) (.lp j k a m::s) (zE k xs) h
 | some (false,k,b,s,_)=>jL n E L T res 9999 (.code b) s (zE k xs) h
 | none=>none
noncomputable def E0s {P:Program} (d:FD P) (T:TT) (j n:Nat) (ns:List Nat) (xs:List Val) (h:A6):B3g :=
 D5Z j n T.E (B9J d.L) T.l d.res xs h (fd d.code j ns [])
def Nrm (a b:B3g):Prop:=a=b
theorem D3v (a:B3g):Nrm a a:=rfl
def D4l:List Nat->List Nat
 | []=>[]
 | [m]=>[m+1]
 | m::k::l=>m::D4l (k::l)
section
variable {P:Program}
theorem mR (R:Nat->Fun) (d:FD P) (T:TT) (n:Nat) (args:List Val) (h:A6) {c:B3g} (hc:Nrm (E3s d T n args h) c:=by (conv=>{ arg 1;arg 1;whnf });(conv=>{ arg 1;arg 2;whnf });dsimp only [E3s,FD.code];(conv=>{ arg 1;arg 7;arg 1;whnf });dsimp only [jL,D68,D65,E0u,D3A,E0B,D60,D4L,D86,B4V,O4,D83,D4Z,C7b,B7D,D0j,D1P,D85,B1r,B22,C7y,C07,C08,D82,C66,E0G,D5K,C6S,E09,B9J,cal,D5Z,zE,Nat.reduceBEq,Nat.reduceAdd,cond_true,cond_false,Int.cast_ofNat_Int];exact D3v _) (e:R n args h=c:=by kernel_rfl):R n args h=c:=e
theorem mJ (d:FD P) (T:TT) (j n:Nat) (ns:List Nat) (xs:List Val) (h:A6) {a c:B3g} (ha:Nrm (C7y T.l j (n::ns) xs h) a:=by (conv=>{ arg 1;arg 1;arg 1;whnf });dsimp only [C7y,C07,C08];exact D3v _) (hc:Nrm (E0s d T j n ns xs h) c:=by (conv=>{ arg 1;arg 1;whnf });(conv=>{ arg 1;arg 2;whnf });dsimp only [E0s];(conv=>{ arg 1;arg 9;whnf });dsimp only [jL,D68,D65,E0u,D3A,E0B,D60,D4L,D86,B4V,O4,D83,D4Z,C7b,B7D,D0j,D1P,D85,B1r,B22,C7y,C07,C08,D82,C66,E0G,D5K,C6S,E09,B9J,cal,D5Z,zE,Nat.reduceBEq,Nat.reduceAdd,cond_true,cond_false,Int.cast_ofNat_Int];exact D3v _) (e:a=c:=by kernel_rfl):a=c:=e
theorem mL (d:FD P) (T:TT) (j n:Nat) (ns:List Nat) (xs:List Val) (h:A6) {a c:B3g} (ha:Nrm (C7y T.l j (n::D4l ns) xs h) a:=by (conv=>{ arg 1;arg 1;arg 1;whnf });dsimp only [C7y,C07,C08,D4l];exact D3v _) (hc:Nrm (E0s d T j n ns xs h) c:=by (conv=>{ arg 1;arg 1;whnf });(conv=>{ arg 1;arg 2;whnf });dsimp only [E0s];(conv=>{ arg 1;arg 9;whnf });dsimp only [jL,D68,D65,E0u,D3A,E0B,D60,D4L,D86,B4V,O4,D83,D4Z,C7b,B7D,D0j,D1P,D85,B1r,B22,C7y,C07,C08,D82,C66,E0G,D5K,C6S,E09,B9J,cal,D5Z,zE,Nat.reduceBEq,Nat.reduceAdd,cond_true,cond_false,Int.cast_ofNat_Int];exact D3v _) (e:a=c:=by kernel_rfl):a=c:=e
end
end
end Go.Esc
namespace Go.Proofs.YtbnkgnfhgbhblaaGreat
open Go Go.Esc
set_option maxRecDepth 100000
noncomputable section
variable (n m m2:Nat) (a0 a1 a2 a3 x0 x1 x3 x4 x6 x7 x8 x10 x16 x17 x18 x19 x20 x21 x25 x26:Val) (h:A6)
def oM:FD Tryz.prog:=⟨px 0X12384881de1c488493926122882a157a07c218621fa1a1c148828c48061a07c3c0406180072461e47c6288977c403c2f143a2a29281876311922a29281876311831b801a87161c1e2e11981a052a2928187631182152a292863163070242a2928631631a617c12b2a2928631722a2928631606051061c87a032a29286316263211a0124e4881de6a48838261224631e2a82889642e7f42e3601617c419161e6321526321431c62d9032ed2632142,[.c (.b true)],[],[.cellN 6 256],[]⟩
def B8l:=oM.R
def C6W:AtH:=oM.lj 0 n [m] [x1,x3,x6,x16,x17,x18]
def C6V:AtH:=oM.lj 1 n [] [x3,x6]
def B9s:=tT [⟨2,6,C6W⟩,⟨1,2,C6V⟩]
def D0S:=mR B8l oM B9s n [a0,a1,a2] h
def C8Q:=mL oM B9s 0 n [m] [x1,x3,x6,x16,x17,x18] h
def C8P:=mJ oM B9s 1 n [] [x3,x6] h
def C9h:=oM.K Tryz.func161
def B9f:=oM.S
theorem A58:SOk Tryz.prog 161 B9f:=C9h.sok
theorem C5b:E5 B8l B9f:=C9h.flat
def B48:FD Tryz.prog:=⟨px 0X121e4881de611a301ac0001c3e842121c22d912022,[],[],[.cellN 2 256],[cal A58]⟩
def C4s:=B48.R
def D2i:=mR C4s B48 (tT []) n [a0] h
def D2d:=B48.K Tryz.func158
def C5c:=B48.S
theorem A11:SOk Tryz.prog 158 C5c:=D2d.sok
theorem C8p:E5 C4s C5c:=D2d.flat
def A1B:FD Tryz.prog:=⟨px 0X11c861363a2a862a194d7f61a74d7f44d3184d304d360362a2a861a193b7f6e3b343b360361e2a85642b7f42b3601647c002b612361121032,[.c (.b false)],[],[.tmp 6],[]⟩
def C0P:=A1B.R
def C4t:=mR C0P A1B (tT []) n [a0,a1,a2] h
def C0w:=A1B.K Tryz.func157
def A9o:=A1B.S
theorem qF:SOk Tryz.prog 157 A9o:=C0w.sok
theorem B9h:E5 C0P A9o:=C0w.flat
def tA:FD Tryz.prog:=⟨px 0X12484881de284884a392181228c2c156e07c218621fa3e28148828c64f862a1c7c64c864967c4c01c061a07c7e042f11b181b81911a022c2b191843172152c2b1843163070242c2b18431631a617c12d2c2b18431722c2b18431606051018022c2b1843162184230125a4881de7a488382181224632e2a86382bf288961a30381af6a38343836029657c4a1a1182918432162184321531c182d9042ed218432152,[.c (.b true)],[],[.cellN 8 256],[cal qF]⟩
def B3z:=tA.R
def C1K:AtH:=tA.lj 0 n [m] [x1,x3,x4,x8,x19,x20]
def C5r:=tT [⟨2,6,C1K⟩]
def C73:=mR B3z tA C5r n [a0,a1,a2,a3] h
def B0G:=mL tA C5r 0 n [m] [x1,x3,x4,x8,x19,x20] h
def C3Q:=tA.K Tryz.func159
def A59:=tA.S
theorem vB:SOk Tryz.prog 159 A59:=C3Q.sok
theorem C20:E5 B3z A59:=C3Q.flat
def zY:FD Tryz.prog:=⟨px 0X1702cc1815859131918222c83a157a07c218621fa3e5a119864f862a1c7c64c864967c5c01c061a07c5c040583d11c181e81b11a023a391b1a3162153a391a3153070243a391a31531a617c13b3a391a31623a391a3150605101839123a391a31521a131c81a161a13cc0000012e3fd41a3214201301183b9219182224673e2a863c2bf61e2a303c1af63c1cb03c37a3c343c36049657c5a1c11a2d321052321043301183b92321042,[.c (.b false),.c (.b true)],[],[.tmp 8,.tmp 9],[cal qF]⟩
def B8m:=zY.R
def C6X:AtH:=zY.lj 0 n [m] [x1,x3,x10,x25,x26]
def C9w:=tT [⟨2,5,C6X⟩]
def D0T:=mR B8m zY C9w n [a0,a1,a2,a3] h
def B25:=mL zY C9w 0 n [m] [x1,x3,x10,x25,x26] h
def C9i:=zY.K Tryz.func160
def B9g:=zY.S
theorem D04:SOk Tryz.prog 160 B9g:=C9i.sok
theorem C5d:D5o B8m B9g:=C9i.tidy
def zW:FD Tryz.prog:=⟨px 0X12b8613c4e126122ac3a155e07c218621fa3a3e119861c61c148828c61a07c480404803c3d119181e81811a023a391873162153a3973153070243a39731531a617c13b3a39731623a3973150605101839123a39731527131c87166175bc182f137321421b82106886288977c40182b153213201163b9161224631e2a85613e7f7a3e360631e2a82889642e7f42e3601617c41911a2a3214232133163b9032ed232132,[.c (.b true)],[.min (.t 19) (.t 21)],[.tmp 6],[]⟩
def B8k:=zW.R
def C6T:AtH:=zW.lj 0 n [m] [x1,x3,x7,x25,x26]
def C9u:=tT [⟨2,5,C6T⟩]
def D0Q:=mR B8k zW C9u n [a0,a1,a2] h
def B23:=mL zW C9u 0 n [m] [x1,x3,x7,x25,x26] h
def C9f:=zW.K Tryz.func86
def B9d:=zW.S
theorem A57:SOk Tryz.prog 86 B9d:=C9f.sok
theorem C8o:pE B8k B9d:=C9f.out
def zX:FD Tryz.prog:=⟨px 0X11b02b861484e1376222ac2d1518a04d7d2182a818166a1d7c62a1b7c64c864967c4c064c861c62a119861a07c4c04000483811e181bc1911a022d2c19181062152d2c181053070242d2c1810531a617c12e2d2c1810622d2c18105060510182c122d2c181052181330118210420170361276222461b3e2a86382bf61e2a30381af6381cb03836a38343836049657c4a1a11a2b210422103370361221032,[.c (.i .u64 0),.c (.b false),.c (.b true)],[],[.tmp 6,.tmp 7],[cal qF]⟩
def C9p:=zX.R
def C6U:AtH:=zX.lj 0 n [m] [x0,x1,x8,x20,x21]
def C9v:=tT [⟨2,5,C6U⟩]
def D0R:=mR C9p zX C9v n [a0,a1,a2] h
def B24:=mL zX C9v 0 n [m] [x0,x1,x8,x20,x21] h
def C9g:=zX.K Tryz.func85
def B9e:=zX.S
theorem D03:SOk Tryz.prog 85 B9e:=C9g.sok
theorem C5a:E5 C9p B9e:=C9g.flat
def A3X:FD Tryz.prog:=⟨px 0X1298613c4a1261228c2a157e0497d2182887165e1d7c62a1b7c64c864967c48064dc61c61c148828c61a07c7e0407a2d11d181a81811a022a291873162152a2973153070242a29731531a617c12b2a29731622a2973150605107e29122a297315271310173214201161161224632e2a862e2bf288961a302e1af5e2e342e36029657c3e19118283214232133161032ed232132,[.c (.b true)],[],[.tmp 6],[cal qF]⟩
def D2g:=A3X.R
def D0f:AtH:=A3X.lj 0 n [m] [x1,x3,x7,x17,x18]
def D2j:=tT [⟨2,5,D0f⟩]
def D2h:=mR D2g A3X D2j n [a0,a1,a2] h
def B7o:=mL A3X D2j 0 n [m] [x1,x3,x7,x17,x18] h
def D2c:=A3X.K Tryz.func87
def B6j:=A3X.S
theorem vU:SOk Tryz.prog 87 B6j:=D2c.sok
theorem C8n:E5 D2g B6j:=D2c.flat
end
end Go.Proofs.YtbnkgnfhgbhblaaGreat
namespace Go.Proofs.YtbnkgnfhgbhblaaGreat
open Go Go.Esc
def rH (at' width all:Int):Bool:=decide (0<=at')&&decide (1<=width)&&decide (width<=all)&&decide (at'<=all-width)
theorem N2 {a w n:Int}:rH a w n=true↔0<=a/\1<=w/\w<=n/\a<=n-w:=by
 unfold rH;simp [and_assoc]
theorem wV {a w n:Int} {h:A6} (hn:n<9223372036854775808) :
  A9o [iV a,iV w,iV n] h=some (bV (rH a w n),h):=by
 refine B9h (n:=0) (h2:=ro h) ?_ rfl;rw [C4t];unfold rH;by_cases h1:0<=a
 ·by_cases h2:1<=w
  ·by_cases h3:w<=n
   ·have e:IntKind.wrap .i64 (n-w)=n-w:=wrap_i64 (by omega) (by omega);simp [h1,h2,h3,e]
   ·simp [h1,h2,h3]
  ·simp [h1,h2]
 ·simp [h1]
def C6m (l:List UInt8) (a w:Int):Option Nat:=if w<=8/\rH a w l.length=true then some (le ((l.drop a.toNat).take w.toNat)) else none
theorem C1J {l:List UInt8} {h:A6} {a w k:Nat} (hw:w<=4) (haw:a+w<=256) (hl:l.length=256):∀ d i m,i+d=w->d<m ->
  D0f k m (iV a) (pV h.length 0) (iV (le ((l.drop a).take i))) (iV w) (iV i) (h++[rT (A5 l)])=some (iV (le ((l.drop a).take w)),h++[rT (A5 l)])
 | d,i,0,_,hm=>by omega
 | 0,i,m+1,hi,hm=>by
  have e:i=w:=by omega
  subst e;rw [B7o];simp
 | d+1,i,m+1,hi,hm=>by
  have ih:=C1J (h:=h) (k:=k) hw haw hl d (i+1) m (by omega) (by omega);have hx:=B5 (h:=h++[rT (A5 l)]) (id:=h.length) (off:=a+i) (c:=.i .u8 l[a+i].toNat) S8 (by rw [bB,E40 (by omega)];rfl) rfl;have hb:=l[a+i].toNat_lt;have hlen:((l.drop a).take i).length=i:=by simp;omega
  have bO:=C1F ((l.drop a).take i);rw [hlen] at bO;have hp:=uH (show i<=4 by omega);have hbp:=C1c (x:=l[a+i]) (show i<4 by omega);have e2:IntKind.wrap .i64 (8*(i:Int))=8*i:=wrap_i64 (by omega) (by omega);have e3:IntKind.wrap .u64 (8*(i:Int))=8*i:=wrap_u64 (by omega) (by omega);have e5:IntKind.wrap .i64 (l[a+i].toNat:Int)=l[a+i].toNat:=wrap_i64 (by omega) (by omega);have e6:=D3V (k:=.i64) (x:=l[a+i]) (show i<8 by omega) (wrap_i64 (by omega) (by omega)) rfl;have e7:N5 .or (iV (le ((l.drop a).take i):Nat)) (iV ((l[a+i].toNat*256 ^ i:Nat):Int))=some (iV (le ((l.drop a).take (i+1)):Nat)):=by
   rw [E2r (by omega) (by omega),A3W (by omega),<-D5V,hlen]
  have ea:J3 256 1 (pV h.length 0) (iV ((a+i:Nat):Int))=some (pV h.length (a+i)):=by rw [J4 (by omega)];simp
  have h1':(i:Int)<w:=by omega
  rw [B7o];simp only [esc,h1',A1k (show a+i<9223372036854775808 by omega),e2,e3,ea,hx,e5,e6,e7,C6 (show i+1<9223372036854775808 by omega)];exact ih
def atN (l:List UInt8) (a w:Int):Nat:=if w<=4/\rH a w 256=true then le ((l.drop a.toNat).take w.toNat) else 0
theorem mK {l:List UInt8} {h:A6} (hl:l.length=256) {a w:Int} :
  B6j [.a (A5 l),iV a,iV w] h=some (iV (atN l a w),h):=by
 refine C8n (n:=w.toNat+1) (h2:=ro h++[rT (A5 l)]) ?_ (by simp);rw [D2h];unfold atN;by_cases c1:4<w
 ·have c1':¬ w<=4:=by omega
  simp [c1,c1']
 ·have c1':w<=4:=by omega
  cases c2:rH a w 256 with
  | false=>simp [c1,wV (show (256:Int)<9223372036854775808 by omega),c2]
  | true =>
   simp [c1,c1',wV (show (256:Int)<9223372036854775808 by omega),c2];rw [N2] at c2;have:=C1J (h:=ro h) (a:=a.toNat) (w:=w.toNat) (k:=w.toNat+1) (by omega) (by omega) hl w.toNat 0 (w.toNat+1) (by omega) (by omega);simp only [show ((a.toNat:Nat):Int)=a by omega,show ((w.toNat:Nat):Int)=w by omega] at this;simpa [le] using this
theorem B26 {l:List UInt8} {z:List Cell} {h:A6} {a w k:Nat} {v:Int} (hw:w<=4) (haw:a+w<=256) (hl:l.length=256) (hz:z.length=256):∀ d i m,i+d=w->d<m ->
  C1K k m (iV a) (iV v) (pV h.length 0) (pV (h.length+1) 0) (iV w) (iV i) (h++[rT (A5 (I6 l a (A9 i v))),rT z]) =
   some (.a (A5 (I6 l a (A9 w v))),h++[rT (A5 (I6 l a (A9 w v))),rT (A5 (I6 l a (A9 w v)))])
 | d,i,0,_,hm=>by omega
 | 0,i,m+1,hi,hm=>by
  have e:i=w:=by omega
  subst e;have bO:(A5 (I6 l a (A9 i v))).length=256:=by rw [A4,O1 (by simp;omega),hl]
  have s1:=B8 (h:=h++[rT (A5 (I6 l a (A9 i v))),rT z]) (id:=h.length) (cs:=A5 (I6 l a (A9 i v))) (by simp) bO;have s2:=storeAll (h:=h++[rT (A5 (I6 l a (A9 i v))),rT z]) (id:=h.length+1) (cs:=z) (xs:=A5 (I6 l a (A9 i v))) (by simp) hz bO;have s3:=B8 (h:=h++[rT (A5 (I6 l a (A9 i v))),rT (A5 (I6 l a (A9 i v)))]) (id:=h.length+1) (cs:=A5 (I6 l a (A9 i v))) (by simp) bO;have h1':¬ (i:Int)<i:=by omega
  rw [B0G];simp only [esc,h1',s1,s2,s3]
 | d+1,i,m+1,hi,hm=>by
  have ih:=B26 (h:=h) (k:=k) (v:=v) hw haw hl hz d (i+1) m (by omega) (by omega);have e2:IntKind.wrap .i64 (8*(i:Int))=8*i:=wrap_i64 (by omega) (by omega);have e3:IntKind.wrap .u64 (8*(i:Int))=8*i:=wrap_u64 (by omega) (by omega);have e4:N5 .shr (iV v) (.c (.i .u64 (8*(i:Int))))=some (iV (v/2 ^ (Nat.min (8*(i:Int)).toNat 64))):=C5t (by omega);have ea:J3 256 1 (pV h.length 0) (iV ((a+i:Nat):Int))=some (pV h.length (a+i)):=by rw [J4 (by omega)];simp
  have vH:=F5 (h:=h++[rT (A5 (I6 l a (A9 i v))),rT z]) (id:=h.length) (off:=a+i) (cs:=A5 (I6 l a (A9 i v))) (x:=.i .u8 (byI v i).toNat) (by simp)
   (by rw [A4,O1 (by simp;omega)];omega)
  have e5:(I6 l a (A9 i v)).set (a+i) (byI v i)=I6 l a (A9 (i+1) v):=by
   rw [A19];have:=B1m (l:=l) (xs:=A9 i v) (a:=a) (x:=byI v i) (by simp;omega);simpa using this
  rw [gJ,e5] at vH;have h1':(i:Int)<w:=by omega
  rw [B0G];simp only [esc,h1',A1k (show a+i<9223372036854775808 by omega),e2,e3,e4,C9G (v:=v) (show i<8 by omega),ea,vH,C6 (show i+1<9223372036854775808 by omega)];exact ih
def gT (l:List UInt8) (a w v:Int):List UInt8:=if w<=4/\rH a w 256=true then I6 l a.toNat (A9 w.toNat v) else l
theorem S6 {l:List UInt8} {a w v:Int} (hl:l.length=256):(gT l a w v).length=256:=by
 unfold gT;split
 ·rename_i h;rw [N2] at h;rw [O1 (by simp;omega),hl]
 ·exact hl
theorem D1K {l:List UInt8} {g:A6} (hl:l.length=256) {a w v:Int} :
  ∃ g',B3z (w.toNat+1) [.a (A5 l),iV a,iV w,iV v] g=some (.a (A5 (gT l a w v)),g'):=by
 have bO:(A5 l).length=256:=by rw [A4,hl]
 have hz:(E41 256 (Cell.i .u8 0)).length=256:=E5r;rw [C73];generalize E41 256 (Cell.i .u8 0)=z at *;have s1:=B8 (h:=g++[rT (A5 l),rT z]) (id:=g.length) (cs:=A5 l) (n:=256) (by simp) bO;have s2:=storeAll (h:=g++[rT (A5 l),rT z]) (id:=g.length+1) (cs:=z) (xs:=A5 l) (by simp) hz bO;have s3:=B8 (h:=g++[rT (A5 l),rT (A5 l)]) (id:=g.length+1) (cs:=A5 l) (n:=256) (by simp) bO;unfold gT;by_cases c1:4<w
 ·rw [if_neg (by omega)];exact ⟨_,by simp only [esc,c1,s1,s2,s3];rfl⟩
 ·have c1':w<=4:=by omega
  cases c2:rH a w 256 with
  | false =>
   rw [if_neg (by simp)];exact ⟨_,by simp only [esc,c1,wV (show (256:Int)<9223372036854775808 by omega),c2,s1,s2,s3];rfl⟩
  | true =>
   rw [if_pos ⟨c1',rfl⟩];have c3:=N2.1 c2;have:=B26 (h:=g) (a:=a.toNat) (w:=w.toNat) (k:=w.toNat+1) (v:=v) (z:=z) (by omega) (by omega) hl hz w.toNat 0 (w.toNat+1) (by omega) (by omega);simp only [show ((a.toNat:Nat):Int)=a by omega,show ((w.toNat:Nat):Int)=w by omega,show A9 0 v=[] from rfl,B7h] at this;exact ⟨_,by simp only [esc,c1,wV (show (256:Int)<9223372036854775808 by omega),c2];exact this⟩
theorem X7 {l:List UInt8} {h:A6} (hl:l.length=256) {a w v:Int} :
  A59 [.a (A5 l),iV a,iV w,iV v] h=some (.a (A5 (gT l a w v)),h):=by
 obtain ⟨g,e⟩:=D1K (g:=ro h) hl (a:=a) (w:=w) (v:=v);exact C20 e (by simp)
theorem B7p {l:List UInt8} {h:A6} {b id a n k:Nat} (haw:a+n<=256) (hl:l.length=256):∀ d i m,i+d=n->d<m ->
  C6T k m (iV a) (pV h.length 0) (sV (h.length+2) 0 n 1) (iV n) (iV i) (h++[rT (A5 l),rT [],rT (A5 ((l.drop a).take i++zeros (n-i)))]) =
   some (sV (h.length+2) 0 n 1,h++[rT (A5 l),rT [],rT (A5 ((l.drop a).take n))])
 | d,i,0,_,hm=>by omega
 | 0,i,m+1,hi,hm=>by
  have e:i=n:=by omega
  subst e;have h1':¬ (i:Int)<i:=by omega
  rw [B23];simp only [esc,h1'];simp [zeros]
 | d+1,i,m+1,hi,hm=>by
  have ih:=B7p (h:=h) (b:=b) (id:=id) (k:=k) haw hl d (i+1) m (by omega) (by omega);have ea:J3 256 1 (pV h.length 0) (iV ((a+i:Nat):Int))=some (pV h.length (a+i)):=by rw [J4 (by omega)];simp
  have eb:D5 1 (sV (h.length+2) 0 n 1) (iV (i:Int))=some (pV (h.length+2) i):=by rw [C4 (by omega)];simp
  have hx:=B5 (h:=h++[rT (A5 l),rT [],rT (A5 ((l.drop a).take i++zeros (n-i)))]) (id:=h.length) (off:=a+i) (c:=.i .u8 l[a+i].toNat) (cs:=A5 l) (rw:=true) (by simp) (by rw [bB,E40 (by omega)];rfl) rfl;have vH:=F5 (h:=h++[rT (A5 l),rT [],rT (A5 ((l.drop a).take i++zeros (n-i)))]) (id:=h.length+2) (off:=i) (cs:=A5 ((l.drop a).take i++zeros (n-i))) (x:=.i .u8 l[a+i].toNat) (by simp)
   (by rw [A4];simp;omega)
  have e5:((l.drop a).take i++zeros (n-i)).set i l[a+i]=(l.drop a).take (i+1)++zeros (n-(i+1)):=by
   have hlen:((l.drop a).take i).length=i:=by simp;omega
   rw [E5A _ _ (by omega),hlen,E5K,A3W (by omega),E45];refine congrArg ((l.drop a).take i ++ ·) ?_;have:n-i=n-(i+1)+1:=by omega
   rw [this];unfold zeros;rw [E5p,E5L];rfl
  rw [gJ,e5] at vH;have h1':(i:Int)<n:=by omega
  rw [B23];simp only [esc,h1',A1k (show a+i<9223372036854775808 by omega),ea,hx,eb,vH,C6 (show i+1<9223372036854775808 by omega)];exact ih
def bN (l:List UInt8) (a n:Int):List UInt8:=if 0<=a then (l.drop a.toNat).take n.toNat else []
theorem mP (n:Nat):rows [Cell.i .u8 0] n=A5 (zeros n):=by
 unfold rows zeros
 induction n with
 | zero=>rfl
 | succ n ih=>rw [E5p,List.flatten_cons,ih,E5p];rfl
theorem D3w {l:List UInt8} {g:A6} (hl:l.length=256) {a n:Int} :
  ∃ v g',B8k ((min n (256-a)).toNat+1) [.a (A5 l),iV a,iV n] g=some (v,g')/\Out g.length g' v 1 (bN l a n).length (A5 (bN l a n)):=by
 have bO:(A5 l).length=256:=by rw [A4,hl]
 rw [D0Q];unfold bN;by_cases c1:a<0
 ·rw [if_neg (by omega)];exact ⟨_,_,by simp only [esc,c1];rfl,by simp [A4],_,rfl,by simp,by simp;rfl⟩
 ·rw [if_pos (by omega)];by_cases c2:256<=a
  ·have e:l.drop a.toNat=[]:=E5c (by omega);rw [e,List.take_nil];exact ⟨_,_,by simp only [esc,c1,c2];rfl,by simp [A4],_,rfl,by simp,by simp;rfl⟩
  ·by_cases c3:n<1
   ·have e:n.toNat=0:=by omega
    rw [e];exact ⟨_,_,by simp only [esc,c1,c2,c3];rfl,by simp [A4],_,rfl,by simp,by simp;rfl⟩
   ·have e1:IntKind.wrap .i64 (256-a)=256-a:=wrap_i64 (by omega) (by omega);have e2:B6B (iV n) (iV (256-a))=some (iV ((min n (256-a)).toNat:Nat)):=by
     simp only [B6B]
     congr 3
     by_cases h:256-a<n
     ·rw [if_pos h];omega
     ·rw [if_neg h];omega
    generalize hN:(min n (256-a)).toNat=N at *;have e3:A1m (iV (N:Int)) (iV (N:Int))=some N:=by
     have:A4V (iV (N:Int))=some N:=by simp only [A4V];rw [if_pos (by omega)];simp
     simp [A1m,this]
    have e4:(l.drop a.toNat).take n.toNat=(l.drop a.toNat).take N:=by
     by_cases h:256-a<n
     ·rw [E5b (by simp;omega),E5b (by simp;omega)]
     ·have:n.toNat=N:=by omega
      rw [this]
    have e5:((l.drop a.toNat).take N).length=N:=by simp;omega
    rw [e4,e5];have:=B7p (h:=g) (b:=0) (id:=0) (a:=a.toNat) (n:=N) (k:=N+1) (by omega) hl N 0 (N+1) (by omega) (by omega);simp only [show ((a.toNat:Nat):Int)=a by omega,E5X,E5g,Nat.sub_zero] at this;exact ⟨_,_,by simp only [esc,c1,c2,c3,e1,e2,e3,mP];exact this,by simp [A4,e5],_,rfl,by omega,by simp⟩
theorem B4T {l:List UInt8} {h:A6} (hl:l.length=256) {a n:Int} :
  B9d [.a (A5 l),iV a,iV n] h=some (sV h.length 0 (bN l a n).length 1,h++[rT (A5 (bN l a n))]):=by
 obtain ⟨v,g,e,ho⟩:=D3w (g:=ro h) hl (a:=a) (n:=n);exact C8o e (by simpa [E7] using ho) (by simp)
theorem B7r {v:Val} {nv:Nat} {data l:List UInt8} {z:List Cell} {h:A6} (hv:Has h v 1 nv (A5 data)) {a k:Nat} (ha:a<256) (hl:l.length=256) (hz:z.length=256) (hd:data.length<9223372036854775808):∀ d i m,i+d=data.length->d<m->i<=256-a ->
  C6W k m (iV a) (pV h.length 0) (pV (h.length+1) 0) v (iV data.length) (iV i) (h++[rT (A5 (I6 l a (data.take i))),rT z]) =
   some (.a (A5 (I6 l a (data.take (256-a)))),h++[rT (A5 (I6 l a (data.take (256-a)))),rT (A5 (I6 l a (data.take (256-a))))])
 | d,i,0,_,hm,_=>by omega
 | d,i,m+1,hi,hm,hia=>by
  have hll:∀ i,i<=256-a->(A5 (I6 l a (data.take i))).length=256:=λi hi=>by rw [A4,O1 (by simp;omega),hl]
  have fin:data.take i=data.take (256-a)->C6V k (pV h.length 0) (pV (h.length+1) 0) (h++[rT (A5 (I6 l a (data.take i))),rT z]) =
   some (.a (A5 (I6 l a (data.take (256-a)))),h++[rT (A5 (I6 l a (data.take (256-a)))),rT (A5 (I6 l a (data.take (256-a))))]):=λe=>by
   rw [e];have bO:=hll (256-a) (E44 _);have s1:=B8 (h:=h++[rT (A5 (I6 l a (data.take (256-a)))),rT z]) (id:=h.length) (cs:=A5 (I6 l a (data.take (256-a)))) (by simp) bO;have s2:=storeAll (h:=h++[rT (A5 (I6 l a (data.take (256-a)))),rT z]) (id:=h.length+1) (cs:=z) (xs:=A5 (I6 l a (data.take (256-a)))) (by simp) hz bO;have s3:=B8 (h:=h++[rT (A5 (I6 l a (data.take (256-a)))),rT (A5 (I6 l a (data.take (256-a))))]) (id:=h.length+1) (cs:=A5 (I6 l a (data.take (256-a)))) (by simp) bO;rw [C8P];simp only [esc,s1,s2,s3]
  rw [C8Q];by_cases c1:i<data.length
  ·obtain ⟨d,rfl⟩:∃ e,d=e+1:=⟨d-1,by omega⟩;have hnv:data.length=nv:=by simpa [A4] using hv.length
   obtain ⟨id,off,rfl,hid,h1,h2⟩:=(hv.more [rT (A5 (I6 l a (data.take i))),rT z]).sl (by omega);have hx:=h1 i (.i .u8 data[i].toNat) (by rw [bB,E40 (by omega)];rfl);have eb:D5 1 (sV id off nv 1) (iV (i:Int))=some (pV id (off+i)):=by rw [C4 (by omega)];simp
   have e1:IntKind.wrap .i64 (256-(a:Int))=256-a:=wrap_i64 (by omega) (by omega);have c1':(i:Int)<data.length:=by omega
   by_cases c2:256-a<=i
   ·have c2':(256:Int)-a<=i:=by omega
    simp only [esc,c1',eb,hx,e1,c2'];exact fin (by rw [show i=256-a by omega])
   ·have c2':¬ (256:Int)-a<=i:=by omega
    have ih:=B7r hv (l:=l) (z:=z) (k:=k) ha hl hz hd d (i+1) m (by omega) (by omega) (by omega);have ea:J3 256 1 (pV h.length 0) (iV ((a+i:Nat):Int))=some (pV h.length (a+i)):=by rw [J4 (by omega)];simp
    have vH:=F5 (h:=h++[rT (A5 (I6 l a (data.take i))),rT z]) (id:=h.length) (off:=a+i) (cs:=A5 (I6 l a (data.take i))) (x:=.i .u8 data[i].toNat) (by simp)
     (by rw [hll i hia];omega)
    have e5:(I6 l a (data.take i)).set (a+i) data[i]=I6 l a (data.take (i+1)):=by
     have:=B1m (l:=l) (xs:=data.take i) (a:=a) (x:=data[i]) (by simp;omega);rw [E5q,E5U (by omega)] at this;rw [this,E5f c1]
    rw [gJ,e5] at vH;simp only [esc,c1',eb,hx,e1,c2',A1k (show a+i<9223372036854775808 by omega),ea,vH,C6 (show i+1<9223372036854775808 by omega)];exact ih
  ·have c1':¬ (i:Int)<data.length:=by omega
   simp only [esc,c1'];exact fin (by rw [E5b (by omega),E5b (by omega)])
def A7Z (l:List UInt8) (a:Int) (data:List UInt8):List UInt8:=if 0<=a/\a<256 then I6 l a.toNat (data.take (256-a.toNat)) else l
theorem D3m {l:List UInt8} {a:Int} {data:List UInt8} (hl:l.length=256):(A7Z l a data).length=256:=by
 unfold A7Z;split
 ·rw [O1 (by simp;omega),hl]
 ·exact hl
theorem D3x {v:Val} {nv:Nat} {data l:List UInt8} {g:A6} (hv:Has g v 1 nv (A5 data)) (hl:l.length=256) (hd:data.length<9223372036854775808) {a:Int} :
  ∃ g',B8l (data.length+1) [.a (A5 l),iV a,v] g=some (.a (A5 (A7Z l a data)),g'):=by
 have bO:(A5 l).length=256:=by rw [A4,hl]
 have hz:(E41 256 (Cell.i .u8 0)).length=256:=E5r;have hnv:data.length=nv:=by simpa [A4] using hv.length
 rw [D0S];generalize E41 256 (Cell.i .u8 0)=z at *;have s1:=B8 (h:=g++[rT (A5 l),rT z]) (id:=g.length) (cs:=A5 l) (n:=256) (by simp) bO;have s2:=storeAll (h:=g++[rT (A5 l),rT z]) (id:=g.length+1) (cs:=z) (xs:=A5 l) (by simp) hz bO;have s3:=B8 (h:=g++[rT (A5 l),rT (A5 l)]) (id:=g.length+1) (cs:=A5 l) (n:=256) (by simp) bO;unfold A7Z;by_cases c1:a<0
 ·rw [if_neg (by omega)];exact ⟨_,by simp only [esc,c1,s1,s2,s3];rfl⟩
 ·by_cases c2:256<=a
  ·rw [if_neg (by omega)];exact ⟨_,by simp only [esc,c1,c2,s1,s2,s3];rfl⟩
  ·rw [if_pos (by omega)];have:=B7r hv (l:=l) (a:=a.toNat) (k:=data.length+1) (z:=z) (by omega) hl hz hd data.length 0 (data.length+1) (by omega) (by omega) (by omega);simp only [show ((a.toNat:Nat):Int)=a by omega,E5X,B7h] at this;exact ⟨_,by simp only [esc,c1,c2,hv.len,<-hnv];exact this⟩
theorem B4U {v:Val} {nv:Nat} {data l:List UInt8} {h:A6} (hv:Has h v 1 nv (A5 data)) (hl:l.length=256) (hd:data.length<9223372036854775808) {a:Int} :
  B9f [.a (A5 l),iV a,v] h=some (.a (A5 (A7Z l a data)),h):=by
 obtain ⟨g,e⟩:=D3x hv.ro hl hd (a:=a);exact C5b e (by simp)
theorem B1s {v:Val} {nv:Nat} {data:List UInt8} {h:A6} (hv:Has h v 1 nv (A5 data)) (hd:data.length<9223372036854775808) :
  C5c [v] h=some (.a (A5 (A7Z (zeros 256) 0 data)),h):=by
 have key:∀ g,Has g v 1 nv (A5 data)->∃ g',C4s 0 [v] g=some (.a (A5 (A7Z (zeros 256) 0 data)),g'):=by
  intro g hv;rw [D2i];have hz:(A5 (zeros 256)).length=256:=by rw [A4];exact zeros_length
  have hz0:(zeros 256).length=256:=zeros_length;rw [I5];generalize zeros 256=Z at *;have e:=B4U (hv.more [rT (A5 Z)]) hz0 hd (a:=0);have hl2:(A5 (A7Z Z 0 data)).length=256:=by rw [A4,D3m hz0]
  have s2:=storeAll (h:=g++[rT (A5 Z)]) (id:=g.length) (cs:=A5 Z) (xs:=A5 (A7Z Z 0 data)) (by simp) hz hl2;have s3:=B8 (h:=g++[rT (A5 (A7Z Z 0 data))]) (id:=g.length) (cs:=A5 (A7Z Z 0 data)) (n:=256) (by simp) hl2;exact ⟨_,by simp only [esc,D9,e,s2,s3];rfl⟩
 obtain ⟨g,e⟩:=key _ hv.ro;exact C8p e (by simp)
end Go.Proofs.YtbnkgnfhgbhblaaGreat
namespace Go.Proofs.YtbnkgnfhgbhblaaGreat
open Go Go.Esc
set_option maxRecDepth 100000
noncomputable section
variable (n m m2:Nat) (a0 a1 a2 x0 x1 x2 x5 x6 x7 x8 x9:Val) (h:A6)
def sP:FD Tryz.prog:=⟨px 0X11b02e861485c13762228c1915677c4c4813182dc18164a07c64c861c62a119861a07c4c040001f667c484a11b181519181043070241647c4c3e123f1918105219181043191810406051ec1915677c183c1319181042181330118210420170361276222461b3e2a862e5587f61a7587f185836581cb058345836061b1e2a8161487f44836061b1e2a84965387f5e383605617c4a1a12a3b210422103370361221032,[.c (.i .u64 0),.c (.b false),.c (.b true),.c (.i .u64 256)],[],[.tmp 6,.tmp 7],[]⟩
def C3V:=sP.R
def C1o:AtH:=sP.lj 0 n [m] [x0,x1,x8,x9]
def C5i:=tT [⟨2,4,C1o⟩]
def C7J:=mR C3V sP C5i n [a0,a1,a2] h
def A93:=mL sP C5i 0 n [m] [x0,x1,x8,x9] h
def C3v:=sP.K Tryz.func89
def B3K:=sP.S
theorem B2k:SOk Tryz.prog 89 B3K:=C3v.sok
theorem C2w:E5 C3V B3K:=C3v.flat
def B02:FD Tryz.prog:=⟨px 0X119c6164dc5e2a1361218c01887113a6802e28697c1b161a1e301ac6a04001c1197120116116122429657c3e19121a2104221033161121032,[],[],[.tmp 6],[cal B2k]⟩
def B71:=B02.R
def D0F:=mR B71 B02 (tT []) n [a0,a1,a2] h
def C84:=B02.K Tryz.func90
def A4d:=B02.S
theorem qD:SOk Tryz.prog 90 A4d:=C84.sok
theorem C4C:E5 B71 A4d:=C84.flat
def lM:FD Tryz.prog:=⟨px 0X11a8417e2c124125c615607c2a1a131819c11361a7c42a131818c5162e13cc61017113fc64f836187c403e1c17651042156510430702461a17c006031965105265104365104060510165104251313b8151032143b911022,[.c (.i .u64 256)],[],[.tmp 4],[]⟩
def B5D:=lM.R
def B2C:AtH:=lM.lj 0 n [m] [x0,x1,x5,x6]
def B6t:=tT [⟨2,4,B2C⟩]
def C12:=mR B5D lM B6t n [a0,a1] h
def A4v:=mL lM B6t 0 n [m] [x0,x1,x5,x6] h
def B5h:=lM.K Tryz.func123
def yV:=lM.S
theorem gI:SOk Tryz.prog 123 yV:=B5h.sok
theorem B8v:pE B5D yV:=B5h.out
def jN:FD Tryz.prog:=⟨px 0X12ec613c5d126127c1815607c3a1e13182e87161e13cc61017113fc4c03c59151802c819161c62a119861a77c4048018071824363e2a861e16f7f66f1cb186f361a76f7f46f3486f360362a2a861a45d7f45d37e5d3601647c42c11f4a191872107219187210611a19c19161c61a11984e002815191872106215187210530702461e17c61c8001a1a141d1872106218721053187210506051011872105271313b81721042163b9121032,[.c (.b false)],[],[.tmp 6],[]⟩
def C3W:=jN.R
def C1q:AtH:=jN.lj 0 n [m] [x0,x1,x2,x7,x8]
def C1p:AtH:=jN.lj 1 n [m] [x0,x1,x2,x7,x8,x9]
def B4m:=tT [⟨2,5,C1q⟩,⟨2,6,C1p⟩]
def C7K:=mR C3W jN B4m n [a0,a1,a2] h
def A94:=mL jN B4m 0 n [m] [x0,x1,x2,x7,x8] h
def C59:=mJ jN B4m 1 n [m] [x0,x1,x2,x7,x8,x9] h
def C3w:=jN.K Tryz.func58
def B3L:=jN.S
theorem iD:SOk Tryz.prog 58 B3L:=C3w.sok
theorem C4D:pE C3W B3L:=C3w.out
def oD:FD Tryz.prog:=⟨px 0X17411412188515607c5a1f13180134114122462e37c161c61a11982c04061c61a11986e0029118019395104315510330702461e17c61c8003a1b141e51042510335103060510151032030134114122461e37c61c84061c806151a1032102334111022,[.c (.b false),.c (.b true)],[],[.tmp 4],[]⟩
def C0E:=oD.R
def B6P:AtH:=oD.lj 0 n [m] [x0,x1,x5]
def C0R:=tT [⟨2,3,B6P⟩]
def C3X:=mR C0E oD C0R n [a0,a1] h
def A7i:=mL oD C0R 0 n [m] [x0,x1,x5] h
def B95:=oD.K Tryz.func20
def A8S:=oD.S
theorem dV:SOk Tryz.prog 20 A8S:=B95.sok
theorem B8w:E5 C0E A8S:=B95.flat
def sN:FD Tryz.prog:=⟨px 0X1298613c4a126121d81815607c4839131828c7163a13cc61017113fc61c61a1198480003c3b11818151872105307024363a2a861a14d7f184d361a74d7f44d35e4d360362e2a861e1397f6391cb03932e393601647c41a11f381872106218721053187210506054c181419121872105271313b81721042163b9121032,[.c (.b false)],[],[.tmp 6],[]⟩
def C3U:=sN.R
def A92:AtH:=sN.lj 0 n [m] [x0,x1,x2,x7,x8]
def C5h:=tT [⟨2,5,A92⟩]
def B2f:=mR C3U sN C5h n [a0,a1,a2] h
def qT:=mL sN C5h 0 n [m] [x0,x1,x2,x7,x8] h
def C3u:=sN.K Tryz.func221
def B3J:=sN.S
theorem B2j:SOk Tryz.prog 221 B3J:=C3u.sok
theorem A8R:pE C3U B3J:=C3u.out
end
end Go.Proofs.YtbnkgnfhgbhblaaGreat
namespace Go.Proofs.YtbnkgnfhgbhblaaGreat
open Go Go.Esc
theorem A7J {v u:Val} {nv nu:Nat} {l r:List UInt8} {h:A6} (hv:Has h v 1 nv (A5 l)) (hu:Has h u 1 nu (A5 r)) (hlr:l.length=r.length) (hl:l.length<9223372036854775807) {k:Nat}:∀ d i m,i+d=l.length->d<m ->
  B6P k m v u (iV i) h=some (bV (decide (l.drop i=r.drop i)),h)
 | d,i,0,_,hm=>by omega
 | 0,i,m+1,hi,hm=>by
  have hnv:l.length=nv:=by simpa [A4] using hv.length
  have e1:l.drop i=[]:=E5c (by omega);have e2:r.drop i=[]:=E5c (by omega);have h1':¬ (i:Int)<l.length:=by omega
  rw [A7i];simp only [esc,hv.len,<-hnv,h1',e1,e2]
 | d+1,i,m+1,hi,hm=>by
  have ih:=A7J hv hu hlr hl (k:=k) d (i+1) m (by omega) (by omega);have hnv:l.length=nv:=by simpa [A4] using hv.length
  have hnu:r.length=nu:=by simpa [A4] using hu.length
  have hlen:=hv.len;obtain ⟨id,off,rfl,hid,h1,h2⟩:=hv.sl (by omega);obtain ⟨gG,off',rfl,E38,h1',h2'⟩:=hu.sl (by omega);have hx:=h1 i (.i .u8 l[i].toNat) (by rw [bB,E40 (by omega)];rfl);have hy:=h1' i (.i .u8 r[i].toNat) (by rw [bB,E40 (by omega)];rfl);have ea:D5 1 (sV id off nv 1) (iV (i:Int))=some (pV id (off+i)):=by rw [C4 (by omega)];simp
  have eb:D5 1 (sV gG off' nu 1) (iV (i:Int))=some (pV gG (off'+i)):=by rw [C4 (by omega)];simp
  have c1:(i:Int)<nv:=by omega
  rw [A7i,E46 (by omega:i<l.length),E46 (by omega:i<r.length)];by_cases c:l[i]=r[i]
  ·simp only [esc,c1,ea,eb,hx,hy,c,C6 (show i+1<9223372036854775808 by omega),List.cons.injEq,true_and];exact ih
  ·have c':¬ (l[i].toNat:Int)=r[i].toNat:=λe=>c (UInt8.toNat_inj.1 (by omega))
   simp only [esc,c1,ea,eb,hx,hy,c',c,List.cons.injEq,false_and]
theorem iE {v u:Val} {nv nu:Nat} {l r:List UInt8} {h:A6} (hv:Has h v 1 nv (A5 l)) (hu:Has h u 1 nu (A5 r)) (hl:l.length<9223372036854775807) :
  A8S [v,u] h=some (bV (decide (l=r)),h):=by
 refine B8w (n:=l.length+1) (h2:=ro h) ?_ (by simp);have hnv:l.length=nv:=by simpa [A4] using hv.length
 have hnu:r.length=nu:=by simpa [A4] using hu.length
 rw [C3X];by_cases c:l.length=r.length
 ·have:=A7J hv.ro hu.ro c hl (k:=l.length+1) l.length 0 (l.length+1) (by omega) (by omega);simp only [E5k] at this;have c':(nv:Int)=nu:=by omega
  simp only [esc,hv.len,hu.len,c'];exact this
 ·have c':¬ (nv:Int)=nu:=by omega
  have c2:¬ l=r:=λe=>c (by rw [e])
  simp only [esc,hv.len,hu.len,c',c2]
theorem B0Q {v:Val} {nv:Nat} {l:List UInt8} {h:A6} (hv:Has h v 1 nv (A5 l)) {a w k:Nat} (hw:w<=8) (haw:a+w<=l.length) (hl:l.length<9223372036854775808):∀ j m,j<=w->j<m ->
  C1o k m v (iV a) (.c (.i .u64 (le ((l.drop (a+j)).take (w-j))))) (iV ((j:Int)-1)) h=some (.t [.c (.i .u64 (le ((l.drop a).take w))),.c (.b true)],h)
 | j,0,_,hm=>by omega
 | 0,m+1,hj,hm=>by
  rw [A93];have h1':¬ (0:Int)<=((0:Nat):Int)-1:=by omega
  simp only [esc,h1',Nat.sub_zero]
 | j+1,m+1,hj,hm=>by
  have ih:=B0Q hv (k:=k) hw haw hl j m (by omega) (by omega);have hnv:l.length=nv:=by simpa [A4] using hv.length
  obtain ⟨id,off,rfl,hid,h1,h2⟩:=hv.sl (by omega);have hx:=h1 (a+j) (.i .u8 l[a+j].toNat) (by rw [bB,E40 (by omega)];rfl);have hb:=l[a+j].toNat_lt;have ea:D5 1 (sV id off nv 1) (iV ((a+j:Nat):Int))=some (pV id (off+(a+j))):=by rw [C4 (by omega)];simp
  have e0:((j+1:Nat):Int)-1=j:=by omega
  have e5:IntKind.wrap .u64 (l[a+j].toNat:Int)=l[a+j].toNat:=wrap_u64 (by omega) (by omega);have e6:IntKind.wrap .i64 ((j:Int)-1)=(j:Int)-1:=wrap_i64 (by omega) (by omega);have hlen:((l.drop (a+(j+1))).take (w-(j+1))).length=w-(j+1):=by simp;omega
  have bO:=C1F ((l.drop (a+(j+1))).take (w-(j+1)));rw [hlen] at bO;have hp:256 ^ (w-(j+1))<=256 ^ 7:=uH (by omega);have e7:(l.drop (a+j)).take (w-j)=l[a+j]::(l.drop (a+(j+1))).take (w-(j+1)):=by
   rw [E46 (by omega),show w-j=(w-(j+1))+1 by omega,List.take_succ_cons];rfl
  rw [e7] at ih;have e8:IntKind.wrap .u64 ((le ((l.drop (a+(j+1))).take (w-(j+1))):Nat)*256)=((le ((l.drop (a+(j+1))).take (w-(j+1)))*256:Nat):Int):=by
   rw [wrap_u64 (by omega) (by omega)];omega
  have e9:IntKind.wrap .u64 (((le ((l.drop (a+(j+1))).take (w-(j+1)))*256:Nat):Int)+l[a+j].toNat)=((le (l[a+j]::(l.drop (a+(j+1))).take (w-(j+1))):Nat):Int):=by
   simp only [le];rw [wrap_u64 (by omega) (by omega)];omega
  have h1':(0:Int)<=j:=by omega
  rw [A93,e0];simp only [esc,h1',A1k (show a+j<9223372036854775808 by omega),ea,hx,e5,e8,e9,e6];exact ih
theorem B7G {v:Val} {nv:Nat} {l:List UInt8} {h:A6} (hv:Has h v 1 nv (A5 l)) {a w:Int} (hl:l.length<9223372036854775808) :
  B3K [v,iV a,iV w] h=some (.t [.c (.i .u64 ((C6m l a w).getD 0:Nat)),.c (.b (C6m l a w).isSome)],h):=by
 refine C2w (n:=w.toNat+1) (h2:=ro h) ?_ (by simp);rw [C7J];have hv':=hv.ro;have hnv:l.length=nv:=by simpa [A4] using hv.length
 unfold C6m;by_cases c1:w<1
 ·rw [if_neg (by rw [N2];omega)];simp only [esc,c1,E5Q,E5o]<;>rfl
 ·by_cases c2:8<w
  ·rw [if_neg (by omega)];simp only [esc,c1,c2,E5Q,E5o]<;>rfl
  ·by_cases c3:a<0
   ·rw [if_neg (by rw [N2];omega)];simp only [esc,c1,c2,c3,E5Q,E5o]<;>rfl
   ·have e1:IntKind.wrap .i64 ((nv:Int)-w)=nv-w:=wrap_i64 (by omega) (by omega);by_cases c4:(nv:Int)-w<a
    ·rw [if_neg (by rw [N2];omega)];simp only [esc,c1,c2,c3,c4,hv'.len,e1,E5Q,E5o]<;>rfl
    ·rw [if_pos (by rw [N2];omega)];have:=B0Q hv' (a:=a.toNat) (w:=w.toNat) (k:=w.toNat+1) (by omega) (by omega) hl w.toNat (w.toNat+1) (by omega) (by omega);simp only [show ((a.toNat:Nat):Int)=a by omega,show ((w.toNat:Nat):Int)=w by omega,E5K,E5X,le] at this;have e2:IntKind.wrap .i64 (w-1)=w-1:=wrap_i64 (by omega) (by omega);simp only [esc,c1,c2,c3,c4,hv'.len,e1,e2,E5G,E5h];exact this
theorem A4Z {g:A6} {w k:Nat} {v:Int} (hw:w<=8) (hv:0<=v) (hv2:v<18446744073709551616):∀ d i m h id,i+d=w->d<m->Low g.length g h->g.length<=id->rd h id=rT (A5 (A9 i v)) ->
  ∃ v' h',B2C k m (iV w) (.c (.i .u64 (v/256 ^ i))) (sV id 0 i 1) (iV i) h=some (v',h')/\Out g.length h' v' 1 w (A5 (A9 w v))
 | d,i,0,h,id,_,hm,_,_,_=>by omega
 | 0,i,m+1,h,id,hi,hm,hlow,hb,hr=>by
  have e:i=w:=by omega
  subst e;have h1':¬ (i:Int)<i:=by omega
  rw [A4v];exact ⟨_,_,by simp only [esc,h1']<;>rfl,by simp [A4],id,rfl,hb,hr⟩
 | d+1,i,m+1,h,id,hi,hm,hlow,hb,hr=>by
  have hq:0<=v/256 ^ i:=Int.ediv_nonneg hv (Int.pow_nonneg (by omega));have e1:N5 .rem (.c (.i .u64 (v/256 ^ i))) (.c (.i .u64 256))=some (.c (.i .u64 (v/256 ^ i%256))):=by
   rw [D2m (by omega),Int.tmod_eq_emod_of_nonneg hq]
  have e2:IntKind.wrap .u8 (v/256 ^ i%256)=((byI v i).toNat:Int):=by rw [pD,zA];omega
  have bO:v/256 ^ i<=v:=Int.ediv_le_self _ hv;have e3:N5 .quo (.c (.i .u64 (v/256 ^ i))) (.c (.i .u64 256))=some (.c (.i .u64 (v/256 ^ (i+1)))):=by
   have h0:v/256 ^ i/256=v/256 ^ (i+1):=by rw [Int.ediv_ediv_of_nonneg (Int.pow_nonneg (by omega)),Int.pow_succ]
   rw [D2l (by omega),Int.tdiv_eq_ediv_of_nonneg hq,h0];have h1:0<=v/256 ^ (i+1):=Int.ediv_nonneg hv (Int.pow_nonneg (by omega));have h2:v/256 ^ (i+1)<=v:=Int.ediv_le_self _ hv;exact congrArg some (congrArg Val.c (congrArg (Cell.i .u64) (wrap_u64 h1 (by omega))))
  obtain ⟨h',a1,a2,a3,a4,a5⟩:=push (ys:=[.i .u8 (byI v i).toNat]) (sz:=1) (n:=i) hlow hr (by simp [A4]) hb rfl (by omega) (by omega);have e4:A5 (A9 i v)++[Cell.i .u8 (byI v i).toNat]=A5 (A9 (i+1) v):=by rw [A19,J9];rfl
  rw [e4] at a2;obtain ⟨v',h'',b1,b2⟩:=A4Z (k:=k) hw hv hv2 d (i+1) m h' (h.length+1) (by omega) (by omega) a3 a4 a2;have h1':(i:Int)<w:=by omega
  have e5:D9 [Cell.i .u8 0] [(0,1,.c (.i .u8 (byI v i).toNat))]=some [.i .u8 (byI v i).toNat]:=rfl;rw [A4v];exact ⟨v',h'',by simp only [esc,h1',e1,e2,e5,a1,e3,C6 (show i+1<9223372036854775808 by omega)];exact b1,b2⟩
theorem A1c {w:Nat} {v:Int} {h:A6} (hw:w<=8) (hv:0<=v) (hv2:v<18446744073709551616) :
  yV [iV w,.c (.i .u64 v)] h=some (sV h.length 0 w 1,h++[rT (A5 (A9 w v))]):=by
 obtain ⟨v',h',e,ho⟩:=A4Z (g:=ro h) (k:=w+1) hw hv hv2 w 0 (w+1) (ro h++[rT [],rT []]) ((ro h).length+1) (by omega) (by omega) ((Low.refl (E44 _)).new _) (by simp) (by simp [A9];rfl);refine B8v (n:=w+1) (v:=v') (h2:=h') ?_ (by simpa [E7] using ho) (by simp);rw [C12];simp only [Int.pow_zero,Int.ediv_one] at e;simp only [esc];exact e
def A70 (l:List UInt8) (a:Int) (data:List UInt8):List UInt8:=if 0<=a then l.take a.toNat++((data.take (l.length-a.toNat))++l.drop (a.toNat+data.length)) else l
theorem B0y {l data:List UInt8} {a:Int}:(A70 l a data).length=l.length:=by
 unfold A70;split
 ·simp;omega
 ·rfl
theorem D8F {l data:List UInt8} {a:Int} {i:Nat} (hi:i<l.length):(A70 l a data)[i]?=if 0<=a/\a<=i/\i-a<data.length then data[i-a.toNat]? else l[i]? := by
 unfold A70;by_cases c1:0<=a
 ·rw [if_pos c1];by_cases c2:a<=i
  ·rw [E5e (by simp;omega)];have e1:(l.take a.toNat).length=a.toNat:=by simp;omega
   rw [e1];by_cases c3:i-a<data.length
   ·rw [if_pos ⟨c1,c2,c3⟩,E5z (by simp;omega),E5B (by omega)]
   ·rw [if_neg (by omega),E5e (by simp;omega),E5R]
    congr 1
    simp;omega
  ·rw [if_neg (by omega),E5z (by simp;omega),E5B (by omega)]
 ·rw [if_neg c1,if_neg (by omega)]
theorem B0R {g:A6} {v u:Val} {nv nu:Nat} {l data:List UInt8} (hv:Has g v 1 nv (A5 l)) (hu:Has g u 1 nu (A5 data)) {a:Int} (ha:a<9223372036854775808) {k:Nat} (hl:l.length<=1073741824):∀ d i m h id,i+d=l.length->d<m->Low g.length g h->g.length<=id->rd h id=rT (A5 ((A70 l a data).take i)) ->
  ∃ v' h',C1q k m v (iV a) u (sV id 0 i 1) (iV i) h=some (v',h')/\Out g.length h' v' 1 l.length (A5 (A70 l a data))
 | d,i,0,h,id,_,hm,_,_,_=>by omega
 | 0,i,m+1,h,id,hi,hm,hlow,hb,hr=>by
  have hnv:l.length=nv:=by simpa [A4] using hv.length
  have e:i=nv:=by omega
  subst e;have h1':¬ (i:Int)<i:=by omega
  rw [E5b (by rw [B0y];omega)] at hr;rw [A94];exact ⟨_,_,by simp only [esc,(hv.since hlow).len,h1']<;>rfl,by simp [A4,B0y],id,by rw [hnv],hb,hr⟩
 | d+1,i,m+1,h,id,hi,hm,hlow,hb,hr=>by
  have hnv:l.length=nv:=by simpa [A4] using hv.length
  have hnu:data.length=nu:=by simpa [A4] using hu.length
  have hvl:=(hv.since hlow).len;have hul:=(hu.since hlow).len;obtain ⟨idv,offv,rfl,-,hv1,-⟩:=(hv.since hlow).sl (by omega);have hx:=hv1 i (.i .u8 l[i].toNat) (by rw [bB,E40 (by omega)];rfl);have ea:D5 1 (sV idv offv nv 1) (iV (i:Int))=some (pV idv (offv+i)):=by rw [C4 (by omega)];simp
  have c1:(i:Int)<nv:=by omega
  have step:∀ x:UInt8,(A70 l a data)[i]?=some x->∃ v' h',C1p k m (sV idv offv nv 1) (iV a) u (sV id 0 i 1) (iV i) (.c (.i .u8 x.toNat)) h=some (v',h')/\Out g.length h' v' 1 l.length (A5 (A70 l a data)):=by
   intro x hx;obtain ⟨h',a1,a2,a3,a4,a5⟩:=push (ys:=[.i .u8 x.toNat]) (sz:=1) (n:=i) hlow hr (by rw [A4,E5q,B0y];omega) hb rfl (by omega) (by omega);have e4:A5 ((A70 l a data).take i)++[Cell.i .u8 x.toNat]=A5 ((A70 l a data).take (i+1)):=by
    rw [List.take_add_one,hx,J9];rfl
   rw [e4] at a2;obtain ⟨v',h'',b1,b2⟩:=B0R (k:=k) hv hu ha hl d (i+1) m h' (h.length+1) (by omega) (by omega) a3 a4 a2;have e5:D9 [Cell.i .u8 0] [(0,1,.c (.i .u8 x.toNat))]=some [.i .u8 x.toNat]:=rfl;rw [C59];exact ⟨v',h'',by simp only [esc,e5,a1,C6 (show i+1<9223372036854775808 by omega)];exact b1,b2⟩
  have hg:=D8F (l:=l) (data:=data) (a:=a) (i:=i) (by omega);have hli:l[i]?=some l[i]:=E40 (by omega);rw [A94];by_cases c2:0<=a
  ·by_cases c3:a<=i
   ·have e6:IntKind.wrap .i64 ((i:Int)-a)=((i-a.toNat:Nat):Int):=by rw [wrap_i64 (by omega) (by omega)];omega
    by_cases c4:i-a.toNat<data.length
    ·rw [if_pos (by omega),E40 c4] at hg;obtain ⟨idu,offu,rfl,-,hu1,-⟩:=(hu.since hlow).sl (by omega);have hy:=hu1 (i-a.toNat) (.i .u8 (data[i-a.toNat]'(by omega)).toNat) (by rw [bB,E40 c4];rfl);have eb:D5 1 (sV idu offu nu 1) (iV ((i-a.toNat:Nat):Int))=some (pV idu (offu+(i-a.toNat))):=by rw [C4 (by omega)];simp
     have c4':((i-a.toNat:Nat):Int)<nu:=by omega
     simp only [esc,hvl,c1,ea,hx,c2,c3,e6,hul,c4',eb,hy];exact step _ hg
    ·rw [if_neg (by omega),hli] at hg;have c4':¬ ((i-a.toNat:Nat):Int)<nu:=by omega
     simp only [esc,hvl,c1,ea,hx,c2,c3,e6,hul,c4'];exact step _ hg
   ·rw [if_neg (by omega),hli] at hg;simp only [esc,hvl,c1,ea,hx,c2,c3];exact step _ hg
  ·rw [if_neg (by omega),hli] at hg;simp only [esc,hvl,c1,ea,hx,c2];exact step _ hg
theorem mO {v u:Val} {nv nu:Nat} {l data:List UInt8} {h:A6} (hv:Has h v 1 nv (A5 l)) (hu:Has h u 1 nu (A5 data)) {a:Int} (ha:a<9223372036854775808) (hl:l.length<=1073741824) :
  B3L [v,iV a,u] h=some (sV h.length 0 l.length 1,h++[rT (A5 (A70 l a data))]):=by
 obtain ⟨v',h',e,ho⟩:=B0R (k:=l.length+1) hv.ro hu.ro ha hl l.length 0 (l.length+1) (ro h++[rT [],rT []]) ((ro h).length+1) (by omega) (by omega) ((Low.refl (E44 _)).new _) (by simp) (by simp;rfl);refine C4D (n:=l.length+1) (v:=v') (h2:=h') ?_ (by simpa [E7] using ho) (by simp);rw [C7K];simp only [esc];exact e
theorem A0f {l xs:List UInt8} {a:Nat} (h:a+xs.length<=l.length):A70 l a xs=I6 l a xs:=by
 unfold A70 I6;rw [if_pos (by omega)];simp only [E5j];rw [E5b (l:=xs) (by omega)]
def atG (l:List UInt8) (a w:Int):Nat:=if w<=4/\rH a w l.length=true then le ((l.drop a.toNat).take w.toNat) else 0
theorem D9V {l:List UInt8} {a w:Int} (hl:l.length=256):atG l a w=atN l a w:=by
 unfold atG atN;rw [hl];rfl
theorem D0p {v:Val} {nv:Nat} {l:List UInt8} {h:A6} (hv:Has h v 1 nv (A5 l)) {a w:Int} (hl:l.length<9223372036854775808) :
  A4d [v,iV a,iV w] h=some (iV (atG l a w),h):=by
 have key:∀ g,Has g v 1 nv (A5 l)->B71 0 [v,iV a,iV w] g=some (iV (atG l a w),g):=by
  intro g hv;rw [D0F];unfold atG;by_cases c1:4<w
  ·rw [if_neg (by omega)];simp only [esc,c1]<;>rfl
  ·have e:=B7G hv (a:=a) (w:=w) hl;unfold C6m at e;by_cases c2:rH a w l.length=true
   ·have c3:=N2.1 c2;rw [if_pos ⟨by omega,c2⟩] at e;rw [if_pos ⟨by omega,c2⟩];have bO:=C1F ((l.drop a.toNat).take w.toNat);have hlen:((l.drop a.toNat).take w.toNat).length=w.toNat:=by simp;omega
    rw [hlen] at bO;have hp:256 ^ w.toNat<=256 ^ 4:=uH (by omega);simp only [E5G,E5h] at e;have e2:IntKind.wrap .i64 ((le ((l.drop a.toNat).take w.toNat):Nat):Int)=le ((l.drop a.toNat).take w.toNat):=wrap_i64 (by omega) (by omega);simp only [esc,c1,e,e2]
   ·rw [if_neg (λh=>c2 h.2)] at e;rw [if_neg (λh=>c2 h.2)];simp only [E5Q,E5o] at e;simp only [esc,c1,e]<;>rfl
 exact C4C (key _ hv.ro) (by simp)
theorem pC {v:Val} {nv:Nat} {l:List UInt8} {h:A6} (hv:Has h v 1 nv (A5 l)) {a w:Int} (hl:l.length=256) :
  A4d [v,iV a,iV w] h=some (iV (atN l a w),h):=by
 rw [D0p hv (by omega),D9V hl]
theorem D7T {v:Int} {i:Nat} (hi:i<8):byI (IntKind.wrap .u64 v) i=byI v i:=by
 have hw:IntKind.wrap .u64 v=v%18446744073709551616:=by
  simp only [IntKind.wrap,IntKind.bits,IntKind.signed,E48];rfl
 apply UInt8.toNat_inj.1;have h1:((byI (IntKind.wrap .u64 v) i).toNat:Int)=(v%18446744073709551616)/256 ^ i%256:=by rw [zA,hw]
 have h2:=zA v i;have h3:(v%18446744073709551616)/256 ^ i%256=v/256 ^ i%256:=by
  have:i=0\/i=1\/i=2\/i=3\/i=4\/i=5\/i=6\/i=7:=by omega
  rcases this with rfl | rfl | rfl | rfl | rfl | rfl | rfl | rfl<;>simp only [Int.reducePow]<;>omega
 omega
theorem D2K {v:Int} {w:Nat} (hw:w<=8):A9 w (IntKind.wrap .u64 v)=A9 w v:=by
 unfold A9;refine List.map_congr_left λi hi=>D7T ?_
 have:=List.mem_range.1 hi;omega
theorem B0P {g:A6} {v:Val} {nv:Nat} {l:List UInt8} (hv:Has g v 1 nv (A5 l)) {a n:Int} (h0:0<=a) (h1:a<9223372036854775808) {k:Nat} (hl:l.length<=1073741824):∀ d i m h id,i+d=(bN l a n).length->d<m->Low g.length g h->g.length<=id->rd h id=rT (A5 ((bN l a n).take i)) ->
  ∃ v' h',A92 k m v (iV a) (iV n) (sV id 0 i 1) (iV (a+i)) h=some (v',h')/\Out g.length h' v' 1 (bN l a n).length (A5 (bN l a n))
 | d,i,0,h,id,_,hm,_,_,_=>by omega
 | 0,i,m+1,h,id,hi,hm,hlow,hb,hr=>by
  have hnv:l.length=nv:=by simpa [A4] using hv.length
  have e:i=(bN l a n).length:=by omega
  rw [E5b (by omega)] at hr;have hc:(bN l a n).length=min n.toNat (l.length-a.toNat):=by unfold bN;rw [if_pos h0];simp
  rw [qT];subst e;by_cases c1:a+((bN l a n).length:Int)<nv
  ·have c2:¬ ((bN l a n).length:Int)<n:=by omega
   have e1:IntKind.wrap .i64 (a+((bN l a n).length:Int)-a)=(bN l a n).length:=by rw [wrap_i64 (by omega) (by omega)];omega
   exact ⟨_,_,by simp only [esc,(hv.since hlow).len,h0,c1,e1,c2]<;>rfl,by simp [A4],id,rfl,hb,hr⟩
  ·exact ⟨_,_,by simp only [esc,(hv.since hlow).len,h0,c1]<;>rfl,by simp [A4],id,rfl,hb,hr⟩
 | d+1,i,m+1,h,id,hi,hm,hlow,hb,hr=>by
  have hnv:l.length=nv:=by simpa [A4] using hv.length
  have hc:(bN l a n).length=min n.toNat (l.length-a.toNat):=by unfold bN;rw [if_pos h0];simp
  have hvl:=(hv.since hlow).len;obtain ⟨idv,offv,rfl,-,hv1,-⟩:=(hv.since hlow).sl (by omega);have hx:=hv1 (a.toNat+i) (.i .u8 (l[a.toNat+i]'(by omega)).toNat) (by rw [bB,E40 (by omega)];rfl);have e0:(a+(i:Int))=((a.toNat+i:Nat):Int):=by omega
  have ea:D5 1 (sV idv offv nv 1) (iV ((a.toNat+i:Nat):Int))=some (pV idv (offv+(a.toNat+i))):=by rw [C4 (by omega)];simp
  have c1:((a.toNat+i:Nat):Int)<nv:=by omega
  have e1:IntKind.wrap .i64 (((a.toNat+i:Nat):Int)-a)=i:=by rw [wrap_i64 (by omega) (by omega)];omega
  have c2:(i:Int)<n:=by omega
  obtain ⟨h',a1,a2,a3,a4,a5⟩:=push (ys:=[.i .u8 (l[a.toNat+i]'(by omega)).toNat]) (sz:=1) (n:=i) hlow hr (by rw [A4,E5q];omega) hb rfl (by omega) (by omega);have e4:A5 ((bN l a n).take i)++[Cell.i .u8 (l[a.toNat+i]'(by omega)).toNat]=A5 ((bN l a n).take (i+1)):=by
   have:(bN l a n)[i]?=some (l[a.toNat+i]'(by omega)):=by
    unfold bN;rw [if_pos h0,E5B (by omega),E5R,E40 (by omega)]
   rw [List.take_add_one,this,J9];rfl
  rw [e4] at a2;obtain ⟨v',h'',b1,b2⟩:=B0P (k:=k) hv h0 h1 hl d (i+1) m h' (h.length+1) (by omega) (by omega) a3 a4 a2;have e6:a+((i+1:Nat):Int)=((a.toNat+i+1:Nat):Int):=by omega
  rw [e6] at b1;have e5:D9 [Cell.i .u8 0] [(0,1,.c (.i .u8 (l[a.toNat+i]'(by omega)).toNat))]=some [.i .u8 (l[a.toNat+i]'(by omega)).toNat]:=rfl;rw [qT,e0];exact ⟨v',h'',by simp only [esc,hvl,h0,c1,e1,c2,ea,hx,e5,a1,C6 (show a.toNat+i+1<9223372036854775808 by omega)];exact b1,b2⟩
theorem A6J {v:Val} {nv:Nat} {l:List UInt8} {h:A6} (hv:Has h v 1 nv (A5 l)) {a n:Int} (h1:a<9223372036854775808) (hl:l.length<=1073741824) :
  B3J [v,iV a,iV n] h=some (sV h.length 0 (bN l a n).length 1,h++[rT (A5 (bN l a n))]):=by
 by_cases h0:0<=a
 ·obtain ⟨v',h',e,ho⟩:=B0P (k:=(bN l a n).length+1) (n:=n) hv.ro h0 h1 hl (bN l a n).length 0 ((bN l a n).length+1) (ro h++[rT [],rT []]) ((ro h).length+1) (by omega) (by omega) ((Low.refl (E44 _)).new _) (by simp) (by simp;rfl);refine A8R (n:=(bN l a n).length+1) (v:=v') (h2:=h') ?_ (by simpa [E7] using ho) (by simp);rw [B2f];simp only [esc];simpa using e
 ·have e:bN l a n=[]:=by unfold bN;rw [if_neg h0]
  rw [e];refine A8R (n:=1) (v:=sV ((ro h).length+1) 0 0 1) (h2:=ro h++[rT [],rT []]) ?_ ⟨by simp [A4],_,rfl,by rw [E7];omega,by simp;rfl⟩ (by simp);rw [B2f];have:∀ n:Nat,∀ x h,A92 n 1 v (iV a) x (sV ((ro h).length+1) 0 0 1) (iV a) h=some (sV ((ro h).length+1) 0 0 1,h):=by
   intro n x h;rw [qT n 0];simp only [esc,h0]
  simp only [esc];have e2:=qT 1 0 v (iV a) (iV n) (sV ((ro h).length+1) 0 0 1) (iV a) (ro h++[rT [],rT []]);rw [e2];simp only [esc,h0]
theorem B7q {v:Val} {nv:Nat} {l:List UInt8} {h:A6} (hv:Has h v 1 nv (A5 l)) {a w k:Nat} (hw:w<=8) (haw:a+w<=l.length) (hl:l.length<9223372036854775808):∀ d i m,i+d=w->d<m ->
  C6U k m v (iV a) (.c (.i .u64 (le ((l.drop a).take i)))) (iV w) (iV i) h=some (.t [.c (.i .u64 (le ((l.drop a).take w))),.c (.b true)],h)
 | d,i,0,_,hm=>by omega
 | 0,i,m+1,hi,hm=>by
  have e:i=w:=by omega
  subst e;rw [B24];simp
 | d+1,i,m+1,hi,hm=>by
  have ih:=B7q hv (k:=k) hw haw hl d (i+1) m (by omega) (by omega);have hnv:l.length=nv:=by simpa [A4] using hv.length
  obtain ⟨id,off,rfl,hid,h1,h2⟩:=hv.sl (by omega);have hx:=h1 (a+i) (.i .u8 l[a+i].toNat) (by rw [bB,E40 (by omega)];rfl);have hb:=l[a+i].toNat_lt;have hlen:((l.drop a).take i).length=i:=by simp;omega
  have bO:=C1F ((l.drop a).take i);rw [hlen] at bO;have hp:=uH (show i<=8 by omega);have hbp:=C1c (x:=l[a+i]) (show i<8 by omega);have e2:IntKind.wrap .i64 (8*(i:Int))=8*i:=wrap_i64 (by omega) (by omega);have e3:IntKind.wrap .u64 (8*(i:Int))=8*i:=wrap_u64 (by omega) (by omega);have e5:IntKind.wrap .u64 (l[a+i].toNat:Int)=l[a+i].toNat:=wrap_u64 (by omega) (by omega);have e6:=D3V (k:=.u64) (x:=l[a+i]) (show i<8 by omega) (wrap_u64 (by omega) (by omega)) rfl;have e7:N5 .or (.c (.i .u64 (le ((l.drop a).take i):Nat))) (.c (.i .u64 ((l[a+i].toNat*256 ^ i:Nat):Int)))=some (.c (.i .u64 (le ((l.drop a).take (i+1)):Nat))):=by
   rw [E2s (by omega) (by omega),A3W (by omega),<-D5V,hlen]
  have ea:D5 1 (sV id off nv 1) (iV ((a+i:Nat):Int))=some (pV id (off+(a+i))):=by rw [C4 (by omega)];simp
  have h1':(i:Int)<w:=by omega
  rw [B24];simp only [esc,h1',A1k (show a+i<9223372036854775808 by omega),e2,e3,ea,hx,e5,e6,e7,C6 (show i+1<9223372036854775808 by omega)];exact ih
theorem D4N {v:Val} {nv:Nat} {l:List UInt8} {h:A6} (hv:Has h v 1 nv (A5 l)) {a w:Int} (hl:l.length<9223372036854775808) :
  B9e [v,iV a,iV w] h=some (.t [.c (.i .u64 ((C6m l a w).getD 0:Nat)),.c (.b (C6m l a w).isSome)],h):=by
 refine C5a (n:=w.toNat+1) (h2:=ro h) ?_ (by simp);rw [D0R];have hv':=hv.ro;have hnv:l.length=nv:=by simpa [A4] using hv.length
 unfold C6m;by_cases c1:8<w
 ·have c1':¬ w<=8:=by omega
  simp [c1,c1']
 ·have c1':w<=8:=by omega
  cases c2:rH a w l.length with
  | false=>simp [c1,hv'.len,<-hnv,wV (show (l.length:Int)<9223372036854775808 by omega),c2]
  | true =>
   simp [c1,c1',hv'.len,<-hnv,wV (show (l.length:Int)<9223372036854775808 by omega),c2];rw [N2] at c2;have:=B7q hv' (a:=a.toNat) (w:=w.toNat) (k:=w.toNat+1) (by omega) (by omega) hl w.toNat 0 (w.toNat+1) (by omega) (by omega);simp only [show ((a.toNat:Nat):Int)=a by omega,show ((w.toNat:Nat):Int)=w by omega] at this;simpa [le] using this
theorem B7s {l:List UInt8} {b id a w k:Nat} {v:Int} (hw:w<=8) (haw:a+w<=l.length) (hl:l.length<9223372036854775808):∀ d i m (h:A6),i+d=w->d<m->b<=id->b<=h.length->rd h id=rT (A5 (I6 l a (A9 i v))) ->
  ∃ h',C6X k m (iV a) (.c (.i .u64 v)) (sV id 0 l.length 1) (iV w) (iV i) h=some (.t [.c (.sl id 0 l.length 1),.c (.b true)],h')/\rd h' id=rT (A5 (I6 l a (A9 w v)))
 | d,i,0,h,_,hm,_,_,_=>by omega
 | 0,i,m+1,h,hi,hm,_,_,hr=>by
  have e:i=w:=by omega
  subst e;have h1':¬ (i:Int)<i:=by omega
  rw [B25];exact ⟨h,by simp only [esc,h1'],hr⟩
 | d+1,i,m+1,h,hi,hm,hb,hbl,hr=>by
  have e2:IntKind.wrap .i64 (8*(i:Int))=8*i:=wrap_i64 (by omega) (by omega);have e3:IntKind.wrap .u64 (8*(i:Int))=8*i:=wrap_u64 (by omega) (by omega);have e4:N5 .shr (.c (.i .u64 v)) (.c (.i .u64 (8*(i:Int))))=some (.c (.i .u64 (v/2 ^ (Nat.min (8*(i:Int)).toNat 64)))):=C5t (by omega);have ea:D5 1 (sV id 0 l.length 1) (iV ((a+i:Nat):Int))=some (pV id (a+i)):=by rw [C4 (by omega)];simp
  have vH:=F5 (off:=a+i) (x:=.i .u8 (byI v i).toNat) hr (by rw [A4,O1 (by simp;omega)];omega);have e5:(I6 l a (A9 i v)).set (a+i) (byI v i)=I6 l a (A9 (i+1) v):=by
   rw [A19];have:=B1m (l:=l) (xs:=A9 i v) (a:=a) (x:=byI v i) (by simp;omega);simpa using this
  rw [gJ,e5] at vH;obtain ⟨h',ih,hr'⟩:=B7s (b:=b) (k:=k) (v:=v) hw haw hl d (i+1) m (h.set id (rT (A5 (I6 l a (A9 (i+1) v))))) (by omega) (by omega) hb (by simpa using hbl) (B7 (C5 hr));have h1':(i:Int)<w:=by omega
  rw [B25];exact ⟨h',by simp only [esc,h1',A1k (show a+i<9223372036854775808 by omega),e2,e3,e4,C9G (v:=v) (show i<8 by omega),ea,vH,C6 (show i+1<9223372036854775808 by omega)];exact ih,hr'⟩
def B7C (l:List UInt8) (a w v:Int):Option (List UInt8):=if w<=8/\rH a w l.length=true then some (I6 l a.toNat (A9 w.toNat v)) else none
theorem D4O {x:Val} {nv:Nat} {l:List UInt8} {h:A6} (hv:Has h x 1 nv (A5 l)) {a w v:Int} (hl:l.length<=1073741824) :
  B9g [x,iV a,iV w,.c (.i .u64 v)] h=some (.t [.c (.sl h.length 0 ((B7C l a w v).getD []).length 1),.c (.b (B7C l a w v).isSome)],h++[rT (A5 ((B7C l a w v).getD []))]):=by
 have hnv:l.length=nv:=by simpa [A4] using hv.length
 have key:∀ g,Has g x 1 nv (A5 l)->∃ id g',B8m (w.toNat+1) [x,iV a,iV w,.c (.i .u64 v)] g=some (.t [.c (.sl id 0 ((B7C l a w v).getD []).length 1),.c (.b (B7C l a w v).isSome)],g')/\g.length<=id/\rd g' id=rT (A5 ((B7C l a w v).getD [])):=by
  intro g hv;rw [D0T];have hvm:=hv.more [rT []];unfold B7C;by_cases c1:8<w
  ·rw [if_neg (by omega)];exact ⟨_,_,by simp only [esc,c1];rfl,by simp,by simp;rfl⟩
  ·cases c2:rH a w l.length with
   | false =>
    rw [if_neg (by simp)];exact ⟨_,_,by simp only [esc,c1,hvm.len,<-hnv,wV (show (l.length:Int)<9223372036854775808 by omega),c2];rfl,by simp,by simp;rfl⟩
   | true =>
    rw [if_pos ⟨by omega,rfl⟩];have c3:=N2.1 c2;have hvm2:=hv.more [rT [],rT []];have e1:jK (g++[rT [],rT []]) 1 (sV (g.length+1) 0 0 1) x=some (sV (g.length+2) 0 l.length 1,g++[rT [],none,rT (A5 l)]):=by
     simp [jK,hvm2.add,A4];exact hl
    obtain ⟨g',e2,hr⟩:=B7s (l:=l) (b:=g.length) (id:=g.length+2) (a:=a.toNat) (w:=w.toNat) (k:=w.toNat+1) (v:=v) (by omega) (by omega) (by omega) w.toNat 0 (w.toNat+1) (g++[rT [],none,rT (A5 l)]) (by omega) (by omega) (by omega) (by simp) (by simp [A9,B7h]);simp only [show ((a.toNat:Nat):Int)=a by omega,show ((w.toNat:Nat):Int)=w by omega] at e2;have hlen:((some (I6 l a.toNat (A9 w.toNat v))).getD []).length=l.length:=by
     simp only [E5G];rw [O1 (by simp;omega)]
    rw [hlen];exact ⟨g.length+2,g',by simp only [esc,c1,hvm.len,<-hnv,wV (show (l.length:Int)<9223372036854775808 by omega),c2,D9,e1];exact e2,by omega,hr⟩
 obtain ⟨id,g',e,hb,hr⟩:=key _ hv.ro;have hb':h.length<=id:=by simpa [E7] using hb
 have:=C5d e (v2:=.t [.c (.sl h.length 0 ((B7C l a w v).getD []).length 1),.c (.b (B7C l a w v).isSome)]) (ids:=[id]) (by
  have e2:Q6 g' h.length [id] [.b (B7C l a w v).isSome]=some ([.b (B7C l a w v).isSome],[id]):=cJ (by simp);simp [W8,fT,Q6,hb',show ¬ id<h.length by omega,A0i hr (by simp:N7 (A5 ((B7C l a w v).getD []))=true)])
 rw [this];simp [hr]
def N9 (n:Nat) (l:List UInt8):List UInt8:=l++zeros (n-l.length)
theorem F7 {n:Nat} {l:List UInt8} (h:l.length<=n):(N9 n l).length=n:=by
 unfold N9;rw [E43,zeros_length];omega
theorem B7x {n:Nat}:N9 n []=zeros n:=by simp [N9]
theorem B0K {l xs:List UInt8} {a:Nat} (h1:l.length<=a) (h2:a+xs.length<=256):I6 (N9 256 l) a xs=N9 256 (l++zeros (a-l.length)++xs):=by
 unfold I6 N9;have e1:(l++zeros (256-l.length)).take a=l++zeros (a-l.length):=by
  rw [List.take_append,E5b h1];unfold zeros;rw [List.take_replicate,E5U (by omega)]
 have e2:(l++zeros (256-l.length)).drop (a+xs.length)=zeros (256-(l++zeros (a-l.length)++xs).length):=by
  rw [List.drop_append,E5c (by omega),E5g];unfold zeros;rw [List.drop_replicate]
  congr 1
  simp;omega
 rw [e1,e2];simp only [E45]
theorem iG {l:List UInt8} {a w:Nat} {v:Int} (h1:l.length<=a) (h2:a+w<=256) (hw:1<=w) (hw4:w<=4):gT (N9 256 l) a w v=N9 256 (l++zeros (a-l.length)++A9 w v):=by
 unfold gT;rw [if_pos ⟨by omega,N2.2 (by omega)⟩];simp only [E5j];exact B0K h1 (by simp;exact h2)
def fieldN (b:List UInt8) (a w:Nat):Int:=((le ((b.drop a).take w):Nat):Int)
theorem C6Z {b:List UInt8} (hb:b.length<=256):A7Z (zeros 256) 0 b=N9 256 b:=by
 unfold A7Z I6 N9;rw [if_pos (by omega)];simp only [Int.toNat_zero,E5X,E5g,Nat.sub_zero,E5l];rw [E5b hb];unfold zeros;rw [List.drop_replicate]
theorem D4h {b:List UInt8} {a w:Nat} (h1:a+w<=b.length) (h2:b.length<=256) (hw:1<=w) (hw4:w<=4):((atN (N9 256 b) a w:Nat):Int)=fieldN b a w:=by
 unfold atN fieldN N9;rw [if_pos ⟨by omega,N2.2 (by omega)⟩];simp only [E5j];rw [List.drop_append_of_le_length (by omega),List.take_append_of_le_length (by simp;omega)]
end Go.Proofs.YtbnkgnfhgbhblaaGreat
namespace Go.Proofs.YtbnkgnfhgbhblaaGreat
open Go Go.Esc
set_option maxRecDepth 100000
noncomputable section
variable (n m m2:Nat) (a0 a1 x0 x1 x7 x8:Val) (h:A6)
def sZ:FD Tryz.prog:=⟨px 0X119c4102b1241219818155a02a7d21818c017667c62e1f7c168806884a04001b1181858511a02187510521518710430702418710431a617c119187105218710406051063884613187104201334111022,[.c (.i .u32 0),.c (.i .u32 16777619)],[.idxS (.t 12) (.t 13),.conv .u32 (.t 14)],[.tmp 4],[]⟩
def C4o:=sZ.R
def C1H:AtH:=sZ.lj 0 n [m] [x0,x1,x7,x8]
def C5q:=tT [⟨2,4,C1H⟩]
def C72:=mR C4o sZ C5q n [a0,a1] h
def B0F:=mL sZ C5q 0 n [m] [x0,x1,x7,x8] h
def C3P:=sZ.K Tryz.func202
def B4h:=sZ.S
theorem C8l:SOk Tryz.prog 202 B4h:=C3P.sok
theorem C2X:E5 C4o B4h:=C3P.flat
def B47:FD Tryz.prog:=⟨px 0X1282167201ac0032123211012,[.c (.i .u32 0),.c (.i .u32 2166136261)],[],[.tmp 2],[cal C8l]⟩
def D2e:=B47.R
def D2f:=mR D2e B47 (tT []) n [a0] h
def D2b:=B47.K Tryz.func149
def C47:=B47.S
theorem C0Q:SOk Tryz.prog 149 C47:=D2b.sok
theorem C8m:E5 D2e C47:=D2b.flat
def B09:FD Tryz.prog:=⟨px 0X119c4164dc62e1e7c3677c631b7c64c84001d11841201684164dc01b134122458181289647c4191318103211411412243c515617c46135103205102314111022,[.c (.i .u32 1)],[],[.tmp 4],[]⟩
def B8i:=B09.R
def D0P:=mR B8i B09 (tT []) n [a0,a1] h
def C9e:=B09.K Tryz.func201
def B89:=B09.S
theorem D02:SOk Tryz.prog 201 B89:=C9e.sok
theorem C46:E5 B8i B89:=C9e.flat
end
noncomputable section
variable (n m m2:Nat) (a0 a1 x0 x1 x5 x6:Val) (h:A6)
def oE:FD Tryz.prog:=⟨px 0X11e84103c1241268515607c3a1b13181dc011f6187c1b667c61a07c38061e77c76187c0002c1191819c6162e1f7c64c806885e04076187c01d11865104215510330702461e17c6388401a7141a5104251033510306051015103201334111022,[.c (.i .u64 0),.c (.i .u64 256),.c (.i .u64 16777619),.c (.i .u64 4294967296)],[.idxS (.t 15) (.t 16)],[.tmp 4],[]⟩
def C0F:=oE.R
def B6Q:AtH:=oE.lj 0 n [m] [x0,x1,x5]
def C0S:=tT [⟨2,3,B6Q⟩]
def C3Z:=mR C0F oE C0S n [a0,a1] h
def A7j:=mL oE C0S 0 n [m] [x0,x1,x5] h
def B96:=oE.K Tryz.func208
def A8T:=oE.S
theorem C4E:SOk Tryz.prog 208 A8T:=B96.sok
theorem B8x:E5 C0F A8T:=B96.flat
def B03:FD Tryz.prog:=⟨px 0X1282167201ac0032123211012,[.c (.i .u64 0),.c (.i .u64 2166136261)],[],[.tmp 2],[cal C4E]⟩
def C9k:=B03.R
def D0G:=mR C9k B03 (tT []) n [a0] h
def C85:=B03.K Tryz.func162
def B8y:=B03.S
theorem B52:SOk Tryz.prog 162 B8y:=C85.sok
theorem C4F:E5 C9k B8y:=C85.flat
def sQ:FD Tryz.prog:=⟨px 0X11ac4164dc61a187c7a002a154127c615607c4a1e131818c511b667c5e2813181565104307024761e2a8289612d7f2e2d36061a17c406071d65105265104365104060510165104250233015103214111022,[.c (.i .u64 1),.c (.b false),.c (.i .u64 2)],[],[.tmp 4],[]⟩
def C3Y:=sQ.R
def C1r:AtH:=sQ.lj 0 n [m] [x0,x1,x5,x6]
def C5j:=tT [⟨2,4,C1r⟩]
def C7L:=mR C3Y sQ C5j n [a0,a1] h
def A95:=mL sQ C5j 0 n [m] [x0,x1,x5,x6] h
def C3x:=sQ.K Tryz.func225
def B3M:=sQ.S
theorem C78:SOk Tryz.prog 225 B3M:=C3x.sok
theorem C2x:E5 C3Y B3M:=C3x.flat
end
end Go.Proofs.YtbnkgnfhgbhblaaGreat
